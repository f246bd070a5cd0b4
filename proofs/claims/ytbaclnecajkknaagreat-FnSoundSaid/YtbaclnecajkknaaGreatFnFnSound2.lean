/- The functions that the law reaches: what they answer. Conditions: those that each theorem names. -/
import Derived.Test.YtbaclnecajkknaaGreatIrFnSound
import Derived.Test.YtbaclnecajkknaaGreatPlFnSound
import Derived.Test.YtbaclnecajkknaaGreatFnFnSound0
import Derived.Test.YtbaclnecajkknaaGreatFnFnSound1
open Nat renaming reduceAdd->P'k,reduceEqDiff->C',reduceLeDiff->D',reduceSub->E',le_refl->L'l,sub_self->R'h,add_sub_cancel->N'5,eq_zero_or_pos->Q'3
open List renaming getElem?_eq_getElem->L'v,getElem_mem->P'l,take_length->M'i,map_append->M'r,replicate->L'0,length_append->L'x,take_succ_eq_append_getElem->P'z,getD_eq_getElem?_getD->N'u,map_nil->R'4,map_map->R'g,length_eraseIdx->R't,map_set->R'2,length_cons->M'2,length_nil->M'7,length_pos_iff->M'5,map_drop->R'o,range->L'1,eq_nil_of_length_eq_zero->N'8,nil_append->M'3,drop_eq_nil_of_le->Q'i,mem_iff_getElem->P'p,getElem_take->R'u,pairwise_iff_getElem->P'u,mem_of_mem_take->R'5,length_map->Q'1,length_take->L'w,map_take->R'w,take_left'->R'x,mem_range->N's,any_eq_true->N't,take->R'y,length_replicate->M'j,append_nil->M'e,length_set->N'9,getElem_cons_zero->Q'n,drop_left->R'p,mem_append->L'j,mem_singleton->N'2,range_succ->P'v,any_eq_false->M'y,drop_eq_getElem_cons->N'l,eraseIdx_of_length_le->R'z,take_zero->M'd
open Int renaming toNat_natCast->P'm,natCast_nonneg->R'v,toNat_zero->R'6,not_lt->R'd,tmod_nonneg->R'7,tmod_lt_of_pos->R'8
open Bool renaming and_eq_true->L'c,true_and->P'e,false_eq_true->M'w
namespace Go.Proofs.YtbaclnecajkknaaGreat.Pi
open Go
set_option linter.all false
set_option maxHeartbeats 40000000
set_option maxRecDepth 20000
noncomputable def certB(f:Fl)(b:Int):Bool:=zji f&&inB 1 400 b&&decide ((sndV f b).ok=1)
/-- A flow that is told sound has such numbers. -/
theorem w88{f:Fl}{b:Int}(hg:zji f=true)(hb:inB 1 400 b=true)(hk:(sndV f b).ok=1) :
  0<=findM (exAll f.net (oneM f.net.pl.toNat f.src) b).sp.ms (oneM f.net.pl.toNat f.dst):=by
 obtain⟨h1,h2⟩:=z1c9 hk
 obtain⟨c1,c2,c3⟩:=z9w (congrArg Vd.ok h2)
 obtain⟨f1,f2,f3,f4,f5,f6⟩:=w8e hg hb
 have hr:=c1 0 f5
 have key:∀z,Rk (exAll f.net (oneM f.net.pl.toNat f.src) b).sp.ar (endS (exAll f.net (oneM f.net.pl.toNat f.src) b).sp.ms (oneM f.net.pl.toNat f.dst)) z->0<=findM (exAll f.net (oneM f.net.pl.toNat f.src) b).sp.ms (oneM f.net.pl.toNat f.dst):=by
  intro z hz
  induction hz with
  |base h=>
   unfold endS at h
   split at h
   ·assumption
   ·cases h
  |step _ _ ih=>exact ih
 exact key _ hr
/-- What a check answers, told shortly. -/
theorem wlj(f:Fl)(b:Int):∃(o k d:Int)(w:List Int)(W:PV),vdPV (sndV f b)=.agg [I o,I k,W,I d]/\o=(sndV f b).ok/\k=(sndV f b).kind/\d=(sndV f b).dead/\w=(sndV f b).way/\w.length<=60/\((W=.un t_int true 1 (w.map I)/\(k=1\/k=2))\/(W=.nil true 1/\¬(k=1\/k=2))):=by
 have hw:(sndV f b).way.length<=60:=by
  unfold sndV
  split
  ·split
   ·assumption
   ·simp
  ·simp
 unfold vdPV
 by_cases hk:(sndV f b).kind=1\/(sndV f b).kind=2
 ·rw[if_pos hk];exact⟨_,_,_,_,_,rfl,rfl,rfl,rfl,rfl,hw,.inl ⟨rfl,hk⟩⟩
 ·rw[if_neg hk];exact⟨_,_,_,_,_,rfl,rfl,rfl,rfl,rfl,hw,.inr ⟨rfl,hk⟩⟩
theorem wco(f:Fl)(b:Int)(hf:smN f.net):Lw (C w8k [encF f,I b] []) fun r=>(certB f b=false/\r=(.tup [.agg [.nil false 1,.nil true 1,.nil true 1],.bool false],[]))\/(certB f b=true/\∃S R:List Int,isFar (dirA false (exAll f.net (oneM f.net.pl.toNat f.src) b).sp.ar) 0 (exAll f.net (oneM f.net.pl.toNat f.src) b).sp.ms.length S/\isFar (exAll f.net (oneM f.net.pl.toNat f.src) b).sp.ar (findM (exAll f.net (oneM f.net.pl.toNat f.src) b).sp.ms (oneM f.net.pl.toNat f.dst)) (exAll f.net (oneM f.net.pl.toNat f.src) b).sp.ms.length R/\r=(.tup [.agg [.un wle false 1 ((sortT (exAll f.net (oneM f.net.pl.toNat f.src) b).sp.ms).map ints),.un t_int true 1 ((vals (exAll f.net (oneM f.net.pl.toNat f.src) b).sp.ms S).map I),.un t_int true 1 ((vals (exAll f.net (oneM f.net.pl.toNat f.src) b).sp.ms R).map I)],.bool true],[])):=by
 have h0:=wdw f b hf
 unfold certB
 cases hg:zji f&&inB 1 400 b with
 |false=>
  rw[hg]at h0
  refine w3c ?_
  simp(maxSteps:=9^9)(disch:=first|omega|(simp only[H'];try omega))only[wef,go_sem,P'k,C',D',E']
  simp(maxSteps:=9^9)(disch:=first|omega|(simp only[H'];try omega))only[go_sem,P'k,C',D',E',h0]
  first| done| exact .inl ⟨rfl,rfl⟩|simp
 |true=>
  rw[hg]at h0
  rw[L'c]at hg
  have h1:=wdm f b hg.1 hg.2
  obtain⟨f1,f2,f3,f4,f5,f6⟩:=w8e hg.1 hg.2
  have hcf:=w88 hg.1 hg.2
  have hsp:=fun h=>(z1c9 (f:=f) (b:=b) h).1
  have hcd:=ze6 f.net (oneM f.net.pl.toNat f.src) b
  have hin:=f4.inn
  have hnd:=f1.nodup
  obtain⟨o,k,d,w,W,e1,e2,e3,e4,e5,e6,e7⟩:=wlj f b
  rw[e1]at h1
  rw[<-e2]at hcf hsp ⊢
  have hD:=fun p (hp:p<(exAll f.net (oneM f.net.pl.toNat f.src) b).sp.ms.length) bb=>wdq (exAll f.net (oneM f.net.pl.toNat f.src) b).sp.ms (exAll f.net (oneM f.net.pl.toNat f.src) b).sp.ar p bb (by omega) (by omega) hin hp
  have hC:=fun S R (hz:0<=_) hS hR=>wdi f (exAll f.net (oneM f.net.pl.toNat f.src) b).sp.ms (exAll f.net (oneM f.net.pl.toNat f.src) b).sp.ar S R hg.1 (by omega) f5 hnd (by omega) hin f6 hz hS hR
  have hlt:=fun h=>(zgl (l:=(exAll f.net (oneM f.net.pl.toNat f.src) b).sp.ms) (m:=oneM f.net.pl.toNat f.dst) h).1
  have hgn:=zjy (zjm hg.1).1
  generalize oneM f.net.pl.toNat f.dst=E at *
  generalize exAll f.net (oneM f.net.pl.toNat f.src) b=Q at *
  clear e1 e2 e3 e4 e5
  by_cases ho:o=1
  ·have hz:=hcf ho
   have hc:=hsp ho
   obtain⟨z,hzz⟩:∃z:Nat,findM Q.sp.ms E=z:=⟨(findM Q.sp.ms E).toNat,by omega⟩
   have hzl:=hlt hz
   obtain⟨_,_,S,_,hS⟩:=hD 0 f5 false
   obtain⟨_,_,R,_,hR⟩:=hD z (by omega) true
   have hR':isFar Q.sp.ar (findM Q.sp.ms E) Q.sp.ms.length R:=by rw[hzz];exact hR
   have hce:=hC S R hz hS hR'
   clear hD hC
   subst ho
   by_cases har:Q.sp.ar=[]
   ·rw[har,R'4]at hce
    simp only[exPV,arcPV,hc,har,if_true]at h1
    rcases e7 with⟨rfl,e7⟩|⟨rfl,e7⟩
    ·refine w3c ?_
     simp(maxSteps:=9^9)(disch:=first|omega|(simp only[H'];try omega))only[wef,go_sem,P'k,C',D',E']
     simp(maxSteps:=9^9)(disch:=first|omega|(simp only[H'];try omega))only[go_sem,P'k,C',D',E',h0,h1,hce]
     exact⟨S,R,hS,hR',rfl⟩
    ·refine w3c ?_
     simp(maxSteps:=9^9)(disch:=first|omega|(simp only[H'];try omega))only[wef,go_sem,P'k,C',D',E']
     simp(maxSteps:=9^9)(disch:=first|omega|(simp only[H'];try omega))only[go_sem,P'k,C',D',E',h0,h1,hce]
     exact⟨S,R,hS,hR',rfl⟩
   ·simp only[exPV,arcPV,hc,har,if_true,if_false]at h1
    rcases e7 with⟨rfl,e7⟩|⟨rfl,e7⟩
    ·refine w3c ?_
     simp(maxSteps:=9^9)(disch:=first|omega|(simp only[H'];try omega))only[wef,go_sem,P'k,C',D',E']
     simp(maxSteps:=9^9)(disch:=first|omega|(simp only[H'];try omega))only[go_sem,P'k,C',D',E',h0,h1,hce]
     exact⟨S,R,hS,hR',rfl⟩
    ·refine w3c ?_
     simp(maxSteps:=9^9)(disch:=first|omega|(simp only[H'];try omega))only[wef,go_sem,P'k,C',D',E']
     simp(maxSteps:=9^9)(disch:=first|omega|(simp only[H'];try omega))only[go_sem,P'k,C',D',E',h0,h1,hce]
     exact⟨S,R,hS,hR',rfl⟩
  ·by_cases hc:Q.code=0
   ·by_cases har:Q.sp.ar=[]
    ·simp only[exPV,arcPV,hc,har,if_true]at h1
     rcases e7 with⟨rfl,e7⟩|⟨rfl,e7⟩
     ·refine w3c ?_
      simp(maxSteps:=9^9)(disch:=first|omega|(simp only[H'];try omega))only[wef,go_sem,P'k,C',D',E']
      simp(maxSteps:=9^9)(disch:=first|omega|(simp only[H'];try omega))only[go_sem,P'k,C',D',E',h0,h1,ho]
      first| done| simp
     ·refine w3c ?_
      simp(maxSteps:=9^9)(disch:=first|omega|(simp only[H'];try omega))only[wef,go_sem,P'k,C',D',E']
      simp(maxSteps:=9^9)(disch:=first|omega|(simp only[H'];try omega))only[go_sem,P'k,C',D',E',h0,h1,ho]
      first| done| simp
    ·simp only[exPV,arcPV,hc,har,if_true,if_false]at h1
     rcases e7 with⟨rfl,e7⟩|⟨rfl,e7⟩
     ·refine w3c ?_
      simp(maxSteps:=9^9)(disch:=first|omega|(simp only[H'];try omega))only[wef,go_sem,P'k,C',D',E']
      simp(maxSteps:=9^9)(disch:=first|omega|(simp only[H'];try omega))only[go_sem,P'k,C',D',E',h0,h1,ho]
      first| done| simp
     ·refine w3c ?_
      simp(maxSteps:=9^9)(disch:=first|omega|(simp only[H'];try omega))only[wef,go_sem,P'k,C',D',E']
      simp(maxSteps:=9^9)(disch:=first|omega|(simp only[H'];try omega))only[go_sem,P'k,C',D',E',h0,h1,ho]
      first| done| simp
   ·simp only[exPV,hc,if_false]at h1
    rcases e7 with⟨rfl,e7⟩|⟨rfl,e7⟩
    ·refine w3c ?_
     simp(maxSteps:=9^9)(disch:=first|omega|(simp only[H'];try omega))only[wef,go_sem,P'k,C',D',E']
     simp(maxSteps:=9^9)(disch:=first|omega|(simp only[H'];try omega))only[go_sem,P'k,C',D',E',h0,h1,ho]
     first| done| simp
    ·refine w3c ?_
     simp(maxSteps:=9^9)(disch:=first|omega|(simp only[H'];try omega))only[wef,go_sem,P'k,C',D',E']
     simp(maxSteps:=9^9)(disch:=first|omega|(simp only[H'];try omega))only[go_sem,P'k,C',D',E',h0,h1,ho]
     first| done| simp
theorem wl4(ms:List (List Int))(ar:List Arc3)(p:Nat)(b:Bool)(hm:ms.length<2^30)(hr:ar.length<2^35)(hin:z44 ar ms.length)(hp:p<ms.length) :
  Lw (C wcm [.agg [rows ms,.sl true 3 (ar.map encA)],I p,.bool b] []) fun r=>∃F:List Int,r=(.un t_int true 1 (F.map I),[])/\isFar (dirA b ar) p ms.length F:=by
 have hA:=zcq (b:=b) hin
 refine w41 ?_
 simp(maxSteps:=9^9)(disch:=first|omega|(simp only[H'];try omega))only[wij,go_sem,P'k,C',D',E']
 generalize hn:ms.length=n at *
 refine W_for n (fun k s=>s=⟨[.any,I p,.bool b,.ptr 0 0,.any,.ref 1 1 0 n,.any,.any,.any,.any,.any,.any,I n,I k,.any,.any,.any,.any,.any,.any,.any,.any],[.box wla [rows ms,.sl true 3 (ar.map encA)],.row t_int true 1 ((L'0 k (-1:Int)++L'0 (n-k) 0).map I)]⟩) ?_ ?_ ?_
 ·simp(maxSteps:=9^9)(disch:=first|omega|(simp only[H'];try omega))only[go_sem,P'k,C',D',E',hn]
  simp
 ·rintro k s hk rfl
  have e1:(L'0 k (-1:Int)++L'0 (n-k) 0).length=n:=by simp;omega
  have e2:L'0 (k+1) (-1:Int)++L'0 (n-(k+1)) 0=(L'0 k (-1:Int)++L'0 (n-k) 0).set k (-1):=by
   rw[List.set_append,if_neg (by simp),M'j,R'h,show n-k=(n-(k+1))+1 by omega,List.replicate_succ (n:=n-(k+1)),List.set_cons_zero,List.replicate_succ' (n:=k)]
   simp
  rw[e2]
  generalize L'0 k (-1:Int)++L'0 (n-k) 0=c at *
  simp(maxSteps:=9^9)(disch:=first|omega|(simp only[H'];try omega))only[go_sem,P'k,C',D',E',e1]
  rw[R'2];rfl
 ·rintro s rfl
  have hst:=FQ.start (ar:=dirA b ar) (p:=(p:Int)) (n:=n) hA (by omega)
  have hbs:=z74 hp
  have e1:(L'0 n (-1:Int)).length=n:=M'j
  rw[R'h,List.replicate_zero,M'e]
  rw[P'm]at hst
  generalize L'0 n (-1:Int)=F0 at *
  simp(maxSteps:=9^9)(disch:=first|omega|(simp only[H'];try omega))only[go_sem,P'k,C',D',E',e1]
  refine z1a (fun j s=>∃(F q:List Int) (V:PV) (K:Blk),((V=.ref 2 1 0 q.length/\K=.row t_int true 1 (q.map I))\/∃pre:List Int,V=.qref 2 1 pre.length q.length/\K=.que t_int 1 ((pre++q).map I))/\FQ (dirA b ar) p n F q (fun _=>False)/\bndF n F/\j=cntU F+q.length/\q.length+cntU F<=2^31/\s=⟨[.any,.any,.bool b,.ptr 0 0,.any,.ref 1 1 0 n,.any,V,.any,.any,.any,.any,.any,.any,.any,.any,.any,.any,.any,.any,.any,.any],[.box wla [rows ms,.sl true 3 (ar.map encA)],.row t_int true 1 (F.map I),K]⟩) (cntU (F0.set p 0)+1) ?_ ?_
  ·refine⟨_,[(p:Int)],_,_,.inl ⟨rfl,rfl⟩,hst,hbs,rfl,?_,?_⟩
   ·have:cntU (F0.set p 0)<=(F0.set p 0).length:=List.countP_le_length
    rw[N'9]at this
    simp only[M'2,M'7];omega
   ·simp(maxSteps:=9^9)(disch:=first|omega|(simp only[H'];try omega))only[go_sem,P'k,C',D',E']
    first| done| (rw[R'2];rfl)
  ·rintro j s ⟨F,q,V,K,hV,hF,hbd,rfl,hle,rfl⟩
   have hFl:=hF.len
   cases q with
   |nil=>
    have hfar:=hF.end_ hA (by omega)
    rcases hV with⟨rfl,rfl⟩|⟨pre,rfl,rfl⟩
    all_goals
     simp(maxSteps:=9^9)(disch:=first|omega|(simp only[H'];try omega))only[go_sem,P'k,C',D',E',hFl]
     first| exact⟨F,rfl,hfar⟩|done
   |cons x q=>
    obtain⟨d,hw⟩:=hF.look
    have hpos:=hw.pos
    simp only[M'2]at hle
    rcases hV with⟨rfl,rfl⟩|⟨pre,rfl,rfl⟩
    ·simp(maxSteps:=2000000) (disch:=first| omega| (simp only[H'];try omega))only[go_sem,P'k,C',D',E',R'6,Q'n,Int.toNat_one,N'5]
     obtain⟨P,hP⟩:∃P:List Int,P=[x]:=⟨_,rfl⟩
     refine W_for ar.length (fun m s=>∃(F' pre' q':List Int),FW (dirA b ar) p n x d m F' q'/\bndF n F'/\cntU F'+q'.length<=cntU F+q.length/\s=⟨[.any,.any,.bool b,.ptr 0 0,.any,.ref 1 1 0 n,.any,.qref 2 1 pre'.length q'.length,I x,.any,.any,.any,.any,.any,.any,.any,.sl true 3 (ar.map encA),I ar.length,I m,.any,.any,.any],[.box wla [rows ms,.sl true 3 (ar.map encA)],.row t_int true 1 (F'.map I),.que t_int 1 ((pre'++q').map I)]⟩) ?_ ?_ ?_
     ·refine⟨F,P,q,hw,hbd,L'l _,?_⟩
      simp(maxSteps:=9^9)(disch:=first|omega|(simp only[H'];try omega))only[go_sem,P'k,C',D',E']
      rw[hP]
      first
       |rfl
       |(rw[L'x,hL];rfl)
     ·rintro m s hm2 ⟨F',pre',q',h1,h2,h3,rfl⟩
      obtain⟨a1,a2,a3,a4⟩:=hin _ (P'l hm2)
      have hmd:m<(dirA b ar).length:=by rw[zcr];exact hm2
      have hFl':=h1.len
      have g2:=h1.at_
      have hdb:=h2 _ _ g2
      have o1:=h1.old hmd
      have o2:=h1.new hA hmd
      have e1:ar[m]?=some ar[m]:=L'v hm2
      rw[zcp hm2]at o1 o2
      have hdrop:((pre'++q').map I).drop pre'.length=q'.map I:=by rw[<-R'o,R'p]
      have hLl:(pre'++q').length=pre'.length+q'.length:=L'x
      generalize hL':pre'++q'=L' at *
      generalize ar[m]=a at *
      obtain⟨s1,t1,d1⟩:=a
      simp only at a1 a2 a3 a4
      cases b with
      |true=>
       simp only[if_true]at o1 o2
       have hlt:s1.toNat<F'.length:=by omega
       obtain⟨u,g1⟩:∃u,F'[s1.toNat]?=some u:=⟨_,L'v hlt⟩
       clear hlt
       have hu:=h1.val _ _ g1
       have hcs:=zb9 (F:=F') (k:=s1.toNat) (v:=(d:Int)+1)
       have hbs:=z73 (y:=s1.toNat) h2 g2
       simp(maxSteps:=9^9)(disch:=first|omega|(simp only[H'];try omega))only[go_sem,P'k,C',D',E',e1,g1,g2,hFl',hLl,hdrop]
       refine⟨fun e=>⟨fun hneg=>?_,fun hp'=>?_⟩,fun e=>?_⟩
       ·have hu1:u=-1:=by rcases hu with h|⟨d',h,_⟩<;>omega
        subst hu1
        have:=hcs g1 (by omega)
        refine⟨_,[],q'++[s1],o2 e g1,hbs g1,by rw[L'x];simp only[M'2,M'7];omega,?_⟩
        rw[M'3,M'r,R'2,L'x];rfl
       ·exact⟨F',pre',q',o1 (fun _=>⟨u,g1,hp'⟩),h2,h3,by rw[hL'];rfl⟩
       ·exact⟨F',pre',q',o1 (fun h=>(e h).elim),h2,h3,by rw[hL'];rfl⟩
      |false=>
       simp only[M'w,if_false]at o1 o2
       have hlt:d1.toNat<F'.length:=by omega
       obtain⟨u,g1⟩:∃u,F'[d1.toNat]?=some u:=⟨_,L'v hlt⟩
       clear hlt
       have hu:=h1.val _ _ g1
       have hcs:=zb9 (F:=F') (k:=d1.toNat) (v:=(d:Int)+1)
       have hbs:=z73 (y:=d1.toNat) h2 g2
       simp(maxSteps:=9^9)(disch:=first|omega|(simp only[H'];try omega))only[go_sem,P'k,C',D',E',e1,g1,g2,hFl',hLl,hdrop]
       refine⟨fun e=>⟨fun hneg=>?_,fun hp'=>?_⟩,fun e=>?_⟩
       ·have hu1:u=-1:=by rcases hu with h|⟨d',h,_⟩<;>omega
        subst hu1
        have:=hcs g1 (by omega)
        refine⟨_,[],q'++[d1],o2 e g1,hbs g1,by rw[L'x];simp only[M'2,M'7];omega,?_⟩
        rw[M'3,M'r,R'2,L'x];rfl
       ·exact⟨F',pre',q',o1 (fun _=>⟨u,g1,hp'⟩),h2,h3,by rw[hL'];rfl⟩
       ·exact⟨F',pre',q',o1 (fun h=>(e h).elim),h2,h3,by rw[hL'];rfl⟩
     ·rintro s ⟨F',pre',q',h1,h2,h3,rfl⟩
      rw[<-zcr b]at h1
      simp(maxSteps:=9^9)(disch:=first|omega|(simp only[H'];try omega))only[go_sem,P'k,C',D',E']
      exact⟨cntU F'+q'.length,by omega,F',q',_,_,.inr ⟨pre',rfl,rfl⟩,h1.next,h2,rfl,by omega,rfl⟩
    ·have hx:(pre++x::q)[pre.length]?=some x:=by simp
     have hLl:(pre++x::q).length=pre.length+q.length+1:=by simp;omega
     have hL:(pre++x::q)=(pre++[x])++q:=by simp
     obtain⟨P,hP⟩:∃P:List Int,P=pre++[x]:=⟨_,rfl⟩
     generalize pre++x::q=L at *
     have hx':L[pre.length]'(by omega)=x:=by rw[L'v (by omega)]at hx;exact Option.some.inj hx
     simp(maxSteps:=9^9)(disch:=first|omega|(simp only[H'];try omega))only[go_sem,P'k,C',D',E',R'6,hx,hx',hLl,Int.toNat_one,N'5]
     refine W_for ar.length (fun m s=>∃(F' pre' q':List Int),FW (dirA b ar) p n x d m F' q'/\bndF n F'/\cntU F'+q'.length<=cntU F+q.length/\s=⟨[.any,.any,.bool b,.ptr 0 0,.any,.ref 1 1 0 n,.any,.qref 2 1 pre'.length q'.length,I x,.any,.any,.any,.any,.any,.any,.any,.sl true 3 (ar.map encA),I ar.length,I m,.any,.any,.any],[.box wla [rows ms,.sl true 3 (ar.map encA)],.row t_int true 1 (F'.map I),.que t_int 1 ((pre'++q').map I)]⟩) ?_ ?_ ?_
     ·refine⟨F,P,q,hw,hbd,L'l _,?_⟩
      simp(maxSteps:=9^9)(disch:=first|omega|(simp only[H'];try omega))only[go_sem,P'k,C',D',E']
      rw[hP]
      first
       |rfl
       |(rw[L'x,hL];rfl)
     ·rintro m s hm2 ⟨F',pre',q',h1,h2,h3,rfl⟩
      obtain⟨a1,a2,a3,a4⟩:=hin _ (P'l hm2)
      have hmd:m<(dirA b ar).length:=by rw[zcr];exact hm2
      have hFl':=h1.len
      have g2:=h1.at_
      have hdb:=h2 _ _ g2
      have o1:=h1.old hmd
      have o2:=h1.new hA hmd
      have e1:ar[m]?=some ar[m]:=L'v hm2
      rw[zcp hm2]at o1 o2
      have hdrop:((pre'++q').map I).drop pre'.length=q'.map I:=by rw[<-R'o,R'p]
      have hLl:(pre'++q').length=pre'.length+q'.length:=L'x
      generalize hL':pre'++q'=L' at *
      generalize ar[m]=a at *
      obtain⟨s1,t1,d1⟩:=a
      simp only at a1 a2 a3 a4
      cases b with
      |true=>
       simp only[if_true]at o1 o2
       have hlt:s1.toNat<F'.length:=by omega
       obtain⟨u,g1⟩:∃u,F'[s1.toNat]?=some u:=⟨_,L'v hlt⟩
       clear hlt
       have hu:=h1.val _ _ g1
       have hcs:=zb9 (F:=F') (k:=s1.toNat) (v:=(d:Int)+1)
       have hbs:=z73 (y:=s1.toNat) h2 g2
       simp(maxSteps:=9^9)(disch:=first|omega|(simp only[H'];try omega))only[go_sem,P'k,C',D',E',e1,g1,g2,hFl',hLl,hdrop]
       refine⟨fun e=>⟨fun hneg=>?_,fun hp'=>?_⟩,fun e=>?_⟩
       ·have hu1:u=-1:=by rcases hu with h|⟨d',h,_⟩<;>omega
        subst hu1
        have:=hcs g1 (by omega)
        refine⟨_,[],q'++[s1],o2 e g1,hbs g1,by rw[L'x];simp only[M'2,M'7];omega,?_⟩
        rw[M'3,M'r,R'2,L'x];rfl
       ·exact⟨F',pre',q',o1 (fun _=>⟨u,g1,hp'⟩),h2,h3,by rw[hL'];rfl⟩
       ·exact⟨F',pre',q',o1 (fun h=>(e h).elim),h2,h3,by rw[hL'];rfl⟩
      |false=>
       simp only[M'w,if_false]at o1 o2
       have hlt:d1.toNat<F'.length:=by omega
       obtain⟨u,g1⟩:∃u,F'[d1.toNat]?=some u:=⟨_,L'v hlt⟩
       clear hlt
       have hu:=h1.val _ _ g1
       have hcs:=zb9 (F:=F') (k:=d1.toNat) (v:=(d:Int)+1)
       have hbs:=z73 (y:=d1.toNat) h2 g2
       simp(maxSteps:=9^9)(disch:=first|omega|(simp only[H'];try omega))only[go_sem,P'k,C',D',E',e1,g1,g2,hFl',hLl,hdrop]
       refine⟨fun e=>⟨fun hneg=>?_,fun hp'=>?_⟩,fun e=>?_⟩
       ·have hu1:u=-1:=by rcases hu with h|⟨d',h,_⟩<;>omega
        subst hu1
        have:=hcs g1 (by omega)
        refine⟨_,[],q'++[d1],o2 e g1,hbs g1,by rw[L'x];simp only[M'2,M'7];omega,?_⟩
        rw[M'3,M'r,R'2,L'x];rfl
       ·exact⟨F',pre',q',o1 (fun _=>⟨u,g1,hp'⟩),h2,h3,by rw[hL'];rfl⟩
       ·exact⟨F',pre',q',o1 (fun h=>(e h).elim),h2,h3,by rw[hL'];rfl⟩
     ·rintro s ⟨F',pre',q',h1,h2,h3,rfl⟩
      rw[<-zcr b]at h1
      simp(maxSteps:=9^9)(disch:=first|omega|(simp only[H'];try omega))only[go_sem,P'k,C',D',E']
      exact⟨cntU F'+q'.length,by omega,F',q',_,_,.inr ⟨pre',rfl,rfl⟩,h1.next,h2,rfl,by omega,rfl⟩
theorem wk5(a b:List Int)(hl:a.length=b.length)(hb:b.length<2^60):C wbp [ints a,ints b] []=some (I (cmpL a b),[]):=by
 refine w2o ?_
 simp(maxSteps:=9^9)(disch:=first|omega|(simp only[H'];try omega))only[whk,go_sem,P'k,C',D',E']
 refine W_for a.length (fun k s=>s=⟨[ints a,ints b,.any,.any,I a.length,I k,.any,.any,.any],[]⟩/\a.take k=b.take k) ?_ ?_ ?_
 ·simp(maxSteps:=9^9)(disch:=first|omega|(simp only[H'];try omega))only[go_sem,P'k,C',D',E']
  simp
 ·rintro k s hk⟨rfl,h2⟩
  have e1:a[k]?=some a[k]:=L'v hk
  have hkb2:k<b.length:=by omega
  have e2:b[k]?=some b[k]:=L'v hkb2
  have e3:=zap h2 hk hkb2
  have e4:cmpI a[k] b[k]=0->a.take (k+1)=b.take (k+1):=fun h=>by rw[z1fe hk,z1fe hkb2,h2,zao h]
  generalize a[k]=x at *
  generalize b[k]=y at *
  unfold cmpI at e3 e4
  by_cases h5:x<y
  ·simp only[h5,if_true]at e3
   simp(maxSteps:=9^9)(disch:=first|omega|(simp only[H'];try omega))only[go_sem,P'k,C',D',E',e1,e2,h5]
   rw[e3 (by decide)]
  ·by_cases h6:y<x
   ·simp only[h5,h6,if_true,if_false]at e3
    simp(maxSteps:=9^9)(disch:=first|omega|(simp only[H'];try omega))only[go_sem,P'k,C',D',E',e1,e2,h5,h6]
    rw[e3 (by decide)]
   ·simp only[h5,h6,if_false]at e4
    simp(maxSteps:=9^9)(disch:=first|omega|(simp only[H'];try omega))only[go_sem,P'k,C',D',E',e1,e2,h5,h6]
    exact⟨rfl,e4 trivial⟩
 ·rintro s⟨rfl,h2⟩
  have:=zar h2 (by omega)
  simp(maxSteps:=9^9)(disch:=first|omega|(simp only[H'];try omega))only[go_sem,P'k,C',D',E']
  rw[this,if_neg (by omega)]
theorem wkg(l:List (List Int))(m:List Int)(n:Nat)(hn:n<2^30)(hx:∀x∈l,x.length=n)(hm:m.length=n)(hl:l.length<2^30)(hs:l.Pairwise ltL):Lw (C wc1 [rows l,ints m] []) fun r=>r=(.un wle false 1 ((inOrd l m).map ints),[])\/(m∈l/\r=(rows (inOrd l m),[])):=by
 refine w3z ?_
 simp(maxSteps:=9^9)(disch:=first|omega|(simp only[H'];try omega))only[whx,go_sem,P'k,C',D',E']
 refine W_for l.length (fun k s=>∃(d:Bool) (o:List (List Int)),o.length<=l.length+1/\s=⟨[rows l,ints m,.any,.ref 0 1 0 o.length,.bool d,.any,.any,rows l,I l.length,I k,.any,.any,.any,.any],[.row wle false 1 (o.map ints)]⟩/\((d=false/\o=l.take k/\∀x∈l.take k,0<cmpL m x)\/(d=true/\∃j,j<k/\o=l.take j++m::(l.take k).drop j/\(∀x∈l.take j,0<cmpL m x)/\∀x,l[j]?=some x->cmpL m x<0))) ?_ ?_ ?_
 ·simp(maxSteps:=9^9)(disch:=first|omega|(simp only[H'];try omega))only[go_sem,P'k,C',D',E']
  exact⟨false,[],by simp⟩
 ·rintro k s hk ⟨d,o,ho,rfl,hd⟩
  have e1:l[k]?=some l[k]:=L'v hk
  have e2:=wk5 m l[k] (by rw[hm,hx _ (P'l hk)]) (by rw[hx _ (P'l hk)];omega)
  have e3:l.take (k+1)=l.take k++[l[k]]:=P'z hk
  have e4:cmpL m l[k]=0->inOrd l m=l:=fun h=>zmx hs (by rw[zas.1 h];exact P'l hk)
  have hlk:(l.take k).length=k:=by simp;omega
  by_cases h0:cmpL m l[k]=0
  ·rw[h0]at e2
   simp(maxSteps:=9^9)(disch:=first|omega|(simp only[H'];try omega))only[go_sem,P'k,C',D',E',e1,e2]
   exact .inr ⟨by rw[zas.1 h0];exact P'l hk,by rw[e4 h0]⟩
  ·rcases hd with⟨rfl,rfl,h1⟩|⟨rfl,j,hj,rfl,h1,h2⟩
   ·by_cases h3:cmpL m l[k]<0
    ·have h4:∀x,l[k]?=some x->cmpL m x<0:=fun x h=>by rw[e1]at h;rw[<-Option.some.inj h];exact h3
     have h5:(l.take (k+1)).drop k=[l[k]]:=by rw[e3,List.drop_append,hlk];simp[Q'i,hlk]
     generalize hy:l[k]=y at *
     generalize hc:cmpL m y=c at *
     simp(maxSteps:=9^9)(disch:=first|omega|(simp only[H'];try omega))only[go_sem,P'k,C',D',E',e1,e2,h0,h3]
     refine⟨true,l.take k++m::(l.take (k+1)).drop k,by rw[h5];simp;omega,?_,.inr ⟨rfl,k,by omega,rfl,h1,h4⟩⟩
     rw[h5];simp[hlk]
    ·have h4:∀x∈l.take (k+1),0<cmpL m x:=fun x h=>by
      rw[e3,L'j]at h
      rcases h with h|h
      ·exact h1 x h
      ·rw[N'2]at h;subst h;omega
     generalize hy:l[k]=y at *
     generalize hc:cmpL m y=c at *
     simp(maxSteps:=9^9)(disch:=first|omega|(simp only[H'];try omega))only[go_sem,P'k,C',D',E',e1,e2,h0,h3]
     refine⟨false,l.take (k+1),by simp;omega,?_,.inl ⟨rfl,rfl,h4⟩⟩
     rw[e3];simp[hlk]
   ·have h5:(l.take (k+1)).drop j=(l.take k).drop j++[l[k]]:=by rw[e3,List.drop_append_of_le_length (by rw[hlk];omega)]
    have h6:(l.take j++m::(l.take k).drop j).length=k+1:=by simp;omega
    have h7:(l.take j++m::(l.take (k+1)).drop j)=(l.take j++m::(l.take k).drop j)++[l[k]]:=by rw[h5];simp
    have h8:∃W,l.take j++m::(l.take k).drop j=W:=⟨_,rfl⟩
    obtain⟨W,hW⟩:=h8
    rw[hW]at h6 h7 ⊢
    generalize hy:l[k]=y at *
    generalize hc:cmpL m y=c at *
    by_cases h3:c<0
    ·simp(maxSteps:=9^9)(disch:=first|omega|(simp only[H'];try omega))only[go_sem,P'k,C',D',E',e1,e2,h0,h3,h6]
     refine⟨true,l.take j++m::(l.take (k+1)).drop j,by rw[h7];simp;omega,?_,.inr ⟨rfl,j,by omega,rfl,h1,h2⟩⟩
     rw[h7];simp[h6]
    ·simp(maxSteps:=9^9)(disch:=first|omega|(simp only[H'];try omega))only[go_sem,P'k,C',D',E',e1,e2,h0,h3,h6]
     refine⟨true,l.take j++m::(l.take (k+1)).drop j,by rw[h7];simp;omega,?_,.inr ⟨rfl,j,by omega,rfl,h1,h2⟩⟩
     rw[h7];simp[h6]
 ·rintro s ⟨d,o,ho,rfl,hd⟩
  rcases hd with⟨rfl,rfl,h1⟩|⟨rfl,j,hj,rfl,h1,h2⟩
  ·rw[M'i]at h1 ⊢
   have h3:=zmw (l:=l) (m:=m) (j:=l.length) (by rw[M'i];exact h1) (fun x h=>by rw[List.getElem?_eq_none (L'l _)]at h;cases h)
   rw[h3]
   simp(maxSteps:=9^9)(disch:=first|omega|(simp only[H'];try omega))only[go_sem,P'k,C',D',E']
   exact .inl (by simp)
  ·have h3:=zmw h1 h2
   rw[M'i,<-h3]
   simp(maxSteps:=9^9)(disch:=first|omega|(simp only[H'];try omega))only[go_sem,P'k,C',D',E']
   first| exact .inl trivial|exact .inl rfl
theorem wjx(f:Fl)(b:Int)(hf:smN f.net)(h:(zji f&&inB 1 400 b)=false):C wbi [encF f,I b] []=some (.tup [.agg [I 0,I 0,.nil true 1,I 0],.bool false],[]):=by
 have ha:=wl1 f b hf
 rw[h]at ha
 refine w2i ?_
 simp(maxSteps:=9^9)(disch:=first|omega|(simp only[H'];try omega))only[whd,go_sem,P'k,C',D',E']
 simp(maxSteps:=9^9)(disch:=first|omega|(simp only[H'];try omega))only[go_sem,P'k,C',D',E',ha]
theorem wjw(f:Fl)(b:Int)(hf:smN f.net):Lw (C wbh [encF f,I b] []) fun r=>(certB f b=false/\r=(.tup [.agg [.nil false 1,.nil true 1,.nil true 1],.bool false],[]))\/(certB f b=true/\∃S R:List Int,isFar (dirA false (exAll f.net (oneM f.net.pl.toNat f.src) b).sp.ar) 0 (exAll f.net (oneM f.net.pl.toNat f.src) b).sp.ms.length S/\isFar (exAll f.net (oneM f.net.pl.toNat f.src) b).sp.ar (findM (exAll f.net (oneM f.net.pl.toNat f.src) b).sp.ms (oneM f.net.pl.toNat f.dst)) (exAll f.net (oneM f.net.pl.toNat f.src) b).sp.ms.length R/\r=(.tup [.agg [.un wle false 1 ((sortT (exAll f.net (oneM f.net.pl.toNat f.src) b).sp.ms).map ints),.un t_int true 1 ((vals (exAll f.net (oneM f.net.pl.toNat f.src) b).sp.ms S).map I),.un t_int true 1 ((vals (exAll f.net (oneM f.net.pl.toNat f.src) b).sp.ms R).map I)],.bool true],[])):=by
 unfold certB
 cases hg:zji f&&inB 1 400 b with
 |false=>
  have h0:=wjx f b hf hg
  refine w3p ?_
  simp(maxSteps:=9^9)(disch:=first|omega|(simp only[H'];try omega))only[whc,go_sem,P'k,C',D',E']
  simp(maxSteps:=9^9)(disch:=first|omega|(simp only[H'];try omega))only[go_sem,P'k,C',D',E',h0]
  first| done| exact .inl ⟨rfl,rfl⟩|simp
 |true=>
  rw[L'c]at hg
  have h1:=wjy f b hg.1 hg.2 hf
  obtain⟨f1,f2,f3,f4,f5,f6⟩:=w8e hg.1 hg.2
  have hcf:=w88 hg.1 hg.2
  have hsp:=fun h=>(z1c9 (f:=f) (b:=b) h).1
  have hin:=f4.inn
  have hnd:=f1.nodup
  have hb2:1<=b/\b<=400:=by have:=hg.2;simp only[inB,L'c,decide_eq_true_eq]at this;omega
  have hx:=wkx f.net (oneM f.net.pl.toNat f.src) b (zxf hg.1) hb2
  have he:=wl3 f hg.1
  obtain⟨o,k,d,w,W,e1,e2,e3,e4,e5,e6,e7⟩:=wlj f b
  rw[e1]at h1
  rw[<-e2]at hcf hsp ⊢
  have hD:=fun p (hp:p<(exAll f.net (oneM f.net.pl.toNat f.src) b).sp.ms.length) bb=>wl4 (exAll f.net (oneM f.net.pl.toNat f.src) b).sp.ms (exAll f.net (oneM f.net.pl.toNat f.src) b).sp.ar p bb (by omega) (by omega) hin hp
  have hlt:=fun h=>(zgl (l:=(exAll f.net (oneM f.net.pl.toNat f.src) b).sp.ms) (m:=oneM f.net.pl.toNat f.dst) h).1
  have hgn:=zjy (zjm hg.1).1
  have hEl:(oneM f.net.pl.toNat f.dst).length=f.net.pl.toNat:=by simp[oneM]
  have hEl0:(oneM f.net.pl.toNat f.src).length=f.net.pl.toNat:=by simp[oneM]
  generalize oneM f.net.pl.toNat f.dst=E at *
  generalize exAll f.net (oneM f.net.pl.toNat f.src) b=Q at *
  generalize oneM f.net.pl.toNat f.src=E0 at *
  clear e1 e2 e3 e4 e5
  by_cases ho:o=1
  ·have hz:=hcf ho
   have hc:=hsp ho
   have hfd:=wky Q.sp.ms E (by omega) (fun x hx=>by have:=f6 x hx;omega)
   obtain⟨z,hzz⟩:∃z:Nat,findM Q.sp.ms E=z:=⟨(findM Q.sp.ms E).toNat,by omega⟩
   have hzl:=hlt hz
   rw[hzz]at hfd
   obtain⟨_,d1,S,rfl,hS⟩:=hD 0 f5 false
   obtain⟨_,d2,R,rfl,hR⟩:=hD z (by omega) true
   have hR':isFar Q.sp.ar (findM Q.sp.ms E) Q.sp.ms.length R:=by rw[hzz];exact hR
   have hSl:=hS.len
   have hRl:=hR.len
   rw[show((0:Nat):Int)=0 from rfl]at d1
   clear hD
   subst ho
   have tw:∀{P X Y:Prop},P->(X/\False)\/P:=fun h=>.inr h
   by_cases har:Q.sp.ar=[]
   ·rw[har,R'4]at d1 d2
    simp only[exPV,w8c,arcPV,hc,har,if_true]at hx
    rcases e7 with⟨rfl,e7⟩|⟨rfl,e7⟩
    ·refine w3p ?_
     simp(maxSteps:=9^9)(disch:=first|omega|(simp only[H'];try omega))only[whc,go_sem,P'k,C',D',E']
     simp(maxSteps:=9^9)(disch:=first|omega|(simp only[H'];try omega))only[go_sem,P'k,C',D',E',h1,he,hx,d1,d2,hfd,hSl,hRl]
     refine⟨by decide,?_⟩
     refine W_for Q.sp.ms.length (fun k s=>∃(V:PV) (K:List Blk),((k=0/\V=.nil false 1/\K=[])\/(0<k/\V=.ref 6 1 0 (sortT (Q.sp.ms.take k)).length/\K=[.row wle false 1 ((sortT (Q.sp.ms.take k)).map ints)]))/\s=⟨[.any,.any,.any,.ptr 0 0,.any,.any,.any,.any,.any,.ptr 1 0,.ref 2 1 0 Q.sp.ms.length,.ref 3 1 0 Q.sp.ms.length,.ptr 4 0,.any,.any,.any,.any,.ref 5 1 0 Q.sp.ms.length,I Q.sp.ms.length,I k,.any,.any,.any,.any,.any],[.box wl7 [.nil false 1,.nil true 1,.nil true 1],.box wla [.ref 5 1 0 Q.sp.ms.length,.nil true 3],.row t_int true 1 (S.map I),.row t_int true 1 (R.map I),.box wl7 [V,.nil true 1,.nil true 1],.row wle false 1 (Q.sp.ms.map ints)]++K⟩) ?_ ?_ ?_
     ·simp(maxSteps:=9^9)(disch:=first|omega|(simp only[H'];try omega))only[go_sem,P'k,C',D',E']
      exact⟨.nil false 1,[],by simp⟩
     ·rintro k s hk ⟨V,K,hV,rfl⟩
      have t1:Q.sp.ms[k]?=some Q.sp.ms[k]:=L'v hk
      have t2:=f6 _ (P'l hk)
      have t3:=z1cd hk
      obtain⟨s1,s2,s3⟩:=z1cb (Q.sp.ms.take k)
      have s4:(Q.sp.ms.take k).length=k:=by simp;omega
      have hnot:Q.sp.ms[k]∉sortT (Q.sp.ms.take k):=fun h=>by
       obtain⟨j,hj,e⟩:=P'p.1 ((s2 _).1 h)
       rw[R'u]at e
       have hjk:j<k:=by omega
       exact absurd e (P'u.1 hnd j k (by omega) hk hjk)
      obtain⟨_,e4,hr⟩:=wkg (sortT (Q.sp.ms.take k)) Q.sp.ms[k] f.net.pl.toNat (by omega) (fun x h=>f6 x (R'5 ((s2 x).1 h))) t2 (by omega) s1
      obtain rfl:=hr.resolve_right (fun h=>hnot h.1)
      have e5:=wki Q.sp.ms[k] (by omega)
      have s5:=zmy (sortT (Q.sp.ms.take k)) Q.sp.ms[k]
      rw[t3]
      have hz0:k=0->sortT (Q.sp.ms.take k)=[]:=by rintro rfl;rfl
      generalize sortT (Q.sp.ms.take k)=A at *
      generalize Q.sp.ms[k]=x at *
      generalize inOrd A x=B at *
      rcases hV with⟨hk0,rfl,rfl⟩|⟨hk0,rfl,rfl⟩
      ·have:=hz0 hk0
       subst this
       subst hk0
       rw[show rows []=PV.sl false 1 []from rfl]at e4
       simp(maxSteps:=9^9)(disch:=first|omega|(simp only[H'];try omega))only[go_sem,P'k,C',D',E',t1,e4,e5]
       exact⟨.ref 6 1 0 B.length,_,⟨by omega,rfl,rfl⟩,rfl⟩
      ·simp(maxSteps:=9^9)(disch:=first|omega|(simp only[H'];try omega))only[go_sem,P'k,C',D',E',t1,e4,e5]
       first| exact⟨_,_,⟨rfl,rfl⟩,rfl⟩|exact⟨_,_,⟨by omega,rfl,rfl⟩,rfl⟩
     ·rintro s ⟨V,K,hV,rfl⟩
      rcases hV with⟨h,_⟩|⟨_,rfl,rfl⟩
      ·omega
      rw[M'i]
      obtain⟨s1,s2,s3⟩:=z1cb Q.sp.ms
      have hT:∀x∈sortT Q.sp.ms,0<=findM Q.sp.ms x/\(findM Q.sp.ms x).toNat<Q.sp.ms.length/\x.length=f.net.pl.toNat:=fun x h=>by
       have h1:=(s2 x).1 h
       have h2:=zgm.2 h1
       exact⟨h2,(zgl h2).1,f6 x h1⟩
      have hTp:0<(sortT Q.sp.ms).length:=M'5.2 fun h=>by
       have:=(s2 _).2 (P'l f5)
       rw[h]at this;cases this
      unfold vals
      generalize sortT Q.sp.ms=T at *
      simp(maxSteps:=9^9)(disch:=first|omega|(simp only[H'];try omega))only[go_sem,P'k,C',D',E']
      refine W_for T.length (fun k s=>∃(V2 V3:PV) (K:List Blk),((k=0/\V2=.nil true 1/\V3=.nil true 1/\K=[])\/(0<k/\V2=.ref 7 1 0 k/\V3=.ref 8 1 0 k/\K=[.row t_int true 1 ((T.take k).map fun m=>I (S.getD (findM Q.sp.ms m).toNat 0)),.row t_int true 1 ((T.take k).map fun m=>I (R.getD (findM Q.sp.ms m).toNat 0))]))/\s=⟨[.any,.any,.any,.ptr 0 0,.any,.any,.any,.any,.any,.ptr 1 0,.ref 2 1 0 Q.sp.ms.length,.ref 3 1 0 Q.sp.ms.length,.ptr 4 0,.any,.any,.any,.any,.any,.any,.any,.any,.ref 5 1 0 T.length,I T.length,I k,.any],[.box wl7 [.nil false 1,.nil true 1,.nil true 1],.box wla [.ref 6 1 0 Q.sp.ms.length,.nil true 3],.row t_int true 1 (S.map I),.row t_int true 1 (R.map I),.box wl7 [.ref 5 1 0 T.length,V2,V3],.row wle false 1 (T.map ints),.row wle false 1 (Q.sp.ms.map ints)]++K⟩) ?_ ?_ ?_
      ·simp(maxSteps:=9^9)(disch:=first|omega|(simp only[H'];try omega))only[go_sem,P'k,C',D',E']
       exact⟨.nil true 1,.nil true 1,[],by simp⟩
      ·rintro k s hk ⟨V2,V3,K,hV,rfl⟩
       have t1:T[k]?=some T[k]:=L'v hk
       obtain⟨t2,t3,t4⟩:=hT _ (P'l hk)
       have t5:=wky Q.sp.ms T[k] (by omega) (fun x hx=>by have:=f6 x hx;omega)
       have t6:(T.take k).length=k:=by simp;omega
       have t7:(T.take (k+1)).map (fun m=>I (S.getD (findM Q.sp.ms m).toNat 0))=(T.take k).map (fun m=>I (S.getD (findM Q.sp.ms m).toNat 0))++[I (S.getD (findM Q.sp.ms T[k]).toNat 0)]:=by rw[P'z hk,M'r];rfl
       have t8:(T.take (k+1)).map (fun m=>I (R.getD (findM Q.sp.ms m).toNat 0))=(T.take k).map (fun m=>I (R.getD (findM Q.sp.ms m).toNat 0))++[I (R.getD (findM Q.sp.ms T[k]).toNat 0)]:=by rw[P'z hk,M'r];rfl
       generalize T[k]=x at *
       obtain⟨o,ho⟩:∃o:Nat,findM Q.sp.ms x=o:=⟨(findM Q.sp.ms x).toNat,by omega⟩
       rw[ho]at t3 t5 t7 t8
       rw[P'm]at t3 t7 t8
       have u2:S[o]?=some (S.getD o 0):=by rw[L'v (by omega),N'u,L'v (by omega)];rfl
       have u3:R[o]?=some (R.getD o 0):=by rw[L'v (by omega),N'u,L'v (by omega)];rfl
       generalize S.getD o 0=y at *
       generalize R.getD o 0=w2 at *
       rcases hV with⟨rfl,rfl,rfl,rfl⟩|⟨hk0,rfl,rfl,rfl⟩
       ·simp(maxSteps:=9^9)(disch:=first|omega|(simp only[H'];try omega))only[go_sem,P'k,C',D',E',t1,t5,u2,u3,hSl,hRl]
        refine⟨.ref 7 1 0 1,.ref 8 1 0 1,_,⟨by omega,rfl,rfl,rfl⟩,?_⟩
        rw[t7,t8];rfl
       ·simp(maxSteps:=9^9)(disch:=first|omega|(simp only[H'];try omega))only[go_sem,P'k,C',D',E',t1,t5,t6,u2,u3,hSl,hRl]
        refine⟨_,_,_,⟨rfl,rfl,rfl⟩,?_⟩
        rw[t7,t8];rfl
      ·rintro s ⟨V2,V3,K,hV,rfl⟩
       rcases hV with⟨h,_⟩|⟨_,rfl,rfl,rfl⟩
       ·omega
       ·rw[M'i]
        simp(maxSteps:=9^9)(disch:=first|omega|(simp only[H'];try omega))only[go_sem,P'k,C',D',E']
        exact⟨S,R,hS,hR',by rw[R'g,R'g];rfl⟩
    ·refine w3p ?_
     simp(maxSteps:=9^9)(disch:=first|omega|(simp only[H'];try omega))only[whc,go_sem,P'k,C',D',E']
     simp(maxSteps:=9^9)(disch:=first|omega|(simp only[H'];try omega))only[go_sem,P'k,C',D',E',h1,he,hx,d1,d2,hfd,hSl,hRl]
     refine⟨by decide,?_⟩
     refine W_for Q.sp.ms.length (fun k s=>∃(V:PV) (K:List Blk),((k=0/\V=.nil false 1/\K=[])\/(0<k/\V=.ref 6 1 0 (sortT (Q.sp.ms.take k)).length/\K=[.row wle false 1 ((sortT (Q.sp.ms.take k)).map ints)]))/\s=⟨[.any,.any,.any,.ptr 0 0,.any,.any,.any,.any,.any,.ptr 1 0,.ref 2 1 0 Q.sp.ms.length,.ref 3 1 0 Q.sp.ms.length,.ptr 4 0,.any,.any,.any,.any,.ref 5 1 0 Q.sp.ms.length,I Q.sp.ms.length,I k,.any,.any,.any,.any,.any],[.box wl7 [.nil false 1,.nil true 1,.nil true 1],.box wla [.ref 5 1 0 Q.sp.ms.length,.nil true 3],.row t_int true 1 (S.map I),.row t_int true 1 (R.map I),.box wl7 [V,.nil true 1,.nil true 1],.row wle false 1 (Q.sp.ms.map ints)]++K⟩) ?_ ?_ ?_
     ·simp(maxSteps:=9^9)(disch:=first|omega|(simp only[H'];try omega))only[go_sem,P'k,C',D',E']
      exact⟨.nil false 1,[],by simp⟩
     ·rintro k s hk ⟨V,K,hV,rfl⟩
      have t1:Q.sp.ms[k]?=some Q.sp.ms[k]:=L'v hk
      have t2:=f6 _ (P'l hk)
      have t3:=z1cd hk
      obtain⟨s1,s2,s3⟩:=z1cb (Q.sp.ms.take k)
      have s4:(Q.sp.ms.take k).length=k:=by simp;omega
      have hnot:Q.sp.ms[k]∉sortT (Q.sp.ms.take k):=fun h=>by
       obtain⟨j,hj,e⟩:=P'p.1 ((s2 _).1 h)
       rw[R'u]at e
       have hjk:j<k:=by omega
       exact absurd e (P'u.1 hnd j k (by omega) hk hjk)
      obtain⟨_,e4,hr⟩:=wkg (sortT (Q.sp.ms.take k)) Q.sp.ms[k] f.net.pl.toNat (by omega) (fun x h=>f6 x (R'5 ((s2 x).1 h))) t2 (by omega) s1
      obtain rfl:=hr.resolve_right (fun h=>hnot h.1)
      have e5:=wki Q.sp.ms[k] (by omega)
      have s5:=zmy (sortT (Q.sp.ms.take k)) Q.sp.ms[k]
      rw[t3]
      have hz0:k=0->sortT (Q.sp.ms.take k)=[]:=by rintro rfl;rfl
      generalize sortT (Q.sp.ms.take k)=A at *
      generalize Q.sp.ms[k]=x at *
      generalize inOrd A x=B at *
      rcases hV with⟨hk0,rfl,rfl⟩|⟨hk0,rfl,rfl⟩
      ·have:=hz0 hk0
       subst this
       subst hk0
       rw[show rows []=PV.sl false 1 []from rfl]at e4
       simp(maxSteps:=9^9)(disch:=first|omega|(simp only[H'];try omega))only[go_sem,P'k,C',D',E',t1,e4,e5]
       exact⟨.ref 6 1 0 B.length,_,⟨by omega,rfl,rfl⟩,rfl⟩
      ·simp(maxSteps:=9^9)(disch:=first|omega|(simp only[H'];try omega))only[go_sem,P'k,C',D',E',t1,e4,e5]
       first| exact⟨_,_,⟨rfl,rfl⟩,rfl⟩|exact⟨_,_,⟨by omega,rfl,rfl⟩,rfl⟩
     ·rintro s ⟨V,K,hV,rfl⟩
      rcases hV with⟨h,_⟩|⟨_,rfl,rfl⟩
      ·omega
      rw[M'i]
      obtain⟨s1,s2,s3⟩:=z1cb Q.sp.ms
      have hT:∀x∈sortT Q.sp.ms,0<=findM Q.sp.ms x/\(findM Q.sp.ms x).toNat<Q.sp.ms.length/\x.length=f.net.pl.toNat:=fun x h=>by
       have h1:=(s2 x).1 h
       have h2:=zgm.2 h1
       exact⟨h2,(zgl h2).1,f6 x h1⟩
      have hTp:0<(sortT Q.sp.ms).length:=M'5.2 fun h=>by
       have:=(s2 _).2 (P'l f5)
       rw[h]at this;cases this
      unfold vals
      generalize sortT Q.sp.ms=T at *
      simp(maxSteps:=9^9)(disch:=first|omega|(simp only[H'];try omega))only[go_sem,P'k,C',D',E']
      refine W_for T.length (fun k s=>∃(V2 V3:PV) (K:List Blk),((k=0/\V2=.nil true 1/\V3=.nil true 1/\K=[])\/(0<k/\V2=.ref 7 1 0 k/\V3=.ref 8 1 0 k/\K=[.row t_int true 1 ((T.take k).map fun m=>I (S.getD (findM Q.sp.ms m).toNat 0)),.row t_int true 1 ((T.take k).map fun m=>I (R.getD (findM Q.sp.ms m).toNat 0))]))/\s=⟨[.any,.any,.any,.ptr 0 0,.any,.any,.any,.any,.any,.ptr 1 0,.ref 2 1 0 Q.sp.ms.length,.ref 3 1 0 Q.sp.ms.length,.ptr 4 0,.any,.any,.any,.any,.any,.any,.any,.any,.ref 5 1 0 T.length,I T.length,I k,.any],[.box wl7 [.nil false 1,.nil true 1,.nil true 1],.box wla [.ref 6 1 0 Q.sp.ms.length,.nil true 3],.row t_int true 1 (S.map I),.row t_int true 1 (R.map I),.box wl7 [.ref 5 1 0 T.length,V2,V3],.row wle false 1 (T.map ints),.row wle false 1 (Q.sp.ms.map ints)]++K⟩) ?_ ?_ ?_
      ·simp(maxSteps:=9^9)(disch:=first|omega|(simp only[H'];try omega))only[go_sem,P'k,C',D',E']
       exact⟨.nil true 1,.nil true 1,[],by simp⟩
      ·rintro k s hk ⟨V2,V3,K,hV,rfl⟩
       have t1:T[k]?=some T[k]:=L'v hk
       obtain⟨t2,t3,t4⟩:=hT _ (P'l hk)
       have t5:=wky Q.sp.ms T[k] (by omega) (fun x hx=>by have:=f6 x hx;omega)
       have t6:(T.take k).length=k:=by simp;omega
       have t7:(T.take (k+1)).map (fun m=>I (S.getD (findM Q.sp.ms m).toNat 0))=(T.take k).map (fun m=>I (S.getD (findM Q.sp.ms m).toNat 0))++[I (S.getD (findM Q.sp.ms T[k]).toNat 0)]:=by rw[P'z hk,M'r];rfl
       have t8:(T.take (k+1)).map (fun m=>I (R.getD (findM Q.sp.ms m).toNat 0))=(T.take k).map (fun m=>I (R.getD (findM Q.sp.ms m).toNat 0))++[I (R.getD (findM Q.sp.ms T[k]).toNat 0)]:=by rw[P'z hk,M'r];rfl
       generalize T[k]=x at *
       obtain⟨o,ho⟩:∃o:Nat,findM Q.sp.ms x=o:=⟨(findM Q.sp.ms x).toNat,by omega⟩
       rw[ho]at t3 t5 t7 t8
       rw[P'm]at t3 t7 t8
       have u2:S[o]?=some (S.getD o 0):=by rw[L'v (by omega),N'u,L'v (by omega)];rfl
       have u3:R[o]?=some (R.getD o 0):=by rw[L'v (by omega),N'u,L'v (by omega)];rfl
       generalize S.getD o 0=y at *
       generalize R.getD o 0=w2 at *
       rcases hV with⟨rfl,rfl,rfl,rfl⟩|⟨hk0,rfl,rfl,rfl⟩
       ·simp(maxSteps:=9^9)(disch:=first|omega|(simp only[H'];try omega))only[go_sem,P'k,C',D',E',t1,t5,u2,u3,hSl,hRl]
        refine⟨.ref 7 1 0 1,.ref 8 1 0 1,_,⟨by omega,rfl,rfl,rfl⟩,?_⟩
        rw[t7,t8];rfl
       ·simp(maxSteps:=9^9)(disch:=first|omega|(simp only[H'];try omega))only[go_sem,P'k,C',D',E',t1,t5,t6,u2,u3,hSl,hRl]
        refine⟨_,_,_,⟨rfl,rfl,rfl⟩,?_⟩
        rw[t7,t8];rfl
      ·rintro s ⟨V2,V3,K,hV,rfl⟩
       rcases hV with⟨h,_⟩|⟨_,rfl,rfl,rfl⟩
       ·omega
       ·rw[M'i]
        simp(maxSteps:=9^9)(disch:=first|omega|(simp only[H'];try omega))only[go_sem,P'k,C',D',E']
        exact⟨S,R,hS,hR',by rw[R'g,R'g];rfl⟩
   ·simp only[exPV,w8c,arcPV,hc,har,if_true,if_false]at hx
    rcases e7 with⟨rfl,e7⟩|⟨rfl,e7⟩
    ·refine w3p ?_
     simp(maxSteps:=9^9)(disch:=first|omega|(simp only[H'];try omega))only[whc,go_sem,P'k,C',D',E']
     simp(maxSteps:=9^9)(disch:=first|omega|(simp only[H'];try omega))only[go_sem,P'k,C',D',E',h1,he,hx,d1,d2,hfd,hSl,hRl]
     refine⟨by decide,?_⟩
     refine W_for Q.sp.ms.length (fun k s=>∃(V:PV) (K:List Blk),((k=0/\V=.nil false 1/\K=[])\/(0<k/\V=.ref 7 1 0 (sortT (Q.sp.ms.take k)).length/\K=[.row wle false 1 ((sortT (Q.sp.ms.take k)).map ints)]))/\s=⟨[.any,.any,.any,.ptr 0 0,.any,.any,.any,.any,.any,.ptr 1 0,.ref 2 1 0 Q.sp.ms.length,.ref 3 1 0 Q.sp.ms.length,.ptr 4 0,.any,.any,.any,.any,.ref 5 1 0 Q.sp.ms.length,I Q.sp.ms.length,I k,.any,.any,.any,.any,.any],[.box wl7 [.nil false 1,.nil true 1,.nil true 1],.box wla [.ref 5 1 0 Q.sp.ms.length,.ref 6 3 0 Q.sp.ar.length],.row t_int true 1 (S.map I),.row t_int true 1 (R.map I),.box wl7 [V,.nil true 1,.nil true 1],.row wle false 1 (Q.sp.ms.map ints)]++[.row wl6 true 3 (Q.sp.ar.map encA)]++K⟩) ?_ ?_ ?_
     ·simp(maxSteps:=9^9)(disch:=first|omega|(simp only[H'];try omega))only[go_sem,P'k,C',D',E']
      exact⟨.nil false 1,[],by simp⟩
     ·rintro k s hk ⟨V,K,hV,rfl⟩
      have t1:Q.sp.ms[k]?=some Q.sp.ms[k]:=L'v hk
      have t2:=f6 _ (P'l hk)
      have t3:=z1cd hk
      obtain⟨s1,s2,s3⟩:=z1cb (Q.sp.ms.take k)
      have s4:(Q.sp.ms.take k).length=k:=by simp;omega
      have hnot:Q.sp.ms[k]∉sortT (Q.sp.ms.take k):=fun h=>by
       obtain⟨j,hj,e⟩:=P'p.1 ((s2 _).1 h)
       rw[R'u]at e
       have hjk:j<k:=by omega
       exact absurd e (P'u.1 hnd j k (by omega) hk hjk)
      obtain⟨_,e4,hr⟩:=wkg (sortT (Q.sp.ms.take k)) Q.sp.ms[k] f.net.pl.toNat (by omega) (fun x h=>f6 x (R'5 ((s2 x).1 h))) t2 (by omega) s1
      obtain rfl:=hr.resolve_right (fun h=>hnot h.1)
      have e5:=wki Q.sp.ms[k] (by omega)
      have s5:=zmy (sortT (Q.sp.ms.take k)) Q.sp.ms[k]
      rw[t3]
      have hz0:k=0->sortT (Q.sp.ms.take k)=[]:=by rintro rfl;rfl
      generalize sortT (Q.sp.ms.take k)=A at *
      generalize Q.sp.ms[k]=x at *
      generalize inOrd A x=B at *
      rcases hV with⟨hk0,rfl,rfl⟩|⟨hk0,rfl,rfl⟩
      ·have:=hz0 hk0
       subst this
       subst hk0
       rw[show rows []=PV.sl false 1 []from rfl]at e4
       simp(maxSteps:=9^9)(disch:=first|omega|(simp only[H'];try omega))only[go_sem,P'k,C',D',E',t1,e4,e5]
       exact⟨.ref 7 1 0 B.length,_,⟨by omega,rfl,rfl⟩,rfl⟩
      ·simp(maxSteps:=9^9)(disch:=first|omega|(simp only[H'];try omega))only[go_sem,P'k,C',D',E',t1,e4,e5]
       first| exact⟨_,_,⟨rfl,rfl⟩,rfl⟩|exact⟨_,_,⟨by omega,rfl,rfl⟩,rfl⟩
     ·rintro s ⟨V,K,hV,rfl⟩
      rcases hV with⟨h,_⟩|⟨_,rfl,rfl⟩
      ·omega
      rw[M'i]
      obtain⟨s1,s2,s3⟩:=z1cb Q.sp.ms
      have hT:∀x∈sortT Q.sp.ms,0<=findM Q.sp.ms x/\(findM Q.sp.ms x).toNat<Q.sp.ms.length/\x.length=f.net.pl.toNat:=fun x h=>by
       have h1:=(s2 x).1 h
       have h2:=zgm.2 h1
       exact⟨h2,(zgl h2).1,f6 x h1⟩
      have hTp:0<(sortT Q.sp.ms).length:=M'5.2 fun h=>by
       have:=(s2 _).2 (P'l f5)
       rw[h]at this;cases this
      unfold vals
      generalize sortT Q.sp.ms=T at *
      simp(maxSteps:=9^9)(disch:=first|omega|(simp only[H'];try omega))only[go_sem,P'k,C',D',E']
      refine W_for T.length (fun k s=>∃(V2 V3:PV) (K:List Blk),((k=0/\V2=.nil true 1/\V3=.nil true 1/\K=[])\/(0<k/\V2=.ref 8 1 0 k/\V3=.ref 9 1 0 k/\K=[.row t_int true 1 ((T.take k).map fun m=>I (S.getD (findM Q.sp.ms m).toNat 0)),.row t_int true 1 ((T.take k).map fun m=>I (R.getD (findM Q.sp.ms m).toNat 0))]))/\s=⟨[.any,.any,.any,.ptr 0 0,.any,.any,.any,.any,.any,.ptr 1 0,.ref 2 1 0 Q.sp.ms.length,.ref 3 1 0 Q.sp.ms.length,.ptr 4 0,.any,.any,.any,.any,.any,.any,.any,.any,.ref 5 1 0 T.length,I T.length,I k,.any],[.box wl7 [.nil false 1,.nil true 1,.nil true 1],.box wla [.ref 6 1 0 Q.sp.ms.length,.ref 7 3 0 Q.sp.ar.length],.row t_int true 1 (S.map I),.row t_int true 1 (R.map I),.box wl7 [.ref 5 1 0 T.length,V2,V3],.row wle false 1 (T.map ints),.row wle false 1 (Q.sp.ms.map ints)]++[.row wl6 true 3 (Q.sp.ar.map encA)]++K⟩) ?_ ?_ ?_
      ·simp(maxSteps:=9^9)(disch:=first|omega|(simp only[H'];try omega))only[go_sem,P'k,C',D',E']
       exact⟨.nil true 1,.nil true 1,[],by simp⟩
      ·rintro k s hk ⟨V2,V3,K,hV,rfl⟩
       have t1:T[k]?=some T[k]:=L'v hk
       obtain⟨t2,t3,t4⟩:=hT _ (P'l hk)
       have t5:=wky Q.sp.ms T[k] (by omega) (fun x hx=>by have:=f6 x hx;omega)
       have t6:(T.take k).length=k:=by simp;omega
       have t7:(T.take (k+1)).map (fun m=>I (S.getD (findM Q.sp.ms m).toNat 0))=(T.take k).map (fun m=>I (S.getD (findM Q.sp.ms m).toNat 0))++[I (S.getD (findM Q.sp.ms T[k]).toNat 0)]:=by rw[P'z hk,M'r];rfl
       have t8:(T.take (k+1)).map (fun m=>I (R.getD (findM Q.sp.ms m).toNat 0))=(T.take k).map (fun m=>I (R.getD (findM Q.sp.ms m).toNat 0))++[I (R.getD (findM Q.sp.ms T[k]).toNat 0)]:=by rw[P'z hk,M'r];rfl
       generalize T[k]=x at *
       obtain⟨o,ho⟩:∃o:Nat,findM Q.sp.ms x=o:=⟨(findM Q.sp.ms x).toNat,by omega⟩
       rw[ho]at t3 t5 t7 t8
       rw[P'm]at t3 t7 t8
       have u2:S[o]?=some (S.getD o 0):=by rw[L'v (by omega),N'u,L'v (by omega)];rfl
       have u3:R[o]?=some (R.getD o 0):=by rw[L'v (by omega),N'u,L'v (by omega)];rfl
       generalize S.getD o 0=y at *
       generalize R.getD o 0=w2 at *
       rcases hV with⟨rfl,rfl,rfl,rfl⟩|⟨hk0,rfl,rfl,rfl⟩
       ·simp(maxSteps:=9^9)(disch:=first|omega|(simp only[H'];try omega))only[go_sem,P'k,C',D',E',t1,t5,u2,u3,hSl,hRl]
        refine⟨.ref 8 1 0 1,.ref 9 1 0 1,_,⟨by omega,rfl,rfl,rfl⟩,?_⟩
        rw[t7,t8];rfl
       ·simp(maxSteps:=9^9)(disch:=first|omega|(simp only[H'];try omega))only[go_sem,P'k,C',D',E',t1,t5,t6,u2,u3,hSl,hRl]
        refine⟨_,_,_,⟨rfl,rfl,rfl⟩,?_⟩
        rw[t7,t8];rfl
      ·rintro s ⟨V2,V3,K,hV,rfl⟩
       rcases hV with⟨h,_⟩|⟨_,rfl,rfl,rfl⟩
       ·omega
       ·rw[M'i]
        simp(maxSteps:=9^9)(disch:=first|omega|(simp only[H'];try omega))only[go_sem,P'k,C',D',E']
        exact⟨S,R,hS,hR',by rw[R'g,R'g];rfl⟩
    ·refine w3p ?_
     simp(maxSteps:=9^9)(disch:=first|omega|(simp only[H'];try omega))only[whc,go_sem,P'k,C',D',E']
     simp(maxSteps:=9^9)(disch:=first|omega|(simp only[H'];try omega))only[go_sem,P'k,C',D',E',h1,he,hx,d1,d2,hfd,hSl,hRl]
     refine⟨by decide,?_⟩
     refine W_for Q.sp.ms.length (fun k s=>∃(V:PV) (K:List Blk),((k=0/\V=.nil false 1/\K=[])\/(0<k/\V=.ref 7 1 0 (sortT (Q.sp.ms.take k)).length/\K=[.row wle false 1 ((sortT (Q.sp.ms.take k)).map ints)]))/\s=⟨[.any,.any,.any,.ptr 0 0,.any,.any,.any,.any,.any,.ptr 1 0,.ref 2 1 0 Q.sp.ms.length,.ref 3 1 0 Q.sp.ms.length,.ptr 4 0,.any,.any,.any,.any,.ref 5 1 0 Q.sp.ms.length,I Q.sp.ms.length,I k,.any,.any,.any,.any,.any],[.box wl7 [.nil false 1,.nil true 1,.nil true 1],.box wla [.ref 5 1 0 Q.sp.ms.length,.ref 6 3 0 Q.sp.ar.length],.row t_int true 1 (S.map I),.row t_int true 1 (R.map I),.box wl7 [V,.nil true 1,.nil true 1],.row wle false 1 (Q.sp.ms.map ints)]++[.row wl6 true 3 (Q.sp.ar.map encA)]++K⟩) ?_ ?_ ?_
     ·simp(maxSteps:=9^9)(disch:=first|omega|(simp only[H'];try omega))only[go_sem,P'k,C',D',E']
      exact⟨.nil false 1,[],by simp⟩
     ·rintro k s hk ⟨V,K,hV,rfl⟩
      have t1:Q.sp.ms[k]?=some Q.sp.ms[k]:=L'v hk
      have t2:=f6 _ (P'l hk)
      have t3:=z1cd hk
      obtain⟨s1,s2,s3⟩:=z1cb (Q.sp.ms.take k)
      have s4:(Q.sp.ms.take k).length=k:=by simp;omega
      have hnot:Q.sp.ms[k]∉sortT (Q.sp.ms.take k):=fun h=>by
       obtain⟨j,hj,e⟩:=P'p.1 ((s2 _).1 h)
       rw[R'u]at e
       have hjk:j<k:=by omega
       exact absurd e (P'u.1 hnd j k (by omega) hk hjk)
      obtain⟨_,e4,hr⟩:=wkg (sortT (Q.sp.ms.take k)) Q.sp.ms[k] f.net.pl.toNat (by omega) (fun x h=>f6 x (R'5 ((s2 x).1 h))) t2 (by omega) s1
      obtain rfl:=hr.resolve_right (fun h=>hnot h.1)
      have e5:=wki Q.sp.ms[k] (by omega)
      have s5:=zmy (sortT (Q.sp.ms.take k)) Q.sp.ms[k]
      rw[t3]
      have hz0:k=0->sortT (Q.sp.ms.take k)=[]:=by rintro rfl;rfl
      generalize sortT (Q.sp.ms.take k)=A at *
      generalize Q.sp.ms[k]=x at *
      generalize inOrd A x=B at *
      rcases hV with⟨hk0,rfl,rfl⟩|⟨hk0,rfl,rfl⟩
      ·have:=hz0 hk0
       subst this
       subst hk0
       rw[show rows []=PV.sl false 1 []from rfl]at e4
       simp(maxSteps:=9^9)(disch:=first|omega|(simp only[H'];try omega))only[go_sem,P'k,C',D',E',t1,e4,e5]
       exact⟨.ref 7 1 0 B.length,_,⟨by omega,rfl,rfl⟩,rfl⟩
      ·simp(maxSteps:=9^9)(disch:=first|omega|(simp only[H'];try omega))only[go_sem,P'k,C',D',E',t1,e4,e5]
       first| exact⟨_,_,⟨rfl,rfl⟩,rfl⟩|exact⟨_,_,⟨by omega,rfl,rfl⟩,rfl⟩
     ·rintro s ⟨V,K,hV,rfl⟩
      rcases hV with⟨h,_⟩|⟨_,rfl,rfl⟩
      ·omega
      rw[M'i]
      obtain⟨s1,s2,s3⟩:=z1cb Q.sp.ms
      have hT:∀x∈sortT Q.sp.ms,0<=findM Q.sp.ms x/\(findM Q.sp.ms x).toNat<Q.sp.ms.length/\x.length=f.net.pl.toNat:=fun x h=>by
       have h1:=(s2 x).1 h
       have h2:=zgm.2 h1
       exact⟨h2,(zgl h2).1,f6 x h1⟩
      have hTp:0<(sortT Q.sp.ms).length:=M'5.2 fun h=>by
       have:=(s2 _).2 (P'l f5)
       rw[h]at this;cases this
      unfold vals
      generalize sortT Q.sp.ms=T at *
      simp(maxSteps:=9^9)(disch:=first|omega|(simp only[H'];try omega))only[go_sem,P'k,C',D',E']
      refine W_for T.length (fun k s=>∃(V2 V3:PV) (K:List Blk),((k=0/\V2=.nil true 1/\V3=.nil true 1/\K=[])\/(0<k/\V2=.ref 8 1 0 k/\V3=.ref 9 1 0 k/\K=[.row t_int true 1 ((T.take k).map fun m=>I (S.getD (findM Q.sp.ms m).toNat 0)),.row t_int true 1 ((T.take k).map fun m=>I (R.getD (findM Q.sp.ms m).toNat 0))]))/\s=⟨[.any,.any,.any,.ptr 0 0,.any,.any,.any,.any,.any,.ptr 1 0,.ref 2 1 0 Q.sp.ms.length,.ref 3 1 0 Q.sp.ms.length,.ptr 4 0,.any,.any,.any,.any,.any,.any,.any,.any,.ref 5 1 0 T.length,I T.length,I k,.any],[.box wl7 [.nil false 1,.nil true 1,.nil true 1],.box wla [.ref 6 1 0 Q.sp.ms.length,.ref 7 3 0 Q.sp.ar.length],.row t_int true 1 (S.map I),.row t_int true 1 (R.map I),.box wl7 [.ref 5 1 0 T.length,V2,V3],.row wle false 1 (T.map ints),.row wle false 1 (Q.sp.ms.map ints)]++[.row wl6 true 3 (Q.sp.ar.map encA)]++K⟩) ?_ ?_ ?_
      ·simp(maxSteps:=9^9)(disch:=first|omega|(simp only[H'];try omega))only[go_sem,P'k,C',D',E']
       exact⟨.nil true 1,.nil true 1,[],by simp⟩
      ·rintro k s hk ⟨V2,V3,K,hV,rfl⟩
       have t1:T[k]?=some T[k]:=L'v hk
       obtain⟨t2,t3,t4⟩:=hT _ (P'l hk)
       have t5:=wky Q.sp.ms T[k] (by omega) (fun x hx=>by have:=f6 x hx;omega)
       have t6:(T.take k).length=k:=by simp;omega
       have t7:(T.take (k+1)).map (fun m=>I (S.getD (findM Q.sp.ms m).toNat 0))=(T.take k).map (fun m=>I (S.getD (findM Q.sp.ms m).toNat 0))++[I (S.getD (findM Q.sp.ms T[k]).toNat 0)]:=by rw[P'z hk,M'r];rfl
       have t8:(T.take (k+1)).map (fun m=>I (R.getD (findM Q.sp.ms m).toNat 0))=(T.take k).map (fun m=>I (R.getD (findM Q.sp.ms m).toNat 0))++[I (R.getD (findM Q.sp.ms T[k]).toNat 0)]:=by rw[P'z hk,M'r];rfl
       generalize T[k]=x at *
       obtain⟨o,ho⟩:∃o:Nat,findM Q.sp.ms x=o:=⟨(findM Q.sp.ms x).toNat,by omega⟩
       rw[ho]at t3 t5 t7 t8
       rw[P'm]at t3 t7 t8
       have u2:S[o]?=some (S.getD o 0):=by rw[L'v (by omega),N'u,L'v (by omega)];rfl
       have u3:R[o]?=some (R.getD o 0):=by rw[L'v (by omega),N'u,L'v (by omega)];rfl
       generalize S.getD o 0=y at *
       generalize R.getD o 0=w2 at *
       rcases hV with⟨rfl,rfl,rfl,rfl⟩|⟨hk0,rfl,rfl,rfl⟩
       ·simp(maxSteps:=9^9)(disch:=first|omega|(simp only[H'];try omega))only[go_sem,P'k,C',D',E',t1,t5,u2,u3,hSl,hRl]
        refine⟨.ref 8 1 0 1,.ref 9 1 0 1,_,⟨by omega,rfl,rfl,rfl⟩,?_⟩
        rw[t7,t8];rfl
       ·simp(maxSteps:=9^9)(disch:=first|omega|(simp only[H'];try omega))only[go_sem,P'k,C',D',E',t1,t5,t6,u2,u3,hSl,hRl]
        refine⟨_,_,_,⟨rfl,rfl,rfl⟩,?_⟩
        rw[t7,t8];rfl
      ·rintro s ⟨V2,V3,K,hV,rfl⟩
       rcases hV with⟨h,_⟩|⟨_,rfl,rfl,rfl⟩
       ·omega
       ·rw[M'i]
        simp(maxSteps:=9^9)(disch:=first|omega|(simp only[H'];try omega))only[go_sem,P'k,C',D',E']
        exact⟨S,R,hS,hR',by rw[R'g,R'g];rfl⟩
  ·rcases e7 with⟨rfl,e7⟩|⟨rfl,e7⟩
   ·refine w3p ?_
    simp(maxSteps:=9^9)(disch:=first|omega|(simp only[H'];try omega))only[whc,go_sem,P'k,C',D',E']
    simp(maxSteps:=9^9)(disch:=first|omega|(simp only[H'];try omega))only[go_sem,P'k,C',D',E',h1,ho]
    first| done| simp
   ·refine w3p ?_
    simp(maxSteps:=9^9)(disch:=first|omega|(simp only[H'];try omega))only[whc,go_sem,P'k,C',D',E']
    simp(maxSteps:=9^9)(disch:=first|omega|(simp only[H'];try omega))only[go_sem,P'k,C',D',E',h1,ho]
    first| done| simp
theorem win(a b:List Int)(hl:a.length<2^62):C wa7 [ints a,ints b] []=some (.bool (decide (a=b)),[]):=by
 refine w1m ?_
 simp(maxSteps:=9^9)(disch:=first|omega|(simp only[H'];try omega))only[wg5,go_sem,P'k,C',D',E']
 refine⟨fun h=>?_,fun h=>?_⟩
 ·have:a≠b:=fun e=>h (by rw[e])
  simp[this]
 refine W_for a.length (fun k s=>s=⟨[ints a,ints b,.any,.any,.any,I a.length,I k,.any,.any],[]⟩/\a.take k=b.take k) ?_ ?_ ?_
 ·simp(maxSteps:=9^9)(disch:=first|omega|(simp only[H'];try omega))only[go_sem,P'k,C',D',E']
  rfl
 ·rintro k s hk⟨rfl,hall⟩
  simp(maxSteps:=9^9)(disch:=first|omega|(simp only[H'];try omega))only[go_sem,P'k,C',D',E']
  refine⟨fun h=>?_,fun h=>⟨rfl,?_⟩⟩
  ·have:a≠b:=fun e=>h (by simp[e])
   simp[this]
  ·rw[z1fe hk,z1fe (show k<b.length by omega),hall,h]
 ·rintro s⟨rfl,hall⟩
  simp(maxSteps:=9^9)(disch:=first|omega|(simp only[H'];try omega))only[go_sem,P'k,C',D',E']
  rw[M'i,List.take_of_length_le (by omega)]at hall
  simp[hall]
theorem wip(o k d:Int)(w:List Int)(hw:w.length<2^40):C wa9 [.agg [I o,I k,ints w,I d],.agg [I o,I k,ints w,I d]] []=some (.bool true,[]):=by
 have h:=win w w (by omega)
 simp only[decide_true]at h
 refine w1o ?_
 simp(maxSteps:=9^9)(disch:=first|omega|(simp only[H'];try omega))only[wg7,go_sem,P'k,C',D',E']
 simp(maxSteps:=9^9)(disch:=first|omega|(simp only[H'];try omega))only[go_sem,P'k,C',D',E',h]
theorem wio(a:List (List Int))(hl:a.length<2^62)(hx:∀x∈a,x.length<2^62):C wa8 [rows a,rows a] []=some (.bool true,[]):=by
 refine w1n ?_
 simp(maxSteps:=9^9)(disch:=first|omega|(simp only[H'];try omega))only[wg6,go_sem,P'k,C',D',E']
 refine W_for a.length (fun k s=>s=⟨[rows a,rows a,.any,.any,.any,I a.length,I k,.any,.any],[]⟩) ?_ ?_ ?_
 ·simp(maxSteps:=9^9)(disch:=first|omega|(simp only[H'];try omega))only[go_sem,P'k,C',D',E']
  rfl
 ·rintro k s hk rfl
  have hk2:=hx _ (P'l hk)
  simp(maxSteps:=9^9)(disch:=first|omega|(simp only[H'];try omega))only[go_sem,P'k,C',D',E',win]
  rfl
 ·rintro s rfl
  simp(maxSteps:=9^9)(disch:=first|omega|(simp only[H'];try omega))only[go_sem,P'k,C',D',E']
theorem wim(M:List (List Int))(A B:List Int)(h1:M.length<2^40)(h2:A.length<2^40)(h3:B.length<2^40)(h4:∀x∈M,x.length<2^40):C wa6 [.agg [rows M,ints A,ints B],.agg [rows M,ints A,ints B]] []=some (.bool true,[]):=by
 have s1:=wio M (by omega) (fun x hx=>by have:=h4 x hx;omega)
 have s2:=win A A (by omega)
 have s3:=win B B (by omega)
 simp only[decide_true]at s2 s3
 refine w1l ?_
 simp(maxSteps:=9^9)(disch:=first|omega|(simp only[H'];try omega))only[wg4,go_sem,P'k,C',D',E']
 simp(maxSteps:=9^9)(disch:=first|omega|(simp only[H'];try omega))only[go_sem,P'k,C',D',E',s1,s2,s3]
theorem wjc(l:List Int)(h:0<l.length)(hl:l.length<2^60):C wax [ints l] []=some (I (minI l),[]):=by
 obtain⟨x,l,rfl⟩:∃x l',l=x::l':=by
  cases l with
  |nil=>simp at h
  |cons x l=>exact⟨x,l,rfl⟩
 have hl1:(x::l).length=l.length+1:=rfl
 refine w28 ?_
 simp(maxSteps:=9^9)(disch:=first|omega|(simp only[H'];try omega))only[wgt,go_sem,P'k,C',D',E']
 simp(maxSteps:=9^9)(disch:=first|omega|(simp only[H'];try omega))only[go_sem,P'k,C',D',E',R'6,Q'n]
 refine z1a (fun q s=>∃k:Nat,k<=l.length/\q=l.length-k/\s=⟨[ints (x::l),.any,I ((l.take k).foldl (fun a b=>if b<a then b else a) x),I (k+1:Nat),.any,.any],[]⟩) l.length ?_ ?_
 ·simp(maxSteps:=9^9)(disch:=first|omega|(simp only[H'];try omega))only[go_sem,P'k,C',D',E']
  exact⟨0,by omega,rfl,rfl⟩
 ·rintro q s⟨k,k1,rfl,rfl⟩
  by_cases hk:k<l.length
  ·have e1:(x::l)[k+1]?=some l[k]:=by simp[hk]
   have e2:(l.take (k+1)).foldl (fun a b=>if b<a then b else a) x=if l[k]<(l.take k).foldl (fun a b=>if b<a then b else a) x then l[k]else(l.take k).foldl (fun a b=>if b<a then b else a) x:=by rw[P'z hk,List.foldl_append];rfl
   have e3:(((k+1:Nat):Int)).toNat=k+1:=by omega
   generalize(l.take k).foldl (fun a b=>if b<a then b else a) x=y at *
   generalize l[k]=w at *
   generalize x::l=L at *
   have h4:((k+1:Nat):Int)<(l.length:Int)+1:=by omega
   simp(maxSteps:=9^9)(disch:=first|omega|(simp only[H'];try omega))only[go_sem,P'k,C',D',E',hl1,e1,e3]
   exact⟨l.length-(k+1),by omega,k+1,by omega,rfl,by rw[e2];rfl⟩
  ·have:k=l.length:=by omega
   subst this
   rw[M'i]
   simp(maxSteps:=9^9)(disch:=first|omega|(simp only[H'];try omega))only[go_sem,P'k,C',D',E']
   first| done| rfl
theorem wd2(p:Int)(m:List Int)(hl:m.length<2^62):C w8w [I p,ints m] []=some (.bool (goodM p m),[]):=by
 refine w0d ?_
 simp(maxSteps:=9^9)(disch:=first|omega|(simp only[H'];try omega))only[wer,go_sem,P'k,C',D',E']
 simp(maxSteps:=9^9)(disch:=first|omega|(simp only[H'];try omega))only[go_sem,P'k,C',D',E',web,wdd m _ _ hl]
 unfold goodM;grind
theorem wcr(c:Crt)(p:Int)(h1:c.mks.length<2^30)(h2:c.stp.length<2^30)(h3:c.rnk.length<2^30)(h4:∀x∈c.mks,x.length<2^40):C w8n [.agg [rows c.mks,ints c.stp,ints c.rnk],I p] []=some (.bool (formB p c),[]):=by
 have w:=web c.mks.length 1 400
 unfold formB
 cases a1:inB 1 400 c.mks.length with
 |false=>
  rw[a1]at w
  refine w05 ?_
  simp(maxSteps:=9^9)(disch:=first|omega|(simp only[H'];try omega))only[wei,go_sem,P'k,C',D',E']
  simp(maxSteps:=9^9)(disch:=first|omega|(simp only[H'];try omega))only[go_sem,P'k,C',D',E',w]
  first| done| rfl
 |true=>
  rw[a1]at w
  have hpos:1<=c.mks.length:=by simp only[inB,L'c,decide_eq_true_eq]at a1;omega
  by_cases a2:(c.stp.length:Int)=c.mks.length
  ·by_cases a3:(c.rnk.length:Int)=c.mks.length
   ·have b2:c.stp.length=c.mks.length:=by omega
    have b3:c.rnk.length=c.mks.length:=by omega
    have m1:=wjc c.stp (by omega) (by omega)
    have m2:=wjc c.rnk (by omega) (by omega)
    have n1:=zte (l:=c.stp) (by omega)
    have n2:=zte (l:=c.rnk) (by omega)
    generalize minI c.stp=y1 at *
    generalize minI c.rnk=y2 at *
    rw[<-n1,<-n2]
    simp only[b2,b3,decide_true,P'e]
    by_cases a4:y1<0
    ·refine w05 ?_
     simp(maxSteps:=9^9)(disch:=first|omega|(simp only[H'];try omega))only[wei,go_sem,P'k,C',D',E']
     simp(maxSteps:=9^9)(disch:=first|omega|(simp only[H'];try omega))only[go_sem,P'k,C',D',E',w,a2,a3,m1,a4]
     first| done| simp[a4]
    ·by_cases a5:y2<0
     ·refine w05 ?_
      simp(maxSteps:=9^9)(disch:=first|omega|(simp only[H'];try omega))only[wei,go_sem,P'k,C',D',E']
      simp(maxSteps:=9^9)(disch:=first|omega|(simp only[H'];try omega))only[go_sem,P'k,C',D',E',w,a2,a3,m1,m2,a4,a5]
      first| done| simp[a5]
     ·simp only[a4,a5,decide_false,Bool.not_false,P'e]
      refine w05 ?_
      simp(maxSteps:=9^9)(disch:=first|omega|(simp only[H'];try omega))only[wei,go_sem,P'k,C',D',E']
      simp(maxSteps:=9^9)(disch:=first|omega|(simp only[H'];try omega))only[go_sem,P'k,C',D',E',w,a2,a3,m1,m2,a4,a5]
      refine W_for c.mks.length (fun k s=>s=⟨[.any,I p,.ptr 0 0,.any,.any,.any,.any,.any,rows c.mks,I c.mks.length,I k,.any,.any],[.box wl7 [rows c.mks,ints c.stp,ints c.rnk]]⟩/\(L'1 k).all (okAt p c.mks)=true) ?_ ?_ ?_
      ·simp(maxSteps:=9^9)(disch:=first|omega|(simp only[H'];try omega))only[go_sem,P'k,C',D',E']
       simp
      ·rintro k s hk ⟨rfl,h0⟩
       have e1:c.mks[k]?=some c.mks[k]:=L'v hk
       have e2:=wd2 p c.mks[k] (by have:=h4 _ (P'l hk);omega)
       have e3:okAt p c.mks k=true->(L'1 (k+1)).all (okAt p c.mks)=true:=fun h=>by rw[P'v,List.all_append,h0];simp[h]
       have e4:okAt p c.mks k=false->(L'1 c.mks.length).all (okAt p c.mks)=false:=fun h=>List.all_eq_false.2 ⟨k,by simpa using hk,by simp[h]⟩
       have e5:okAt p c.mks k=(goodM p c.mks[k]&&(decide (k=0)||decide (cmpL (c.mks.getD (k-1) []) c.mks[k]<0))):=by unfold okAt;rw[<-zj9 hk]
       rcases Q'3 k with rfl| hk0
       ·simp only[decide_true,Bool.true_or,Bool.and_true]at e5
        rw[e5]at e3 e4
        generalize c.mks[0]=x at *
        cases hgm:goodM p x with
        |false=>
         rw[hgm]at e2 e4
         simp(maxSteps:=9^9)(disch:=first|omega|(simp only[H'];try omega))only[go_sem,P'k,C',D',E',e1,e2]
         rw[e4 rfl]
        |true=>
         rw[hgm]at e2 e3
         simp(maxSteps:=9^9)(disch:=first|omega|(simp only[H'];try omega))only[go_sem,P'k,C',D',E',e1,e2]
         have e8:=e3 rfl
         simp only[List.all_eq_true,N's]at e8 ⊢
         first| exact e8|exact⟨rfl,e8⟩|simpa using e8
       ·obtain⟨k',hk'⟩:∃k':Nat,(k:Int)-1=k':=⟨k-1,by omega⟩
        have hkk:k-1=k':=by omega
        rw[hkk]at e5
        have hkl:k'<c.mks.length:=by omega
        have e6:c.mks[k']?=some (c.mks.getD k' []):=by rw[L'v hkl,zj9 hkl]
        have e7:=wix (c.mks.getD k' []) c.mks[k] (by have:=h4 _ (zj8 hkl);omega) (by have:=h4 _ (P'l hk);omega)
        have hk1:¬k=0:=by omega
        simp only[hk1,decide_false,Bool.false_or]at e5
        rw[e5]at e3 e4
        generalize c.mks.getD k' []=y at *
        generalize c.mks[k]=x at *
        generalize cmpL y x=q at *
        cases hgm:goodM p x with
        |false=>
         rw[hgm]at e2 e4
         simp(maxSteps:=9^9)(disch:=first|omega|(simp only[H'];try omega))only[go_sem,P'k,C',D',E',e1,e2]
         rw[e4 rfl]
        |true=>
         rw[hgm]at e2 e3 e4
         by_cases hq:q<0
         ·simp(maxSteps:=9^9)(disch:=first|omega|(simp only[H'];try omega))only[go_sem,P'k,C',D',E',e1,e2,e6,e7,hk',hq]
          have e8:=e3 (by simp[hq])
          rw[P'v]at e8
          first| exact e8|exact⟨rfl,e8⟩|simpa using e8
         ·simp(maxSteps:=9^9)(disch:=first|omega|(simp only[H'];try omega))only[go_sem,P'k,C',D',E',e1,e2,e6,e7,hk',hq,R'd.1 hq]
          rw[e4 (by simp[hq])]
      ·rintro s ⟨rfl,h0⟩
       simp(maxSteps:=9^9)(disch:=first|omega|(simp only[H'];try omega))only[go_sem,P'k,C',D',E']
       rw[h0]
   ·have b3:¬c.rnk.length=c.mks.length:=by omega
    refine w05 ?_
    simp(maxSteps:=9^9)(disch:=first|omega|(simp only[H'];try omega))only[wei,go_sem,P'k,C',D',E']
    simp(maxSteps:=9^9)(disch:=first|omega|(simp only[H'];try omega))only[go_sem,P'k,C',D',E',w,a2,a3]
    simp[b3]
  ·have b2:¬c.stp.length=c.mks.length:=by omega
   refine w05 ?_
   simp(maxSteps:=9^9)(disch:=first|omega|(simp only[H'];try omega))only[wei,go_sem,P'k,C',D',E']
   simp(maxSteps:=9^9)(disch:=first|omega|(simp only[H'];try omega))only[go_sem,P'k,C',D',E',w,a2]
   simp[b2]
theorem wcp(x m:List Int)(h:x.length<2^62):C w8m [ints x,.pv (.agg [ints m]) 0] []=some (.bool (decide (x=m)),[]):=by
 have h1:=wj5 x m h
 generalize decide (x=m)=q at *
 refine w04 ?_
 simp(maxSteps:=9^9)(disch:=first|omega|(simp only[H'];try omega))only[weh,go_sem,P'k,C',D',E']
 simp(maxSteps:=9^9)(disch:=first|omega|(simp only[H'];try omega))only[go_sem,P'k,C',D',E',h1]
 cases q<;>simp
theorem wcq(ms:List (List Int))(A B:List PV)(m:List Int)(hl:ms.length<2^62)(hx:∀x∈ms,x.length<2^62):C w8l [.agg [rows ms,.sl true 1 A,.sl true 1 B],ints m] []=some (I (findM ms m),[]):=by
 have h:=wj9 ms w8m [.pv (.agg [ints m]) 0] rfl (fun _ _=>rfl) (fun x=>decide (x=m)) (fun x h=>wcp x m (hx x h)) hl
 refine w03 ?_
 simp(maxSteps:=9^9)(disch:=first|omega|(simp only[H'];try omega))only[weg,go_sem,P'k,C',D',E']
 simp(maxSteps:=9^9)(disch:=first|omega|(simp only[H'];try omega))only[go_sem,P'k,C',D',E',h]
 first|done|rfl
theorem wj2(c:List Bool)(b:Bool)(hl:c.length<2^62):C wam [.sl true 1 (c.map PV.bool),.bool b] []=some (.bool (decide (0<=idxI c (fun x=>x==b))),[]):=by
 have h:=wja c b hl
 cases b
 all_goals
  refine w1y ?_
  simp(maxSteps:=9^9)(disch:=first|omega|(simp only[H'];try omega))only[wgj,go_sem,P'k,C',D',E']
  simp(maxSteps:=9^9)(disch:=first|omega|(simp only[H'];try omega))only[go_sem,P'k,C',D',E',h]
  exact⟨fun h=>by rw[decide_eq_true h],fun h=>by rw[decide_eq_false (by omega)]⟩
theorem wdj(f:Fl)(m:List Int)(hg:zji f=true)(hm:m.length=f.net.pl.toNat):C w9e [ints m,.pv (encF f) 0] []=some (.bool (overB m (oneM f.net.pl.toNat f.dst)),[]):=by
 have h1:=wds f hg
 have hgn:=zjy (zjm hg).1
 have hEl:(oneM f.net.pl.toNat f.dst).length=f.net.pl.toNat:=by simp[oneM]
 have h2:=we0 m (oneM f.net.pl.toNat f.dst) (by omega) (by omega)
 generalize oneM f.net.pl.toNat f.dst=E at *
 generalize overB m E=q at *
 refine w0v ?_
 simp(maxSteps:=9^9)(disch:=first|omega|(simp only[H'];try omega))only[wfb,go_sem,P'k,C',D',E']
 simp(maxSteps:=9^9)(disch:=first|omega|(simp only[H'];try omega))only[go_sem,P'k,C',D',E',h1,h2]
 cases q<;>simp
theorem wj1(l:List (List Int))(g:FuncId)(caps:List PV)(hc:refsL caps=[])(hcv:∀m h,z1gv [] m h caps=some caps)(p:List Int->Bool)(hp:∀x∈l,C g (ints x::caps) []=some (.bool (p x),[]))(hl:l.length<2^62) :
  C wal [rows l,.clo g caps] []=some (.bool (l.any p),[]):=by
 refine w1x ?_
 simp(maxSteps:=9^9)(disch:=first|omega|(simp only[H'];try omega))only[wgi,go_sem,P'k,C',D',E']
 simp(maxSteps:=9^9)(disch:=first|omega|(simp only[H'];try omega))only[go_sem,P'k,C',D',E',hc,hcv,wj9 l g caps hc hcv p hp hl]
 have:=zl0 l p
 grind
theorem w86{f:Orc}{k:Nat}{x y z a b c d e:ICode}{l:Nat}{s:St}{Q:Out->Prop}(h:∀e',e'=e->W f k (x.seq (y.seq ((ICode.block l (a.seq (b.seq (c.seq (d.seq e'))))).seq z))) s Q):W f k (x.seq (y.seq ((ICode.block l (a.seq (b.seq (c.seq (d.seq e))))).seq z))) s Q:=h e rfl
theorem w85{f:Orc}{k:Nat}{D1 D2:ICode}{s:St}{Q:Out->Prop}{b:Blk}(hA:W f k D1 s (fun o=>o=.next ⟨s.fr,s.mem.set 2 b⟩))(hB:W f k D2 ⟨s.fr,s.mem.set 2 b⟩ Q):W f k (D1.seq D2) s Q:=W_seq (W.mono hA (by rintro _ rfl;exact hB))
theorem wdk (f:Fl) (c:Crt) (hg:zji f=true) (h1:c.mks.length<2^30) (h2:c.stp.length<2^30) (h3:c.rnk.length<2^30) (h4:∀x∈c.mks,x.length<2^40):C w9d [encF f,.agg [rows c.mks,ints c.stp,ints c.rnk]] []=some (I (certC f c),[]):=by
 have hp:=zjm hg
 have hgn:=zjy hp.1
 have f1:=wcr c f.net.pl h1 h2 h3 h4
 have f2:=we9 f hg
 have f3:=wds f hg
 have f4:=fun m=>wcq c.mks (c.stp.map I) (c.rnk.map I) m (by omega) (fun x hx=>by have:=h4 x hx;omega)
 unfold certC
 cases hF:formB f.net.pl c with
 |false=>
  rw[hF]at f1
  refine w0u ?_
  simp(maxSteps:=9^9)(disch:=first|omega|(simp only[H'];try omega))only[wfa,go_sem,P'k,C',D',E']
  simp(maxSteps:=9^9)(disch:=first|omega|(simp only[H'];try omega))only[go_sem,P'k,C',D',E',f1]
  first|done|rfl
 |true=>
  obtain⟨q1,q2,q3,q4,q5,q6,q7⟩:=zhs hF
  rw[hF]at f1
  rw[if_neg (by simp)]
  have f4s:=f4 (oneM f.net.pl.toNat f.src)
  have f4e:=f4 (oneM f.net.pl.toNat f.dst)
  by_cases hs:findM c.mks (oneM f.net.pl.toNat f.src)<0
  ·rw[if_pos hs]
   generalize findM c.mks (oneM f.net.pl.toNat f.src)=sI at *
   generalize findM c.mks (oneM f.net.pl.toNat f.dst)=eI at *
   refine w0u ?_
   simp(maxSteps:=9^9)(disch:=first|omega|(simp only[H'];try omega))only[wfa,go_sem,P'k,C',D',E']
   simp(maxSteps:=9^9)(disch:=first|omega|(simp only[H'];try omega))only[go_sem,P'k,C',D',E',f1,f2,f3,f4s,f4e]
   first|done|rfl
  ·rw[if_neg hs]
   have hsl:=zgl (R'd.1 hs)
   have hbE:findM c.mks (oneM f.net.pl.toNat f.dst)<(2^30:Int):=by
    by_cases h:0<=findM c.mks (oneM f.net.pl.toNat f.dst)
    ·have:=(zgl h).1;omega
    ·omega
   obtain⟨sI,hsI⟩:∃s:Nat,findM c.mks (oneM f.net.pl.toNat f.src)=s:=⟨(findM c.mks (oneM f.net.pl.toNat f.src)).toNat,by omega⟩
   rw[hsI]at f4s hsl hs ⊢
   simp only[P'm]at hsl ⊢
   have hEl:(oneM f.net.pl.toNat f.dst).length=f.net.pl.toNat:=by simp [oneM]
   have f5:=wj1 c.mks w9e [.pv (encF f) 0] rfl (fun _ _=>rfl) (fun x=>overB x (oneM f.net.pl.toNat f.dst)) (fun x hx=>wdj f x hg (by have:=zjq (q6 x hx);omega)) (by omega)
   generalize hE:oneM f.net.pl.toNat f.dst=E at *
   generalize oneM f.net.pl.toNat f.src=S at *
   have hRl:∀k,(rchL c (arcsC f.net c.mks k)).length=c.mks.length:=fun k=>z48 ..
   have hSl:∀k,(snkL c (arcsC f.net c.mks k)).length=c.mks.length:=fun k=>z48 ..
   have hUl:∀k,(usdL f.net.tr.length (arcsC f.net c.mks k)).length=f.net.tr.length:=fun k=>z48 ..
   have gst:∀i,i<c.mks.length->c.stp[i]?=some (c.stp.getD i 0):=fun i hi=>by rw[N'u,L'v (by omega)];rfl
   have grk:∀i,i<c.mks.length->c.rnk[i]?=some (c.rnk.getD i 0):=fun i hi=>by rw[N'u,L'v (by omega)];rfl
   generalize heI:findM c.mks E=eI at *
   refine w0u ?_
   simp(maxSteps:=9^9)(disch:=first|omega|(simp only[H'];try omega))only[wfa,go_sem,P'k,C',D',E']
   simp(maxSteps:=9^9)(disch:=first|omega|(simp only[H'];try omega))only[go_sem,P'k,C',D',E',f1,f2,f3,f4s,f4e]
   refine⟨by decide,?_⟩
   refine W_for c.mks.length (fun k s=>(∀a∈arcsC f.net c.mks k,0<=a.dst)/\s=⟨[.any,.any,.ptr 0 0,.ptr 1 0,.any,I sI,I eI,.any,.ref 2 1 0 c.mks.length,.ref 3 1 0 c.mks.length,.ref 4 1 0 f.net.tr.length,.any,.any,.any,.any,.any,.any,.any,.any,.any,rows c.mks,I c.mks.length,I k,.any,.any,.any,.any,.any,.any,.any,.any,.any,.any,.any,.any,.any,.any],[.box wl8 [I f.net.pl,trs f.net.tr,I f.src,I f.dst],.box wl7 [rows c.mks,ints c.stp,ints c.rnk],.row wl5 true 1 ((rchL c (arcsC f.net c.mks k)).map PV.bool),.row wl5 true 1 ((snkL c (arcsC f.net c.mks k)).map PV.bool),.row wl5 true 1 ((usdL f.net.tr.length (arcsC f.net c.mks k)).map PV.bool)]⟩) ?_ ?_ ?_
   ·refine⟨fun a ha=>?_,?_⟩
    ·simp [arcsC]at ha
    ·simp(maxSteps:=9^9)(disch:=first|omega|(simp only[H'];try omega))only[go_sem,P'k,C',D',E']
     simp [rchL,snkL,usdL,arcsC,z49]
   ·rintro k s hk ⟨hno,rfl⟩
    have hmem:=P'l hk
    have hml:=zjq (q6 _ hmem)
    have e1:c.mks[k]?=some c.mks[k]:=L'v hk
    have en:=wdr f.net c.mks[k] hp.1 hml.2.2.1
    have hEq:=z43 f.net c.mks k
    have hLl:(enabL f.net c.mks[k]).length<=f.net.tr.length:=zdj ..
    have hin:∀t∈enabL f.net c.mks[k],0<=t/\t.toNat<f.net.tr.length:=fun t ht=>by have:=zdl.1 ht;omega
    have hbad:∀t∈enabL f.net c.mks[k],findM c.mks (zgw (trAt f.net t) c.mks[k])<0->((arcsC f.net c.mks c.mks.length).any fun a=>decide (a.dst<0))=true:=fun t ht hn=>by
     rw[zj9 hk]at ht hn
     exact N't.2 ⟨⟨k,t,findM c.mks (zgw (trAt f.net t) (c.mks.getD k []))⟩,z42.2 ⟨k,hk,rfl,ht,rfl⟩,by simpa using hn⟩
    rw[<-zj9 hk]at hEq
    have hK:=fun j=>@z45 f.net c.mks k j (enabL f.net c.mks[k])
    rw[<-zj9 hk]at hK
    have hT:=fun t (ht:t∈enabL f.net c.mks[k])=>(zk5 (hgn.2.2.2 (trAt f.net t) (by rw[<-z1fr (hin t ht).2];exact P'l _)) hml.2.2.1)
    have hT2:=fun t (ht:t∈enabL f.net c.mks[k])=>(zk4 (hgn.2.2.2 (trAt f.net t) (by rw[<-z1fr (hin t ht).2];exact P'l _)) ⟨by omega,hgn.2.1⟩)
    generalize enabL f.net c.mks[k]=L at *
    generalize c.mks[k]=x at *
    simp(maxSteps:=9^9)(disch:=first|omega|(simp only[H'];try omega))only[go_sem,P'k,C',D',E',e1,en]
    refine W_for L.length (fun j s=>(∀a∈arcsC f.net c.mks k++arcsK f.net c.mks k (L.take j),0<=a.dst)/\s=⟨[.any,.any,.ptr 0 0,.ptr 1 0,.any,I sI,I eI,.any,.ref 2 1 0 c.mks.length,.ref 3 1 0 c.mks.length,.ref 4 1 0 f.net.tr.length,I k,ints x,.any,.any,.any,.any,.any,.any,.any,rows c.mks,I c.mks.length,I k,.any,.ref 5 1 0 L.length,I L.length,I j,.any,.any,.any,.any,.any,.any,.any,.any,.any,.any],[.box wl8 [I f.net.pl,trs f.net.tr,I f.src,I f.dst],.box wl7 [rows c.mks,ints c.stp,ints c.rnk],.row wl5 true 1 ((rchL c (arcsC f.net c.mks k++arcsK f.net c.mks k (L.take j))).map PV.bool),.row wl5 true 1 ((snkL c (arcsC f.net c.mks k++arcsK f.net c.mks k (L.take j))).map PV.bool),.row wl5 true 1 ((usdL f.net.tr.length (arcsC f.net c.mks k++arcsK f.net c.mks k (L.take j))).map PV.bool),.row t_int true 1 (L.map I)]⟩) ?_ ?_ ?_
    ·refine⟨by simpa [arcsK]using hno,?_⟩
     simp(maxSteps:=9^9)(disch:=first|omega|(simp only[H'];try omega))only[go_sem,P'k,C',D',E']
     simp [arcsK]
    ·rintro j s hj ⟨hno2,rfl⟩
     have hjm:=P'l hj
     have ht:=hin _ hjm
     have hb:=hbad _ hjm
     have hT:=hT _ hjm
     have hT2:=hT2 _ hjm
     have hKj:=hK j hj
     have e2:L[j]?=some L[j]:=L'v hj
     generalize L[j]=t at *
     obtain⟨t',rfl⟩:∃t':Nat,t=t':=⟨t.toNat,by omega⟩
     have ht':t'<f.net.tr.length:=by omega
     have hfire:=wdu (trAt f.net t') x hT.1 hT.2.1 hT.2.2 ⟨by omega,by omega,by omega⟩ (by omega) hml.2.2.2.2
     have e3:f.net.tr[t']?=some (trAt f.net t'):=by rw[L'v ht'];exact congrArg some (z1fr (t:=(t':Int)) (by omega))
     have f4m:=f4 (zgw (trAt f.net t') x)
     have hlM:=zgy (trAt f.net t') x
     have hfg:=@zgl c.mks (zgw (trAt f.net t') x)
     generalize zgw (trAt f.net t') x=M at *
     generalize trAt f.net t'=T at *
     generalize findM c.mks M=to at *
     by_cases hto:to<0
     ·rw[if_pos (hb hto)]
      simp(maxSteps:=9^9)(disch:=first|omega|(simp only[H'];try omega))only[go_sem,P'k,C',D',E',e2,e3,hfire,f4m]
      first|done|rfl
     ·have hfl:=(hfg (by omega)).1
      obtain⟨to',rfl⟩:∃to':Nat,to=to':=⟨to.toNat,by omega⟩
      simp only[P'm]at hfl
      rw[hKj,<-List.append_assoc]
      generalize arcsC f.net c.mks k++arcsK f.net c.mks k (L.take j)=A at *
      have r2:rchL c (A++[⟨k,t',to'⟩])=(rchL c A).set to' ((A.any fun b=>decide (b.dst=(to':Int))&&upQ c.stp b)||decide (c.stp.getD k 0<c.stp.getD to' 0)):=z4a (key:=fun a=>a.dst) (q:=upQ c.stp) (A:=A) (n:=c.mks.length) (a:=⟨k,t',to'⟩) (R'v _) hfl
      have r1:(rchL c A)[to']?=some (A.any fun b=>decide (b.dst=(to':Int))&&upQ c.stp b):=z47 (key:=fun a=>a.dst) hfl
      have s2:snkL c (A++[⟨k,t',to'⟩])=(snkL c A).set k ((A.any fun b=>decide (b.src=(k:Int))&&dnQ c.rnk b)||decide (c.rnk.getD to' 0<c.rnk.getD k 0)):=z4a (key:=fun a=>a.src) (q:=dnQ c.rnk) (A:=A) (n:=c.mks.length) (a:=⟨k,t',to'⟩) (R'v _) hk
      have s1:(snkL c A)[k]?=some (A.any fun b=>decide (b.src=(k:Int))&&dnQ c.rnk b):=z47 (key:=fun a=>a.src) hk
      have u2:usdL f.net.tr.length (A++[⟨k,t',to'⟩])=(usdL f.net.tr.length A).set t' ((A.any fun b=>decide (b.by_=(t':Int))&&true)||true):=z4a (key:=fun a=>a.by_) (q:=fun _=>true) (A:=A) (n:=f.net.tr.length) (a:=⟨k,t',to'⟩) (R'v _) ht'
      have rl:(rchL c A).length=c.mks.length:=z48 ..
      have sl:(snkL c A).length=c.mks.length:=z48 ..
      have ul:(usdL f.net.tr.length A).length=f.net.tr.length:=z48 ..
      rw[Bool.or_true]at u2
      have hno3:∀a∈A++[(⟨k,t',to'⟩:Arc3)],0<=a.dst:=fun a ha=>by
       rcases L'j.1 ha with h|h
       ·exact hno2 a h
       ·rw[N'2]at h;subst h;exact R'v _
      rw[r2,s2,u2]
      generalize (A.any fun b=>decide (b.dst=(to':Int))&&upQ c.stp b)=p1 at *
      generalize (A.any fun b=>decide (b.src=(k:Int))&&dnQ c.rnk b)=p2 at *
      generalize rchL c A=X at *
      generalize snkL c A=Y at *
      generalize usdL f.net.tr.length A=U at *
      have g1:=gst k hk
      have g2:=gst to' hfl
      have g3:=grk k hk
      have g4:=grk to' hfl
      generalize c.stp.getD k 0=v1 at *
      generalize c.stp.getD to' 0=v2 at *
      generalize c.rnk.getD k 0=v3 at *
      generalize c.rnk.getD to' 0=v4 at *
      refine w86 fun e' he=>?_
      simp(maxSteps:=9^9)(disch:=first|omega|(simp only[H'];try omega))only[go_sem,P'k,C',D',E',e2,e3,hfire,f4m,ul]
      subst he
      refine w85 (b:=.row wl5 true 1 ((X.set to' (p1||decide (v1<v2))).map PV.bool)) ?_ ?_
      ·cases p1 with
       |true=>simp(maxSteps:=9^9)(disch:=first|omega|(simp only[H'];try omega))only[go_sem,P'k,C',D',E',r1,g1,g2,rl]
       |false=>by_cases d1:v1<v2<;>simp(maxSteps:=9^9)(disch:=first|omega|(simp only[H'];try omega))only[go_sem,P'k,C',D',E',r1,g1,g2,rl,d1]
      ·cases p2 with
       |true=>
        simp(maxSteps:=9^9)(disch:=first|omega|(simp only[H'];try omega))only[go_sem,P'k,C',D',E',s1,g3,g4,sl]
        first|exact hno3|exact⟨hno3,rfl⟩
       |false=>
        by_cases d2:v4<v3<;>simp(maxSteps:=9^9)(disch:=first|omega|(simp only[H'];try omega))only[go_sem,P'k,C',D',E',s1,g3,g4,sl,d2]
        all_goals first|exact hno3|exact⟨hno3,rfl⟩
    ·rintro s ⟨hno2,rfl⟩
     rw[M'i,<-hEq]at hno2 ⊢
     simp(maxSteps:=9^9)(disch:=first|omega|(simp only[H'];try omega))only[go_sem,P'k,C',D',E']
     exact⟨hno2,rfl⟩
   ·rintro s ⟨hno,rfl⟩
    have hnn:((arcsC f.net c.mks c.mks.length).any fun a=>decide (a.dst<0))=false:=by
     rw[M'y]
     intro a ha
     have:=hno a ha
     simp only[decide_eq_true_eq];omega
    rw[if_neg (by rw[hnn];simp)]
    have rl:=hRl c.mks.length
    have sl:=hSl c.mks.length
    have ul:=hUl c.mks.length
    generalize rchL c (arcsC f.net c.mks c.mks.length)=X at *
    generalize snkL c (arcsC f.net c.mks c.mks.length)=Y at *
    generalize usdL f.net.tr.length (arcsC f.net c.mks c.mks.length)=U at *
    obtain⟨v1,g1,hv1⟩:∃v1,c.stp[sI]?=some v1/\c.stp.getD sI 0=v1:=⟨_,gst sI hsl.1,rfl⟩
    obtain⟨b,hb⟩:∃b,decide (c.stp.getD sI 0=0)=b:=⟨_,rfl⟩
    simp only[hb]
    rw[hv1]at hb
    have hXs:X[sI]?=some X[sI]:=L'v (by omega)
    have cX:=wj2 (X.set sI b) false (by rw[N'9];omega)
    have cU:=wj2 U false (by omega)
    have hsY:∀i,i<c.mks.length->Y[i]?=some (Y.getD i false):=fun i hi=>by rw[N'u,L'v (by omega)];rfl
    generalize X[sI]=x0 at *
    generalize (c.mks.any fun m=>overB m E)=ov at *
    generalize hq4:idxI (X.set sI b) (fun x=>x==false)=q4 at *
    cases b
    all_goals
     have hv:=hb
     simp only[decide_eq_true_eq,decide_eq_false_iff_not]at hv
     by_cases h4:0<=q4
     ·rw[if_pos h4]
      simp(maxSteps:=9^9)(disch:=first|omega|(simp only[H'];try omega))only[go_sem,P'k,C',D',E',g1,hXs,rl,cX,h4,hv]
      first|done|rfl
     ·rw[if_neg h4]
      simp(maxSteps:=9^9)(disch:=first|omega|(simp only[H'];try omega))only[go_sem,P'k,C',D',E',g1,hXs,rl,cX,h4,hv]
      refine W_for c.mks.length (fun i s=>(∀i',i'<i->(i':Int)=eI\/Y.getD i' false=true)/\s=⟨[.any,.any,.ptr 0 0,.ptr 1 0,.any,.any,I eI,.any,.any,.any,.ref 2 1 0 f.net.tr.length,.any,.any,.any,.any,.any,.any,.any,.any,.any,.any,.any,.any,.any,.any,.any,.any,.any,.any,.any,.ref 3 1 0 c.mks.length,I c.mks.length,I i,.any,.any,.any,.any],[.box wl8 [I f.net.pl,trs f.net.tr,I f.src,I f.dst],.box wl7 [rows c.mks,ints c.stp,ints c.rnk],.row wl5 true 1 (U.map PV.bool),.row wl5 true 1 (Y.map PV.bool)]⟩) ?_ ?_ ?_
      ·simp(maxSteps:=9^9)(disch:=first|omega|(simp only[H'];try omega))only[go_sem,P'k,C',D',E']
       first|exact⟨fun i' h=>by omega,rfl⟩|(intro i' h;omega)
      ·rintro i s hi ⟨hall,rfl⟩
       have hyi:=hsY i hi
       have hbad:¬((i:Int)=eI)->Y.getD i false=false->((L'1 c.mks.length).any fun i=>!decide ((i:Int)=eI)&&!Y.getD i false)=true:=fun a b=>N't.2 ⟨i,N's.2 hi,by rw[b];simp [a]⟩
       have hgood:((i:Int)=eI\/Y.getD i false=true)->∀i',i'<i+1->(i':Int)=eI\/Y.getD i' false=true:=fun a i' h=>by
        rcases Nat.lt_or_ge i' i with h|h
        ·exact hall i' h
        ·obtain rfl:i'=i:=by omega
         exact a
       generalize Y.getD i false=y at *
       by_cases hie:(i:Int)=eI
       ·have hG:=hgood (.inl hie)
        subst hie
        cases y<;>simp(maxSteps:=9^9)(disch:=first|omega|(simp only[H'];try omega))only[go_sem,P'k,C',D',E',hyi,sl]
        all_goals first|exact hG|exact⟨hG,rfl⟩
       ·cases y with
        |true=>
         have hG:=hgood (.inr rfl)
         simp(maxSteps:=9^9)(disch:=first|omega|(simp only[H'];try omega))only[go_sem,P'k,C',D',E',hyi,sl,hie]
         first|exact hG|exact⟨hG,rfl⟩
        |false=>
         rw[if_pos (hbad hie rfl)]
         simp(maxSteps:=9^9)(disch:=first|omega|(simp only[H'];try omega))only[go_sem,P'k,C',D',E',hyi,sl,hie]
         first|done|rfl
      ·rintro s ⟨hall,rfl⟩
       have hn5:((L'1 c.mks.length).any fun i=>!decide ((i:Int)=eI)&&!Y.getD i false)=false:=by
        rw[M'y]
        intro i hi
        rcases hall i (N's.1 hi)with h|h
        ·simp [h]
        ·rw[h];simp
       rw[if_neg (by rw[hn5];simp)]
       generalize hq7:idxI U (fun x=>x==false)=q7 at *
       cases ov with
       |true=>
        simp(maxSteps:=9^9)(disch:=first|omega|(simp only[H'];try omega))only[go_sem,P'k,C',D',E',f5]
        first|done|simp
       |false=>
        by_cases he:eI<0
        ·simp(maxSteps:=9^9)(disch:=first|omega|(simp only[H'];try omega))only[go_sem,P'k,C',D',E',f5,he]
         first|done|simp [he]
        ·have hEn:eI.toNat<c.mks.length:=by rw[<-heI];exact(zgl (by omega)).1
         obtain⟨eN,rfl⟩:∃eN:Nat,eI=eN:=⟨eI.toNat,by omega⟩
         simp only[P'm]at hEn ⊢
         obtain⟨v6,g6,hv6⟩:∃v6,c.rnk[eN]?=some v6/\c.rnk.getD eN 0=v6:=⟨_,grk eN hEn,rfl⟩
         simp only[hv6]
         by_cases h6:v6=0
         ·by_cases h7:0<=q7
          ·simp(maxSteps:=9^9)(disch:=first|omega|(simp only[H'];try omega))only[go_sem,P'k,C',D',E',f5,g6,h6,cU,ul,h7]
           first|done|simp [he,h7]
          ·simp(maxSteps:=9^9)(disch:=first|omega|(simp only[H'];try omega))only[go_sem,P'k,C',D',E',f5,g6,h6,cU,ul,h7]
           first|done|simp [he,h7]
         ·simp(maxSteps:=9^9)(disch:=first|omega|(simp only[H'];try omega))only[go_sem,P'k,C',D',E',f5,g6,h6]
          first|done|simp [he,h6]
theorem wcs(f:Fl)(c:Crt)(hg:zji f=true)(hf:smN f.net)(h1:c.mks.length<2^30)(h2:c.stp.length<2^30)(h3:c.rnk.length<2^30)(h4:∀x∈c.mks,x.length<2^40):C w8o [encF f,.agg [rows c.mks,ints c.stp,ints c.rnk]] []=some (.tup [I (certC f c),.bool true],[]):=by
 have e1:=wd1 f hf
 have e2:=wdk f c hg h1 h2 h3 h4
 rw[hg]at e1
 generalize certC f c=r at *
 refine w06 ?_
 simp(maxSteps:=9^9)(disch:=first|omega|(simp only[H'];try omega))only[wej,go_sem,P'k,C',D',E']
 simp(maxSteps:=9^9)(disch:=first|omega|(simp only[H'];try omega))only[go_sem,P'k,C',D',E',e1,e2]
 first| done| rfl
theorem wil(l:List Int)(hl:l.length<2^62)(hb:∀x∈l,0<=x/\x<256):Lw (C wa5 [bys l] []) fun r=>∃x:Int,r=(I x,[])/\0<=x/\x<1000003:=by
 refine w3f ?_
 simp(maxSteps:=9^9)(disch:=first|omega|(simp only[H'];try omega))only[wg3,go_sem,P'k,C',D',E']
 refine W_for l.length (fun k s=>∃x:Int,s=⟨[.any,.any,I x,.any,bys l,I l.length,I k,.any],[]⟩/\0<=x/\x<1000003) ?_ ?_ ?_
 ·refine⟨0,?_,by omega,by omega⟩
  simp(maxSteps:=9^9)(disch:=first|omega|(simp only[H'];try omega))only[go_sem,P'k,C',D',E']
  rfl
 ·rintro k s hk⟨x,rfl,h1,h2⟩
  have:=hb _ (P'l hk)
  simp(maxSteps:=9^9)(disch:=first|omega|(simp only[H'];try omega))only[go_sem,P'k,C',D',E']
  exact⟨_,rfl,R'7 _ (by omega),R'8 _ (by omega)⟩
 ·rintro s⟨x,rfl,h1,h2⟩
  simp(maxSteps:=9^9)(disch:=first|omega|(simp only[H'];try omega))only[go_sem,P'k,C',D',E']
  exact⟨_,rfl,h1,h2⟩
theorem w87{mem:List Blk}{t:TypeId}{fl:Bool}{sz b off len:Nat}{ys es:List PV}(h1:¬len=es.length)(h3:off+len+ys.length<=es.length):appK mem t fl sz b off len ys (some (.row t fl sz es))=some (.ref b sz off (len+ys.length),mem.set b (.row t fl sz (splice es (off+len) ys))):=by
 simp[appK,h1,h3]
theorem wj4(l:List Int)(k:Nat)(hk:k<l.length)(hl:l.length<2^30):C wao [.ref 0 1 0 l.length,I k,I ((k:Int)+1)] [.row t_int true 1 (l.map I)]=some (.ref 0 1 0 (l.length-1),[.row t_int true 1 ((l.eraseIdx k++[0]).map I)]):=by
 have hT:((k:Int)+1).toNat=k+1:=by omega
 have hd:(l.drop (k+1)).length=l.length-(k+1):=List.length_drop
 have hE:l.eraseIdx k=l.take k++l.drop (k+1):=List.eraseIdx_eq_take_drop_succ ..
 have hsp:∀z:List PV,splice (l.map I) k (z)=(l.map I).take k++z++(l.map I).drop (k+z.length):=fun z=>rfl
 by_cases h:k+1=l.length
 ·have hk':¬k=(l.map I).length:=by rw[Q'1];omega
  have ha:=fun mem:List Blk=>@w87 mem t_int true 1 0 0 k [] (l.map I) hk' (by simp;omega)
  have hx:l.drop k=[l[k]]:=by
   rw[N'l hk,Q'i (by omega)]
  have hres:l.eraseIdx k++[0]=l.take k++[0]:=by rw[hE,Q'i (by omega),M'e]
  have hm:(l.take k).length=k:=by rw[L'w];omega
  have hn:l.length-1=k:=by omega
  have hn1:l.length-k=1:=by omega
  refine w20 ?_
  simp(maxSteps:=9^9)(disch:=first|omega|(simp only[H'];try omega))only[wgl,go_sem,P'k,C',D',E']
  simp only[Nat.sub_zero,ha]
  simp(maxSteps:=9^9)(disch:=first|omega|(simp only[H'];try omega))only[go_sem,P'k,C',D',E']
  rw[hres,hn,hn1,<-R'w,<-R'o,R'x (by rw[Q'1,hm]),hx]
  simp[hm]
  first| done| omega
 ·have hk':¬k=(l.map I).length:=by rw[Q'1];omega
  have ha:=fun mem:List Blk=>@w87 mem t_int true 1 0 0 k ((l.map I).drop (k+1)) (l.map I) hk' (by simp;omega)
  have hlen:(List.drop (k+1) (l.map I)).length=l.length-(k+1):=by simp
  have hm:(l.take k).length=k:=by rw[L'w];omega
  have hn:k+(l.length-(k+1))=l.length-1:=by omega
  have hn1:l.length-(l.length-1)=1:=by omega
  have hx:l.drop (l.length-1)=[l[l.length-1]]:=by
   rw[N'l (by omega),Q'i (by omega)]
  have hel:(l.eraseIdx k).length=l.length-1:=by rw[R't];simp[hk]
  refine w20 ?_
  simp(maxSteps:=9^9)(disch:=first|omega|(simp only[H'];try omega))only[wgl,go_sem,P'k,C',D',E']
  simp only[Nat.sub_zero,hT,ha]
  simp(maxSteps:=9^9)(disch:=first|omega|(simp only[H'];try omega))only[go_sem,P'k,C',D',E']
  rw[hlen,hn,hn1,<-R'w,<-R'o,<-R'o,<-M'r,<-hE,R'x (by rw[Q'1,hel]),hx]
  simp[hel]
  first| done| omega
theorem w8b{α:Type}{l:List α}{i k:Nat}(hi:i<l.length):(l.take (i+1)).eraseIdx k=if i=k then(l.take i).eraseIdx k else(l.take i).eraseIdx k++[l[i]]:=by
 have hm:(l.take i).length=i:=by rw[L'w];omega
 rw[P'z hi]
 by_cases h:k<i
 ·rw[List.eraseIdx_append_of_lt_length (by omega),if_neg (by omega)]
 ·rw[List.eraseIdx_append_of_length_le (by omega),R'z (l:=l.take i) (by omega),hm]
  by_cases e:i=k
  ·subst e
   rw[if_pos rfl,R'h];simp
  ·rw[if_neg e,R'z (by simp;omega)]
def drpPV(M:List (List Int))(A B:List Int):PV:=if M=[]then .agg [.nil false 1,.sl true 1 [],.sl true 1 []]else .agg [.un wle false 1 (M.map ints),.un t_int true 1 (A.map I),.un t_int true 1 (B.map I)]
theorem wcw(M:List (List Int))(A B:List Int)(k:Nat)(hk:k<M.length)(hM:M.length<=400)(hA:A.length=M.length)(hB:B.length=M.length)(hx:∀x∈M,x.length<2^30):C w8r [.agg [rows M,ints A,ints B],I k] []=some (.tup [drpPV (M.eraseIdx k) (A.eraseIdx k) (B.eraseIdx k),.bool true],[]):=by
 have w:=web k 0 (M.length-1)
 have wb:inB 0 ((M.length:Int)-1) k=true:=by simp[inB];omega
 rw[wb]at w
 have dA:=wj4 A k (by omega) (by omega)
 have dB:=wj4 B k (by omega) (by omega)
 rw[hA]at dA
 rw[hB]at dB
 have eA:(A.eraseIdx k).length=M.length-1:=by rw[R't,if_pos (by omega),hA]
 have eB:(B.eraseIdx k).length=M.length-1:=by rw[R't,if_pos (by omega),hB]
 generalize A.eraseIdx k=A' at *
 generalize B.eraseIdx k=B' at *
 refine w09 ?_
 simp(maxSteps:=9^9)(disch:=first|omega|(simp only[H'];try omega))only[wem,go_sem,P'k,C',D',E']
 simp(maxSteps:=9^9)(disch:=first|omega|(simp only[H'];try omega))only[go_sem,P'k,C',D',E',w,wiw,dA,dB,hA,hB]
 refine W_for M.length (fun i s=>((M.take i).eraseIdx k=[]/\s=⟨[.any,I k,.any,.ptr 0 0,.any,.any,.ptr 1 0,.any,.any,.any,rows M,I M.length,I i,.any,.any],[.box wl7 [.nil false 1,.nil true 1,.nil true 1],.box wl7 [.nil false 1,.ref 2 1 0 (M.length-1),.ref 3 1 0 (M.length-1)],.row t_int true 1 ((A'++[0]).map I),.row t_int true 1 ((B'++[0]).map I)]⟩)\/((M.take i).eraseIdx k≠[]/\s=⟨[.any,I k,.any,.ptr 0 0,.any,.any,.ptr 1 0,.any,.any,.any,rows M,I M.length,I i,.any,.any],[.box wl7 [.nil false 1,.nil true 1,.nil true 1],.box wl7 [.ref 2 1 0 ((M.take i).eraseIdx k).length,.ref 3 1 0 (M.length-1),.ref 4 1 0 (M.length-1)],.row wle false 1 (((M.take i).eraseIdx k).map ints),.row t_int true 1 ((A'++[0]).map I),.row t_int true 1 ((B'++[0]).map I)]⟩)) ?_ ?_ ?_
 ·refine .inl ⟨by simp,?_⟩
  simp(maxSteps:=9^9)(disch:=first|omega|(simp only[H'];try omega))only[go_sem,P'k,C',D',E']
  first| done| rfl
 ·rintro i s hi hs
  have e1:M[i]?=some M[i]:=L'v hi
  have hst:=w8b (k:=k) hi
  have hxl:=hx _ (P'l hi)
  have hPl:((M.take i).eraseIdx k).length<=M.length:=by
   have h1:((M.take i).eraseIdx k).length<=(M.take i).length:=List.length_eraseIdx_le ..
   rw[L'w]at h1;omega
  generalize M[i]=x at *
  rw[hst]
  generalize(M.take i).eraseIdx k=P at *
  by_cases hik:i=k
  ·rw[if_pos hik]
   subst hik
   rcases hs with⟨hP,rfl⟩|⟨hP,rfl⟩
   ·simp(maxSteps:=9^9)(disch:=first|omega|(simp only[H'];try omega))only[go_sem,P'k,C',D',E',e1]
    exact .inl ⟨hP,rfl⟩
   ·simp(maxSteps:=9^9)(disch:=first|omega|(simp only[H'];try omega))only[go_sem,P'k,C',D',E',e1]
    exact .inr ⟨hP,rfl⟩
  ·rw[if_neg hik]
   have hik2:¬(i:Int)=k:=by omega
   rcases hs with⟨rfl,rfl⟩|⟨hP,rfl⟩
   ·simp(maxSteps:=9^9)(disch:=first|omega|(simp only[H'];try omega))only[go_sem,P'k,C',D',E',e1,hik2,wiw]
    exact .inr ⟨by simp,rfl⟩
   ·have hPl2:P.length<2^30:=by omega
    simp(maxSteps:=9^9)(disch:=first|omega|(simp only[H'];try omega))only[go_sem,P'k,C',D',E',e1,hik2,wiw]
    exact .inr ⟨by simp,by simp⟩
 ·rintro s hs
  rw[M'i]at hs
  have eM:(M.eraseIdx k).length=M.length-1:=by rw[R't,if_pos hk]
  rcases hs with⟨hP,rfl⟩|⟨hP,rfl⟩
  ·unfold drpPV
   rw[if_pos hP]
   rw[hP,M'7]at eM
   have eA:A'=[]:=N'8 (by omega)
   have eB:B'=[]:=N'8 (by omega)
   subst eA eB
   have hM1:M.length=1:=by omega
   simp(maxSteps:=9^9)(disch:=first|omega|(simp only[H'];try omega))only[go_sem,P'k,C',D',E',hM1]
   rfl
  ·unfold drpPV
   rw[if_neg hP]
   have hPp:0<(M.eraseIdx k).length:=M'5.2 hP
   have tA:(List.map I (A'++[0])).take (M.length-1)=A'.map I:=by rw[<-R'w,R'x eA]
   have tB:(List.map I (B'++[0])).take (M.length-1)=B'.map I:=by rw[<-R'w,R'x eB]
   generalize M.eraseIdx k=P at *
   simp(maxSteps:=9^9)(disch:=first|omega|(simp only[H'];try omega))only[go_sem,P'k,C',D',E',eA,eB,tA,tB]
theorem wdz(n:Net)(m:List Int)(hn:smN n)(hm:m.length<2^62):C w9s [encN n,ints m] []=some (.bool (zss n m),[]):=by
 refine w18 ?_
 simp(maxSteps:=9^9)(disch:=first|omega|(simp only[H'];try omega))only[wfp,go_sem,P'k,C',D',E']
 simp(maxSteps:=9^9)(disch:=first|omega|(simp only[H'];try omega))only[go_sem,P'k,C',D',E',wd4 n hn,wd2 n.pl m hm]
 unfold zss;grind
theorem wcx(n:Net)(start:List Int)(b:Int)(hn:smN n)(hs:start.length<2^62):C w8s [encN n,ints start,I b] []=some (.tup [if okEx n start b then exPV (exAll n start b)else .agg [.nil false 1,.nil true 3],I (if okEx n start b then w8c (exAll n start b)else 0),.bool (okEx n start b)],[]):=by
 refine w0a ?_
 simp(maxSteps:=9^9)(disch:=first|omega|(simp only[H'];try omega))only[wen,go_sem,P'k,C',D',E']
 simp(maxSteps:=9^9)(disch:=first|omega|(simp only[H'];try omega))only[go_sem,P'k,C',D',E',wdz n start hn hs,web]
 cases h1:zss n start with
 |false=>simp[okEx,h1]
 |true=>
  cases h2:inB 1 400 b with
  |false=>simp[okEx,h1,h2]
  |true=>
   have hok:okEx n start b=true:=by simp[okEx,h1,h2]
   obtain⟨_,hb⟩:=zwd hok
   have hx:=wdt n start b h1 hb
   generalize exAll n start b=R at *
   by_cases hc:R.code=0
   ·by_cases ha:R.sp.ar=[]
    ·simp only[exPV,w8c,arcPV,hc,ha,if_true]at hx ⊢
     simp(maxSteps:=9^9)(disch:=first|omega|(simp only[H'];try omega))only[go_sem,P'k,C',D',E',hx,hok]
    ·simp only[exPV,w8c,arcPV,hc,ha,if_true,if_false]at hx ⊢
     simp(maxSteps:=9^9)(disch:=first|omega|(simp only[H'];try omega))only[go_sem,P'k,C',D',E',hx,hok]
   ·simp only[exPV,w8c,hc,if_false]at hx ⊢
    simp(maxSteps:=9^9)(disch:=first|omega|(simp only[H'];try omega))only[go_sem,P'k,C',D',E',hx,hok]
def whole(n:Net)(start:List Int)(b:Int):Bool:=okEx n start b&&decide ((exAll n start b).code=0)
def wlk(n:Net)(start:List Int)(b:Int):PV:=if whole n start b then .agg [.un wle false 1 ((exAll n start b).sp.ms.map ints),arcPV (exAll n start b).sp.ar]else .agg [.nil false 1,.nil true 3]
theorem wln{n:Net}{start:List Int}{b:Int}:(if okEx n start b then exPV (exAll n start b)else .agg [.nil false 1,.nil true 3])=wlk n start b:=by
 unfold wlk whole exPV
 cases okEx n start b<;>simp
theorem wll{n:Net}{start:List Int}{b:Int}(h:whole n start b=true):okEx n start b=true/\(exAll n start b).code=0/\ExOk n start b (exAll n start b)/\(exAll n start b).sp.ms.length<=400/\(exAll n start b).sp.ar.length<=20000/\Bfs (exAll n start b).sp.ar (exAll n start b).sp.ms.length/\0<(exAll n start b).sp.ms.length:=by
 simp only[whole,L'c,decide_eq_true_eq]at h
 obtain⟨h1,hb⟩:=zwd h.1
 have f1:=(ze7 h1 hb.1).1
 have hl:=f1.lenb
 refine⟨h.1,h.2,f1,by omega,ze4 (zjy (zst h1).1).2.2.1 hb.2,ze5 h1 hb.1,?_⟩
 have:=f1.first
 rcases Q'3 (exAll n start b).sp.ms.length with h|h
 ·rw[List.length_eq_zero_iff.1 h]at this;simp at this
 ·exact h
theorem wlm{n:Net}{start:List Int}{b:Int}{R:Ex}(f:ExOk n start b R):∀x∈R.sp.ms,x.length<2^62:=fun x hx=>by have:=zjq (zst (f.good x hx)).2;omega
theorem wea(n:Net)(start:List Int)(b:Int)(hn:smN n)(hs:start.length<2^62):C wa1 [encN n,ints start,I b] []=some (.tup [wlk n start b,.bool (whole n start b)],[]):=by
 have hx:=wcx n start b hn hs
 rw[wln]at hx
 have hcode:=ze6 n start b
 unfold wlk whole at hx ⊢
 cases h1:okEx n start b with
 |false=>
  simp only[h1,Bool.false_and,M'w,if_false]at hx ⊢
  refine w1h ?_
  simp(maxSteps:=9^9)(disch:=first|omega|(simp only[H'];try omega))only[wfz,go_sem,P'k,C',D',E']
  simp(maxSteps:=9^9)(disch:=first|omega|(simp only[H'];try omega))only[go_sem,P'k,C',D',E',hx]
 |true=>
  simp only[h1,P'e,if_true]at hx ⊢
  generalize exAll n start b=R at *
  by_cases hc:R.code=0
  ·by_cases ha:R.sp.ar=[]
   ·simp only[w8c,arcPV,hc,ha,if_true,decide_true]at hx ⊢
    refine w1h ?_
    simp(maxSteps:=9^9)(disch:=first|omega|(simp only[H'];try omega))only[wfz,go_sem,P'k,C',D',E']
    simp(maxSteps:=9^9)(disch:=first|omega|(simp only[H'];try omega))only[go_sem,P'k,C',D',E',hx]
   ·simp only[w8c,arcPV,hc,ha,if_true,if_false,decide_true]at hx ⊢
    refine w1h ?_
    simp(maxSteps:=9^9)(disch:=first|omega|(simp only[H'];try omega))only[wfz,go_sem,P'k,C',D',E']
    simp(maxSteps:=9^9)(disch:=first|omega|(simp only[H'];try omega))only[go_sem,P'k,C',D',E',hx]
  ·have hc1:¬R.code=1:=by omega
   simp only[w8c,hc,if_false,decide_false,M'w]at hx ⊢
   refine w1h ?_
   simp(maxSteps:=9^9)(disch:=first|omega|(simp only[H'];try omega))only[wfz,go_sem,P'k,C',D',E']
   simp(maxSteps:=9^9)(disch:=first|omega|(simp only[H'];try omega))only[go_sem,P'k,C',D',E',hx,hc1]
   first| done| (intro h;omega)
theorem wcv(n:Net)(start:List Int)(b:Int)(hn:smN n)(hs:start.length<2^62)(h:okEx n start b=true)(hc:(exAll n start b).code=0):C w8q [encN n,ints start,I b] []=some (.tup [.un t_int true 1 ((deadK (exAll n start b).sp.ar n.tr.length).map I),.bool true],[]):=by
 have e1:=wea n start b hn hs
 have hw:whole n start b=true:=by simp[whole,h,hc]
 obtain⟨w1,w2,w3,w4,w5,w6⟩:=wll hw
 have hgn:=zjy (zst (zwd h).1).1
 have e2:=wd7 (exAll n start b).sp.ms (exAll n start b).sp.ar n (by omega) (by omega)
 have hml:(exAll n start b).sp.ms.length<2^40:=by omega
 unfold wlk at e1
 rw[hw,if_pos rfl]at e1
 unfold arcPV at e1
 generalize(exAll n start b).sp.ar=ar at *
 generalize(exAll n start b).sp.ms=ms at *
 generalize deadK ar n.tr.length=D at *
 by_cases ha:ar=[]
 ·subst ha
  simp only[R'4]at e2
  refine w08 ?_
  simp(maxSteps:=9^9)(disch:=first|omega|(simp only[H'];try omega))only[wel,go_sem,P'k,C',D',E']
  simp(maxSteps:=9^9)(disch:=first|omega|(simp only[H'];try omega))only[go_sem,P'k,C',D',E',e1,e2]
 ·have hal:0<ar.length:=M'5.2 ha
  simp only[ha,if_false]at e1
  refine w08 ?_
  simp(maxSteps:=9^9)(disch:=first|omega|(simp only[H'];try omega))only[wel,go_sem,P'k,C',D',E']
  simp(maxSteps:=9^9)(disch:=first|omega|(simp only[H'];try omega))only[go_sem,P'k,C',D',E',e1,e2]
theorem wdf(n:Net)(l:List Int)(hn:n.tr.length<2^62)(hl:l.length<2^62):C w99 [encN n,ints l] []=some (.bool (areTr n l),[]):=by
 refine w0q ?_
 simp(maxSteps:=9^9)(disch:=first|omega|(simp only[H'];try omega))only[wf6,go_sem,P'k,C',D',E']
 simp(maxSteps:=9^9)(disch:=first|omega|(simp only[H'];try omega))only[go_sem,P'k,C',D',E',wdd l _ _ hl]
 unfold areTr;grind
theorem we1(n:Net)(t:Int)(hn:n.tr.length<2^62):C w9u [encN n,I t] []=some (.bool (inB 0 (n.tr.length-1) t),[]):=by
 refine w1a ?_
 simp(maxSteps:=9^9)(disch:=first|omega|(simp only[H'];try omega))only[wfr,go_sem,P'k,C',D',E']
 simp(maxSteps:=9^9)(disch:=first|omega|(simp only[H'];try omega))only[go_sem,P'k,C',D',E',web]
 grind
theorem wdo(m:List Int)(hm:m.length<2^62)(h:m.all (inB 0 50)=true):C w9h [ints m] []=some (.tup [ints m,.bool true],[]):=by
 refine w0y ?_
 simp(maxSteps:=9^9)(disch:=first|omega|(simp only[H'];try omega))only[wfe,go_sem,P'k,C',D',E']
 simp(maxSteps:=9^9)(disch:=first|omega|(simp only[H'];try omega))only[go_sem,P'k,C',D',E',wdd m _ _ hm,h]
theorem wdn(m:List Int)(hm:m.length<2^62)(h:m.all (inB 0 50)=false):C w9h [ints m] []=some (.tup [.un t_int true 1 [],.bool false],[]):=by
 refine w0y ?_
 simp(maxSteps:=9^9)(disch:=first|omega|(simp only[H'];try omega))only[wfe,go_sem,P'k,C',D',E']
 simp(maxSteps:=9^9)(disch:=first|omega|(simp only[H'];try omega))only[go_sem,P'k,C',D',E',wdd m _ _ hm,h]
theorem wd0(n:Net)(m:List Int)(t:Int)(hn:smN n)(hm:m.length<2^62)(h:zwm n m t=true):C w8t [encN n,ints m,I t] []=some (.tup [ints (zgw (trAt n t) m),.bool true],[]):=by
 have h0:=hn.1
 obtain⟨h1,h2⟩:=L'c ..▸h
 obtain⟨h3,h4,h5,h6,h7,h8⟩:=z8i h1
 have hx:=zk5 h8 (zjq h4).2.2.1
 have hy:=zk4 h8 (by have:=zjy h3;omega)
 have hm:=(zjq h4).2.2.2
 have hz:=zgy (trAt n t) m
 refine w0b ?_
 simp(maxSteps:=9^9)(disch:=first|omega|(simp only[H'];try omega))only[weo,go_sem,P'k,C',D',E']
 simp(maxSteps:=9^9)(disch:=first|omega|(simp only[H'];try omega))only[go_sem,P'k,C',D',E',wdz n m hn (by omega),we1 n t (by omega),z1fr,wdy (trAt n t) m hx.1 (by omega),(show zss n m=true by simp[zss,h3,h4]),(show inB 0 (n.tr.length-1) t=true by simp[inB];omega),h7,
  wdu (trAt n t) m hx.1 hx.2.1 hx.2.2 ⟨by omega,by omega,by omega⟩ (by omega) hm.2,wdo (zgw (trAt n t) m) (by omega) h2]
theorem wcz(n:Net)(m:List Int)(t:Int)(hn:smN n)(hm:m.length<2^62)(h:zwm n m t=false):C w8t [encN n,ints m,I t] []=some (.tup [.un t_int true 1 [],.bool false],[]):=by
 have h0:=hn.1
 refine w0b ?_
 simp(maxSteps:=9^9)(disch:=first|omega|(simp only[H'];try omega))only[weo,go_sem,P'k,C',D',E']
 simp(maxSteps:=9^9)(disch:=first|omega|(simp only[H'];try omega))only[go_sem,P'k,C',D',E',wdz n m hn hm,we1 n t (by omega)]
 intro h1 h2
 obtain⟨h3,h4⟩:=zst h1
 have h6:0<=t/\t.toNat<n.tr.length:=by simp[inB]at h2;omega
 have h8:=(zjy h3).2.2.2 _ (P'l h6.2)
 rw[z1fr h6.2]at h8
 have hx:=zk5 h8 (zjq h4).2.2.1
 have hy:=zk4 h8 (by have:=zjy h3;omega)
 have hm:=(zjq h4).2.2.2
 have hz:=zgy (trAt n t) m
 simp(maxSteps:=9^9)(disch:=first|omega|(simp only[H'];try omega))only[go_sem,P'k,C',D',E',z1fr,wdy (trAt n t) m hx.1 (by omega)]
 intro h7
 have h9:(zgw (trAt n t) m).all (inB 0 50)=false:=by simpa [zwm,canN,h1,h2,h7]using h
 simp(maxSteps:=9^9)(disch:=first|omega|(simp only[H'];try omega))only[go_sem,P'k,C',D',E',z1fr,wdu (trAt n t) m hx.1 hx.2.1 hx.2.2 ⟨by omega,by omega,by omega⟩ (by omega) hm.2,wdn (zgw (trAt n t) m) (by omega) h9]
theorem wcy(n:Net)(m l:List Int)(hn:smN n)(hm:m.length<2^62)(hl:l.length<2^62):Lw (C w8u [encN n,ints m,ints l] []) fun r=>∃X,r=(.tup [X,I (if okSeq n m l then many n m l else 0),.bool (okSeq n m l)],[])/\((X=ints (if okSeq n m l then fsq n m (l.take (many n m l))else[])/\okSeq n m l=true/\0<many n m l)\/(X=.un t_int true 1 ((if okSeq n m l then fsq n m (l.take (many n m l))else[]).map I)/\(okSeq n m l=true->many n m l=0))):=by
 have h0:=hn.1
 refine w3d ?_
 simp(maxSteps:=9^9)(disch:=first|omega|(simp only[H'];try omega))only[wep,go_sem,P'k,C',D',E']
 simp(maxSteps:=9^9)(disch:=first|omega|(simp only[H'];try omega))only[go_sem,P'k,C',D',E',wdz n m hn hm,wdf n l (by omega) hl]
 cases h1:zss n m with
 |false=>simp[okSeq,h1]
 |true=>
  cases h2:areTr n l with
  |false=>simp[okSeq,h1,h2]
  |true=>
   have hok:okSeq n m l=true:=by simp[okSeq,h1,h2]
   have h3:=(zjq (zst h1).2).2.2.2.1
   simp only[go_sem,hok]
   simp(maxSteps:=9^9)(disch:=first|omega|(simp only[H'];try omega))only[go_sem,P'k,C',D',E',wiw]
   refine W_for l.length (fun k s=>(∀j,(hj:j<k)->(hjl:j<l.length)->zwm n (fsq n m (l.take j)) l[j]=true)/\((s=⟨[.any,.ref 0 1 0 m.length,ints l,.ptr 1 0,.any,.any,.any,.any,.any,.any,.any,.any,ints l,I l.length,I k,.any,.any],[.row t_int true 1 (m.map I),.box wl9 [I n.pl,trs n.tr]]⟩/\k=0)\/s=⟨[.any,ints (fsq n m (l.take k)),ints l,.ptr 0 0,.any,.any,.any,.any,.any,.any,.any,.any,ints l,I l.length,I k,.any,.any],[.box wl9 [I n.pl,trs n.tr]]⟩/\0<k)) ?_ ?_ ?_
   ·refine⟨fun j hj=>by omega,.inl ⟨?_,rfl⟩⟩
    simp(maxSteps:=9^9)(disch:=first|omega|(simp only[H'];try omega))only[go_sem,P'k,C',D',E']
    rfl
   ·rintro k s hk ⟨hall,⟨rfl,rfl⟩|⟨rfl,hk0⟩⟩
    ·cases hf:zwm n m l[0]with
     |true=>
      simp(maxSteps:=9^9)(disch:=first|omega|(simp only[H'];try omega))only[go_sem,P'k,C',D',E',wd0 n m l[0] hn hm hf]
      have hq:∀j:Nat,j<1->∀(hjl:j<l.length),zwm n (fsq n m (R'y j l)) l[j]=true:=by
       intro j hj hjl
       have:j=0:=by omega
       subst this;simpa [fsq]using hf
      have hfe:fsq n m (R'y 1 l)=zgw (trAt n l[0]) m:=by rw[zij hk,M'd,zii]
      rw[hfe]
      first| exact⟨hq,rfl,by omega⟩|exact⟨fun _=>⟨hq,rfl,by omega⟩,fun _=>⟨hq,rfl,by omega⟩⟩
     |false=>
      have e:many n m l=0:=zs7 (k:=0) (by omega) (fun j hj=>by omega) (fun h=>by simpa [fsq]using hf)
      simp(maxSteps:=9^9)(disch:=first|omega|(simp only[H'];try omega))only[go_sem,P'k,C',D',E',wcz n m l[0] hn hm hf]
      simp only[if_true,e,M'd,zii]
      exact⟨_,rfl,.inr ⟨rfl,trivial⟩⟩
    ·have hlen:=zig n m (l.take k)
     cases hf:zwm n (fsq n m (l.take k)) l[k]with
     |true=>
      simp(maxSteps:=9^9)(disch:=first|omega|(simp only[H'];try omega))only[go_sem,P'k,C',D',E',wd0 n (fsq n m (l.take k)) l[k] hn (by omega) hf]
      have hq:∀j:Nat,j<k+1->∀(hjl:j<l.length),zwm n (fsq n m (R'y j l)) l[j]=true:=by
       intro j hj hjl
       by_cases hjk:j<k
       ·exact hall j hjk hjl
       ·have:j=k:=by omega
        subst this;exact hf
      rw[zij hk]
      first| exact⟨hq,rfl⟩|exact⟨fun _=>⟨hq,rfl⟩,fun _=>⟨hq,rfl⟩⟩|exact⟨fun _=>⟨hq,rfl,by omega⟩,fun _=>⟨hq,rfl,by omega⟩⟩
     |false=>
      have e:many n m l=k:=zs7 (by omega) (fun j hj=>hall j hj (by omega)) (fun h=>hf)
      simp(maxSteps:=9^9)(disch:=first|omega|(simp only[H'];try omega))only[go_sem,P'k,C',D',E',wcz n (fsq n m (l.take k)) l[k] hn (by omega) hf]
      simp only[if_true,e]
      exact⟨_,rfl,.inl ⟨rfl,hk0⟩⟩
   ·rintro s ⟨hall,⟨rfl,hk⟩|⟨rfl,hk0⟩⟩
    ·have:l=[]:=N'8 hk
     subst this
     simp(maxSteps:=9^9)(disch:=first|omega|(simp only[H'];try omega))only[go_sem,P'k,C',D',E']
     simp only[if_true,many,List.take_nil,zii]
     exact⟨_,rfl,.inr ⟨rfl,trivial⟩⟩
    ·have e:many n m l=l.length:=zs7 (L'l _) (fun j hj=>hall j hj hj) (fun h=>by omega)
     simp(maxSteps:=9^9)(disch:=first|omega|(simp only[H'];try omega))only[go_sem,P'k,C',D',E']
     simp only[if_true,e,M'i]
     exact⟨_,rfl,.inl ⟨rfl,hk0⟩⟩
theorem wcn(n:Net)(start:List Int)(b:Int)(m:List Int)(hn:smN n)(hs:start.length<2^62)(hm:m.length<2^60):C w8j [encN n,ints start,I b,ints m] []=some (.tup [.bool ((whole n start b&&goodM n.pl m)&&decide (m∈(exAll n start b).sp.ms)),.bool ((whole n start b&&goodM n.pl m))],[]):=by
 have hx:=wea n start b hn hs
 have hg:=wd2 n.pl m (by omega)
 unfold wlk at hx
 cases hw:whole n start b with
 |false=>
  simp only[hw,M'w,if_false]at hx ⊢
  refine w02 ?_
  simp(maxSteps:=9^9)(disch:=first|omega|(simp only[H'];try omega))only[wee,go_sem,P'k,C',D',E']
  simp(maxSteps:=9^9)(disch:=first|omega|(simp only[H'];try omega))only[go_sem,P'k,C',D',E',hx]
  first| done| rfl
 |true=>
  obtain⟨_,_,f1,f2,f3,_,_⟩:=wll hw
  simp only[hw,if_true]at hx ⊢
  have fd:=fun A=>wd9 (exAll n start b).sp.ms A m (by omega) (wlm f1)
  have e:decide (m∈(exAll n start b).sp.ms)=decide (0<=findM (exAll n start b).sp.ms m):=by rw[decide_eq_decide];exact zgm.symm
  rw[e]
  generalize exAll n start b=R at *
  generalize goodM n.pl m=g at *
  by_cases ha:R.sp.ar=[]
  ·simp only[arcPV,ha,if_true]at hx
   refine w02 ?_
   simp(maxSteps:=9^9)(disch:=first|omega|(simp only[H'];try omega))only[wee,go_sem,P'k,C',D',E']
   simp(maxSteps:=9^9)(disch:=first|omega|(simp only[H'];try omega))only[go_sem,P'k,C',D',E',hx,hg,fd]
   grind
  ·simp only[arcPV,ha,if_false]at hx
   refine w02 ?_
   simp(maxSteps:=9^9)(disch:=first|omega|(simp only[H'];try omega))only[wee,go_sem,P'k,C',D',E']
   simp(maxSteps:=9^9)(disch:=first|omega|(simp only[H'];try omega))only[go_sem,P'k,C',D',E',hx,hg,fd]
   grind
theorem we6(f:Fl)(b d:Int)(hg:zji f=true)(hf:smN f.net)(hb:inB 1 400 b=true)(hc:(exAll f.net (oneM f.net.pl.toNat f.src) b).code=0)(hd:d∈deadK (exAll f.net (oneM f.net.pl.toNat f.src) b).sp.ar f.net.tr.length):C w9y [encF f,.agg [I 2,I 3,ints [],I d],I b] []=some (.bool true,[]):=by
 have hS:(oneM f.net.pl.toNat f.src).length=f.net.pl.toNat:=by simp[oneM]
 have hp:=zjm hg
 have hgn:=zjy hp.1
 have e1:=we9 f hg
 have e2:=wds f hg
 have e3:=wcv f.net (oneM f.net.pl.toNat f.src) b hf (by omega) (by simp[okEx,zxf hg,hb]) hc
 have hdl:=zc6 (exAll f.net (oneM f.net.pl.toNat f.src) b).sp.ar f.net.tr.length
 have e4:=wj3 (deadK (exAll f.net (oneM f.net.pl.toNat f.src) b).sp.ar f.net.tr.length) d (by omega)
 generalize deadK (exAll f.net (oneM f.net.pl.toNat f.src) b).sp.ar f.net.tr.length=D at *
 generalize oneM f.net.pl.toNat f.src=S at *
 generalize oneM f.net.pl.toNat f.dst=E at *
 have hd2:hasB D d=true:=by rw[zkm];exact N't.2 ⟨d,hd,beq_self_eq_true d⟩
 rw[hd2]at e4
 refine w1e ?_
 simp(maxSteps:=9^9)(disch:=first|omega|(simp only[H'];try omega))only[wfw,go_sem,P'k,C',D',E']
 simp(maxSteps:=9^9)(disch:=first|omega|(simp only[H'];try omega))only[go_sem,P'k,C',D',E',e1,e2,e3,e4]
theorem we7(f:Fl)(b k:Int)(w M:List Int)(hk:k=1\/k=2)(hg:zji f=true)(hf:smN f.net)(hw:w.length<2^30)(h1:okSeq f.net (oneM f.net.pl.toNat f.src) w=true)(h2:many f.net (oneM f.net.pl.toNat f.src) w=w.length)(h3:fsq f.net (oneM f.net.pl.toNat f.src) w=M)(h4:k=1->(whole f.net M b&&goodM f.net.pl (oneM f.net.pl.toNat f.dst))=true/\oneM f.net.pl.toNat f.dst∉(exAll f.net M b).sp.ms)(h5:k=2->overB M (oneM f.net.pl.toNat f.dst)=true):C w9y [encF f,.agg [I 2,I k,ints w,I 0],I b] []=some (.bool true,[]):=by
 have hS:(oneM f.net.pl.toNat f.src).length=f.net.pl.toNat:=by simp[oneM]
 have hE:(oneM f.net.pl.toNat f.dst).length=f.net.pl.toNat:=by simp[oneM]
 have hp:=zjm hg
 have hgn:=zjy hp.1
 have hML:M.length=f.net.pl.toNat:=by rw[<-h3,zig,hS]
 have e1:=we9 f hg
 have e2:=wds f hg
 obtain⟨_,e3,X,rfl,hX⟩:=wcy f.net (oneM f.net.pl.toNat f.src) w hf (by omega) (by omega)
 rw[h1,if_pos rfl,h2]at e3
 rw[h1,if_pos rfl,h2,M'i,h3]at hX
 have e4:=wcn f.net M b (oneM f.net.pl.toNat f.dst) hf (by omega) (by omega)
 have e5:=we0 M (oneM f.net.pl.toNat f.dst) (by omega) (by omega)
 generalize oneM f.net.pl.toNat f.src=S at *
 generalize oneM f.net.pl.toNat f.dst=E at *
 rcases hk with rfl| rfl
 ·obtain⟨a1,a2⟩:=h4 rfl
  rw[a1]at e4
  simp only[a2,decide_false,P'e]at e4
  rcases hX with⟨rfl,-⟩|⟨rfl,-⟩
  ·refine w1e ?_
   simp(maxSteps:=9^9)(disch:=first|omega|(simp only[H'];try omega))only[wfw,go_sem,P'k,C',D',E']
   simp(maxSteps:=9^9)(disch:=first|omega|(simp only[H'];try omega))only[go_sem,P'k,C',D',E',e1,e2,e3,e4]
  ·refine w1e ?_
   simp(maxSteps:=9^9)(disch:=first|omega|(simp only[H'];try omega))only[wfw,go_sem,P'k,C',D',E']
   simp(maxSteps:=9^9)(disch:=first|omega|(simp only[H'];try omega))only[go_sem,P'k,C',D',E',e1,e2,e3,e4]
 ·rw[h5 rfl]at e5
  rcases hX with⟨rfl,-⟩|⟨rfl,-⟩
  ·refine w1e ?_
   simp(maxSteps:=9^9)(disch:=first|omega|(simp only[H'];try omega))only[wfw,go_sem,P'k,C',D',E']
   simp(maxSteps:=9^9)(disch:=first|omega|(simp only[H'];try omega))only[go_sem,P'k,C',D',E',e1,e2,e3,e5]
  ·refine w1e ?_
   simp(maxSteps:=9^9)(disch:=first|omega|(simp only[H'];try omega))only[wfw,go_sem,P'k,C',D',E']
   simp(maxSteps:=9^9)(disch:=first|omega|(simp only[H'];try omega))only[go_sem,P'k,C',D',E',e1,e2,e3,e5]
theorem wd5(f:Fl)(b o k d:Int)(w:List Int)(hg:zji f=true)(hf:smN f.net)(hb:inB 1 400 b=true)(h:C w9y [encF f,.agg [I o,I k,ints w,I d],I b] []=some (.bool true,[])):C w8z [encF f,.agg [I o,I k,ints w,I d],I b] []=some (.tup [.bool true,.bool true],[]):=by
 have e1:=wdw f b hf
 rw[hg,hb]at e1
 refine w0g ?_
 simp(maxSteps:=9^9)(disch:=first|omega|(simp only[H'];try omega))only[weu,go_sem,P'k,C',D',E']
 simp(maxSteps:=9^9)(disch:=first|omega|(simp only[H'];try omega))only[go_sem,P'k,C',D',E',e1,h]
theorem wct(f:Fl)(b:Int)(hf:smN f.net)(h:(zji f&&inB 1 400 b)=false):C w8p [encF f,I b] []=some (.tup [.agg [I 0,I 0,.nil true 1,I 0],.bool false],[]):=by
 have ha:=wdw f b hf
 rw[h]at ha
 refine w07 ?_
 simp(maxSteps:=9^9)(disch:=first|omega|(simp only[H'];try omega))only[wek,go_sem,P'k,C',D',E']
 simp(maxSteps:=9^9)(disch:=first|omega|(simp only[H'];try omega))only[go_sem,P'k,C',D',E',ha]
theorem laws_FnSound_ok(a b:List Int)(ha2:∀x∈a,0<=x/\x<256)(hb2:∀x∈b,0<=x/\x<256):C wa3 [bys a,bys b] []=some (.bool true,[]):=by
 refine w1j ?_
 simp(maxSteps:=9^9)(disch:=first|omega|(simp only[H'];try omega))only[wg1,go_sem,P'k,C',D',E']
 simp(maxSteps:=9^9)(disch:=first|omega|(simp only[H'];try omega))only[go_sem,P'k,C',D',E',wik]
 intro hbig
 simp only[Bool.or_eq_false_iff,decide_eq_false_iff_not]at hbig
 obtain⟨_,e1,f,bg,rfl,hsm,hb0,hb1⟩:=wjz a (by omega) ha2
 have hf:=hsm.smN
 have htl:f.net.tr.length<2^30:=by have:=hf.1;have:=hsm.1;omega
 obtain⟨r1,c1,hr1⟩:=wco f bg hf
 obtain⟨r2,c2,hr2⟩:=wjw f bg hf
 cases hgb:zji f&&inB 1 400 bg with
 |false=>
  have v1:=wct f bg hf hgb
  have v2:=wjx f bg hf hgb
  have hcB:certB f bg=false:=by unfold certB;rw[hgb];rfl
  have h1:r1=(.tup [.agg [.nil false 1,.nil true 1,.nil true 1],.bool false],[]):=by
   rcases hr1 with⟨_,h⟩|⟨h,_⟩
   ·exact h
   ·rw[hcB]at h;cases h
  have h2:r2=(.tup [.agg [.nil false 1,.nil true 1,.nil true 1],.bool false],[]):=by
   rcases hr2 with⟨_,h⟩|⟨h,_⟩
   ·exact h
   ·rw[hcB]at h;cases h
  subst h1 h2
  have s1:=wip 0 0 0 [] (by simp)
  have s2:=wim [] [] [] (by simp) (by simp) (by simp) (by simp)
  simp only[ints,rows,R'4]at s1 s2
  clear hr1 hr2 hgb hcB
  simp(maxSteps:=9^9)(disch:=first|omega|(simp only[H'];try omega))only[go_sem,P'k,C',D',E',e1,v1,v2,c1,c2,s1,s2,beq_self_eq_true,bne_self_eq_false]
 |true=>
  obtain⟨hg,hb⟩:=L'c ..▸hgb
  have v1:=wcu f bg hg hb hf
  have v2:=wjy f bg hg hb hf
  obtain⟨o,k,d,w,W,hV,ho,hk,hd,hw,hwl,hW⟩:=wlj f bg
  rw[hV]at v1 v2
  have s1:=wip o k d w (by omega)
  by_cases h1:o=1
  ·have hk1:(sndV f bg).ok=1:=by rw[<-ho];exact h1
   obtain⟨hcode,hchk⟩:=z1c9 hk1
   have hsv:sndV f bg=⟨1,0,[],0⟩:=by
    unfold sndV
    rw[if_pos hcode,hchk,if_pos (by simp)]
   rw[hsv]at hk hw hd
   have hk0:k=0:=hk
   have hcB:certB f bg=true:=by unfold certB;rw[hgb,P'e];simp[hk1]
   have g1:=hr1.resolve_left (fun h=>by rw[hcB]at h;cases h.1)
   have g2:=hr2.resolve_left (fun h=>by rw[hcB]at h;cases h.1)
   clear hr1 hr2
   obtain⟨-,S,R,hS,hR,rfl⟩:=g1
   obtain⟨-,S',R',hS',hR',rfl⟩:=g2
   rw[<-znq hS hS',<-znq hR hR']at c2
   have hT:=z103 hg hb hk1 hS hR
   clear hS hR hS' hR'
   generalize hms:(exAll f.net (oneM f.net.pl.toNat f.src) bg).sp.ms=ms at *
   obtain⟨⟨q1,q2⟩,q3,q4,q5,q6,q7,q8⟩:=zhs hT.form
   have hC0:=z8y.2 hT
   have hdr:=fun q=>@zde f _ q hT
   unfold certP at hC0 q1 q2 q3 q4 q7 hdr
   simp only at q1 q2 q3 q4 q7 hdr
   generalize sortT ms=T at *
   generalize vals ms S=A at *
   generalize vals ms R=B at *
   have hTl:∀y∈T,y.length<2^30:=fun y hy=>by have:=zjq (q7 y hy);omega
   have cc1:=wcs f ⟨T,A,B⟩ hg hf (by simp only;omega) (by simp only;omega) (by simp only;omega) (fun y hy=>by have:=hTl y hy;omega)
   rw[hC0]at cc1
   obtain⟨_,nn,x,rfl,hx0,hx1⟩:=wil b (by omega) hb2
   obtain⟨q,hq⟩:∃q:Nat,x.tmod (T.length:Int)=q:=⟨(x.tmod (T.length:Int)).toNat,by have:=R'7 (T.length:Int) hx0;omega⟩
   have hql:q<T.length:=by have:=R'8 x (show(0:Int)<T.length by omega);omega
   have hz:=hdr q hql
   have dm:=wcw T A B q hql q2 q3 q4 hTl
   have eT:(T.eraseIdx q).length=T.length-1:=by rw[R't,if_pos hql]
   have eA:(A.eraseIdx q).length=T.length-1:=by rw[R't,if_pos (by omega),q3]
   have eB:(B.eraseIdx q).length=T.length-1:=by rw[R't,if_pos (by omega),q4]
   have cc2:=wcs f (dropC ⟨T,A,B⟩ q) hg hf (by simp only[dropC];omega) (by simp only[dropC];omega) (by simp only[dropC];omega) (fun y hy=>by have:=hTl y (List.mem_of_mem_eraseIdx hy);omega)
   have s2:=wim T A B (by omega) (by omega) (by omega) (fun y hy=>by have:=hTl y hy;omega)
   have hbl:b.length<2^30:=by omega
   generalize certC f (dropC ⟨T,A,B⟩ q)=z at *
   unfold dropC at cc2
   simp only at cc2
   unfold drpPV at dm
   generalize T.eraseIdx q=T' at *
   generalize A.eraseIdx q=A' at *
   generalize B.eraseIdx q=B' at *
   clear hT hC0 hdr hms hgb hcB hV ho hk1 hcode hchk hsv q5 q6 q7 q8
   subst h1
   rcases hW with⟨rfl,hk12⟩|⟨rfl,-⟩
   ·omega
   ·have s1:=wip 1 k d [] (by simp)
    simp only[ints,R'4]at s1
    by_cases hn:T'=[]
    ·subst hn
     rw[if_pos rfl]at dm
     have hA':A'=[]:=N'8 (by rw[eA,<-eT];rfl)
     have hB':B'=[]:=N'8 (by rw[eB,<-eT];rfl)
     subst hA' hB'
     simp only[ints,rows,R'4]at cc2
     simp(maxSteps:=9^9)(disch:=first|omega|(simp only[H'];try omega))only[go_sem,P'k,C',D',E',e1,v1,v2,c1,c2,s1,s2,cc1,nn,hq,dm,cc2,hz,beq_self_eq_true,bne_self_eq_false]
    ·rw[if_neg hn]at dm
     simp(maxSteps:=9^9)(disch:=first|omega|(simp only[H'];try omega))only[go_sem,P'k,C',D',E',e1,v1,v2,c1,c2,s1,s2,cc1,nn,hq,dm,cc2,hz,beq_self_eq_true,bne_self_eq_false]
  ·have hcB:certB f bg=false:=by unfold certB;rw[hgb,P'e,<-ho];simp[h1]
   have g1:r1=(.tup [.agg [.nil false 1,.nil true 1,.nil true 1],.bool false],[]):=by
    rcases hr1 with⟨_,h⟩|⟨h,_⟩
    ·exact h
    ·rw[hcB]at h;cases h
   have g2:r2=(.tup [.agg [.nil false 1,.nil true 1,.nil true 1],.bool false],[]):=by
    rcases hr2 with⟨_,h⟩|⟨h,_⟩
    ·exact h
    ·rw[hcB]at h;cases h
   subst g1 g2
   have s2:=wim [] [] [] (by simp) (by simp) (by simp) (by simp)
   simp only[ints,rows,R'4]at s2
   by_cases h2:o=2
   ·have hsh:C w8z [encF f,.agg [I 2,I k,ints w,I d],I bg] []=some (.tup [.bool true,.bool true],[]):=by
     refine wd5 f bg 2 k d w hg hf hb ?_
     rcases z102 hg hb (by rw[<-ho];exact h2)with⟨p1,p2,p3,p4⟩|⟨p1,p2,p3,p4,M,p5,p6,p7⟩
     ·rw[<-hk]at p1;rw[<-hw]at p2;rw[<-hd]at p4
      rw[p1,p2]
      exact we6 f bg d hg hf hb p3 p4
     ·rw[<-hk]at p1 p6 p7;rw[<-hw]at p3 p4 p5;rw[<-hd]at p2
      rw[p2]
      refine we7 f bg k w M p1 hg hf (by omega) p3 p4 p5 (fun h=>?_) p7
      obtain⟨z1,z2,z3,z4⟩:=p6 h
      exact⟨by simp[whole,z1,z2,z3],z4⟩
    subst h2
    have hw0:¬(k=1\/k=2)->w=[]:=fun h=>by
     rcases z102 hg hb ho.symm with⟨p1,p2,_⟩|⟨p1,_⟩
     ·rw[hw];exact p2
     ·rw[<-hk]at p1;exact absurd p1 h
    clear hr1 hr2 hgb hcB hV ho hk hd hw
    rcases hW with⟨rfl,-⟩|⟨rfl,hk12⟩
    ·simp(maxSteps:=9^9)(disch:=first|omega|(simp only[H'];try omega))only[go_sem,P'k,C',D',E',e1,v1,v2,c1,c2,s1,s2,hsh,beq_self_eq_true,bne_self_eq_false]
    ·have hw1:=hw0 hk12
     subst hw1
     simp only[ints,R'4]at s1 hsh
     simp(maxSteps:=9^9)(disch:=first|omega|(simp only[H'];try omega))only[go_sem,P'k,C',D',E',e1,v1,v2,c1,c2,s1,s2,hsh,beq_self_eq_true,bne_self_eq_false]
   ·clear hr1 hr2 hgb hcB hV ho hk hd hw
    rcases hW with⟨rfl,-⟩|⟨rfl,hk12⟩
    ·simp(maxSteps:=9^9)(disch:=first|omega|(simp only[H'];try omega))only[go_sem,P'k,C',D',E',e1,v1,v2,c1,c2,s1,s2,h1,h2,beq_self_eq_true,bne_self_eq_false]
    ·have s1:=wip o k d [] (by simp)
     simp only[ints,R'4]at s1
     simp(maxSteps:=9^9)(disch:=first|omega|(simp only[H'];try omega))only[go_sem,P'k,C',D',E',e1,v1,v2,c1,c2,s1,s2,h1,h2,beq_self_eq_true,bne_self_eq_false]
end Go.Proofs.YtbaclnecajkknaaGreat.Pi

