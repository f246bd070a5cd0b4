/- The functions that the law reaches: what they answer. Conditions: those that each theorem names. -/
import Derived.Test.YtbaclnecajkknaaGreatIrFnReduced
import Derived.Test.YtbaclnecajkknaaGreatPlFnReduced
import Derived.Test.YtbaclnecajkknaaGreatFnFnReduced0
namespace Go.Proofs.YtbaclnecajkknaaGreat.Pi
open Go
set_option linter.all false
open Nat (reduceAdd reduceEqDiff reduceLeDiff reduceSub)
set_option maxHeartbeats 40000000
set_option maxRecDepth 20000
theorem wg2(f:Fl)(q tq:Int)(hf:smF f)(hq:0≤q∧q<f.net.pl)(hqs:q≠f.src)(hqd:q≠f.dst)(htq : -1≤tq∧tq<100):C w9d [encF f,I q,I tq] []=some (.agg [I (f.net.pl-1),resU wgz ((keepT f.net.tr tq f.net.tr.length).map (dropT q)),I (lessP q f.src),I (lessP q f.dst)],[]):=by
 obtain⟨⟨hp1,hp2⟩,hn,hs,hd,hT⟩:=hf
 obtain⟨P,hP⟩ : ∃ P:Nat,f.net.pl=P:=⟨f.net.pl.toNat,by omega⟩
 refine w2g ?_
 simp (maxSteps:=2000000) (disch:=first|omega|(simp only[lenS];try omega)) only[we8,go_sem,reduceAdd,reduceEqDiff,reduceLeDiff,reduceSub]
 rw[show f.net.pl.toNat=P by omega]
 refine W_for P (fun k st=>st=⟨[.any,I q,I tq,.ptr 0 0,.ptr 1 0,.ref 2 1 0 P,.ptr 3 0,.any,.any,.any,.any,.any,.any,I P,I k,.any,.any,.any,.any,.any,.any,.any,.any,.any,.any,.any,.any,.any,.any,.any,.any,.any],[.box wgw [I f.net.pl,trs f.net.tr,I f.src,I f.dst],.box wgw [I 0,.nil false 3,I 0,I 0],.row t_int true 1 ((atP q P k).map I),.box wgw [I (cntQ q k),.nil false 3,I 0,I 0]]⟩) ?_ ?_ ?_
 ·simp (maxSteps:=2000000) (disch:=first|omega|(simp only[lenS];try omega)) only[go_sem,reduceAdd,reduceEqDiff,reduceLeDiff,reduceSub,z4f]
  rw[List.map_replicate,show cntQ q 0=0 by unfold cntQ;rw[if_neg (by omega)];rfl]
  rfl
 ·rintro k st hk rfl
  have h1:=z4d (q:=q) (n:=P) (k:=k) (by omega)
  have h2:=z4e (q:=q) hk
  have h3:0≤cntQ q k∧cntQ q k≤k:=by unfold cntQ;split<;>omega
  rw[←h2,zaq]
  by_cases hkq:(k:Int)=q
  ·rw[if_pos hkq,show atV q k = -1 by unfold atV;rw[if_pos hkq]]
   generalize atP q P k=A at *
   generalize cntQ q k=c at *
   simp (maxSteps:=2000000) (disch:=first|omega|(simp only[lenS];try omega)) only[go_sem,reduceAdd,reduceEqDiff,reduceLeDiff,reduceSub,h1,hkq]
   rw[show q.toNat=k by omega,show((k+1:Nat):Int)=q+1 by omega]
  ·rw[if_neg hkq,z4g hkq]
   generalize atP q P k=A at *
   generalize cntQ q k=c at *
   simp (maxSteps:=2000000) (disch:=first|omega|(simp only[lenS];try omega)) only[go_sem,reduceAdd,reduceEqDiff,reduceLeDiff,reduceSub,h1,hkq,List.set_set]
   rfl
 ·rintro st rfl
  have h1:=z4d (q:=q) (n:=P) (k:=P) (by omega)
  have hA:=fun(p:Int)=>z4c (q:=q) (p:=p) (n:=P)
  have hAb:=z4b (q:=q) (n:=P) hq.1
  have hc:cntQ q P=f.net.pl-1:=by unfold cntQ;rw[if_pos (by omega)];omega
  rw[hc]
  generalize atP q P P=A at *
  simp (maxSteps:=2000000) (disch:=first|omega|(simp only[lenS];try omega)) only[go_sem,reduceAdd,reduceEqDiff,reduceLeDiff,reduceSub,h1]
  refine W_for f.net.tr.length (fun i st=>st=⟨[.any,I q,I tq,.ptr 0 0,.ptr 1 0,.ref 2 1 0 P,.ptr 3 0,.any,.any,.any,.any,.any,.any,.any,.any,.any,.any,trs f.net.tr,I f.net.tr.length,I i,.any,.any,.any,.any,.any,.any,.any,.any,.any,.any,.any,.any],[.box wgw [I f.net.pl,trs f.net.tr,I f.src,I f.dst],.box wgw [I 0,.nil false 3,I 0,I 0],.row t_int true 1 (A.map I),.box wgw [I (f.net.pl-1),cellT 4 ((keepT f.net.tr tq i).map (dropT q)),I 0,I 0]]++blkT wgz ((keepT f.net.tr tq i).map (dropT q))⟩) ?_ ?_ ?_
  ·simp (maxSteps:=2000000) (disch:=first|omega|(simp only[lenS];try omega)) only[go_sem,reduceAdd,reduceEqDiff,reduceLeDiff,reduceSub]
   rw[znw]
   rfl
  ·rintro i st hi rfl
   obtain⟨hlen,hplI,hplO⟩:=hT _ (List.getElem_mem hi)
   have hrst:=hlen.2.2
   have hplc:=And.intro hplI hplO
   have hti:f.net.tr[i]? = some f.net.tr[i]:=List.getElem?_eq_getElem hi
   have hkl:=zns f.net.tr tq i
   have hlL:((keepT f.net.tr tq i).map (dropT q)).length≤i:=by rw[List.length_map];exact hkl
   by_cases hit:(i:Int)=tq
   ·rw[znv hi hit]
    generalize (keepT f.net.tr tq i).map (dropT q)=L at *
    by_cases hL:L=[]
    all_goals
     simp only[cellT,blkT,cellI,blkI,hL,reduceIte,List.append_nil,List.nil_append,List.cons_append,Nat.add_zero,Nat.zero_add,Nat.reduceAdd]
     simp (maxSteps:=2000000) (disch:=first|omega|(simp only[lenS];try omega)) only[go_sem,reduceAdd,reduceEqDiff,reduceLeDiff,reduceSub,hti,hit]
     first
      | rfl
      | (rw[show((i+1:Nat):Int)=tq+1 by omega])
   have hne:(keepT f.net.tr tq (i+1)).map (dropT q)≠[]:=by rw[znt hi hit];simp
   have hsn:(keepT f.net.tr tq (i+1)).map (dropT q)=(keepT f.net.tr tq i).map (dropT q)++[dropT q f.net.tr[i]]:=by rw[znt hi hit,List.map_append];rfl
   rw[z8j hne,z6w hne,hsn]
   generalize (keepT f.net.tr tq i).map (dropT q)=L at *
   generalize f.net.tr[i]=t at *
   unfold dropT
   rw[hrst,zcl]
   by_cases hL:L=[]
   all_goals
    simp only[cellT,blkT,cellI,blkI,hL,reduceIte,List.append_nil,List.nil_append,List.cons_append,Nat.add_zero,Nat.zero_add,Nat.reduceAdd]
    simp (maxSteps:=2000000) (disch:=first|omega|(simp only[lenS];try omega)) only[go_sem,reduceAdd,reduceEqDiff,reduceLeDiff,reduceSub,hti,hrst,hit]
    refine W_for t.inn.length (fun j st=>st=⟨[.any,I q,I tq,.ptr 0 0,.ptr 1 0,.ref 2 1 0 P,.ptr 3 0,.any,.any,.ptr 4 0,.ptr 5 0,.any,.any,.any,.any,.any,.any,trs f.net.tr,I f.net.tr.length,I i,.any,.any,ints t.inn,I t.inn.length,I j,.any,.any,.any,.any,.any,.any,.any],[.box wgw [I f.net.pl,trs f.net.tr,I f.src,I f.dst],.box wgw [I 0,.nil false 3,I 0,I 0],.row t_int true 1 (A.map I),.box wgw [I (f.net.pl-1),cellT 6 L,I 0,I 0],.box wgz [ints t.inn,ints t.out,.sl true 1 []],.box wgz [cellI (if L=[] then 6 else 7) (dropL q (t.inn.take j)),.nil true 1,.nil true 1]]++blkT wgz L++blkI t_int (dropL q (t.inn.take j))⟩) ?_ ?_ ?_
    ·simp (maxSteps:=2000000) (disch:=first|omega|(simp only[lenS];try omega)) only[go_sem,reduceAdd,reduceEqDiff,reduceLeDiff,reduceSub]
     simp only[List.take_zero,zcl]
     simp only[cellT,blkT,cellI,blkI,hL,reduceIte,List.append_nil,List.nil_append,List.cons_append,Nat.add_zero,Nat.zero_add,Nat.reduceAdd]
     rfl
    ·rintro j st hj rfl
     have hx:=hplc.1 _ (List.getElem_mem hj)
     have hA1:=hA t.inn[j] hx.1 (by omega)
     have hl2:=zci q (t.inn.take j)
     rw[List.length_take] at hl2
     have hAv:A[t.inn[j].toNat]'(by omega)=atV q t.inn[j]:=by rw[List.getElem?_eq_getElem (by omega)] at hA1;exact Option.some.inj hA1
     rw[zcn hj]
     generalize dropL q (t.inn.take j)=V at *
     by_cases hxq:t.inn[j]=q
     ·rw[if_pos hxq]
      by_cases hV:V=[]
      all_goals
       simp only[cellT,blkT,cellI,blkI,hL,hV,reduceIte,List.append_nil,List.nil_append,List.cons_append,Nat.add_zero,Nat.zero_add,Nat.reduceAdd]
       simp (maxSteps:=2000000) (disch:=first|omega|(simp only[lenS];try omega)) only[go_sem,reduceAdd,reduceEqDiff,reduceLeDiff,reduceSub,hxq]
       first | rfl | (simp;done) | (rw[List.map_append,List.length_append];rfl)
     ·rw[if_neg hxq]
      have e3:atV q t.inn[j]=lessP q t.inn[j]:=by unfold atV;rw[if_neg hxq]
      rw[e3] at hAv
      have hVn:V++[lessP q t.inn[j]]≠[]:=by simp
      by_cases hV:V=[]
      all_goals
       simp only[cellT,blkT,cellI,blkI,hL,hV,hVn,reduceIte,List.append_nil,List.nil_append,List.cons_append,Nat.add_zero,Nat.zero_add,Nat.reduceAdd]
       simp (maxSteps:=2000000) (disch:=first|omega|(simp only[lenS];try omega)) only[go_sem,reduceAdd,reduceEqDiff,reduceLeDiff,reduceSub,hxq,hAv]
       first | rfl | (simp;done) | (rw[List.map_append,List.length_append];rfl)
    ·rintro st rfl
     rw[List.take_length]
     have hVl:=zci q t.inn
     generalize dropL q t.inn=V at *
     by_cases hV:V=[]
     all_goals
      simp only[cellT,blkT,cellI,blkI,hL,hV,reduceIte,List.append_nil,List.nil_append,List.cons_append,Nat.add_zero,Nat.zero_add,Nat.reduceAdd]
      simp (maxSteps:=2000000) (disch:=first|omega|(simp only[lenS];try omega)) only[go_sem,reduceAdd,reduceEqDiff,reduceLeDiff,reduceSub]
      refine W_for t.out.length (fun j st=>st=⟨[.any,I q,I tq,.ptr 0 0,.ptr 1 0,.ref 2 1 0 P,.ptr 3 0,.any,.any,.any,.ptr 4 0,.any,.any,.any,.any,.any,.any,trs f.net.tr,I f.net.tr.length,I i,.any,.any,.any,.any,.any,.any,.any,ints t.out,I t.out.length,I j,.any,.any],[.box wgw [I f.net.pl,trs f.net.tr,I f.src,I f.dst],.box wgw [I 0,.nil false 3,I 0,I 0],.row t_int true 1 (A.map I),.box wgw [I (f.net.pl-1),cellT 5 L,I 0,I 0],.box wgz [cellI (if L=[] then 5 else 6) V,cellI ((if L=[] then 5 else 6)+(if V=[] then 0 else 1)) (dropL q (t.out.take j)),.nil true 1]]++blkT wgz L++blkI t_int V++blkI t_int (dropL q (t.out.take j))⟩) ?_ ?_ ?_
      ·simp (maxSteps:=2000000) (disch:=first|omega|(simp only[lenS];try omega)) only[go_sem,reduceAdd,reduceEqDiff,reduceLeDiff,reduceSub]
       simp only[List.take_zero,zcl]
       simp only[cellT,blkT,cellI,blkI,hL,hV,reduceIte,List.append_nil,List.nil_append,List.cons_append,Nat.add_zero,Nat.zero_add,Nat.reduceAdd]
       rfl
      ·rintro j st hj rfl
       have hx:=hplc.2 _ (List.getElem_mem hj)
       have hA1:=hA t.out[j] hx.1 (by omega)
       have hl2:=zci q (t.out.take j)
       rw[List.length_take] at hl2
       have hAv:A[t.out[j].toNat]'(by omega)=atV q t.out[j]:=by rw[List.getElem?_eq_getElem (by omega)] at hA1;exact Option.some.inj hA1
       rw[zcn hj]
       generalize dropL q (t.out.take j)=W at *
       by_cases hxq:t.out[j]=q
       ·rw[if_pos hxq]
        by_cases hW:W=[]
        all_goals
         simp only[cellT,blkT,cellI,blkI,hL,hV,hW,reduceIte,List.append_nil,List.nil_append,List.cons_append,Nat.add_zero,Nat.zero_add,Nat.reduceAdd]
         simp (maxSteps:=2000000) (disch:=first|omega|(simp only[lenS];try omega)) only[go_sem,reduceAdd,reduceEqDiff,reduceLeDiff,reduceSub,hxq]
         first | rfl | (simp;done) | (rw[List.map_append,List.length_append];rfl)
       ·rw[if_neg hxq]
        have e3:atV q t.out[j]=lessP q t.out[j]:=by unfold atV;rw[if_neg hxq]
        rw[e3] at hAv
        have hWn:W++[lessP q t.out[j]]≠[]:=by simp
        by_cases hW:W=[]
        all_goals
         simp only[cellT,blkT,cellI,blkI,hL,hV,hW,hWn,reduceIte,List.append_nil,List.nil_append,List.cons_append,Nat.add_zero,Nat.zero_add,Nat.reduceAdd]
         simp (maxSteps:=2000000) (disch:=first|omega|(simp only[lenS];try omega)) only[go_sem,reduceAdd,reduceEqDiff,reduceLeDiff,reduceSub,hxq,hAv]
         first | rfl | (simp;done) | (rw[List.map_append,List.length_append];rfl)
      ·rintro st rfl
       rw[List.take_length]
       have hWl:=zci q t.out
       generalize dropL q t.out=W at *
       by_cases hW:W=[]
       all_goals
        simp only[cellT,blkT,cellI,blkI,hL,hV,hW,reduceIte,List.append_nil,List.nil_append,List.cons_append,Nat.add_zero,Nat.zero_add,Nat.reduceAdd]
        simp (maxSteps:=2000000) (disch:=first|omega|(simp only[lenS];try omega)) only[go_sem,reduceAdd,reduceEqDiff,reduceLeDiff,reduceSub]
        first | rfl | (simp;done) | (rw[List.map_append,List.length_append];rfl)
  ·rintro st rfl
   have hkl:=zns f.net.tr tq f.net.tr.length
   have g1:=hA f.src hs.1 (by omega)
   have g2:=hA f.dst hd.1 (by omega)
   rw[show atV q f.src=lessP q f.src by unfold atV;rw[if_neg (Ne.symm hqs)]] at g1
   rw[show atV q f.dst=lessP q f.dst by unfold atV;rw[if_neg (Ne.symm hqd)]] at g2
   have k1:A[f.src.toNat]'(by omega)=lessP q f.src:=by rw[List.getElem?_eq_getElem (by omega)] at g1;exact Option.some.inj g1
   have k2:A[f.dst.toNat]'(by omega)=lessP q f.dst:=by rw[List.getElem?_eq_getElem (by omega)] at g2;exact Option.some.inj g2
   have hlL:((keepT f.net.tr tq f.net.tr.length).map (dropT q)).length≤24:=by rw[List.length_map];omega
   generalize (keepT f.net.tr tq f.net.tr.length).map (dropT q)=L at *
   unfold resU
   by_cases hL:L=[]
   all_goals
    simp only[cellT,blkT,hL,reduceIte,List.append_nil,List.nil_append,List.cons_append]
    simp (maxSteps:=2000000) (disch:=first|omega|(simp only[lenS];try omega)) only[go_sem,reduceAdd,reduceEqDiff,reduceLeDiff,reduceSub,k1,k2]
theorem wg4(f:Fl)(q:Int)(hg:ziu f=true)(hr:hasR f.net=false)(hq:0≤q∧q<f.net.pl)(hqs:q≠f.src)(hqd:q≠f.dst):C w9d [encF f,I q,I (-1)] []=some (.agg [I (dropF f q).net.pl,.un wgz false 3 ((dropF f q).net.tr.map encT),I (dropF f q).src,I (dropF f q).dst],[]):=by
 have h:=wg2 f q (-1) (z1an hg hr) hq hqs hqd (by omega)
 rw[znu,z15v (by simpa using ziw hg)] at h
 exact h
theorem wg0(f:Fl)(hg:ziu f=true)(hr:hasR f.net=false):C w9b [encF f] []=some (.tup [match resFT f with | some p=>.agg [I (f.net.pl-1),.un wgz false 3 (((zi6 f p).map (dropT p)).map encT),I (lessP p f.src),I (lessP p f.dst)] | none=>.agg [I 0,.nil false 3,I 0,I 0],.bool (resFT f).isSome],[]):=by
  obtain⟨hgn,hs,hd,-,-,-,-⟩:=ziy hg
  obtain⟨hp1,hp2,hn,hT⟩:=zja hgn
  obtain⟨P,hP⟩ : ∃ P:Nat,f.net.pl=P:=⟨f.net.pl.toNat,by omega⟩
  have hsm:=z1an hg hr
  have hlens : ∀ u∈f.net.tr,u.inn.length≤16∧u.out.length≤16:=fun u hu=>by have:=zjg (hT u hu) ⟨by omega,hp2⟩;omega
  have hk2 : ∀ p:Int,(idxL (fun t=>hasB t.inn p) f.net).length≤24:=fun p=>Nat.le_trans (zki _ _ _) hn
  have hg3 : ∀ p:Int,(idxL (fun t=>hasB t.out p) f.net).length≤24:=fun p=>Nat.le_trans (zki _ _ _) hn
  refine w2e ?_
  simp (maxSteps:=2000000) (disch:=first|omega|(simp only[lenS];try omega)) only[we6,go_sem,reduceAdd,reduceEqDiff,reduceLeDiff,reduceSub]
  refine W_for P (fun i st=>st=⟨[.any,.ptr 0 0,.ptr 1 0,.any,I i,.any,.any,.any,.any,.any,.any,.any,.any,.any,.any,.any,.any,.any,.any],[.box wgw [I f.net.pl,trs f.net.tr,I f.src,I f.dst],.box wgw [I 0,.nil false 3,I 0,I 0]]⟩∧∀ j,j<i→okFT f j=false) ?_ ?_ ?_
  · simp (maxSteps:=2000000) (disch:=first|omega|(simp only[lenS];try omega)) only[go_sem,reduceAdd,reduceEqDiff,reduceLeDiff,reduceSub]
    exact⟨rfl,fun q' h=>by omega⟩
  · rintro i st hi ⟨rfl,hall⟩
    have next:okFT f i=false→∀ j,j<i+1→okFT f j=false:=by
      intro h j hj
      rcases Nat.lt_or_ge j i with h5 | h5
      · exact hall j h5
      · rw[show j=i by omega];exact h
    have s1:=wg1 f i
    have t1:=wgo f.net i hgn
    have u1:=wgl f.net i hgn
    unfold encF at s1
    have w1:=hk2 i
    have w3:=hg3 i
    cases b1:zmq f (i:Int) with
    | false =>
      rw[b1] at s1
      simp (maxSteps:=2000000) (disch:=first|omega|(simp only[lenS];try omega)) only[go_sem,reduceAdd,reduceEqDiff,reduceLeDiff,reduceSub,s1,t1,u1]
      exact⟨rfl,next (zvv b1)⟩
    | true =>
      rw[b1] at s1
      by_cases hG:(idxL (fun t=>hasB t.out (i:Int)) f.net).length=1
      case neg =>
        have nx:=next (zvu hG)
        generalize idxL (fun t=>hasB t.out (i:Int)) f.net=G at *
        simp (maxSteps:=2000000) (disch:=first|omega|(simp only[lenS];try omega)) only[go_sem,reduceAdd,reduceEqDiff,reduceLeDiff,reduceSub,s1,t1,u1]
        exact⟨rfl,nx⟩
      by_cases hK:(idxL (fun t=>hasB t.inn (i:Int)) f.net).length=1
      case neg =>
        have nx:=next (zvx hK)
        generalize idxL (fun t=>hasB t.out (i:Int)) f.net=G at *
        generalize idxL (fun t=>hasB t.inn (i:Int)) f.net=K at *
        simp (maxSteps:=2000000) (disch:=first|omega|(simp only[lenS];try omega)) only[go_sem,reduceAdd,reduceEqDiff,reduceLeDiff,reduceSub,s1,t1,u1]
        exact⟨rfl,nx⟩
      obtain⟨g,hgl,hG1⟩:=zkl hG
      obtain⟨t,htl,hK1⟩:=zkl hK
      rw[hG1] at u1
      rw[hK1] at t1
      by_cases hgt:g=t
      · subst hgt
        have nx:=next (zvw hG1 hK1)
        simp (maxSteps:=2000000) (disch:=first|omega|(simp only[lenS];try omega)) only[go_sem,reduceAdd,reduceEqDiff,reduceLeDiff,reduceSub,Int.toNat_zero,List.getElem_cons_zero,s1,t1,u1]
        exact⟨rfl,nx⟩
      have hokE:=zvt b1 hG1 hK1 hgt
      have hfuE:=zi7 (f:=f) (p:=i) hG1 hK1
      have lA:=hlens _ (List.getElem_mem hgl)
      have lB:=hlens _ (List.getElem_mem htl)
      have hm:=wgm f.net.tr[g].out f.net.tr[t].out (by omega) (by omega)
      have egl:f.net.tr[g]? = some f.net.tr[g]:=List.getElem?_eq_getElem hgl
      have etl:f.net.tr[t]? = some f.net.tr[t]:=List.getElem?_eq_getElem htl
      unfold okAB at hokE
      rw[z1f3 hgl,z1f3 htl] at hokE hfuE
      by_cases c1:f.net.tr[t].inn.length=1
      case neg =>
        simp (maxSteps:=2000000) (disch:=first|omega|(simp only[lenS];try omega)) only[go_sem,reduceAdd,reduceEqDiff,reduceLeDiff,reduceSub,Int.toNat_zero,List.getElem_cons_zero,s1,t1,u1,egl,etl]
        exact⟨rfl,next (by rw[hokE];simp [c1])⟩
      by_cases c2:f.net.tr[t].out.length=0
      case pos =>
        simp (maxSteps:=2000000) (disch:=first|omega|(simp only[lenS];try omega)) only[go_sem,reduceAdd,reduceEqDiff,reduceLeDiff,reduceSub,Int.toNat_zero,List.getElem_cons_zero,s1,t1,u1,egl,etl,c1,c2]
        exact⟨rfl,next (by rw[hokE];simp [c2])⟩
      cases c3:meetB f.net.tr[g].out f.net.tr[t].out with
      | true =>
        rw[c3] at hm
        simp (maxSteps:=2000000) (disch:=first|omega|(simp only[lenS];try omega)) only[go_sem,reduceAdd,reduceEqDiff,reduceLeDiff,reduceSub,Int.toNat_zero,List.getElem_cons_zero,s1,t1,u1,egl,etl,c1,c2,hm]
        exact⟨rfl,next (by rw[hokE,c3];simp)⟩
      | false =>
        rw[c3] at hm
        have hok:okFT f i=true:=by rw[hokE,c3];simp [c1,c2]
        have hres:resFT f=some i:=zgv (by omega) hall hok
        have hown:=wgs f.net hgn (by intro e;rw[e] at hgl;simp at hgl)
        have hwo:C wa0 [.sl true 1 (f.net.tr[g].out.map I),.sl true 1 [I (i:Int)]] []=some (.un t_int true 1 ((wout f.net.tr[g].out [(i:Int)]).map I),[]):=wgt f.net.tr[g].out [(i:Int)] (by omega) (by simp)
        have hlv:=wg2 ⟨⟨f.net.pl,f.net.tr.set g (mixT f.net.tr[g] f.net.tr[t] i)⟩,f.src,f.dst⟩ i t (by rw[←z1f3 hgl,←z1f3 htl];exact z1am hsm hlens hgl htl) ⟨by omega,by show(i:Int)<f.net.pl;omega⟩ (by intro e;simp [zmq,e] at b1) (by intro e;simp [zmq,e] at b1) (by omega)
        simp (maxSteps:=2000000) (disch:=first|omega|(simp only[lenS];try omega)) only[go_sem,reduceAdd,reduceEqDiff,reduceLeDiff,reduceSub,Int.toNat_zero,List.getElem_cons_zero,s1,t1,u1,egl,etl,c1,c2,hm,hown,hwo]
        refine W_for f.net.tr[t].out.length (fun k st=>st=⟨[.any,.any,.ptr 0 0,.any,I i,.ref 1 1 0 1,.ref 2 1 0 1,.any,.any,.ptr 3 0,.ref 4 1 0 (z1fq (wout f.net.tr[g].out [(i:Int)]) (f.net.tr[t].out.take k)).length,.any,.any,.any,.any,ints f.net.tr[t].out,I f.net.tr[t].out.length,I k,.any],[.box wgw [I 0,.nil false 3,I 0,I 0],.row t_int true 1 [I g],.row t_int true 1 [I t],.box wgw [I f.net.pl,.ref 5 3 0 f.net.tr.length,I f.src,I f.dst],.row t_int true 1 ((z1fq (wout f.net.tr[g].out [(i:Int)]) (f.net.tr[t].out.take k)).map I),.row wgz false 3 (f.net.tr.map encT)]⟩) ?_ ?_ ?_
        · simp (maxSteps:=2000000) (disch:=first|omega|(simp only[lenS];try omega)) only[go_sem,reduceAdd,reduceEqDiff,reduceLeDiff,reduceSub]
          rfl
        · rintro k st hk rfl
          have h7:=z1fr (l:=wout f.net.tr[g].out [(i:Int)]) (b:=f.net.tr[t].out.take k)
          have h8:(wout f.net.tr[g].out [(i:Int)]).length≤f.net.tr[g].out.length:=by unfold wout;exact List.length_filter_le _ _
          rw[List.length_take] at h7
          rw[z1fv hk]
          have ek:f.net.tr[t].out[k]? = some f.net.tr[t].out[k]:=List.getElem?_eq_getElem hk
          generalize z1fq (wout f.net.tr[g].out [(i:Int)]) (f.net.tr[t].out.take k)=L at *
          obtain⟨_,e3,rfl | ⟨rfl,e4⟩⟩:=wgh L f.net.tr[t].out[k] (by omega)
          · simp (maxSteps:=2000000) (disch:=first|omega|(simp only[lenS];try omega)) only[go_sem,reduceAdd,reduceEqDiff,reduceLeDiff,reduceSub,e3,ek]
            first | done | rfl
          · rw[e4]
            simp (maxSteps:=2000000) (disch:=first|omega|(simp only[lenS];try omega)) only[go_sem,reduceAdd,reduceEqDiff,reduceLeDiff,reduceSub,e3,ek]
            first | done | rfl
        · rintro st rfl
          rw[List.take_length]
          have hL:z1fq (wout f.net.tr[g].out [(i:Int)]) f.net.tr[t].out=mixO f.net.tr[g].out f.net.tr[t].out i:=rfl
          have h7:=zss f.net.tr[g].out f.net.tr[t].out (i:Int)
          rw[hL]
          rw[hres]
          have h2:2≤f.net.tr.length:=by omega
          have hne:(((f.net.tr.set g (mixT f.net.tr[g] f.net.tr[t] i)).eraseIdx t).map (dropT i))≠[]:=by
            intro e
            have:=congrArg List.length e
            rw[List.length_map,List.length_eraseIdx_of_lt (by simpa using htl),List.length_set,List.length_nil] at this
            omega
          rw[znr _ (by simp only[List.length_set];omega),z15v (by rw[show((t:Nat):Int).toNat=t from rfl];exact hne),show((t:Nat):Int).toNat=t from rfl] at hlv
          unfold mixT at hlv hfuE
          generalize mixO f.net.tr[g].out f.net.tr[t].out (i:Int)=L at *
          unfold encF trs at hlv
          rw[List.map_set] at hlv
          have hlv2:C w9d [.agg [I f.net.pl,.sl false 3 ((f.net.tr.map encT).set g (.agg [ints f.net.tr[g].inn,ints L,ints f.net.tr[g].rst])),I f.src,I f.dst],I i,I t] []=_:=hlv
          simp (maxSteps:=2000000) (disch:=first|omega|(simp only[lenS];try omega)) only[go_sem,reduceAdd,reduceEqDiff,reduceLeDiff,reduceSub,Int.toNat_zero,List.getElem_cons_zero,egl,hlv2]
          rw[hfuE]
          first | done | rfl
  · rintro st ⟨rfl,hall⟩
    have hres:resFT f=none:=zgu (fun q h=>hall q (by omega))
    rw[hres]
    simp (maxSteps:=2000000) (disch:=first|omega|(simp only[lenS];try omega)) only[go_sem,reduceAdd,reduceEqDiff,reduceLeDiff,reduceSub]
    rfl
theorem wfq(f:Fl)(hn:smN f.net):C w92 [encF f] []=some (.tup [match zi0 f with | some g=>.agg [I g.net.pl,.un wgz false 3 (g.net.tr.map encT),I g.src,I g.dst] | none=>.agg [I 0,.nil false 3,I 0,I 0],.bool (zi0 f).isSome],[]):=by
  have hA:=wfw f hn
  unfold encF at hA
  refine w25 ?_
  simp (maxSteps:=2000000) (disch:=first|omega|(simp only[lenS];try omega)) only[wdx,go_sem,reduceAdd,reduceEqDiff,reduceLeDiff,reduceSub]
  cases ho:okRed f with
  | false =>
    simp (maxSteps:=2000000) (disch:=first|omega|(simp only[lenS];try omega)) only[go_sem,reduceAdd,reduceEqDiff,reduceLeDiff,reduceSub,hA,ho]
    simp [zi0,ho]
  | true =>
    have ho':=ho
    simp only[okRed,Bool.and_eq_true,Bool.not_eq_true'] at ho'
    have hD:=wg0 f ho'.1 ho'.2
    unfold encF at hD
    have e:zi0 f=(resFT f).map fun(q:Nat)=>zpm f (zi6 f q) (q:Int):=by simp [zi0,ho]
    rw[e]
    cases hq:resFT f with
    | none =>
      rw[hq] at hD
      simp only[Option.isSome_none] at hD
      simp (maxSteps:=2000000) (disch:=first|omega|(simp only[lenS];try omega)) only[go_sem,reduceAdd,reduceEqDiff,reduceLeDiff,reduceSub,hA,ho,hD]
      rfl
    | some q =>
      rw[hq] at hD
      simp only[Option.isSome_some] at hD
      simp (maxSteps:=2000000) (disch:=first|omega|(simp only[lenS];try omega)) only[go_sem,reduceAdd,reduceEqDiff,reduceLeDiff,reduceSub,hA,ho,hD]
      rfl
theorem wfv(f:Fl)(p q:Int)(hl:f.net.tr.length<2^62)(ht : ∀ t∈f.net.tr,t.out.length<2^62):C w96 [encF f,I p,I q] []=some (.bool (!(f.net.tr.any fun u=>hasB u.out p&&hasB u.out q)),[]):=by
  refine w29 ?_
  simp (maxSteps:=2000000) (disch:=first|omega|(simp only[lenS];try omega)) only[we1,go_sem,reduceAdd,reduceEqDiff,reduceLeDiff,reduceSub]
  refine W_for f.net.tr.length (fun k st=>st=⟨[.any,I p,I q,.any,.any,.any,trs f.net.tr,I f.net.tr.length,I k,.any,.any],[]⟩∧∀ j,j<k→(hasB (trN f.net j).out p&&hasB (trN f.net j).out q)=false) ?_ ?_ ?_
  · simp (maxSteps:=2000000) (disch:=first|omega|(simp only[lenS];try omega)) only[go_sem,reduceAdd,reduceEqDiff,reduceLeDiff,reduceSub]
    exact⟨rfl,fun q' h=>by omega⟩
  · rintro k st hk ⟨rfl,hall⟩
    have h1:=wgc f.net.tr[k].out p (ht _ (List.getElem_mem hk))
    have h2:=wgc f.net.tr[k].out q (ht _ (List.getElem_mem hk))
    have next:(hasB f.net.tr[k].out p&&hasB f.net.tr[k].out q)=false→∀ j,j<k+1→(hasB (trN f.net j).out p&&hasB (trN f.net j).out q)=false:=by
      intro h j hj
      rcases Nat.lt_or_ge j k with h5 | h5
      · exact hall j h5
      · rw[show j=k by omega,z1f3 hk];exact h
    cases b1:hasB f.net.tr[k].out p with
    | false =>
      simp (maxSteps:=2000000) (disch:=first|omega|(simp only[lenS];try omega)) only[go_sem,reduceAdd,reduceEqDiff,reduceLeDiff,reduceSub,h1,h2,b1]
      exact⟨rfl,next (by rw[b1];rfl)⟩
    | true =>
      cases b2:hasB f.net.tr[k].out q with
      | false =>
        simp (maxSteps:=2000000) (disch:=first|omega|(simp only[lenS];try omega)) only[go_sem,reduceAdd,reduceEqDiff,reduceLeDiff,reduceSub,h1,h2,b1,b2]
        exact⟨rfl,next (by rw[b2];simp)⟩
      | true =>
        simp (maxSteps:=2000000) (disch:=first|omega|(simp only[lenS];try omega)) only[go_sem,reduceAdd,reduceEqDiff,reduceLeDiff,reduceSub,h1,h2,b1,b2]
        rw[List.any_eq_true.2 ⟨f.net.tr[k],List.getElem_mem hk,by rw[b1,b2];rfl⟩]
        rfl
  · rintro st ⟨rfl,hall⟩
    simp (maxSteps:=2000000) (disch:=first|omega|(simp only[lenS];try omega)) only[go_sem,reduceAdd,reduceEqDiff,reduceLeDiff,reduceSub]
    rw[List.any_eq_false.2 (fun t ht=>by
      obtain⟨j,hj,rfl⟩:=List.getElem_of_mem ht
      rw[←z1f3 hj,hall j hj];simp)]
    rfl
theorem wfz(f:Fl)(hg:ziu f=true)(hr:hasR f.net=false):C w9a [encF f] []=some (.tup [match resFP f with | some i=>.agg [I (f.net.pl-1),.un wgz false 3 (((zi4 f i).map (dropT (at_ (trN f.net i).inn 0))).map encT),I (lessP (at_ (trN f.net i).inn 0) f.src),I (lessP (at_ (trN f.net i).inn 0) f.dst)] | none=>.agg [I 0,.nil false 3,I 0,I 0],.bool (resFP f).isSome],[]):=by
  obtain⟨hgn,hs,hd,-,hsp,-,-⟩:=ziy hg
  obtain⟨hp1,hp2,hn,hT⟩:=zja hgn
  have hsm:=z1an hg hr
  have hlens : ∀ u∈f.net.tr,u.inn.length≤16∧u.out.length≤16:=fun u hu=>by have:=zjg (hT u hu) ⟨by omega,hp2⟩;omega
  have hk2 : ∀ p:Int,(idxL (fun t=>hasB t.inn p) f.net).length≤24:=fun p=>Nat.le_trans (zki _ _ _) hn
  refine w2d ?_
  simp (maxSteps:=2000000) (disch:=first|omega|(simp only[lenS];try omega)) only[we5,go_sem,reduceAdd,reduceEqDiff,reduceLeDiff,reduceSub]
  refine W_for f.net.tr.length (fun k st=>st=⟨[.any,.ptr 0 0,.ptr 1 0,.any,.any,.any,.any,.any,.any,.any,.any,trs f.net.tr,I f.net.tr.length,I k,.any,.any,.any,.any,.any,.any,.any,.any],[.box wgw [I f.net.pl,trs f.net.tr,I f.src,I f.dst],.box wgw [I 0,.nil false 3,I 0,I 0]]⟩∧∀ j,j<k→okFP f j=false) ?_ ?_ ?_
  · simp (maxSteps:=2000000) (disch:=first|omega|(simp only[lenS];try omega)) only[go_sem,reduceAdd,reduceEqDiff,reduceLeDiff,reduceSub]
    exact⟨rfl,fun q' h=>by omega⟩
  · rintro k st hk ⟨rfl,hall⟩
    have next:okFP f k=false→∀ j,j<k+1→okFP f j=false:=by
      intro h j hj
      rcases Nat.lt_or_ge j k with h5 | h5
      · exact hall j h5
      · rw[show j=k by omega];exact h
    have ekl:f.net.tr[k]? = some f.net.tr[k]:=List.getElem?_eq_getElem hk
    have lA:=hlens _ (List.getElem_mem hk)
    have pAi:=(zjl (hT _ (List.getElem_mem hk))).1
    have pAo:=(zjl (hT _ (List.getElem_mem hk))).2.1
    have x1:=zvr (f:=f) (k:=k)
    have x2:=zvs (f:=f) (k:=k)
    have x3:=fun p q=>zvq (f:=f) (k:=k) (p:=p) (q:=q)
    have x4:=fun p q=>zi5 (f:=f) (k:=k) (p:=p) (q:=q)
    have hE:encT f.net.tr[k]=.agg [ints f.net.tr[k].inn,ints f.net.tr[k].out,ints f.net.tr[k].rst]:=rfl
    rw[z1f3 hk] at x1 x2 x3 x4
    have hspo:z1bp f f.net.tr[k]=false:=hsp _ (List.getElem_mem hk)
    have hone:f.net.tr.length=1→∀ p,f.net.tr[k].inn=[p]→p=f.src:=by
      intro h1 p hp
      have hk0:k=0:=by omega
      subst hk0
      exact zix hg h1 (by rw[z1f3 hk];exact hp)
    have hat:trN f.net k=f.net.tr[k]:=z1f3 hk
    generalize f.net.tr[k]=u at *
    by_cases c1:u.inn.length=1
    case neg =>
      simp (maxSteps:=2000000) (disch:=first|omega|(simp only[lenS];try omega)) only[go_sem,reduceAdd,reduceEqDiff,reduceLeDiff,reduceSub,ekl,hE]
      exact⟨rfl,next (x1 c1)⟩
    by_cases c2:u.out.length=1
    case neg =>
      simp (maxSteps:=2000000) (disch:=first|omega|(simp only[lenS];try omega)) only[go_sem,reduceAdd,reduceEqDiff,reduceLeDiff,reduceSub,ekl,hE,c1]
      exact⟨rfl,next (x2 c2)⟩
    obtain⟨p,hp⟩:=List.length_eq_one_iff.1 c1
    obtain⟨q,hq⟩:=List.length_eq_one_iff.1 c2
    have y3:=x3 p q hp hq
    have y4:=x4 p q hp hq
    have pp:0≤p∧p<f.net.pl:=pAi p (by rw[hp];simp)
    have pq:0≤q∧q<f.net.pl:=pAo q (by rw[hq];simp)
    have hE2:encT u=.agg [.sl true 1 [I p],.sl true 1 [I q],ints u.rst]:=by rw[hE,hp,hq];rfl
    by_cases c3:p=f.src
    case pos =>
      simp (maxSteps:=2000000) (disch:=first|omega|(simp only[lenS];try omega)) only[go_sem,reduceAdd,reduceEqDiff,reduceLeDiff,reduceSub,ekl,hE2,Int.toNat_zero,List.getElem_cons_zero,c3]
      exact⟨rfl,next (by rw[y3];simp [c3])⟩
    by_cases c4:p=q
    case pos =>
      simp (maxSteps:=2000000) (disch:=first|omega|(simp only[lenS];try omega)) only[go_sem,reduceAdd,reduceEqDiff,reduceLeDiff,reduceSub,ekl,hE2,Int.toNat_zero,List.getElem_cons_zero,c3,c4]
      exact⟨rfl,next (by rw[y3];simp [c4])⟩
    have t1:=wgo f.net p hgn
    have w1:=hk2 p
    by_cases c5:(idxL (fun t=>hasB t.inn p) f.net).length=1
    case neg =>
      have nx:=next (by rw[y3];unfold takI;simp [c5])
      generalize idxL (fun t=>hasB t.inn p) f.net=G at *
      simp (maxSteps:=2000000) (disch:=first|omega|(simp only[lenS];try omega)) only[go_sem,reduceAdd,reduceEqDiff,reduceLeDiff,reduceSub,ekl,hE2,Int.toNat_zero,List.getElem_cons_zero,c3,c4,t1]
      exact⟨rfl,nx⟩
    have hap:=wfv f p q (by omega) (fun t ht=>by have:=hlens t ht;omega)
    unfold encF trs at hap
    cases c6:(f.net.tr.any fun u=>hasB u.out p&&hasB u.out q) with
    | true =>
      rw[c6] at hap
      simp (maxSteps:=2000000) (disch:=first|omega|(simp only[lenS];try omega)) only[go_sem,reduceAdd,reduceEqDiff,reduceLeDiff,reduceSub,ekl,hE2,Int.toNat_zero,List.getElem_cons_zero,c3,c4,t1,c5,hap,Bool.not_true]
      exact⟨rfl,next (by rw[y3,c6];simp)⟩
    | false =>
      rw[c6] at hap
      have hok:okFP f k=true:=by rw[y3,c6];unfold takI;simp [c3,c4,c5]
      have hres:resFP f=some k:=zgv hk hall hok
      have hown:=wgs f.net hgn (by intro e;rw[e] at hk;simp at hk)
      have h2:2≤f.net.tr.length:=by
        apply Decidable.byContradiction
        intro h
        exact c3 (hone (by omega) p hp)
      simp (maxSteps:=2000000) (disch:=first|omega|(simp only[lenS];try omega)) only[go_sem,reduceAdd,reduceEqDiff,reduceLeDiff,reduceSub,ekl,hE2,Int.toNat_zero,List.getElem_cons_zero,c3,c4,t1,c5,hap,Bool.not_false,hown]
      refine W_for f.net.tr.length (fun j st=>st=⟨[.any,.any,.ptr 0 0,.any,I k,.any,I p,I q,.ptr 1 0,.any,.any,.any,.any,.any,.any,.any,.any,.ref 2 3 0 f.net.tr.length,I f.net.tr.length,I j,.any,.any],[.box wgw [I 0,.nil false 3,I 0,I 0],.box wgw [I f.net.pl,.ref 2 3 0 f.net.tr.length,I f.src,I f.dst],.row wgz false 3 ((mapK (replO p q) f.net.tr j).map encT)]⟩) ?_ ?_ ?_
      · simp (maxSteps:=2000000) (disch:=first|omega|(simp only[lenS];try omega)) only[go_sem,reduceAdd,reduceEqDiff,reduceLeDiff,reduceSub]
        rw[zrr]
        rfl
      · rintro j st hj rfl
        have e1:=zro (replO p q) f.net.tr j
        have e2:=zrn (g:=replO p q) hj
        have lB:=hlens _ (List.getElem_mem hj)
        have hh:=wgc f.net.tr[j].out p (by omega)
        have hwo:C wa0 [.sl true 1 (f.net.tr[j].out.map I),.sl true 1 [I p]] []=some (.un t_int true 1 ((wout f.net.tr[j].out [p]).map I),[]):=wgt f.net.tr[j].out [p] (by omega) (by simp)
        have hwl:(wout f.net.tr[j].out [p]).length≤f.net.tr[j].out.length:=by unfold wout;exact List.length_filter_le _ _
        cases hb:hasB f.net.tr[j].out p with
        | false =>
          rw[zrp hj (by unfold replO;rw[hb];rfl)]
          generalize mapK (replO p q) f.net.tr j=M at *
          simp (maxSteps:=2000000) (disch:=first|omega|(simp only[lenS];try omega)) only[go_sem,reduceAdd,reduceEqDiff,reduceLeDiff,reduceSub,e2,hh,hb]
          first | done | rfl
        | true =>
          rw[zrq hj,show replO p q f.net.tr[j]=⟨f.net.tr[j].inn,putI (wout f.net.tr[j].out [p]) q,f.net.tr[j].rst⟩ by unfold replO;rw[if_pos hb,zsv],List.map_set]
          generalize mapK (replO p q) f.net.tr j=M at *
          obtain⟨_,e3,rfl | ⟨rfl,e4⟩⟩:=wgh (wout f.net.tr[j].out [p]) q (by omega)
          · simp (maxSteps:=2000000) (disch:=first|omega|(simp only[lenS];try omega)) only[go_sem,reduceAdd,reduceEqDiff,reduceLeDiff,reduceSub,e2,hh,hb,hwo,e3]
            exact⟨by decide,rfl⟩
          · rw[e4]
            simp (maxSteps:=2000000) (disch:=first|omega|(simp only[lenS];try omega)) only[go_sem,reduceAdd,reduceEqDiff,reduceLeDiff,reduceSub,e2,hh,hb,hwo,e3]
            exact⟨by decide,rfl⟩
      · rintro st rfl
        have hlv:=wg2 ⟨⟨f.net.pl,f.net.tr.map (replO p q)⟩,f.src,f.dst⟩ p k (z1ao hsm hlens pq) pp c3 (by
          intro hc
          simp [z1bp,hp,hasB,hc] at hspo) (by omega)
        have hne:(((f.net.tr.map (replO p q)).eraseIdx k).map (dropT p))≠[]:=by
          intro e
          have:=congrArg List.length e
          rw[List.length_map,List.length_eraseIdx_of_lt (by simpa using hk),List.length_map,List.length_nil] at this
          omega
        rw[znr _ (by simp only[List.length_map];omega),z15v (by rw[show((k:Nat):Int).toNat=k from rfl];exact hne),show((k:Nat):Int).toNat=k from rfl] at hlv
        rw[zrm,hres]
        unfold encF trs at hlv
        have hlv2:C w9d [.agg [I f.net.pl,.sl false 3 ((f.net.tr.map (replO p q)).map encT),I f.src,I f.dst],I p,I k] []=_:=hlv
        simp (maxSteps:=2000000) (disch:=first|omega|(simp only[lenS];try omega)) only[go_sem,reduceAdd,reduceEqDiff,reduceLeDiff,reduceSub,hlv2]
        rw[y4,hat,hp]
        first | done | rfl
  · rintro st ⟨rfl,hall⟩
    have hres:resFP f=none:=zgu (fun q h=>hall q (by omega))
    rw[hres]
    simp (maxSteps:=2000000) (disch:=first|omega|(simp only[lenS];try omega)) only[go_sem,reduceAdd,reduceEqDiff,reduceLeDiff,reduceSub]
    rfl
theorem wfp(f:Fl)(hn:smN f.net):C w91 [encF f] []=some (.tup [match zhw f with | some g=>.agg [I g.net.pl,.un wgz false 3 (g.net.tr.map encT),I g.src,I g.dst] | none=>.agg [I 0,.nil false 3,I 0,I 0],.bool (zhw f).isSome],[]):=by
  have hA:=wfw f hn
  unfold encF at hA
  refine w24 ?_
  simp (maxSteps:=2000000) (disch:=first|omega|(simp only[lenS];try omega)) only[wdw,go_sem,reduceAdd,reduceEqDiff,reduceLeDiff,reduceSub]
  cases ho:okRed f with
  | false =>
    simp (maxSteps:=2000000) (disch:=first|omega|(simp only[lenS];try omega)) only[go_sem,reduceAdd,reduceEqDiff,reduceLeDiff,reduceSub,hA,ho]
    simp [zhw,ho]
  | true =>
    have ho':=ho
    simp only[okRed,Bool.and_eq_true,Bool.not_eq_true'] at ho'
    have hD:=wfz f ho'.1 ho'.2
    unfold encF at hD
    have e:zhw f=(resFP f).map fun(i:Nat)=>zpm f (zi4 f i) (at_ (trN f.net i).inn 0):=by simp [zhw,ho]
    rw[e]
    cases hq:resFP f with
    | none =>
      rw[hq] at hD
      simp only[Option.isSome_none] at hD
      simp (maxSteps:=2000000) (disch:=first|omega|(simp only[lenS];try omega)) only[go_sem,reduceAdd,reduceEqDiff,reduceLeDiff,reduceSub,hA,ho,hD]
      rfl
    | some q =>
      rw[hq] at hD
      simp only[Option.isSome_some] at hD
      simp (maxSteps:=2000000) (disch:=first|omega|(simp only[lenS];try omega)) only[go_sem,reduceAdd,reduceEqDiff,reduceLeDiff,reduceSub,hA,ho,hD]
      rfl
theorem wgk(a b:List Int)(hl:a.length<2^62):C w9r [ints a,ints b] []=some (.bool (decide (a=b)),[]):=by
 refine w2n ?_
 simp (maxSteps:=2000000) (disch:=first|omega|(simp only[lenS];try omega)) only[wem,go_sem,reduceAdd,reduceEqDiff,reduceLeDiff,reduceSub]
 refine⟨fun h=>?_,fun h=>?_⟩
 ·have:a≠b:=fun e=>h (by rw[e])
  simp [this]
 refine W_for a.length (fun k s=>s=⟨[ints a,ints b,.any,.any,.any,I a.length,I k,.any,.any],[]⟩∧a.take k=b.take k) ?_ ?_ ?_
 ·simp (maxSteps:=2000000) (disch:=first|omega|(simp only[lenS];try omega)) only[go_sem,reduceAdd,reduceEqDiff,reduceLeDiff,reduceSub]
  rfl
 ·rintro k s hk ⟨rfl,hall⟩
  simp (maxSteps:=2000000) (disch:=first|omega|(simp only[lenS];try omega)) only[go_sem,reduceAdd,reduceEqDiff,reduceLeDiff,reduceSub]
  refine⟨fun h=>?_,fun h=>⟨rfl,?_⟩⟩
  ·have:a≠b:=fun e=>h (by simp [e])
   simp [this]
  ·rw[z1ek hk,z1ek (show k<b.length by omega),hall,h]
 ·rintro s ⟨rfl,hall⟩
  simp (maxSteps:=2000000) (disch:=first|omega|(simp only[lenS];try omega)) only[go_sem,reduceAdd,reduceEqDiff,reduceLeDiff,reduceSub]
  rw[List.take_length,List.take_of_length_le (by omega)] at hall
  simp [hall]
theorem wfx(f:Fl)(hg:ziu f=true)(hr:hasR f.net=false):C w98 [encF f] []=some (.tup [match resQ f with | some q=>.agg [I (dropF f q).net.pl,.un wgz false 3 ((dropF f q).net.tr.map encT),I (dropF f q).src,I (dropF f q).dst] | none=>.agg [I 0,.nil false 3,I 0,I 0],.bool (resQ f).isSome],[]):=by
  obtain⟨hgn,hs,hd,-,-,-,-⟩:=ziy hg
  obtain⟨hp1,hp2,hn,hT⟩:=zja hgn
  obtain⟨P,hP⟩ : ∃ P:Nat,f.net.pl=P:=⟨f.net.pl.toNat,by omega⟩
  have hk2 : ∀ p:Int,(idxL (fun t=>hasB t.inn p) f.net).length≤24:=fun p=>Nat.le_trans (zki _ _ _) hn
  have hg3 : ∀ p:Int,(idxL (fun t=>hasB t.out p) f.net).length≤24:=fun p=>Nat.le_trans (zki _ _ _) hn
  have hk : ∀ p:Int,(takI f.net p).length<2^62:=fun p=>by have:=hk2 p;unfold takI;omega
  have hg2 : ∀ p:Int,(givI f.net p).length<2^62:=fun p=>by have:=hg3 p;unfold givI;omega
  refine w2b ?_
  simp (maxSteps:=2000000) (disch:=first|omega|(simp only[lenS];try omega)) only[we3,go_sem,reduceAdd,reduceEqDiff,reduceLeDiff,reduceSub]
  refine W_for P (fun i st=>st=⟨[.any,.ptr 0 0,.ptr 1 0,.any,I i,.any,.any,.any,.any,.any],[.box wgw [I f.net.pl,trs f.net.tr,I f.src,I f.dst],.box wgw [I 0,.nil false 3,I 0,I 0]]⟩∧∀ q',q'<i→∀ p',p'<q'→sameP f q' p'=false) ?_ ?_ ?_
  · simp (maxSteps:=2000000) (disch:=first|omega|(simp only[lenS];try omega)) only[go_sem,reduceAdd,reduceEqDiff,reduceLeDiff,reduceSub]
    exact⟨rfl,fun q' h=>by omega⟩
  · rintro i st hi ⟨rfl,hall⟩
    simp (maxSteps:=2000000) (disch:=first|omega|(simp only[lenS];try omega)) only[go_sem,reduceAdd,reduceEqDiff,reduceLeDiff,reduceSub]
    refine W_for i (fun j st=>st=⟨[.any,.ptr 0 0,.ptr 1 0,.any,I i,I j,.any,.any,.any,.any],[.box wgw [I f.net.pl,trs f.net.tr,I f.src,I f.dst],.box wgw [I 0,.nil false 3,I 0,I 0]]⟩∧∀ p',p'<j→sameP f i p'=false) ?_ ?_ ?_
    · simp (maxSteps:=2000000) (disch:=first|omega|(simp only[lenS];try omega)) only[go_sem,reduceAdd,reduceEqDiff,reduceLeDiff,reduceSub]
      exact⟨rfl,fun p' h=>by omega⟩
    · rintro j st hj ⟨rfl,hin⟩
      have next:sameP f i j=false→∀ p',p'<j+1→sameP f i p'=false:=by
        intro h p' hp'
        rcases Nat.lt_or_ge p' j with h5 | h5
        · exact hin p' h5
        · rw[show p'=j by omega];exact h
      have s1:=wg1 f j
      have s2:=wg1 f i
      have t1:=wgo f.net j hgn
      have t2:=wgo f.net i hgn
      have u1:=wgl f.net j hgn
      have u2:=wgl f.net i hgn
      have v1:=wgk (takI f.net j) (takI f.net i) (hk _)
      have v2:=wgk (givI f.net j) (givI f.net i) (hg2 _)
      have e:sameP f i j=(zmq f j&&zmq f i&&(decide (givI f.net j=givI f.net i)&&decide (takI f.net j=takI f.net i))):=rfl
      unfold takI at v1
      unfold givI at v2
      unfold encF at s1 s2
      have w1:=hk2 j
      have w2:=hk2 i
      have w3:=hg3 j
      have w4:=hg3 i
      unfold takI givI at e
      generalize decide (idxL (fun t=>hasB t.inn (j:Int)) f.net=idxL (fun t=>hasB t.inn (i:Int)) f.net)=b3 at *
      generalize decide (idxL (fun t=>hasB t.out (j:Int)) f.net=idxL (fun t=>hasB t.out (i:Int)) f.net)=b4 at *
      generalize idxL (fun t=>hasB t.inn (j:Int)) f.net=T1 at *
      generalize idxL (fun t=>hasB t.inn (i:Int)) f.net=T2 at *
      generalize idxL (fun t=>hasB t.out (j:Int)) f.net=G1 at *
      generalize idxL (fun t=>hasB t.out (i:Int)) f.net=G2 at *
      cases b1:zmq f (j:Int) with
      | false =>
        rw[b1] at s1 e
        simp (maxSteps:=2000000) (disch:=first|omega|(simp only[lenS];try omega)) only[go_sem,reduceAdd,reduceEqDiff,reduceLeDiff,reduceSub,s1,s2]
        exact⟨rfl,next (by rw[e];rfl)⟩
      | true =>
        cases b2:zmq f (i:Int) with
        | false =>
          rw[b1] at s1 e
          rw[b2] at s2 e
          simp (maxSteps:=2000000) (disch:=first|omega|(simp only[lenS];try omega)) only[go_sem,reduceAdd,reduceEqDiff,reduceLeDiff,reduceSub,s1,s2]
          exact⟨rfl,next (by rw[e];rfl)⟩
        | true =>
          rw[b1] at s1 e
          rw[b2] at s2 e
          cases b3 with
          | false =>
            simp (maxSteps:=2000000) (disch:=first|omega|(simp only[lenS];try omega)) only[go_sem,reduceAdd,reduceEqDiff,reduceLeDiff,reduceSub,s1,s2,t1,t2,v1]
            exact⟨rfl,next (by rw[e];simp)⟩
          | true =>
            cases b4 with
            | false =>
              simp (maxSteps:=2000000) (disch:=first|omega|(simp only[lenS];try omega)) only[go_sem,reduceAdd,reduceEqDiff,reduceLeDiff,reduceSub,s1,s2,t1,t2,v1,u1,u2,v2]
              exact⟨rfl,next (by rw[e];simp)⟩
            | true =>
              have hres:=z15u (f:=f) (q:=i) (p:=j) (by omega) hj hall (by rw[e];rfl)
              have hi2:(i:Int)≠f.src∧(i:Int)≠f.dst:=by simpa [zmq] using b2
              have hlv:=wg4 f i hg hr (by omega) hi2.1 hi2.2
              rw[hres]
              simp (maxSteps:=2000000) (disch:=first|omega|(simp only[lenS];try omega)) only[go_sem,reduceAdd,reduceEqDiff,reduceLeDiff,reduceSub,s1,s2,t1,t2,v1,u1,u2,v2,hlv]
              rfl
    · rintro st ⟨rfl,hin⟩
      simp (maxSteps:=2000000) (disch:=first|omega|(simp only[lenS];try omega)) only[go_sem,reduceAdd,reduceEqDiff,reduceLeDiff,reduceSub]
      refine⟨rfl,fun q' h=>?_⟩
      rcases Nat.lt_or_ge q' i with h5 | h5
      · exact hall q' h5
      · rw[show q'=i by omega];exact hin
  · rintro st ⟨rfl,hall⟩
    have hres:=z15t (f:=f) (fun q h=>hall q (by omega))
    rw[hres]
    simp (maxSteps:=2000000) (disch:=first|omega|(simp only[lenS];try omega)) only[go_sem,reduceAdd,reduceEqDiff,reduceLeDiff,reduceSub]
    rfl
theorem wfn(f:Fl)(hn:smN f.net):C w8z [encF f] []=some (.tup [match dropV f with | some g=>.agg [I g.net.pl,.un wgz false 3 (g.net.tr.map encT),I g.src,I g.dst] | none=>.agg [I 0,.nil false 3,I 0,I 0],.bool (dropV f).isSome],[]):=by
  have hA:=wfw f hn
  unfold encF at hA
  refine w22 ?_
  simp (maxSteps:=2000000) (disch:=first|omega|(simp only[lenS];try omega)) only[wdu,go_sem,reduceAdd,reduceEqDiff,reduceLeDiff,reduceSub]
  cases ho:okRed f with
  | false =>
    simp (maxSteps:=2000000) (disch:=first|omega|(simp only[lenS];try omega)) only[go_sem,reduceAdd,reduceEqDiff,reduceLeDiff,reduceSub,hA,ho]
    simp [dropV,ho]
  | true =>
    have ho':=ho
    simp only[okRed,Bool.and_eq_true,Bool.not_eq_true'] at ho'
    have hD:=wfx f ho'.1 ho'.2
    unfold encF at hD
    have e:dropV f=(resQ f).map fun(q:Nat)=>dropF f (q:Int):=by simp [dropV,ho]
    rw[e]
    cases hq:resQ f with
    | none =>
      rw[hq] at hD
      simp only[Option.isSome_none] at hD
      simp (maxSteps:=2000000) (disch:=first|omega|(simp only[lenS];try omega)) only[go_sem,reduceAdd,reduceEqDiff,reduceLeDiff,reduceSub,hA,ho,hD]
      rfl
    | some q =>
      rw[hq] at hD
      simp only[Option.isSome_some] at hD
      simp (maxSteps:=2000000) (disch:=first|omega|(simp only[lenS];try omega)) only[go_sem,reduceAdd,reduceEqDiff,reduceLeDiff,reduceSub,hA,ho,hD]
      rfl
def atI(n k:Nat):List Int:=(List.range k).map (fun(i:Nat)=>(i:Int))++List.replicate (n-k) 0
theorem w6h{n k:Nat}(h:k≤n):(atI n k).length=n:=by simp [atI];omega
theorem w6j(n:Nat):atI n 0=List.replicate n 0:=by simp [atI]
theorem w6i{n k:Nat}(hk:k<n):(atI n k).set k (k:Int)=atI n (k+1):=by
 unfold atI
 rw[z18p hk (by simp),List.range_succ,List.map_append]
 rfl
theorem w6g{p:Int}{n:Nat}(h0:0≤p)(h:p<n):(atI n n)[p.toNat]? = some p:=by
 unfold atI
 have hp:p.toNat<n:=by omega
 rw[List.getElem?_append_left (by simpa using hp),List.getElem?_map,List.getElem?_range hp]
 simp [show((p.toNat:Nat):Int)=p by omega]
theorem wg3(f:Fl)(tq:Int)(hf:smF f)(htq : -1≤tq∧tq<100):C w9d [encF f,I (-1),I tq] []=some (.agg [I f.net.pl,resU wgz (keepT f.net.tr tq f.net.tr.length),I f.src,I f.dst],[]):=by
 obtain⟨⟨hp1,hp2⟩,hn,hs,hd,hT⟩:=hf
 obtain⟨P,hP⟩ : ∃ P:Nat,f.net.pl=P:=⟨f.net.pl.toNat,by omega⟩
 refine w2g ?_
 simp (maxSteps:=2000000) (disch:=first|omega|(simp only[lenS];try omega)) only[we8,go_sem,reduceAdd,reduceEqDiff,reduceLeDiff,reduceSub]
 rw[show f.net.pl.toNat=P by omega]
 refine W_for P (fun k st=>st=⟨[.any,I (-1),I tq,.ptr 0 0,.ptr 1 0,.ref 2 1 0 P,.ptr 3 0,.any,.any,.any,.any,.any,.any,I P,I k,.any,.any,.any,.any,.any,.any,.any,.any,.any,.any,.any,.any,.any,.any,.any,.any,.any],[.box wgw [I f.net.pl,trs f.net.tr,I f.src,I f.dst],.box wgw [I 0,.nil false 3,I 0,I 0],.row t_int true 1 ((atI P k).map I),.box wgw [I k,.nil false 3,I 0,I 0]]⟩) ?_ ?_ ?_
 ·simp (maxSteps:=2000000) (disch:=first|omega|(simp only[lenS];try omega)) only[go_sem,reduceAdd,reduceEqDiff,reduceLeDiff,reduceSub,w6j]
  rw[List.map_replicate]
  rfl
 ·rintro k st hk rfl
  have h1:=w6h (n:=P) (k:=k) (by omega)
  have h2:=w6i hk
  have hkq:¬(k:Int) = -1:=by omega
  rw[←h2]
  generalize atI P k=A at *
  simp (maxSteps:=2000000) (disch:=first|omega|(simp only[lenS];try omega)) only[go_sem,reduceAdd,reduceEqDiff,reduceLeDiff,reduceSub,h1,hkq,List.set_set]
  first | rfl | (rw[List.map_set];rfl)
 ·rintro st rfl
  have h1:=w6h (n:=P) (k:=P) (by omega)
  have hA:=fun(p:Int)=>w6g (p:=p) (n:=P)
  have hc:(P:Int)=f.net.pl:=hP.symm
  rw[hc]
  generalize atI P P=A at *
  simp (maxSteps:=2000000) (disch:=first|omega|(simp only[lenS];try omega)) only[go_sem,reduceAdd,reduceEqDiff,reduceLeDiff,reduceSub,h1]
  refine W_for f.net.tr.length (fun i st=>st=⟨[.any,I (-1),I tq,.ptr 0 0,.ptr 1 0,.ref 2 1 0 P,.ptr 3 0,.any,.any,.any,.any,.any,.any,.any,.any,.any,.any,trs f.net.tr,I f.net.tr.length,I i,.any,.any,.any,.any,.any,.any,.any,.any,.any,.any,.any,.any],[.box wgw [I f.net.pl,trs f.net.tr,I f.src,I f.dst],.box wgw [I 0,.nil false 3,I 0,I 0],.row t_int true 1 (A.map I),.box wgw [I f.net.pl,cellT 4 (keepT f.net.tr tq i),I 0,I 0]]++blkT wgz (keepT f.net.tr tq i)⟩) ?_ ?_ ?_
  ·simp (maxSteps:=2000000) (disch:=first|omega|(simp only[lenS];try omega)) only[go_sem,reduceAdd,reduceEqDiff,reduceLeDiff,reduceSub]
   rw[znw]
   rfl
  ·rintro i st hi rfl
   obtain⟨hlen,hplI,hplO⟩:=hT _ (List.getElem_mem hi)
   have hrst:=hlen.2.2
   have hplc:=And.intro hplI hplO
   have hti:f.net.tr[i]? = some f.net.tr[i]:=List.getElem?_eq_getElem hi
   have hkl:=zns f.net.tr tq i
   have hlL:(keepT f.net.tr tq i).length≤i:=hkl
   by_cases hit:(i:Int)=tq
   ·rw[znv hi hit]
    generalize keepT f.net.tr tq i=L at *
    by_cases hL:L=[]
    all_goals
     simp only[cellT,blkT,cellI,blkI,hL,reduceIte,List.append_nil,List.nil_append,List.cons_append,Nat.add_zero,Nat.zero_add,Nat.reduceAdd]
     simp (maxSteps:=2000000) (disch:=first|omega|(simp only[lenS];try omega)) only[go_sem,reduceAdd,reduceEqDiff,reduceLeDiff,reduceSub,hti,hit]
     first
      | rfl
      | (rw[show((i+1:Nat):Int)=tq+1 by omega])
   have hne:keepT f.net.tr tq (i+1)≠[]:=by rw[znt hi hit];simp
   have hsn:keepT f.net.tr tq (i+1)=keepT f.net.tr tq i++[f.net.tr[i]]:=znt hi hit
   rw[z8j hne,z6w hne,hsn]
   generalize keepT f.net.tr tq i=L at *
   generalize f.net.tr[i]=t at *
   obtain⟨tin,tou,trr⟩:=t
   simp only at hlen hplI hplO hrst hplc hti hsn ⊢
   subst hrst
   by_cases hL:L=[]
   all_goals
    simp only[cellT,blkT,cellI,blkI,hL,reduceIte,List.append_nil,List.nil_append,List.cons_append,Nat.add_zero,Nat.zero_add,Nat.reduceAdd]
    simp (maxSteps:=2000000) (disch:=first|omega|(simp only[lenS];try omega)) only[go_sem,reduceAdd,reduceEqDiff,reduceLeDiff,reduceSub,hti,hit]
    refine W_for tin.length (fun j st=>st=⟨[.any,I (-1),I tq,.ptr 0 0,.ptr 1 0,.ref 2 1 0 P,.ptr 3 0,.any,.any,.ptr 4 0,.ptr 5 0,.any,.any,.any,.any,.any,.any,trs f.net.tr,I f.net.tr.length,I i,.any,.any,ints tin,I tin.length,I j,.any,.any,.any,.any,.any,.any,.any],[.box wgw [I f.net.pl,trs f.net.tr,I f.src,I f.dst],.box wgw [I 0,.nil false 3,I 0,I 0],.row t_int true 1 (A.map I),.box wgw [I f.net.pl,cellT 6 L,I 0,I 0],.box wgz [ints tin,ints tou,.sl true 1 []],.box wgz [cellI (if L=[] then 6 else 7) (tin.take j),.nil true 1,.nil true 1]]++blkT wgz L++blkI t_int (tin.take j)⟩) ?_ ?_ ?_
    ·simp (maxSteps:=2000000) (disch:=first|omega|(simp only[lenS];try omega)) only[go_sem,reduceAdd,reduceEqDiff,reduceLeDiff,reduceSub]
     try simp only[List.take_zero]
     simp only[cellT,blkT,cellI,blkI,hL,reduceIte,List.append_nil,List.nil_append,List.cons_append,Nat.add_zero,Nat.zero_add,Nat.reduceAdd]
     rfl
    ·rintro j st hj rfl
     have hx:=hplc.1 _ (List.getElem_mem hj)
     have hA1:=hA tin[j] hx.1 (by omega)
     have hl2:=List.length_take_le j tin
     have hAv:A[tin[j].toNat]'(by omega)=tin[j]:=by rw[List.getElem?_eq_getElem (by omega)] at hA1;exact Option.some.inj hA1
     rw[z1ek hj]
     generalize tin.take j=V at *
     have hxq:¬tin[j] = -1:=by omega
     have hVn:V++[tin[j]]≠[]:=by simp
     by_cases hV:V=[]
     all_goals
      simp only[cellT,blkT,cellI,blkI,hL,hV,hVn,reduceIte,List.append_nil,List.nil_append,List.cons_append,Nat.add_zero,Nat.zero_add,Nat.reduceAdd]
      simp (maxSteps:=2000000) (disch:=first|omega|(simp only[lenS];try omega)) only[go_sem,reduceAdd,reduceEqDiff,reduceLeDiff,reduceSub,hxq,hAv]
      first | rfl | (simp;done) | (rw[List.map_append,List.length_append];rfl)
    ·rintro st rfl
     rw[List.take_length]
     have hVl:=hlen.1
     generalize hVV:tin=V at *
     by_cases hV:V=[]
     all_goals
      simp only[cellT,blkT,cellI,blkI,hL,hV,reduceIte,List.append_nil,List.nil_append,List.cons_append,Nat.add_zero,Nat.zero_add,Nat.reduceAdd]
      simp (maxSteps:=2000000) (disch:=first|omega|(simp only[lenS];try omega)) only[go_sem,reduceAdd,reduceEqDiff,reduceLeDiff,reduceSub]
      refine W_for tou.length (fun j st=>st=⟨[.any,I (-1),I tq,.ptr 0 0,.ptr 1 0,.ref 2 1 0 P,.ptr 3 0,.any,.any,.any,.ptr 4 0,.any,.any,.any,.any,.any,.any,trs f.net.tr,I f.net.tr.length,I i,.any,.any,.any,.any,.any,.any,.any,ints tou,I tou.length,I j,.any,.any],[.box wgw [I f.net.pl,trs f.net.tr,I f.src,I f.dst],.box wgw [I 0,.nil false 3,I 0,I 0],.row t_int true 1 (A.map I),.box wgw [I f.net.pl,cellT 5 L,I 0,I 0],.box wgz [cellI (if L=[] then 5 else 6) V,cellI ((if L=[] then 5 else 6)+(if V=[] then 0 else 1)) (tou.take j),.nil true 1]]++blkT wgz L++blkI t_int V++blkI t_int (tou.take j)⟩) ?_ ?_ ?_
      ·simp (maxSteps:=2000000) (disch:=first|omega|(simp only[lenS];try omega)) only[go_sem,reduceAdd,reduceEqDiff,reduceLeDiff,reduceSub]
       try simp only[List.take_zero]
       simp only[cellT,blkT,cellI,blkI,hL,hV,reduceIte,List.append_nil,List.nil_append,List.cons_append,Nat.add_zero,Nat.zero_add,Nat.reduceAdd]
       rfl
      ·rintro j st hj rfl
       have hx:=hplc.2 _ (List.getElem_mem hj)
       have hA1:=hA tou[j] hx.1 (by omega)
       have hl2:=List.length_take_le j tou
       have hAv:A[tou[j].toNat]'(by omega)=tou[j]:=by rw[List.getElem?_eq_getElem (by omega)] at hA1;exact Option.some.inj hA1
       rw[z1ek hj]
       generalize tou.take j=W at *
       have hxq:¬tou[j] = -1:=by omega
       have hWn:W++[tou[j]]≠[]:=by simp
       by_cases hW:W=[]
       all_goals
        simp only[cellT,blkT,cellI,blkI,hL,hV,hW,hWn,reduceIte,List.append_nil,List.nil_append,List.cons_append,Nat.add_zero,Nat.zero_add,Nat.reduceAdd]
        simp (maxSteps:=2000000) (disch:=first|omega|(simp only[lenS];try omega)) only[go_sem,reduceAdd,reduceEqDiff,reduceLeDiff,reduceSub,hxq,hAv]
        first | rfl | (simp;done) | (rw[List.map_append,List.length_append];rfl)
      ·rintro st rfl
       rw[List.take_length]
       have hWl:=hlen.2.1
       generalize hWW:tou=W at *
       by_cases hW:W=[]
       all_goals
        simp only[cellT,blkT,cellI,blkI,hL,hV,hW,reduceIte,List.append_nil,List.nil_append,List.cons_append,Nat.add_zero,Nat.zero_add,Nat.reduceAdd]
        simp (maxSteps:=2000000) (disch:=first|omega|(simp only[lenS];try omega)) only[go_sem,reduceAdd,reduceEqDiff,reduceLeDiff,reduceSub]
        first | rfl | (simp;done) | (rw[List.map_append,List.length_append];rfl)
  ·rintro st rfl
   have hkl:=zns f.net.tr tq f.net.tr.length
   have g1:=hA f.src hs.1 (by omega)
   have g2:=hA f.dst hd.1 (by omega)
   have k1:A[f.src.toNat]'(by omega)=f.src:=by rw[List.getElem?_eq_getElem (by omega)] at g1;exact Option.some.inj g1
   have k2:A[f.dst.toNat]'(by omega)=f.dst:=by rw[List.getElem?_eq_getElem (by omega)] at g2;exact Option.some.inj g2
   have hlL:(keepT f.net.tr tq f.net.tr.length).length≤24:=by omega
   generalize keepT f.net.tr tq f.net.tr.length=L at *
   unfold resU
   by_cases hL:L=[]
   all_goals
    simp only[cellT,blkT,hL,reduceIte,List.append_nil,List.nil_append,List.cons_append]
    simp (maxSteps:=2000000) (disch:=first|omega|(simp only[lenS];try omega)) only[go_sem,reduceAdd,reduceEqDiff,reduceLeDiff,reduceSub,k1,k2]
theorem wfy(f:Fl)(hg:ziu f=true)(hr:hasR f.net=false):C w99 [encF f] []=some (.tup [dtPV f (resDT f),.bool (resDT f).isSome],[]):=by
 have hgn:=(ziy hg).1
 obtain⟨hp1,hp2,hn,hT⟩:=zja hgn
 have hsm : ∀ u∈f.net.tr,u.inn.length≤16∧u.out.length≤16:=fun u hu=>by have:=zjg (hT u hu) ⟨by omega,hp2⟩;omega
 refine w2c ?_
 simp (maxSteps:=2000000) (disch:=first|omega|(simp only[lenS];try omega)) only[we4,go_sem,reduceAdd,reduceEqDiff,reduceLeDiff,reduceSub]
 refine W_for f.net.tr.length (fun k s=>s=⟨[.any,.ptr 0 0,.ptr 1 0,.any,.any,.any,.any,trs f.net.tr,I f.net.tr.length,I k,.any,.any,.any,.any,.any,.any],[.box wgw [I f.net.pl,trs f.net.tr,I f.src,I f.dst],.box wgw [I 0,.nil false 3,I 0,I 0]]⟩∧∀ j,j<k→dupT f j=false) ?_ ?_ ?_
 ·simp (maxSteps:=2000000) (disch:=first|omega|(simp only[lenS];try omega)) only[go_sem,reduceAdd,reduceEqDiff,reduceLeDiff,reduceSub]
  refine⟨?_,fun j h=>by omega⟩
  first | done | rfl
 ·rintro k s hk ⟨rfl,h0⟩
  have e1:f.net.tr[k]? = some f.net.tr[k]:=List.getElem?_eq_getElem hk
  have hst:=w6m (f:=f) (k:=k) h0
  have hfd:=fun h=>zgv (p:=dupT f) hk h0 h
  have hrd:dupT f k=true→resDT f=some k:=fun h=>hfd h
  have hlv:=wg3 f (k:Int) (z1an hg hr) ⟨by omega,by omega⟩
  rw[znr f.net.tr (show 0≤(k:Int)∧(k:Int)<f.net.tr.length by omega),Int.toNat_natCast] at hlv
  have htk:(f.net.tr.take k).length=k:=by rw[List.length_take];omega
  have hd:dupT f k=(f.net.tr.take k).any fun u=>decide (u.inn=f.net.tr[k].inn)&&decide (u.out=f.net.tr[k].out):=by
   unfold dupT;rw[z1f3 hk]
  simp (maxSteps:=2000000) (disch:=first|omega|(simp only[lenS];try omega)) only[go_sem,reduceAdd,reduceEqDiff,reduceLeDiff,reduceSub,e1]
  refine W_for k (fun j s=>s=⟨[.any,.ptr 0 0,.ptr 1 0,.any,I k,.ptr 2 0,.any,trs f.net.tr,I f.net.tr.length,I k,.any,trs (f.net.tr.take k),I k,I j,.any,.any],[.box wgw [I f.net.pl,trs f.net.tr,I f.src,I f.dst],.box wgw [I 0,.nil false 3,I 0,I 0],.box wgz [ints f.net.tr[k].inn,ints f.net.tr[k].out,ints f.net.tr[k].rst]]⟩∧((f.net.tr.take k).take j).any (fun u=>decide (u.inn=f.net.tr[k].inn)&&decide (u.out=f.net.tr[k].out))=false) ?_ ?_ ?_
  ·simp (maxSteps:=2000000) (disch:=first|omega|(simp only[lenS];try omega)) only[go_sem,reduceAdd,reduceEqDiff,reduceLeDiff,reduceSub,htk]
   simp
   try omega
  ·rintro j s hj ⟨rfl,hany⟩
   have hjl:j<(f.net.tr.take k).length:=by omega
   have g1:(f.net.tr.take k)[j]? = some (f.net.tr[j]'(by omega)):=by rw[List.getElem?_eq_getElem hjl,List.getElem_take]
   have hs1:=hsm _ (List.getElem_mem (show j<f.net.tr.length by omega))
   have n1:=z3e (p:=fun u=>decide (u.inn=f.net.tr[k].inn)&&decide (u.out=f.net.tr[k].out)) hjl hany
   have n2:=z3f (p:=fun u=>decide (u.inn=f.net.tr[k].inn)&&decide (u.out=f.net.tr[k].out)) hjl
   rw[List.getElem_take] at n1 n2
   rw[←hd] at n2
   have e2:=wgk (f.net.tr[j]'(by omega)).inn f.net.tr[k].inn (by omega)
   have e3:=wgk (f.net.tr[j]'(by omega)).out f.net.tr[k].out (by omega)
   generalize (f.net.tr[j]'(by omega))=u at *
   generalize decide (u.inn=f.net.tr[k].inn)=p at *
   generalize decide (u.out=f.net.tr[k].out)=q at *
   have hrl:resU wgz (f.net.tr.eraseIdx k)=.un wgz false 3 ((f.net.tr.eraseIdx k).map encT):=by
    refine z15v (List.ne_nil_of_length_pos ?_)
    rw[List.length_eraseIdx,if_pos hk];omega
   rw[hrl] at hlv
   cases p<;>cases q
   ·simp (maxSteps:=2000000) (disch:=first|omega|(simp only[lenS];try omega)) only[go_sem,reduceAdd,reduceEqDiff,reduceLeDiff,reduceSub,g1,e2,e3]
    exact⟨rfl,n1 rfl⟩
   ·simp (maxSteps:=2000000) (disch:=first|omega|(simp only[lenS];try omega)) only[go_sem,reduceAdd,reduceEqDiff,reduceLeDiff,reduceSub,g1,e2,e3]
    exact⟨rfl,n1 rfl⟩
   ·simp (maxSteps:=2000000) (disch:=first|omega|(simp only[lenS];try omega)) only[go_sem,reduceAdd,reduceEqDiff,reduceLeDiff,reduceSub,g1,e2,e3]
    exact⟨rfl,n1 rfl⟩
   ·simp (maxSteps:=2000000) (disch:=first|omega|(simp only[lenS];try omega)) only[go_sem,reduceAdd,reduceEqDiff,reduceLeDiff,reduceSub,g1,e2,e3,hlv]
    rw[hrd (n2 rfl)]
    first | done | rfl
  ·rintro s ⟨rfl,hany⟩
   have e5:(f.net.tr.take k).take k=f.net.tr.take k:=by rw[List.take_take];simp
   rw[e5,←hd] at hany
   simp (maxSteps:=2000000) (disch:=first|omega|(simp only[lenS];try omega)) only[go_sem,reduceAdd,reduceEqDiff,reduceLeDiff,reduceSub]
   exact⟨rfl,hst hany⟩
 ·rintro s ⟨rfl,h0⟩
  simp (maxSteps:=2000000) (disch:=first|omega|(simp only[lenS];try omega)) only[go_sem,reduceAdd,reduceEqDiff,reduceLeDiff,reduceSub]
  rw[show resDT f=none from zgu h0]
  first | done | rfl
theorem wfo(f:Fl)(hn:smN f.net):C w90 [encF f] []=some (.tup [dtV (zct f),.bool (zct f).isSome],[]):=by
  have h:=wfw f hn
  unfold zct
  cases ho:okRed f with
  | false =>
    rw[ho] at h
    refine w23 ?_
    simp (maxSteps:=2000000) (disch:=first|omega|(simp only[lenS];try omega)) only[wdv,go_sem,reduceAdd,reduceEqDiff,reduceLeDiff,reduceSub]
    simp (maxSteps:=2000000) (disch:=first|omega|(simp only[lenS];try omega)) only[go_sem,reduceAdd,reduceEqDiff,reduceLeDiff,reduceSub,h]
    first | done | rfl
  | true =>
    rw[ho] at h
    simp only[okRed,Bool.and_eq_true,Bool.not_eq_true'] at ho
    have e:=wfy f ho.1 ho.2
    simp only[if_true]
    generalize resDT f=o at *
    cases o with
    | none =>
      simp only[dtPV,Option.isSome_none,Option.map_none] at e ⊢
      refine w23 ?_
      simp (maxSteps:=2000000) (disch:=first|omega|(simp only[lenS];try omega)) only[wdv,go_sem,reduceAdd,reduceEqDiff,reduceLeDiff,reduceSub]
      simp (maxSteps:=2000000) (disch:=first|omega|(simp only[lenS];try omega)) only[go_sem,reduceAdd,reduceEqDiff,reduceLeDiff,reduceSub,h,e]
      first | done | rfl
    | some i =>
      simp only[dtPV,Option.isSome_some,Option.map_some] at e ⊢
      refine w23 ?_
      simp (maxSteps:=2000000) (disch:=first|omega|(simp only[lenS];try omega)) only[wdv,go_sem,reduceAdd,reduceEqDiff,reduceLeDiff,reduceSub]
      simp (maxSteps:=2000000) (disch:=first|omega|(simp only[lenS];try omega)) only[go_sem,reduceAdd,reduceEqDiff,reduceLeDiff,reduceSub,h,e]
      first | done | rfl
theorem wez(a b:List Int)(hl:a.length<2^62):C w8g [ints a,ints b] []=some (.bool (decide (a=b)),[]):=by
 refine w1n ?_
 simp (maxSteps:=2000000) (disch:=first|omega|(simp only[lenS];try omega)) only[wdc,go_sem,reduceAdd,reduceEqDiff,reduceLeDiff,reduceSub]
 refine⟨fun h=>?_,fun h=>?_⟩
 ·have:a≠b:=fun e=>h (by rw[e])
  simp [this]
 refine W_for a.length (fun k s=>s=⟨[ints a,ints b,.any,.any,.any,I a.length,I k,.any,.any],[]⟩∧a.take k=b.take k) ?_ ?_ ?_
 ·simp (maxSteps:=2000000) (disch:=first|omega|(simp only[lenS];try omega)) only[go_sem,reduceAdd,reduceEqDiff,reduceLeDiff,reduceSub]
  rfl
 ·rintro k s hk ⟨rfl,hall⟩
  simp (maxSteps:=2000000) (disch:=first|omega|(simp only[lenS];try omega)) only[go_sem,reduceAdd,reduceEqDiff,reduceLeDiff,reduceSub]
  refine⟨fun h=>?_,fun h=>⟨rfl,?_⟩⟩
  ·have:a≠b:=fun e=>h (by simp [e])
   simp [this]
  ·rw[z1ek hk,z1ek (show k<b.length by omega),hall,h]
 ·rintro s ⟨rfl,hall⟩
  simp (maxSteps:=2000000) (disch:=first|omega|(simp only[lenS];try omega)) only[go_sem,reduceAdd,reduceEqDiff,reduceLeDiff,reduceSub]
  rw[List.take_length,List.take_of_length_le (by omega)] at hall
  simp [hall]
theorem wf2(n:Net)(hn:smN n):C w8h [encN n,encN n] []=some (.bool true,[]):=by
 have h0:=hn.1
 refine w1o ?_
 simp (maxSteps:=2000000) (disch:=first|omega|(simp only[lenS];try omega)) only[wdd,go_sem,reduceAdd,reduceEqDiff,reduceLeDiff,reduceSub]
 refine W_for n.tr.length (fun k s=>s=⟨[.any,.any,.any,.ptr 0 0,.any,.any,.any,.any,.any,trs n.tr,I n.tr.length,I k,.any,.any],[.box wgx [I n.pl,trs n.tr]]⟩) ?_ ?_ ?_
 ·simp (maxSteps:=2000000) (disch:=first|omega|(simp only[lenS];try omega)) only[go_sem,reduceAdd,reduceEqDiff,reduceLeDiff,reduceSub]
  rfl
 ·rintro k s hk rfl
  obtain⟨h3,h4,h5⟩:=hn.2 _ (List.getElem_mem hk)
  simp (maxSteps:=2000000) (disch:=first|omega|(simp only[lenS];try omega)) only[go_sem,reduceAdd,reduceEqDiff,reduceLeDiff,reduceSub,wez]
  rfl
 ·rintro s rfl
  simp (maxSteps:=2000000) (disch:=first|omega|(simp only[lenS];try omega)) only[go_sem,reduceAdd,reduceEqDiff,reduceLeDiff,reduceSub]
theorem wey(f:Fl)(hn:smN f.net):C w8f [encF f,encF f] []=some (.bool true,[]):=by
 have h:=wf2 f.net hn
 refine w1m ?_
 simp (maxSteps:=2000000) (disch:=first|omega|(simp only[lenS];try omega)) only[wdb,go_sem,reduceAdd,reduceEqDiff,reduceLeDiff,reduceSub]
 simp (maxSteps:=2000000) (disch:=first|omega|(simp only[lenS];try omega)) only[go_sem,reduceAdd,reduceEqDiff,reduceLeDiff,reduceSub,h]
theorem wb2(f:Fl)(b:Int)(hf:smN f.net):C w7s [encF f,I b] []=some (.bool (ziu f&&inB 1 400 b),[]):=by
 refine w0z ?_
 simp (maxSteps:=2000000) (disch:=first|omega|(simp only[lenS];try omega)) only[wco,go_sem,reduceAdd,reduceEqDiff,reduceLeDiff,reduceSub]
 simp (maxSteps:=2000000) (disch:=first|omega|(simp only[lenS];try omega)) only[go_sem,reduceAdd,reduceEqDiff,reduceLeDiff,reduceSub,wa6 f hf,wbj]
 grind
theorem wbf(n p:Int)(hn:0≤n∧n<2^30)(hp:0≤p∧p<n):C w84 [I n,I p] []=some (.un t_int true 1 ((oneM n.toNat p).map I),[]):=by
 refine w1b ?_
 simp (maxSteps:=2000000) (disch:=first|omega|(simp only[lenS];try omega)) only[wd0,go_sem,reduceAdd,reduceEqDiff,reduceLeDiff,reduceSub]
 simp (maxSteps:=2000000) (disch:=first|omega|(simp only[lenS];try omega)) only[go_sem,reduceAdd,reduceEqDiff,reduceLeDiff,reduceSub,List.getElem_replicate]
 simp [oneM,List.map_set]
theorem wbg(f:Fl)(hg:ziu f=true):C w85 [encF f] []=some (.un t_int true 1 ((oneM f.net.pl.toNat f.src).map I),[]):=by
 obtain⟨g1,g2,g3,_⟩:=ziy hg
 have hn:=zja g1
 refine w1c ?_
 simp (maxSteps:=2000000) (disch:=first|omega|(simp only[lenS];try omega)) only[wd1,go_sem,reduceAdd,reduceEqDiff,reduceLeDiff,reduceSub]
 simp (maxSteps:=2000000) (disch:=first|omega|(simp only[lenS];try omega)) only[go_sem,reduceAdd,reduceEqDiff,reduceLeDiff,reduceSub,wbf f.net.pl f.src (by omega) g2]
theorem wb3(m:List Int)(p:Int)(h:0≤p∧p.toNat<m.length):C w7u [I p,.pv (.agg [ints m]) 0] []=some (.bool (at_ m p == 0),[]):=by
 obtain⟨h1,h2⟩:=h
 refine w11 ?_
 simp (maxSteps:=2000000) (disch:=first|omega|(simp only[lenS];try omega)) only[wcq,go_sem,reduceAdd,reduceEqDiff,reduceLeDiff,reduceSub]
 simp only[at_eq h2]
 grind
theorem wb4(t:Tr)(m:List Int)(ht : ∀ q∈t.inn,0≤q∧q.toNat<m.length)(hl:t.inn.length<2^62):C w7t [encT t,ints m] []=some (.bool (canT t m),[]):=by
 refine w10 ?_
 simp (maxSteps:=2000000) (disch:=first|omega|(simp only[lenS];try omega)) only[wcp,go_sem,reduceAdd,reduceEqDiff,reduceLeDiff,reduceSub]
 have h:=wf8 t.inn w7u [.pv (.agg [ints m]) 0] rfl (fun _ _=>rfl) (fun p=>at_ m p == 0) (fun x hx=>wb3 m x (ht x hx)) hl
 simp (maxSteps:=2000000) (disch:=first|omega|(simp only[lenS];try omega)) only[go_sem,reduceAdd,reduceEqDiff,reduceLeDiff,reduceSub,h]
 have:(t.inn.any fun p=>at_ m p == 0) = !canT t m:=by rw[canT,List.any_eq_not_all_not]
 rw[this];simp
theorem waq(n:Net)(m:List Int)(hg:goodN n=true)(hm:(m.length:Int)=n.pl):C w7i [encN n,ints m] []=some (.un t_int true 1 ((enabL n m).map I),[]):=by
 have hb:=zja hg
 refine w0p ?_
 simp (maxSteps:=2000000) (disch:=first|omega|(simp only[lenS];try omega)) only[wce,go_sem,reduceAdd,reduceEqDiff,reduceLeDiff,reduceSub]
 refine W_for n.tr.length (fun k s=>s=⟨[.any,ints m,.any,.any,.ref 0 1 0 (enabK n m k).length,.any,.any,trs n.tr,I n.tr.length,I k,.any,.any],[.row t_int true 1 ((enabK n m k).map I)]⟩) ?_ ?_ ?_
 ·simp (maxSteps:=2000000) (disch:=first|omega|(simp only[lenS];try omega)) only[go_sem,reduceAdd,reduceEqDiff,reduceLeDiff,reduceSub]
  rfl
 ·rintro k s hk rfl
  have hT:=hb.2.2.2 _ (List.getElem_mem hk)
  have h2:=zd2 n m k
  simp (maxSteps:=2000000) (disch:=first|omega|(simp only[lenS];try omega)) only[go_sem,reduceAdd,reduceEqDiff,reduceLeDiff,reduceSub,wb4 _ m (zjh hT hm).1 (by have:=(zjg hT (by omega)).1;omega)]
  refine⟨fun h=>?_,fun h=>?_⟩
  ·rw[zd3 hk h,List.map_append];simp
  ·rw[zd1 hk h];rfl
 ·rintro s rfl
  simp (maxSteps:=2000000) (disch:=first|omega|(simp only[lenS];try omega)) only[go_sem,reduceAdd,reduceEqDiff,reduceLeDiff,reduceSub]
  rfl
theorem wau(t:Tr)(m:List Int)(h1 : ∀ q∈t.inn,0≤q∧q.toNat<m.length)(h2 : ∀ q∈t.out,0≤q∧q.toNat<m.length)(h3 : ∀ q∈t.rst,0≤q∧q.toNat<m.length)(hl:smT t)(hm:m.length<2^30)(hb : ∀ x∈m,0≤x∧x≤50) :
  C w7l [encT t,ints m] []=some (.un t_int true 1 ((zgc t m).map I),[]):=by
 obtain⟨g1,g2,g3⟩:=hl
 refine w0s ?_
 simp (maxSteps:=2000000) (disch:=first|omega|(simp only[lenS];try omega)) only[wch,go_sem,reduceAdd,reduceEqDiff,reduceLeDiff,reduceSub]
 simp (maxSteps:=2000000) (disch:=first|omega|(simp only[lenS];try omega)) only[go_sem,reduceAdd,reduceEqDiff,reduceLeDiff,reduceSub,wf5]
 refine W_for t.inn.length (fun k s=>s=⟨[.any,.any,.ptr 0 0,.any,.ref 1 1 0 m.length,.any,.any,.any,ints t.inn,I t.inn.length,I k,.any,.any,.any,.any,.any,.any,.any,.any,.any],[.box wgz [ints t.inn,ints t.out,ints t.rst],.row t_int true 1 ((decL m (t.inn.take k)).map I)]⟩) ?_ ?_ ?_
 ·simp (maxSteps:=2000000) (disch:=first|omega|(simp only[lenS];try omega)) only[go_sem,reduceAdd,reduceEqDiff,reduceLeDiff,reduceSub]
  rfl
 ·rintro k s hk rfl
  obtain⟨h4,h5⟩:=h1 _ (List.getElem_mem hk)
  have h6:=zbv m (t.inn.take k)
  have h7:=z4k (p:=t.inn[k]) (zbu (l:=t.inn.take k) hb (fun p hp=>(h1 p (List.mem_of_mem_take hp)).2)) (by omega)
  have h8:(t.inn.take k).length=k:=by simp;omega
  simp (maxSteps:=2000000) (disch:=first|omega|(simp only[lenS];try omega)) only[go_sem,reduceAdd,reduceEqDiff,reduceLeDiff,reduceSub,at_eq]
  rw[zbw hk];rfl
 ·rintro s rfl
  simp (maxSteps:=2000000) (disch:=first|omega|(simp only[lenS];try omega)) only[go_sem,reduceAdd,reduceEqDiff,reduceLeDiff,reduceSub,List.take_length]
  have b1:=zbu (l:=t.inn) hb (fun p hp=>(h1 p hp).2)
  have l1:=zbv m t.inn
  generalize e1:decL m t.inn=m1 at b1 l1 ⊢
  refine W_for t.rst.length (fun k s=>s=⟨[.any,.any,.ptr 0 0,.any,.ref 1 1 0 m.length,.any,.any,.any,.any,.any,.any,.any,ints t.rst,I t.rst.length,I k,.any,.any,.any,.any,.any],[.box wgz [ints t.inn,ints t.out,ints t.rst],.row t_int true 1 ((zerL m1 (t.rst.take k)).map I)]⟩) ?_ ?_ ?_
  ·simp (maxSteps:=2000000) (disch:=first|omega|(simp only[lenS];try omega)) only[go_sem,reduceAdd,reduceEqDiff,reduceLeDiff,reduceSub]
   rfl
  ·rintro k s hk rfl
   obtain⟨h4,h5⟩:=h3 _ (List.getElem_mem hk)
   have h6:=z1h7 m1 (t.rst.take k)
   simp (maxSteps:=2000000) (disch:=first|omega|(simp only[lenS];try omega)) only[go_sem,reduceAdd,reduceEqDiff,reduceLeDiff,reduceSub]
   rw[z1h8 hk];rfl
  ·rintro s rfl
   simp (maxSteps:=2000000) (disch:=first|omega|(simp only[lenS];try omega)) only[go_sem,reduceAdd,reduceEqDiff,reduceLeDiff,reduceSub,List.take_length]
   have b2:=z1h6 (l:=t.rst) b1 (by omega)
   have l2:=z1h7 m1 t.rst
   generalize e2:zerL m1 t.rst=m2 at b2 l2 ⊢
   refine W_for t.out.length (fun k s=>s=⟨[.any,.any,.any,.any,.ref 0 1 0 m.length,.any,.any,.any,.any,.any,.any,.any,.any,.any,.any,.any,ints t.out,I t.out.length,I k,.any],[.row t_int true 1 ((incL m2 (t.out.take k)).map I)]⟩) ?_ ?_ ?_
   ·simp (maxSteps:=2000000) (disch:=first|omega|(simp only[lenS];try omega)) only[go_sem,reduceAdd,reduceEqDiff,reduceLeDiff,reduceSub]
    rfl
   ·rintro k s hk rfl
    obtain⟨h4,h5⟩:=h2 _ (List.getElem_mem hk)
    have h6:=zmf m2 (t.out.take k)
    have h7:=z4k (p:=t.out[k]) (zme (l:=t.out.take k) b2 (fun p hp=>by have:=(h2 p (List.mem_of_mem_take hp)).2;omega)) (by omega)
    have h8:(t.out.take k).length=k:=by simp;omega
    simp (maxSteps:=2000000) (disch:=first|omega|(simp only[lenS];try omega)) only[go_sem,reduceAdd,reduceEqDiff,reduceLeDiff,reduceSub,at_eq]
    rw[zmg hk];rfl
   ·rintro s rfl
    have h6:=zmf m2 t.out
    simp (maxSteps:=2000000) (disch:=first|omega|(simp only[lenS];try omega)) only[go_sem,reduceAdd,reduceEqDiff,reduceLeDiff,reduceSub,List.take_length]
    subst e2 e1;rfl
abbrev encA(a:Arc3):PV:=.agg [I a.src,I a.by_,I a.dst]
def arcPV(l:List Arc3):PV:=if l=[] then .nil true 3 else .un wgv true 3 (l.map encA)
def exPV(r:Ex):PV:=if r.code=0 then .agg [.un wh2 false 1 (r.sp.ms.map ints),arcPV r.sp.ar] else .agg [.nil false 1,.nil true 3]
def w6o(r:Ex):Int:=if r.code=0 then 1 else r.code
theorem w6p{n:Net}{start:List Int}{b:Int}(hm:zs4 n start=true)(hb:1≤b):ExOk n start b ⟨⟨[start],[]⟩,0⟩:=by
 refine⟨rfl,fun m hm2=>?_,by simp;omega,by simp,fun a ha=>by simp at ha,fun j hj hl=>?_⟩
 ·simp only[List.mem_singleton] at hm2;subst hm2;exact hm
 ·simp only[List.length_cons,List.length_nil] at hl;omega
theorem wab(x m:List Int)(hx:x.length<2^62):C w74 [ints x,.pv (.agg [ints m]) 0] []=some (.bool (decide (x=m)),[]):=by
 refine w0b ?_
 simp (maxSteps:=2000000) (disch:=first|omega|(simp only[lenS];try omega)) only[wc0,go_sem,reduceAdd,reduceEqDiff,reduceLeDiff,reduceSub]
 simp (maxSteps:=2000000) (disch:=first|omega|(simp only[lenS];try omega)) only[go_sem,reduceAdd,reduceEqDiff,reduceLeDiff,reduceSub,wfb]
 grind
theorem wff(l:List (List Int))(g:FuncId)(caps:List PV)(hc:refsL caps=[])(hcv : ∀ m h,z1g1 [] m h caps=some caps)(p:List Int→Bool)(hp : ∀ x∈l,C g (ints x :: caps) []=some (.bool (p x),[]))(hl:l.length<2^62) :
  C w8s [rows l,.clo g caps] []=some (I (idxI l p),[]):=by
 refine w1y ?_
 simp (maxSteps:=2000000) (disch:=first|omega|(simp only[lenS];try omega)) only[wdn,go_sem,reduceAdd,reduceEqDiff,reduceLeDiff,reduceSub]
 refine W_for l.length (fun k s=>s=⟨[rows l,.clo g caps,.any,.any,I l.length,I k,.any,.any],[]⟩∧(l.take k).any p=false) ?_ ?_ ?_
 ·simp (maxSteps:=2000000) (disch:=first|omega|(simp only[lenS];try omega)) only[go_sem,reduceAdd,reduceEqDiff,reduceLeDiff,reduceSub,hc]
  rfl
 ·rintro k s hk ⟨rfl,hall⟩
  simp (maxSteps:=2000000) (disch:=first|omega|(simp only[lenS];try omega)) only[go_sem,reduceAdd,reduceEqDiff,reduceLeDiff,reduceSub,hc,hcv,hp _ (List.getElem_mem hk)]
  exact⟨fun h=>by rw[zkg hk hall h],fun h=>⟨rfl,z3e hk hall h⟩⟩
 ·rintro s ⟨rfl,hall⟩
  simp (maxSteps:=2000000) (disch:=first|omega|(simp only[lenS];try omega)) only[go_sem,reduceAdd,reduceEqDiff,reduceLeDiff,reduceSub]
  rw[List.take_length] at hall
  rw[zkf hall]
theorem wac(ms:List (List Int))(A:List PV)(m:List Int)(hl:ms.length<2^62)(hx : ∀ x∈ms,x.length<2^62):C w73 [.agg [rows ms,.sl true 3 A],ints m] []=some (I (findM ms m),[]):=by
 have h:=wff ms w74 [.pv (.agg [ints m]) 0] rfl (fun _ _=>rfl) (fun x=>decide (x=m)) (fun x h=>wab x m (hx x h)) hl
 refine w0a ?_
 simp (maxSteps:=2000000) (disch:=first|omega|(simp only[lenS];try omega)) only[wbz,go_sem,reduceAdd,reduceEqDiff,reduceLeDiff,reduceSub]
 simp (maxSteps:=2000000) (disch:=first|omega|(simp only[lenS];try omega)) only[go_sem,reduceAdd,reduceEqDiff,reduceLeDiff,reduceSub,h]
 rfl
theorem wat(n:Net)(start:List Int)(b:Int)(hm:zs4 n start=true)(hb:1≤b∧b≤400):C w7k [encN n,ints start,I b] []=some (.tup [exPV (exAll n start b),I (w6o (exAll n start b))],[]):=by
  obtain⟨hg,hmk⟩:=zs5 hm
  have hn:=zja hg
  have hs:=zj2 hmk
  refine w0r ?_
  simp (maxSteps:=2000000) (disch:=first|omega|(simp only[lenS];try omega)) only[wcg,go_sem,reduceAdd,reduceEqDiff,reduceLeDiff,reduceSub]
  simp (maxSteps:=2000000) (disch:=first|omega|(simp only[lenS];try omega)) only[go_sem,reduceAdd,reduceEqDiff,reduceLeDiff,reduceSub,wf5]
  generalize hR:exAll n start b=R
  refine z1a (fun d s=>∃ (k:Nat) (c:Ex),d+k=b.toNat+1∧ExOk n start b c∧c.code=0∧k≤c.sp.ms.length∧c.sp.ar.length≤24*k∧exRun n b (d+1) k c=R∧((s=⟨[.any,.any,I b,.ptr 0 0,.ptr 1 0,.any,.ptr 2 0,I k,.any,.any,.any,.any,.any,.any,.any,.any,.any,.any,.any],[.box wgx [I n.pl,trs n.tr],.box wgy [.nil false 1,.nil true 3],.box wgy [.ref 3 1 0 c.sp.ms.length,.nil true 3],.row wh2 false 1 (c.sp.ms.map ints)]⟩∧c.sp.ar=[])∨(s=⟨[.any,.any,I b,.ptr 0 0,.ptr 1 0,.any,.ptr 2 0,I k,.any,.any,.any,.any,.any,.any,.any,.any,.any,.any,.any],[.box wgx [I n.pl,trs n.tr],.box wgy [.nil false 1,.nil true 3],.box wgy [.ref 3 1 0 c.sp.ms.length,.ref 4 3 0 c.sp.ar.length],.row wh2 false 1 (c.sp.ms.map ints),.row wgv true 3 (c.sp.ar.map encA)]⟩∧c.sp.ar≠[]))) (b.toNat+1) ?_ ?_
  · refine⟨0,⟨⟨[start],[]⟩,0⟩,by omega,w6p hm hb.1,rfl,by omega,by simp,hR,.inl ⟨?_,rfl⟩⟩
    simp (maxSteps:=2000000) (disch:=first|omega|(simp only[lenS];try omega)) only[go_sem,reduceAdd,reduceEqDiff,reduceLeDiff,reduceSub]
    rfl
  · rintro d s ⟨k,c,hd,hok,hc0,hk,hal,hrun,hcs⟩
    have hlb:=hok.lenb
    by_cases hkl:k<c.sp.ms.length
    · have hmem:=zij hkl
      have hmg:=zs5 (hok.good _ hmem)
      have hml:=zj2 hmg.2
      have en:=waq n (c.sp.ms.getD k []) hg hml.2.2.1
      have hLl:(enabL n (c.sp.ms.getD k [])).length≤n.tr.length:=zd2 ..
      have er:exRun n b (d+1) k c=exRun n b d (k+1) (exL n b k c (enabL n (c.sp.ms.getD k []))):=by
        show(if c.code≠0 then c else if k<c.sp.ms.length then _ else c)=_
        rw[if_neg (by omega),if_pos hkl]
      rw[er] at hrun
      have hen : ∀ t∈enabL n (c.sp.ms.getD k []),t∈enabL n (c.sp.ms.getD k []):=fun t h=>h
      generalize hL:enabL n (c.sp.ms.getD k [])=L at *
      rcases hcs with⟨rfl,har⟩ | ⟨rfl,har⟩
      all_goals
        simp (maxSteps:=2000000) (disch:=first|omega|(simp only[lenS];try omega)) only[go_sem,reduceAdd,reduceEqDiff,reduceLeDiff,reduceSub,zik,en]
        refine W_for L.length (fun j s=>∃ c':Ex,ExOk n start b c'∧c'.code=0∧k<c'.sp.ms.length∧enabL n (c'.sp.ms.getD k [])=L∧c'.sp.ar.length≤24*k+j∧exRun n b d (k+1) (exL n b k c' (L.drop j))=R∧((s=⟨[.any,.any,I b,.ptr 0 0,.ptr 1 0,.any,.ptr 2 0,I k,.any,.any,.any,.any,.ref 3 1 0 L.length,I L.length,I j,.any,.any,.any,.any],[.box wgx [I n.pl,trs n.tr],.box wgy [.nil false 1,.nil true 3],.box wgy [.ref 4 1 0 c'.sp.ms.length,.nil true 3],.row t_int true 1 (L.map I),.row wh2 false 1 (c'.sp.ms.map ints)]⟩∧c'.sp.ar=[])∨(s=⟨[.any,.any,I b,.ptr 0 0,.ptr 1 0,.any,.ptr 2 0,I k,.any,.any,.any,.any,.ref 3 1 0 L.length,I L.length,I j,.any,.any,.any,.any],[.box wgx [I n.pl,trs n.tr],.box wgy [.nil false 1,.nil true 3],.box wgy [.ref 4 1 0 c'.sp.ms.length,.ref 5 3 0 c'.sp.ar.length],.row t_int true 1 (L.map I),.row wh2 false 1 (c'.sp.ms.map ints),.row wgv true 3 (c'.sp.ar.map encA)]⟩∧c'.sp.ar≠[]))) ?_ ?_ ?_
        · refine⟨c,hok,hc0,hkl,hL,by omega,hrun,?_⟩
          first
          | refine .inl ⟨?_, har⟩
            simp (maxSteps:=2000000) (disch:=first|omega|(simp only[lenS];try omega)) only[go_sem,reduceAdd,reduceEqDiff,reduceLeDiff,reduceSub]
            done
          | refine .inl ⟨?_, har⟩
            simp (maxSteps:=2000000) (disch:=first|omega|(simp only[lenS];try omega)) only[go_sem,reduceAdd,reduceEqDiff,reduceLeDiff,reduceSub]
            rfl
          | refine .inr ⟨?_, har⟩
            simp (maxSteps:=2000000) (disch:=first|omega|(simp only[lenS];try omega)) only[go_sem,reduceAdd,reduceEqDiff,reduceLeDiff,reduceSub]
            done
          | refine .inr ⟨?_, har⟩
            simp (maxSteps:=2000000) (disch:=first|omega|(simp only[lenS];try omega)) only[go_sem,reduceAdd,reduceEqDiff,reduceLeDiff,reduceSub]
            rfl
        · rintro j s hj ⟨c',hok',hc0',hkl',hL',hal',hrun',hcs'⟩
          have hlb':=hok'.lenb
          have ht:L[j]∈enabL n (c'.sp.ms.getD k []):=by rw[hL'];exact List.getElem_mem hj
          obtain⟨t1,t2,t3⟩:=zd4.1 ht
          have hT:=hn.2.2.2 (trAt n L[j]) (by rw[←z1ex t2];exact List.getElem_mem _)
          have hm2:=zj2 (zs5 (hok'.good _ (zij hkl'))).2
          have hx:=zjh hT hm2.2.2.1
          have hy:=zjg hT (by omega)
          have hfire:=wau (trAt n L[j]) (c'.sp.ms.getD k []) hx.1 hx.2.1 hx.2.2 ⟨by omega,by omega,by omega⟩ (by omega) hm2.2.2.2.2
          have hMl:=zge (trAt n L[j]) (c'.sp.ms.getD k [])
          have hok2:=zef hok' hkl' ht
          have hxs : ∀ x∈c'.sp.ms,x.length<2^62:=fun x hx=>by have:=zj2 (zs5 (hok'.good x hx)).2;omega
          rw[zdw hj] at hrun'
          have f1:=zek (n:=n) (b:=b) (k:=k) (s:=c') (t:=L[j]) hc0'
          have f2:=zeg (n:=n) (b:=b) (k:=k) (s:=c') (t:=L[j]) hc0'
          have f3:=zec (n:=n) (b:=b) (k:=k) (s:=c') (t:=L[j]) hc0'
          have f4:=zee (n:=n) (b:=b) (k:=k) (s:=c') (t:=L[j]) hc0'
          generalize hM:zgc (trAt n L[j]) (c'.sp.ms.getD k [])=M at *
          have ck:C w78 [ints M,I 0,I 50] []=some (.bool (M.all (inB 0 50)),[]):=wag M 0 50 (by omega)
          have fd:=fun A=>wac c'.sp.ms A M (by omega) hxs
          have hsl : ∀ c2:Ex,c2.code≠0→exRun n b d (k+1) (exL n b k c2 (L.drop (j+1)))=c2:=fun c2 h=>by rw[zdy h,ze5 h]
          cases ha:M.all (inB 0 50) with
          | false =>
            rw[f1 ha,hsl _ (by simp)] at hrun'
            subst hrun'
            rw[ha] at ck
            rcases hcs' with⟨rfl,har'⟩ | ⟨rfl,har'⟩<;>simp (maxSteps:=2000000) (disch:=first|omega|(simp only[lenS];try omega)) only[go_sem,reduceAdd,reduceEqDiff,reduceLeDiff,reduceSub,zik,z1ex,hfire,ck,exPV,w6o]
          | true =>
            rw[ha] at ck
            by_cases h2:0≤findM c'.sp.ms M
            · rw[f2 ha h2] at hrun' hok2
              rcases hcs' with⟨rfl,har'⟩ | ⟨rfl,har'⟩
              · simp (maxSteps:=2000000) (disch:=first|omega|(simp only[lenS];try omega)) only[go_sem,reduceAdd,reduceEqDiff,reduceLeDiff,reduceSub,zik,z1ex,hfire,ck,fd]
                refine⟨_,hok2,rfl,hkl',hL',by simp only[List.length_append,List.length_cons,List.length_nil];omega,hrun',.inr ⟨?_,by simp⟩⟩
                simp [har']
              · simp (maxSteps:=2000000) (disch:=first|omega|(simp only[lenS];try omega)) only[go_sem,reduceAdd,reduceEqDiff,reduceLeDiff,reduceSub,zik,z1ex,hfire,ck,fd]
                refine⟨_,hok2,rfl,hkl',hL',by simp only[List.length_append,List.length_cons,List.length_nil];omega,hrun',.inr ⟨?_,by simp⟩⟩
                simp
            · by_cases h3:b≤c'.sp.ms.length
              · rw[f3 ha h2 h3,hsl _ (by simp)] at hrun'
                subst hrun'
                rcases hcs' with⟨rfl,har'⟩ | ⟨rfl,har'⟩<;>simp (maxSteps:=2000000) (disch:=first|omega|(simp only[lenS];try omega)) only[go_sem,reduceAdd,reduceEqDiff,reduceLeDiff,reduceSub,zik,z1ex,hfire,ck,fd,exPV,w6o]
              · rw[f4 ha h2 h3] at hrun' hok2
                rcases hcs' with⟨rfl,har'⟩ | ⟨rfl,har'⟩
                · simp (maxSteps:=2000000) (disch:=first|omega|(simp only[lenS];try omega)) only[go_sem,reduceAdd,reduceEqDiff,reduceLeDiff,reduceSub,zik,z1ex,hfire,ck,fd]
                  refine⟨_,hok2,rfl,by simp only[List.length_append];omega,by simp only;rw[zif hkl'];exact hL',by simp only[List.length_append,List.length_cons,List.length_nil];omega,hrun',.inr ⟨?_,by simp⟩⟩
                  simp [har']
                · simp (maxSteps:=2000000) (disch:=first|omega|(simp only[lenS];try omega)) only[go_sem,reduceAdd,reduceEqDiff,reduceLeDiff,reduceSub,zik,z1ex,hfire,ck,fd]
                  refine⟨_,hok2,rfl,by simp only[List.length_append];omega,by simp only;rw[zif hkl'];exact hL',by simp only[List.length_append,List.length_cons,List.length_nil];omega,hrun',.inr ⟨?_,by simp⟩⟩
                  simp
        · rintro s ⟨c',hok',hc0',hkl',hL',hal',hrun',hcs'⟩
          rw[List.drop_length] at hrun'
          have hlb':=hok'.lenb
          rcases hcs' with⟨rfl,har'⟩ | ⟨rfl,har'⟩
          · simp (maxSteps:=2000000) (disch:=first|omega|(simp only[lenS];try omega)) only[go_sem,reduceAdd,reduceEqDiff,reduceLeDiff,reduceSub]
            refine⟨d-1,by omega,k+1,c',by omega,hok',hc0',by omega,by omega,by rw[show d-1+1=d by omega];exact hrun',.inl ⟨rfl,har'⟩⟩
          · simp (maxSteps:=2000000) (disch:=first|omega|(simp only[lenS];try omega)) only[go_sem,reduceAdd,reduceEqDiff,reduceLeDiff,reduceSub]
            refine⟨d-1,by omega,k+1,c',by omega,hok',hc0',by omega,by omega,by rw[show d-1+1=d by omega];exact hrun',.inr ⟨rfl,har'⟩⟩
    · have er:exRun n b (d+1) k c=c:=by
        show(if c.code≠0 then c else if k<c.sp.ms.length then _ else c)=_
        rw[if_neg (by omega),if_neg hkl]
      rw[er] at hrun
      subst hrun
      rcases hcs with⟨rfl,har⟩ | ⟨rfl,har⟩
      · simp (maxSteps:=2000000) (disch:=first|omega|(simp only[lenS];try omega)) only[go_sem,reduceAdd,reduceEqDiff,reduceLeDiff,reduceSub]
        simp [exPV,w6o,hc0,arcPV,har]
      · simp (maxSteps:=2000000) (disch:=first|omega|(simp only[lenS];try omega)) only[go_sem,reduceAdd,reduceEqDiff,reduceLeDiff,reduceSub]
        simp [exPV,w6o,hc0,arcPV,har]
theorem war(f:Fl)(hg:ziu f=true):C w7j [encF f] []=some (.un t_int true 1 ((oneM f.net.pl.toNat f.dst).map I),[]):=by
 obtain⟨g1,g2,g3,_⟩:=ziy hg
 have hn:=zja g1
 refine w0q ?_
 simp (maxSteps:=2000000) (disch:=first|omega|(simp only[lenS];try omega)) only[wcf,go_sem,reduceAdd,reduceEqDiff,reduceLeDiff,reduceSub]
 simp (maxSteps:=2000000) (disch:=first|omega|(simp only[lenS];try omega)) only[go_sem,reduceAdd,reduceEqDiff,reduceLeDiff,reduceSub,wbf f.net.pl f.dst (by omega) g3]
theorem wad(ms:List (List Int))(ar:List Arc3)(p:Int)(hm:ms.length<2^36)(hr:ar.length<2^35)(ha:z44 ar ms.length)(hk:0≤p∧p<ms.length) :
  C w75 [.agg [rows ms,.sl true 3 (ar.map encA)],ints [p]] []=some (.un wgu true 1 ((toL ar ms.length [p]).map PV.bool),[]):=by
 refine w0c ?_
 simp (maxSteps:=2000000) (disch:=first|omega|(simp only[lenS];try omega)) only[wc1,go_sem,reduceAdd,reduceEqDiff,reduceLeDiff,reduceSub]
 generalize hn:ms.length=n at *
 refine W_for ar.length (fun k s=>s=⟨[.any,ints [p],.any,.any,.ref 0 1 0 n,.ref 1 1 0 n,.any,.any,.any,.any,.any,.sl true 3 (ar.map encA),I ar.length,I k,.any,.any,.any,.any,.any,.any,.any,.any,.any,.any,.any],[.row wgu true 1 (List.replicate n (.bool false)),.lin wh2 1 (befP (ar.take k) n)]⟩) ?_ ?_ ?_
 ·simp (maxSteps:=2000000) (disch:=first|omega|(simp only[lenS];try omega)) only[go_sem,reduceAdd,reduceEqDiff,reduceLeDiff,reduceSub]
  rw[z5b];rfl
 ·rintro k s hk2 rfl
  obtain⟨a1,a2,a3,a4⟩:=ha _ (List.getElem_mem hk2)
  have h1:=z59 (ar.take k) n
  have h2:=z58 (ar:=ar.take k) (n:=n) a3 a4
  have h3:=z5a (n:=n) hk2 a3
  have h4:=z5c (ar.take k) ar[k].dst
  rw[List.length_take] at h4
  rw[h3]
  generalize befP (ar.take k) n=B at *
  generalize befs (ar.take k) ar[k].dst=L at *
  generalize hA:ar[k]=a at *
  by_cases hL:L=[]
  ·subst hL
   rw[show pvB []=PV.nil true 1 from rfl] at h2
   simp (maxSteps:=2000000) (disch:=first|omega|(simp only[lenS];try omega)) only[go_sem,reduceAdd,reduceEqDiff,reduceLeDiff,reduceSub,hA,h1,h2]
   exact⟨by decide,rfl⟩
  ·have hpos:=List.length_pos_iff.2 hL
   rw[show pvB L=ints L by simp [pvB,hL]] at h2
   simp (maxSteps:=2000000) (disch:=first|omega|(simp only[lenS];try omega)) only[go_sem,reduceAdd,reduceEqDiff,reduceLeDiff,reduceSub,hA,h1,h2,List.getElem_set_self,List.set_set]
   refine⟨by decide,?_⟩
   rw[show ints (L++[a.src])=.sl true 1 (L.map I++[I a.src]) by show PV.sl true 1 ((L++[a.src]).map I)=_;rw[List.map_append];rfl];rfl
 ·rintro s rfl
  have hcl:=wf5 (es:=[I p]) (by simp)
  rw[List.take_length]
  simp (maxSteps:=2000000) (disch:=first|omega|(simp only[lenS];try omega)) only[go_sem,reduceAdd,reduceEqDiff,reduceLeDiff,reduceSub,hcl]
  refine W_for 1 (fun k s=>s=⟨[.any,.any,.any,.any,.ref 0 1 0 n,.ref 1 1 0 n,.any,.ref 2 1 0 1,.any,.any,.any,.any,.any,.any,.any,ints [p],I 1,I k,.any,.any,.any,.any,.any,.any,.any],[.row wgu true 1 ((putS (List.replicate n false) ([p].take k)).map PV.bool),.lin wh2 1 (befP ar n),.row t_int true 1 [I p]]⟩) ?_ ?_ ?_
  ·simp (maxSteps:=2000000) (disch:=first|omega|(simp only[lenS];try omega)) only[go_sem,reduceAdd,reduceEqDiff,reduceLeDiff,reduceSub]
   simp [putS]
  ·rintro k s hk2 rfl
   obtain rfl:k=0:=by omega
   have h5:(List.replicate n false)[p.toNat]? = some false:=by rw[List.getElem?_replicate,if_pos (by omega)]
   have h6:(List.replicate n false).length=n:=List.length_replicate
   show W _ _ _ ⟨_,[.row wgu true 1 ((List.replicate n false).map PV.bool),_,_]⟩ _
   rw[show putS (List.replicate n false) ([p].take (0+1))=(List.replicate n false).set p.toNat true from rfl]
   generalize List.replicate n false=c at *
   simp (maxSteps:=2000000) (disch:=first|omega|(simp only[lenS];try omega)) only[go_sem,reduceAdd,reduceEqDiff,reduceLeDiff,reduceSub,h5,h6]
   rw[List.map_set];rfl
  ·rintro s rfl
   have e0:putS (List.replicate n false) ([p].take 1)=(List.replicate n false).set p.toNat true:=rfl
   rw[e0]
   have hst:=BF.start (ar:=ar) hk.1 hk.2
   generalize (List.replicate n false).set p.toNat true=c0 at *
   simp (maxSteps:=2000000) (disch:=first|omega|(simp only[lenS];try omega)) only[go_sem,reduceAdd,reduceEqDiff,reduceLeDiff,reduceSub]
   refine z1a (fun j s=>∃ (c:List Bool) (q:List Int) (i:Nat) (K:Blk),(K=.lin wh2 1 (befP ar n)∨K=.fro false 1 (befP ar n))∧BF ar n [p] c q i∧j=cntF c+(q.length-i)∧s=⟨[.any,.any,.any,.any,.ref 0 1 0 n,.ref 1 1 0 n,.any,.ref 2 1 0 q.length,.any,I i,.any,.any,.any,.any,.any,.any,.any,.any,.any,.any,.any,.any,.any,.any,.any],[.row wgu true 1 (c.map PV.bool),K,.row t_int true 1 (q.map I)]⟩) (cntF c0+1) ?_ ?_
   ·refine⟨c0,[p],0,_,.inl rfl,hst,rfl,?_⟩
    simp (maxSteps:=2000000) (disch:=first|omega|(simp only[lenS];try omega)) only[go_sem,reduceAdd,reduceEqDiff,reduceLeDiff,reduceSub]
    rfl
   ·rintro j s ⟨c,q,i,K,hK,hB,rfl,rfl⟩
    have hqn:q.length≤n:=by have:=hB.cnt;omega
    by_cases hi:i<q.length
    case neg =>
     have hiq:i=q.length:=by have:=hB.le;omega
     subst hiq
     have hend:=hB.end_ ha (fun k hk'=>by simp at hk';subst hk';exact hk)
     have hcl:=hB.len
     rcases hK with rfl | rfl
     all_goals
      simp (maxSteps:=2000000) (disch:=first|omega|(simp only[lenS];try omega)) only[go_sem,reduceAdd,reduceEqDiff,reduceLeDiff,reduceSub,hcl]
      rw[hend]
    case pos =>
     have hq:=hB.inn _ (List.getElem_mem hi)
     have hlk:=hB.look hi
     have hget:=z58 (ar:=ar) (n:=n) hq.1 hq.2
     have hln:=z59 ar n
     have hbl:=z5c ar q[i]
     have hsrc : ∀ x∈befs ar q[i],0≤x∧x<n:=fun x hx=>by
      obtain⟨a,h1,_,rfl⟩:=z5d.1 hx
      exact⟨(ha a h1).1,(ha a h1).2.1⟩
     have hnext:=fun c' q'=>BG.next (ar:=ar) (n:=n) (S:=[p]) (i:=i) (x:=q[i]) (c:=c') (q:=q')
     have hold:=fun m c' q'=>BG.old (ar:=ar) (n:=n) (S:=[p]) (i:=i) (L:=befs ar q[i]) (m:=m) (x:=q[i]) (c:=c') (q:=q')
     have hnew:=fun m c' q' (h:BG ar n [p] i (befs ar q[i]) m q[i] c' q')=>h.new ha
     generalize befs ar q[i]=L at *
     generalize hqi:q[i]=x at *
     generalize befP ar n=B at *
     have hmeas:=hB.cnt
     by_cases hL:L=[]
     ·subst hL
      rw[show pvB []=PV.nil true 1 from rfl] at hget
      rcases hK with rfl | rfl
      all_goals
       simp (maxSteps:=2000000) (disch:=first|omega|(simp only[lenS];try omega)) only[go_sem,reduceAdd,reduceEqDiff,reduceLeDiff,reduceSub,hqi,hln,hget]
       refine W_for 0 (fun m s=>m=0∧s=⟨[.any,.any,.any,.any,.ref 0 1 0 n,.ref 1 1 0 n,.any,.ref 2 1 0 q.length,.any,I i,.any,.any,.any,.any,.any,.any,.any,.any,.any,.any,.nil true 1,I 0,I 0,.any,.any],[.row wgu true 1 (c.map PV.bool),.fro false 1 B,.row t_int true 1 (q.map I)]⟩) ?_ ?_ ?_
       ·simp (maxSteps:=2000000) (disch:=first|omega|(simp only[lenS];try omega)) only[go_sem,reduceAdd,reduceEqDiff,reduceLeDiff,reduceSub]
        first | done | rfl | exact⟨rfl,rfl⟩
       ·intro m s hm2;omega
       ·rintro s ⟨_,rfl⟩
        simp (maxSteps:=2000000) (disch:=first|omega|(simp only[lenS];try omega)) only[go_sem,reduceAdd,reduceEqDiff,reduceLeDiff,reduceSub]
        exact⟨cntF c+(q.length-(i+1)),by omega,c,q,i+1,_,.inr rfl,hnext c q hlk,rfl,rfl⟩
     ·have hpos:=List.length_pos_iff.2 hL
      rw[show pvB L=ints L by simp [pvB,hL]] at hget
      rcases hK with rfl | rfl
      all_goals
       simp (maxSteps:=2000000) (disch:=first|omega|(simp only[lenS];try omega)) only[go_sem,reduceAdd,reduceEqDiff,reduceLeDiff,reduceSub,hqi,hln,hget]
       refine W_for L.length (fun m s=>∃ (c':List Bool) (q':List Int),BG ar n [p] i L m x c' q'∧cntF c'+q'.length≤cntF c+q.length∧s=⟨[.any,.any,.any,.any,.ref 0 1 0 n,.ref 1 1 0 n,.any,.ref 2 1 0 q'.length,.any,I i,.any,.any,.any,.any,.any,.any,.any,.any,.any,.any,ints L,I L.length,I m,.any,.any],[.row wgu true 1 (c'.map PV.bool),.fro false 1 B,.row t_int true 1 (q'.map I)]⟩) ?_ ?_ ?_
       ·refine⟨c,q,hlk,Nat.le_refl _,?_⟩
        simp (maxSteps:=2000000) (disch:=first|omega|(simp only[lenS];try omega)) only[go_sem,reduceAdd,reduceEqDiff,reduceLeDiff,reduceSub]
        first | done | rfl
       ·rintro m s hm2 ⟨c',q',h1,h2,rfl⟩
        have hy:=hsrc _ (List.getElem_mem hm2)
        have hcl:=h1.len
        have hcn:=h1.cnt
        have g1:c'[L[m].toNat]? = some (c'[L[m].toNat]'(by omega)):=List.getElem?_eq_getElem (by omega)
        have o1:=hold m c' q' h1 hm2
        have o2:=hnew m c' q' h1 hm2
        have hcs:=zan (l:=c') (k:=L[m].toNat) (by omega)
        rw[List.getD_eq_getElem?_getD] at hcs
        rw[g1] at o1 o2 hcs
        generalize c'[L[m].toNat]'(by omega)=b at *
        generalize hy2:L[m]=y at *
        simp (maxSteps:=2000000) (disch:=first|omega|(simp only[lenS];try omega)) only[go_sem,reduceAdd,reduceEqDiff,reduceLeDiff,reduceSub,hy2,hcl,g1]
        refine⟨fun e=>?_,fun e=>?_⟩
        ·subst e
         exact⟨c',q',o1 rfl,h2,rfl⟩
        ·subst e
         have:=hcs rfl
         refine⟨_,_,o2 rfl,by rw[List.length_append];simp only[List.length_cons,List.length_nil];omega,?_⟩
         rw[List.map_append,List.map_set,List.length_append];rfl
       ·rintro s ⟨c',q',h1,h2,rfl⟩
        simp (maxSteps:=2000000) (disch:=first|omega|(simp only[lenS];try omega)) only[go_sem,reduceAdd,reduceEqDiff,reduceLeDiff,reduceSub]
        exact⟨cntF c'+(q'.length-(i+1)),by have:=h1.lt;omega,c',q',i+1,_,.inr rfl,hnext c' q' h1,rfl,rfl⟩
theorem wfg(c:List Bool)(b:Bool)(hl:c.length<2^62):C w8t [.sl true 1 (c.map PV.bool),.bool b] []=some (I (idxI c (fun x=>x == b)),[]):=by
 refine w1z ?_
 simp (maxSteps:=2000000) (disch:=first|omega|(simp only[lenS];try omega)) only[wdo,go_sem,reduceAdd,reduceEqDiff,reduceLeDiff,reduceSub]
 refine W_for c.length (fun k s=>s=⟨[.sl true 1 (c.map PV.bool),.bool b,.any,.any,I c.length,I k,.any,.any],[]⟩∧(c.take k).any (fun x=>x == b)=false) ?_ ?_ ?_
 ·simp (maxSteps:=2000000) (disch:=first|omega|(simp only[lenS];try omega)) only[go_sem,reduceAdd,reduceEqDiff,reduceLeDiff,reduceSub]
  simp
 ·rintro k s hk ⟨rfl,h⟩
  have h1:=fun e=>zkg (p:=fun x=>x == b) hk h e
  have h2:=fun e=>z3e (p:=fun x=>x == b) hk h e
  cases b
  all_goals
   simp (maxSteps:=2000000) (disch:=first|omega|(simp only[lenS];try omega)) only[go_sem,reduceAdd,reduceEqDiff,reduceLeDiff,reduceSub]
   refine⟨fun e=>?_,fun e=>?_⟩
   all_goals first
    | (rw[h1 (by simp [e])])
    | exact⟨rfl,h2 (by simp [e])⟩
 ·rintro s ⟨rfl,h⟩
  rw[List.take_length] at h
  simp (maxSteps:=2000000) (disch:=first|omega|(simp only[lenS];try omega)) only[go_sem,reduceAdd,reduceEqDiff,reduceLeDiff,reduceSub]
  rw[zkf h]
theorem wam(a b:List Int)(hl:a.length=b.length)(hb:b.length<2^62):C w7e [ints a,ints b] []=some (.bool (zbh a b),[]):=by
 refine w0l ?_
 simp (maxSteps:=2000000) (disch:=first|omega|(simp only[lenS];try omega)) only[wca,go_sem,reduceAdd,reduceEqDiff,reduceLeDiff,reduceSub]
 refine W_for a.length (fun k s=>s=⟨[.any,ints b,.any,.any,.any,ints a,I a.length,I k,.any,.any],[]⟩∧((a.zip b).take k).all (fun p=>decide (p.2≤p.1))=true) ?_ ?_ ?_
 ·simp (maxSteps:=2000000) (disch:=first|omega|(simp only[lenS];try omega)) only[go_sem,reduceAdd,reduceEqDiff,reduceLeDiff,reduceSub]
  rfl
 ·rintro k s hk ⟨rfl,hall⟩
  simp (maxSteps:=2000000) (disch:=first|omega|(simp only[lenS];try omega)) only[go_sem,reduceAdd,reduceEqDiff,reduceLeDiff,reduceSub]
  have hz:k<(a.zip b).length:=by simp;omega
  refine⟨fun h=>?_,fun h=>⟨rfl,z2z hz hall (by simp;omega)⟩⟩
  have:zbh a b=false:=z2y hz (by simp;omega)
  rw[this]
 ·rintro s ⟨rfl,hall⟩
  simp (maxSteps:=2000000) (disch:=first|omega|(simp only[lenS];try omega)) only[go_sem,reduceAdd,reduceEqDiff,reduceLeDiff,reduceSub]
  rw[List.take_of_length_le (by simp;omega)] at hall
  unfold zbh
  rw[hall]
theorem wb6(a b:List Int)(hl:a.length=b.length)(hb:b.length<2^62):C w7w [ints a,ints b] []=some (.bool (overB a b),[]):=by
 have h1:=wam a b hl hb
 have h2:=wfb a b (by omega)
 unfold overB
 generalize zbh a b=c at *
 refine w13 ?_
 simp (maxSteps:=2000000) (disch:=first|omega|(simp only[lenS];try omega)) only[wcs,go_sem,reduceAdd,reduceEqDiff,reduceLeDiff,reduceSub]
 simp (maxSteps:=2000000) (disch:=first|omega|(simp only[lenS];try omega)) only[go_sem,reduceAdd,reduceEqDiff,reduceLeDiff,reduceSub,h1,h2]
 grind
theorem waj(a b:List Int)(hl:a.length=b.length)(hb:b.length<2^62):C w7c [ints a,.pv (.agg [ints b]) 0] []=some (.bool (overB a b),[]):=by
 have h1:=wb6 a b hl hb
 generalize overB a b=c at *
 refine w0j ?_
 simp (maxSteps:=2000000) (disch:=first|omega|(simp only[lenS];try omega)) only[wc8,go_sem,reduceAdd,reduceEqDiff,reduceLeDiff,reduceSub]
 simp (maxSteps:=2000000) (disch:=first|omega|(simp only[lenS];try omega)) only[go_sem,reduceAdd,reduceEqDiff,reduceLeDiff,reduceSub,h1]
 cases c<;>simp
theorem wae(a:Arc3)(p:Int):C w77 [encA a,.pv (.agg [I p]) 0] []=some (.bool (decide (a.dst=p)),[]):=by
 refine w0e ?_
 simp (maxSteps:=2000000) (disch:=first|omega|(simp only[lenS];try omega)) only[wc3,go_sem,reduceAdd,reduceEqDiff,reduceLeDiff,reduceSub]
 grind
theorem wfc(l:List Arc3)(g:FuncId)(caps:List PV)(hc:refsL caps=[])(hcv : ∀ m h,z1g1 [] m h caps=some caps)(p:Arc3→Bool)(hp : ∀ x∈l,C g (encA x :: caps) []=some (.bool (p x),[]))(hl:l.length<2^62) :
  C w8p [.sl true 3 (l.map encA),.clo g caps] []=some (I (idxI l p),[]):=by
 refine w1v ?_
 simp (maxSteps:=2000000) (disch:=first|omega|(simp only[lenS];try omega)) only[wdk,go_sem,reduceAdd,reduceEqDiff,reduceLeDiff,reduceSub]
 refine W_for l.length (fun k s=>s=⟨[.sl true 3 (l.map encA),.clo g caps,.any,.any,I l.length,I k,.any,.any],[]⟩∧(l.take k).any p=false) ?_ ?_ ?_
 ·simp (maxSteps:=2000000) (disch:=first|omega|(simp only[lenS];try omega)) only[go_sem,reduceAdd,reduceEqDiff,reduceLeDiff,reduceSub,hc]
  rfl
 ·rintro k s hk ⟨rfl,hall⟩
  simp (maxSteps:=2000000) (disch:=first|omega|(simp only[lenS];try omega)) only[go_sem,reduceAdd,reduceEqDiff,reduceLeDiff,reduceSub,hc,hcv,hp _ (List.getElem_mem hk)]
  exact⟨fun h=>by rw[zkg hk hall h],fun h=>⟨rfl,z3e hk hall h⟩⟩
 ·rintro s ⟨rfl,hall⟩
  simp (maxSteps:=2000000) (disch:=first|omega|(simp only[lenS];try omega)) only[go_sem,reduceAdd,reduceEqDiff,reduceLeDiff,reduceSub]
  rw[List.take_length] at hall
  rw[zkf hall]
theorem wfi(l:List Int)(hl:l.length<2^60):C w8v [.ref 0 1 0 l.length] [.row t_int true 1 (l.map I)]=some (.tup [],[.row t_int true 1 (l.reverse.map I)]):=by
 refine w21 ?_
 simp (maxSteps:=2000000) (disch:=first|omega|(simp only[lenS];try omega)) only[wdq,go_sem,reduceAdd,reduceEqDiff,reduceLeDiff,reduceSub]
 refine z1a (fun k s=>∃ (i:Nat) (c:List Int),k+2*i=l.length+1∧revI l c i∧s=⟨[.ref 0 1 0 l.length,I i,I (l.length-1-i:Int),.any],[.row t_int true 1 (c.map I)]⟩) (l.length+1) ?_ ?_
 ·refine⟨0,l,by omega,z161 l,?_⟩
  simp (maxSteps:=2000000) (disch:=first|omega|(simp only[lenS];try omega)) only[go_sem,reduceAdd,reduceEqDiff,reduceLeDiff,reduceSub]
  simp
 ·rintro k s ⟨i,c,hk,hr,rfl⟩
  have hcl:=hr.1
  by_cases hi:2*i+1<l.length
  ·have e1:((l.length:Int)-1-i).toNat=l.length-1-i:=by omega
   have hst:=z160 hr hi
   simp (maxSteps:=2000000) (disch:=first|omega|(simp only[lenS];try omega)) only[go_sem,reduceAdd,reduceEqDiff,reduceLeDiff,reduceSub,e1]
   refine⟨k-2,by omega,i+1,_,by omega,hst,?_⟩
   rw[show(l.length:Int)-1-((i+1:Nat):Int)=l.length-1-i-1 by omega]
   rfl
  ·have:=z15z hr (by omega)
   subst this
   simp (maxSteps:=2000000) (disch:=first|omega|(simp only[lenS];try omega)) only[go_sem,reduceAdd,reduceEqDiff,reduceLeDiff,reduceSub]
theorem wa9(a:Arc3)(t:Int):C w72 [encA a,.pv (.agg [I t]) 0] []=some (.bool (decide (a.by_=t)),[]):=by
 refine w09 ?_
 simp (maxSteps:=2000000) (disch:=first|omega|(simp only[lenS];try omega)) only[wby,go_sem,reduceAdd,reduceEqDiff,reduceLeDiff,reduceSub]
 grind
theorem wf6(l:List Arc3)(g:FuncId)(caps:List PV)(hc:refsL caps=[])(hcv : ∀ m h,z1g1 [] m h caps=some caps)(p:Arc3→Bool)(hp : ∀ x∈l,C g (encA x :: caps) []=some (.bool (p x),[]))(hl:l.length<2^62) :
  C w8j [.sl true 3 (l.map encA),.clo g caps] []=some (.bool (l.any p),[]):=by
 refine w1p ?_
 simp (maxSteps:=2000000) (disch:=first|omega|(simp only[lenS];try omega)) only[wde,go_sem,reduceAdd,reduceEqDiff,reduceLeDiff,reduceSub]
 simp (maxSteps:=2000000) (disch:=first|omega|(simp only[lenS];try omega)) only[go_sem,reduceAdd,reduceEqDiff,reduceLeDiff,reduceSub,hc,hcv,wfc l g caps hc hcv p hp hl]
 have:=zkc l p
 grind
theorem waa(ms:List (List Int))(ar:List Arc3)(n:Net)(hr:ar.length<2^35)(ht:n.tr.length<2^20):C w71 [.agg [rows ms,.sl true 3 (ar.map encA)],encN n] []=some (.un t_int true 1 ((deadK ar n.tr.length).map I),[]):=by
  refine w08 ?_
  simp (maxSteps:=2000000) (disch:=first|omega|(simp only[lenS];try omega)) only[wbx,go_sem,reduceAdd,reduceEqDiff,reduceLeDiff,reduceSub]
  refine W_for n.tr.length (fun k s=>s=⟨[.any,.any,.ptr 0 0,.any,.any,.ref 1 1 0 (deadK ar k).length,.any,I n.tr.length,I k,.any,.any],[.box wgy [rows ms,.sl true 3 (ar.map encA)],.row t_int true 1 ((deadK ar k).map I)]⟩) ?_ ?_ ?_
  · simp (maxSteps:=2000000) (disch:=first|omega|(simp only[lenS];try omega)) only[go_sem,reduceAdd,reduceEqDiff,reduceLeDiff,reduceSub]
    rfl
  · rintro k s hk rfl
    have ix:=wf6 ar w72 [.pv (.agg [I k]) 0] rfl (fun _ _=>rfl) (fun a=>decide (a.by_=k)) (fun x _=>wa9 x k) (by omega)
    have hl:=zbp ar k
    have hst:=zbq ar k
    rw[hst]
    generalize deadK ar k=D at *
    cases ha:ar.any fun a=>decide (a.by_=(k:Int)) with
    | true =>
      rw[ha] at ix
      simp (maxSteps:=2000000) (disch:=first|omega|(simp only[lenS];try omega)) only[go_sem,reduceAdd,reduceEqDiff,reduceLeDiff,reduceSub,ix]
      simp
    | false =>
      rw[ha] at ix
      simp (maxSteps:=2000000) (disch:=first|omega|(simp only[lenS];try omega)) only[go_sem,reduceAdd,reduceEqDiff,reduceLeDiff,reduceSub,ix]
      simp
  · rintro s rfl
    simp (maxSteps:=2000000) (disch:=first|omega|(simp only[lenS];try omega)) only[go_sem,reduceAdd,reduceEqDiff,reduceLeDiff,reduceSub]
theorem waf(ms:List (List Int))(ar:List Arc3)(m:List Int)(hm:ms.length<2^30)(hr:ar.length<2^35)(hb:Bfs ar ms.length)(hxs : ∀ x∈ms,x.length<2^62)(K:Nat)(hK:K<ms.length)(hf:findM ms m=K) :
  C w76 [.agg [rows ms,.sl true 3 (ar.map encA)],ints m] []=some (.tup [.un t_int true 1 ((tw ar K).map I),.bool true],[]):=by
 have fd:=wac ms (ar.map encA) m (by omega) hxs
 rw[hf] at fd
 refine w0d ?_
 simp (maxSteps:=2000000) (disch:=first|omega|(simp only[lenS];try omega)) only[wc2,go_sem,reduceAdd,reduceEqDiff,reduceLeDiff,reduceSub]
 simp (maxSteps:=2000000) (disch:=first|omega|(simp only[lenS];try omega)) only[go_sem,reduceAdd,reduceEqDiff,reduceLeDiff,reduceSub,fd]
 refine z1a (fun k s=>∃ W:List Int,k<ms.length∧tw ar K=tw ar k++W.reverse∧s=⟨[.any,.any,.ptr 0 0,.any,.any,.ptr 1 0,.ref 2 1 0 W.length,.any,.any,.any],[.box wgy [rows ms,.sl true 3 (ar.map encA)],.box t_int [I k],.row t_int true 1 (W.map I)]⟩) K ?_ ?_
 ·refine⟨[],hK,by simp,?_⟩
  simp (maxSteps:=2000000) (disch:=first|omega|(simp only[lenS];try omega)) only[go_sem,reduceAdd,reduceEqDiff,reduceLeDiff,reduceSub]
  first | done | rfl
 ·rintro k s ⟨W,hk,hW,rfl⟩
  have hlW:=congrArg List.length hW
  rw[List.length_append,List.length_reverse] at hlW
  have hlK:=z1fi hb K hK
  by_cases h0:0<k
  ·obtain⟨i,hi,a1,a2,a3,a4,a5⟩:=hb.arc h0 hk
   have ix:=wfc ar w77 [.pv (.agg [I k]) 0] rfl (fun _ _=>rfl) (fun a=>decide (a.dst=k)) (fun x _=>wae x k) (by omega)
   rw[show idxI ar (fun a=>decide (a.dst=k))=i from a1] at ix
   have hst:=z1fl hb h0 hk hi a1
   rw[hst] at hW
   simp (maxSteps:=2000000) (disch:=first|omega|(simp only[lenS];try omega)) only[go_sem,reduceAdd,reduceEqDiff,reduceLeDiff,reduceSub,ix]
   have e2:((ar[i].src.toNat:Nat):Int)=ar[i].src:=by omega
   refine⟨ar[i].src.toNat,by omega,W++[ar[i].by_],by omega,by rw[hW,List.reverse_append];simp,?_⟩
   rw[e2,List.map_append,List.length_append];rfl
  ·have:k=0:=by omega
   subst this
   rw[z1fn,List.nil_append] at hW
   have rv:=wfi W (by omega)
   rw[←hW] at rv
   have hl2:W.length=(tw ar K).length:=by rw[hW,List.length_reverse]
   rw[hl2] at rv
   generalize tw ar K=T at *
   simp (maxSteps:=2000000) (disch:=first|omega|(simp only[lenS];try omega)) only[go_sem,reduceAdd,reduceEqDiff,reduceLeDiff,reduceSub,rv,hl2]
def vdPV(v:Vd):PV:=.agg [I v.ok,I v.kind,if v.kind=1∨v.kind=2 then .un t_int true 1 (v.way.map I) else .nil true 1,I v.dead]
theorem w6q{f:Fl}{b:Int}(hg:ziu f=true)(hb:inB 1 400 b=true):ExOk f.net (oneM f.net.pl.toNat f.src) b (exAll f.net (oneM f.net.pl.toNat f.src) b)∧(exAll f.net (oneM f.net.pl.toNat f.src) b).sp.ms.length≤400∧(exAll f.net (oneM f.net.pl.toNat f.src) b).sp.ar.length≤20000∧Bfs (exAll f.net (oneM f.net.pl.toNat f.src) b).sp.ar (exAll f.net (oneM f.net.pl.toNat f.src) b).sp.ms.length∧0<(exAll f.net (oneM f.net.pl.toNat f.src) b).sp.ms.length∧∀ x∈(exAll f.net (oneM f.net.pl.toNat f.src) b).sp.ms,x.length=f.net.pl.toNat:=by
 have h1:=zwr hg
 simp only[inB,Bool.and_eq_true,decide_eq_true_eq] at hb
 have f1:=(zdq h1 hb.1).1
 have hl:=f1.lenb
 refine⟨f1,by omega,zdn (zja (zs5 h1).1).2.2.1 hb.2,zdo h1 hb.1,?_,fun x hx=>?_⟩
 ·have:=f1.first
  rcases Nat.eq_zero_or_pos (exAll f.net (oneM f.net.pl.toNat f.src) b).sp.ms.length with h | h
  ·rw[List.length_eq_zero_iff.1 h] at this;simp at this
  ·exact h
 ·have:=zj2 (zs5 (f1.good x hx)).2
  omega
theorem wh5(ar:List Arc3)(n:Nat):toL ar n []=List.replicate n false:=by
 have hno : ∀ k,¬Rk ar [] k:=by
  intro k hk
  induction hk with
  | base h=>simp at h
  | step _ _ ih=>exact ih
 unfold toL
 rw[List.eq_replicate_iff]
 refine⟨by simp,fun b hb=>?_⟩
 obtain⟨k,_,rfl⟩:=List.mem_map.1 hb
 simp [hno k]
theorem wh6(k:Int)(W:List Int)(hk:k=1∨k=2):vdPV ⟨2,k,W,0⟩=.agg [I 2,I k,.un t_int true 1 (W.map I),I 0]:=by
 unfold vdPV;rw[if_pos hk]
theorem wak(f:Fl)(b:Int)(hg:ziu f=true)(hb:inB 1 400 b=true):C w7b [encF f,I b] []=some (.tup [vdPV (sndV f b),exPV (exAll f.net (oneM f.net.pl.toNat f.src) b)],[]):=by
  have hs0:=wbg f hg
  have he0:=war f hg
  have hx:=wat f.net (oneM f.net.pl.toNat f.src) b (zwr hg) (by simp only[inB,Bool.and_eq_true,decide_eq_true_eq] at hb;omega)
  obtain⟨f1,f2,f3,f4,f5,f6⟩:=w6q hg hb
  unfold sndV
  have hcd:=zdp f.net (oneM f.net.pl.toNat f.src) b
  have hEl:(oneM f.net.pl.toNat f.dst).length=f.net.pl.toNat:=by simp [oneM]
  have hnd:=f1.nodup
  obtain⟨g1,_⟩:=ziy hg
  have hn:=zja g1
  generalize exAll f.net (oneM f.net.pl.toNat f.src) b=R at *
  generalize oneM f.net.pl.toNat f.src=E0 at *
  generalize oneM f.net.pl.toNat f.dst=E at *
  have hdd:=waa R.sp.ms R.sp.ar f.net (by omega) (by omega)
  have hdl:=zbp R.sp.ar f.net.tr.length
  have fd:=wac R.sp.ms (R.sp.ar.map encA) E (by omega) (fun x hx=>by have:=f6 x hx;omega)
  have hfg:=fun h=>(zg1 (l:=R.sp.ms) (m:=E) h).1
  have hcl:=z1eu R.sp.ar R.sp.ms.length (endS R.sp.ms E)
  have hct:=wfg (toL R.sp.ar R.sp.ms.length (endS R.sp.ms E)) false (by omega)
  have hil:=zke (toL R.sp.ar R.sp.ms.length (endS R.sp.ms E)) (fun x=>x == false)
  rw[hcl] at hil
  have hov:=wff R.sp.ms w7c [.pv (.agg [ints E]) 0] rfl (fun _ _=>rfl) (fun m=>overB m E) (fun x hx=>waj x E (by have:=f6 x hx;omega) (by omega)) (by omega)
  have hol:=zke R.sp.ms (fun m=>overB m E)
  by_cases hc:R.code=0
  · rw[if_pos hc]
    have hec:w6o R=1:=by simp only[w6o,hc,if_true]
    rw[hec] at hx
    have hls : ∀ x∈R.sp.ms,x.length<2^62:=fun x hx=>by have:=f6 x hx;omega
    have hway : ∀ A,A=R.sp.ar.map encA→∀ K:Nat,(hK:K<R.sp.ms.length)→C w76 [.agg [rows R.sp.ms,.sl true 3 A],ints R.sp.ms[K]] []=some (.tup [.un t_int true 1 ((tw R.sp.ar K).map I),.bool true],[]):=fun A hA K hK=>by subst hA;exact waf R.sp.ms R.sp.ar R.sp.ms[K] (by omega) (by omega) f4 hls K hK (by rw[zik hK];exact zg0 hnd hK)
    unfold chkV
    have hend:endS R.sp.ms E=if 0≤findM R.sp.ms E then [findM R.sp.ms E] else []:=rfl
    have hlt0:=fun h:0≤findM R.sp.ms E=>wad R.sp.ms R.sp.ar (findM R.sp.ms E) (by omega) (by omega) f4.inn ⟨h,by have:=hfg h;omega⟩
    generalize endS R.sp.ms E=S at *
    generalize findM R.sp.ms E=z at *
    by_cases hz:0≤z
    · rw[if_pos hz] at hend
      have hlt:=hlt0 hz
      subst hend
      generalize toL R.sp.ar R.sp.ms.length [z]=c at *
      generalize deadK R.sp.ar f.net.tr.length=D at *
      generalize idxI c (fun x=>x == false)=k1 at *
      generalize idxI R.sp.ms (fun m=>overB m E)=k2 at *
      generalize hV:(if 0≤k1 then(⟨2,1,tw R.sp.ar k1.toNat,0⟩:Vd) else if 0≤k2 then⟨2,2,tw R.sp.ar k2.toNat,0⟩ else if 0<D.length then⟨2,3,[],D.getD 0 0⟩ else⟨1,0,[],0⟩)=V
      simp only[ints,List.map_cons,List.map_nil] at hlt
      by_cases har:R.sp.ar=[]
      · have hPV:exPV R=.agg [.un wh2 false 1 (R.sp.ms.map ints),.nil true 3]:=by simp only[exPV,arcPV,hc,har,if_true]
        rw[hPV] at hx ⊢
        have hway:=hway [] (by rw[har];rfl)
        simp only[har,List.map_nil] at hlt fd hdd
        by_cases h1:0≤k1
        · obtain⟨K,rfl⟩ : ∃ K:Nat,k1=K:=⟨k1.toNat,by omega⟩
          have hKl:K<R.sp.ms.length:=by omega
          have hVe:V=⟨2,1,tw R.sp.ar K,0⟩:=by rw[←hV,if_pos h1,Int.toNat_natCast]
          have hwt:=hway K hKl
          have e3:R.sp.ms[K]? = some R.sp.ms[K]:=List.getElem?_eq_getElem hKl
          have htl:=z1fi f4 K hKl
          rw[hVe]
          simp only
          generalize R.sp.ms[K]=x at *
          generalize tw R.sp.ar K=W at *
          by_cases hl:W.length≤60
          · rw[if_pos hl,wh6 1 W (.inl rfl)]
            refine w0i ?_
            simp (maxSteps:=2000000) (disch:=first|omega|(simp only[lenS];try omega)) only[wc7,go_sem,reduceAdd,reduceEqDiff,reduceLeDiff,reduceSub]
            simp (maxSteps:=2000000) (disch:=first|omega|(simp only[lenS];try omega)) only[go_sem,reduceAdd,reduceEqDiff,reduceLeDiff,reduceSub,hs0,he0,hx,fd,hz,hlt,hct,e3,hwt,hdd]
            first | done | rfl | exact⟨rfl,rfl⟩
          · rw[if_neg hl]
            refine w0i ?_
            simp (maxSteps:=2000000) (disch:=first|omega|(simp only[lenS];try omega)) only[wc7,go_sem,reduceAdd,reduceEqDiff,reduceLeDiff,reduceSub]
            simp (maxSteps:=2000000) (disch:=first|omega|(simp only[lenS];try omega)) only[go_sem,reduceAdd,reduceEqDiff,reduceLeDiff,reduceSub,hs0,he0,hx,fd,hz,hlt,hct,e3,hwt,hdd]
            first | done | rfl | exact⟨rfl,rfl⟩
        · by_cases h2:0≤k2
          · obtain⟨K,rfl⟩ : ∃ K:Nat,k2=K:=⟨k2.toNat,by omega⟩
            have hKl:K<R.sp.ms.length:=by omega
            have hVe:V=⟨2,2,tw R.sp.ar K,0⟩:=by rw[←hV,if_neg h1,if_pos h2,Int.toNat_natCast]
            have hwt:=hway K hKl
            have e3:R.sp.ms[K]? = some R.sp.ms[K]:=List.getElem?_eq_getElem hKl
            have htl:=z1fi f4 K hKl
            rw[hVe]
            simp only
            generalize R.sp.ms[K]=x at *
            generalize tw R.sp.ar K=W at *
            by_cases hl:W.length≤60
            · rw[if_pos hl,wh6 2 W (.inr rfl)]
              refine w0i ?_
              simp (maxSteps:=2000000) (disch:=first|omega|(simp only[lenS];try omega)) only[wc7,go_sem,reduceAdd,reduceEqDiff,reduceLeDiff,reduceSub]
              simp (maxSteps:=2000000) (disch:=first|omega|(simp only[lenS];try omega)) only[go_sem,reduceAdd,reduceEqDiff,reduceLeDiff,reduceSub,hs0,he0,hx,fd,hz,hlt,hct,h1,hov,e3,hwt,hdd]
              first | done | rfl | exact⟨rfl,rfl⟩
            · rw[if_neg hl]
              refine w0i ?_
              simp (maxSteps:=2000000) (disch:=first|omega|(simp only[lenS];try omega)) only[wc7,go_sem,reduceAdd,reduceEqDiff,reduceLeDiff,reduceSub]
              simp (maxSteps:=2000000) (disch:=first|omega|(simp only[lenS];try omega)) only[go_sem,reduceAdd,reduceEqDiff,reduceLeDiff,reduceSub,hs0,he0,hx,fd,hz,hlt,hct,h1,hov,e3,hwt,hdd]
              first | done | rfl | exact⟨rfl,rfl⟩
          · cases D with
            | nil =>
              have hVe:V=⟨1,0,[],0⟩:=by rw[←hV,if_neg h1,if_neg h2];rfl
              rw[hVe]
              refine w0i ?_
              simp (maxSteps:=2000000) (disch:=first|omega|(simp only[lenS];try omega)) only[wc7,go_sem,reduceAdd,reduceEqDiff,reduceLeDiff,reduceSub]
              simp (maxSteps:=2000000) (disch:=first|omega|(simp only[lenS];try omega)) only[go_sem,reduceAdd,reduceEqDiff,reduceLeDiff,reduceSub,hs0,he0,hx,fd,hz,hlt,hct,h1,hov,h2,hdd]
              first | done | rfl | exact⟨rfl,rfl⟩
            | cons d D =>
              have hVe:V=⟨2,3,[],d⟩:=by rw[←hV,if_neg h1,if_neg h2];rfl
              rw[hVe]
              refine w0i ?_
              simp (maxSteps:=2000000) (disch:=first|omega|(simp only[lenS];try omega)) only[wc7,go_sem,reduceAdd,reduceEqDiff,reduceLeDiff,reduceSub]
              simp (maxSteps:=2000000) (disch:=first|omega|(simp only[lenS];try omega)) only[go_sem,reduceAdd,reduceEqDiff,reduceLeDiff,reduceSub,hs0,he0,hx,fd,hz,hlt,hct,h1,hov,h2,hdd,Int.toNat_zero,List.getElem_cons_zero]
              first | done | rfl | exact⟨rfl,rfl⟩
      · have hPV:exPV R=.agg [.un wh2 false 1 (R.sp.ms.map ints),.un wgv true 3 (R.sp.ar.map encA)]:=by simp only[exPV,arcPV,hc,har,if_true,if_false]
        rw[hPV] at hx ⊢
        have hway:=hway _ rfl
        by_cases h1:0≤k1
        · obtain⟨K,rfl⟩ : ∃ K:Nat,k1=K:=⟨k1.toNat,by omega⟩
          have hKl:K<R.sp.ms.length:=by omega
          have hVe:V=⟨2,1,tw R.sp.ar K,0⟩:=by rw[←hV,if_pos h1,Int.toNat_natCast]
          have hwt:=hway K hKl
          have e3:R.sp.ms[K]? = some R.sp.ms[K]:=List.getElem?_eq_getElem hKl
          have htl:=z1fi f4 K hKl
          rw[hVe]
          simp only
          generalize R.sp.ms[K]=x at *
          generalize tw R.sp.ar K=W at *
          by_cases hl:W.length≤60
          · rw[if_pos hl,wh6 1 W (.inl rfl)]
            refine w0i ?_
            simp (maxSteps:=2000000) (disch:=first|omega|(simp only[lenS];try omega)) only[wc7,go_sem,reduceAdd,reduceEqDiff,reduceLeDiff,reduceSub]
            simp (maxSteps:=2000000) (disch:=first|omega|(simp only[lenS];try omega)) only[go_sem,reduceAdd,reduceEqDiff,reduceLeDiff,reduceSub,hs0,he0,hx,fd,hz,hlt,hct,e3,hwt,hdd]
            first | done | rfl | exact⟨rfl,rfl⟩
          · rw[if_neg hl]
            refine w0i ?_
            simp (maxSteps:=2000000) (disch:=first|omega|(simp only[lenS];try omega)) only[wc7,go_sem,reduceAdd,reduceEqDiff,reduceLeDiff,reduceSub]
            simp (maxSteps:=2000000) (disch:=first|omega|(simp only[lenS];try omega)) only[go_sem,reduceAdd,reduceEqDiff,reduceLeDiff,reduceSub,hs0,he0,hx,fd,hz,hlt,hct,e3,hwt,hdd]
            first | done | rfl | exact⟨rfl,rfl⟩
        · by_cases h2:0≤k2
          · obtain⟨K,rfl⟩ : ∃ K:Nat,k2=K:=⟨k2.toNat,by omega⟩
            have hKl:K<R.sp.ms.length:=by omega
            have hVe:V=⟨2,2,tw R.sp.ar K,0⟩:=by rw[←hV,if_neg h1,if_pos h2,Int.toNat_natCast]
            have hwt:=hway K hKl
            have e3:R.sp.ms[K]? = some R.sp.ms[K]:=List.getElem?_eq_getElem hKl
            have htl:=z1fi f4 K hKl
            rw[hVe]
            simp only
            generalize R.sp.ms[K]=x at *
            generalize tw R.sp.ar K=W at *
            by_cases hl:W.length≤60
            · rw[if_pos hl,wh6 2 W (.inr rfl)]
              refine w0i ?_
              simp (maxSteps:=2000000) (disch:=first|omega|(simp only[lenS];try omega)) only[wc7,go_sem,reduceAdd,reduceEqDiff,reduceLeDiff,reduceSub]
              simp (maxSteps:=2000000) (disch:=first|omega|(simp only[lenS];try omega)) only[go_sem,reduceAdd,reduceEqDiff,reduceLeDiff,reduceSub,hs0,he0,hx,fd,hz,hlt,hct,h1,hov,e3,hwt,hdd]
              first | done | rfl | exact⟨rfl,rfl⟩
            · rw[if_neg hl]
              refine w0i ?_
              simp (maxSteps:=2000000) (disch:=first|omega|(simp only[lenS];try omega)) only[wc7,go_sem,reduceAdd,reduceEqDiff,reduceLeDiff,reduceSub]
              simp (maxSteps:=2000000) (disch:=first|omega|(simp only[lenS];try omega)) only[go_sem,reduceAdd,reduceEqDiff,reduceLeDiff,reduceSub,hs0,he0,hx,fd,hz,hlt,hct,h1,hov,e3,hwt,hdd]
              first | done | rfl | exact⟨rfl,rfl⟩
          · cases D with
            | nil =>
              have hVe:V=⟨1,0,[],0⟩:=by rw[←hV,if_neg h1,if_neg h2];rfl
              rw[hVe]
              refine w0i ?_
              simp (maxSteps:=2000000) (disch:=first|omega|(simp only[lenS];try omega)) only[wc7,go_sem,reduceAdd,reduceEqDiff,reduceLeDiff,reduceSub]
              simp (maxSteps:=2000000) (disch:=first|omega|(simp only[lenS];try omega)) only[go_sem,reduceAdd,reduceEqDiff,reduceLeDiff,reduceSub,hs0,he0,hx,fd,hz,hlt,hct,h1,hov,h2,hdd]
              first | done | rfl | exact⟨rfl,rfl⟩
            | cons d D =>
              have hVe:V=⟨2,3,[],d⟩:=by rw[←hV,if_neg h1,if_neg h2];rfl
              rw[hVe]
              refine w0i ?_
              simp (maxSteps:=2000000) (disch:=first|omega|(simp only[lenS];try omega)) only[wc7,go_sem,reduceAdd,reduceEqDiff,reduceLeDiff,reduceSub]
              simp (maxSteps:=2000000) (disch:=first|omega|(simp only[lenS];try omega)) only[go_sem,reduceAdd,reduceEqDiff,reduceLeDiff,reduceSub,hs0,he0,hx,fd,hz,hlt,hct,h1,hov,h2,hdd,Int.toNat_zero,List.getElem_cons_zero]
              first | done | rfl | exact⟨rfl,rfl⟩
    · rw[if_neg hz] at hend
      have hlt:=hcl
      subst hend
      have hrp:=wh5 R.sp.ar R.sp.ms.length
      rw[hrp,List.map_replicate] at hct
      rw[hrp] at hil ⊢
      generalize deadK R.sp.ar f.net.tr.length=D at *
      generalize idxI (List.replicate R.sp.ms.length false) (fun x=>x == false)=k1 at *
      generalize idxI R.sp.ms (fun m=>overB m E)=k2 at *
      generalize hV:(if 0≤k1 then(⟨2,1,tw R.sp.ar k1.toNat,0⟩:Vd) else if 0≤k2 then⟨2,2,tw R.sp.ar k2.toNat,0⟩ else if 0<D.length then⟨2,3,[],D.getD 0 0⟩ else⟨1,0,[],0⟩)=V
      clear hlt hcl
      have hlt:True:=trivial
      by_cases har:R.sp.ar=[]
      · have hPV:exPV R=.agg [.un wh2 false 1 (R.sp.ms.map ints),.nil true 3]:=by simp only[exPV,arcPV,hc,har,if_true]
        rw[hPV] at hx ⊢
        have hway:=hway [] (by rw[har];rfl)
        simp only[har,List.map_nil] at hlt fd hdd
        by_cases h1:0≤k1
        · obtain⟨K,rfl⟩ : ∃ K:Nat,k1=K:=⟨k1.toNat,by omega⟩
          have hKl:K<R.sp.ms.length:=by omega
          have hVe:V=⟨2,1,tw R.sp.ar K,0⟩:=by rw[←hV,if_pos h1,Int.toNat_natCast]
          have hwt:=hway K hKl
          have e3:R.sp.ms[K]? = some R.sp.ms[K]:=List.getElem?_eq_getElem hKl
          have htl:=z1fi f4 K hKl
          rw[hVe]
          simp only
          generalize R.sp.ms[K]=x at *
          generalize tw R.sp.ar K=W at *
          by_cases hl:W.length≤60
          · rw[if_pos hl,wh6 1 W (.inl rfl)]
            refine w0i ?_
            simp (maxSteps:=2000000) (disch:=first|omega|(simp only[lenS];try omega)) only[wc7,go_sem,reduceAdd,reduceEqDiff,reduceLeDiff,reduceSub]
            simp (maxSteps:=2000000) (disch:=first|omega|(simp only[lenS];try omega)) only[go_sem,reduceAdd,reduceEqDiff,reduceLeDiff,reduceSub,hs0,he0,hx,fd,hz,hlt,hct,e3,hwt,hdd]
            first | done | rfl | exact⟨rfl,rfl⟩
          · rw[if_neg hl]
            refine w0i ?_
            simp (maxSteps:=2000000) (disch:=first|omega|(simp only[lenS];try omega)) only[wc7,go_sem,reduceAdd,reduceEqDiff,reduceLeDiff,reduceSub]
            simp (maxSteps:=2000000) (disch:=first|omega|(simp only[lenS];try omega)) only[go_sem,reduceAdd,reduceEqDiff,reduceLeDiff,reduceSub,hs0,he0,hx,fd,hz,hlt,hct,e3,hwt,hdd]
            first | done | rfl | exact⟨rfl,rfl⟩
        · by_cases h2:0≤k2
          · obtain⟨K,rfl⟩ : ∃ K:Nat,k2=K:=⟨k2.toNat,by omega⟩
            have hKl:K<R.sp.ms.length:=by omega
            have hVe:V=⟨2,2,tw R.sp.ar K,0⟩:=by rw[←hV,if_neg h1,if_pos h2,Int.toNat_natCast]
            have hwt:=hway K hKl
            have e3:R.sp.ms[K]? = some R.sp.ms[K]:=List.getElem?_eq_getElem hKl
            have htl:=z1fi f4 K hKl
            rw[hVe]
            simp only
            generalize R.sp.ms[K]=x at *
            generalize tw R.sp.ar K=W at *
            by_cases hl:W.length≤60
            · rw[if_pos hl,wh6 2 W (.inr rfl)]
              refine w0i ?_
              simp (maxSteps:=2000000) (disch:=first|omega|(simp only[lenS];try omega)) only[wc7,go_sem,reduceAdd,reduceEqDiff,reduceLeDiff,reduceSub]
              simp (maxSteps:=2000000) (disch:=first|omega|(simp only[lenS];try omega)) only[go_sem,reduceAdd,reduceEqDiff,reduceLeDiff,reduceSub,hs0,he0,hx,fd,hz,hlt,hct,h1,hov,e3,hwt,hdd]
              first | done | rfl | exact⟨rfl,rfl⟩
            · rw[if_neg hl]
              refine w0i ?_
              simp (maxSteps:=2000000) (disch:=first|omega|(simp only[lenS];try omega)) only[wc7,go_sem,reduceAdd,reduceEqDiff,reduceLeDiff,reduceSub]
              simp (maxSteps:=2000000) (disch:=first|omega|(simp only[lenS];try omega)) only[go_sem,reduceAdd,reduceEqDiff,reduceLeDiff,reduceSub,hs0,he0,hx,fd,hz,hlt,hct,h1,hov,e3,hwt,hdd]
              first | done | rfl | exact⟨rfl,rfl⟩
          · cases D with
            | nil =>
              have hVe:V=⟨1,0,[],0⟩:=by rw[←hV,if_neg h1,if_neg h2];rfl
              rw[hVe]
              refine w0i ?_
              simp (maxSteps:=2000000) (disch:=first|omega|(simp only[lenS];try omega)) only[wc7,go_sem,reduceAdd,reduceEqDiff,reduceLeDiff,reduceSub]
              simp (maxSteps:=2000000) (disch:=first|omega|(simp only[lenS];try omega)) only[go_sem,reduceAdd,reduceEqDiff,reduceLeDiff,reduceSub,hs0,he0,hx,fd,hz,hlt,hct,h1,hov,h2,hdd]
              first | done | rfl | exact⟨rfl,rfl⟩
            | cons d D =>
              have hVe:V=⟨2,3,[],d⟩:=by rw[←hV,if_neg h1,if_neg h2];rfl
              rw[hVe]
              refine w0i ?_
              simp (maxSteps:=2000000) (disch:=first|omega|(simp only[lenS];try omega)) only[wc7,go_sem,reduceAdd,reduceEqDiff,reduceLeDiff,reduceSub]
              simp (maxSteps:=2000000) (disch:=first|omega|(simp only[lenS];try omega)) only[go_sem,reduceAdd,reduceEqDiff,reduceLeDiff,reduceSub,hs0,he0,hx,fd,hz,hlt,hct,h1,hov,h2,hdd,Int.toNat_zero,List.getElem_cons_zero]
              first | done | rfl | exact⟨rfl,rfl⟩
      · have hPV:exPV R=.agg [.un wh2 false 1 (R.sp.ms.map ints),.un wgv true 3 (R.sp.ar.map encA)]:=by simp only[exPV,arcPV,hc,har,if_true,if_false]
        rw[hPV] at hx ⊢
        have hway:=hway _ rfl
        by_cases h1:0≤k1
        · obtain⟨K,rfl⟩ : ∃ K:Nat,k1=K:=⟨k1.toNat,by omega⟩
          have hKl:K<R.sp.ms.length:=by omega
          have hVe:V=⟨2,1,tw R.sp.ar K,0⟩:=by rw[←hV,if_pos h1,Int.toNat_natCast]
          have hwt:=hway K hKl
          have e3:R.sp.ms[K]? = some R.sp.ms[K]:=List.getElem?_eq_getElem hKl
          have htl:=z1fi f4 K hKl
          rw[hVe]
          simp only
          generalize R.sp.ms[K]=x at *
          generalize tw R.sp.ar K=W at *
          by_cases hl:W.length≤60
          · rw[if_pos hl,wh6 1 W (.inl rfl)]
            refine w0i ?_
            simp (maxSteps:=2000000) (disch:=first|omega|(simp only[lenS];try omega)) only[wc7,go_sem,reduceAdd,reduceEqDiff,reduceLeDiff,reduceSub]
            simp (maxSteps:=2000000) (disch:=first|omega|(simp only[lenS];try omega)) only[go_sem,reduceAdd,reduceEqDiff,reduceLeDiff,reduceSub,hs0,he0,hx,fd,hz,hlt,hct,e3,hwt,hdd]
            first | done | rfl | exact⟨rfl,rfl⟩
          · rw[if_neg hl]
            refine w0i ?_
            simp (maxSteps:=2000000) (disch:=first|omega|(simp only[lenS];try omega)) only[wc7,go_sem,reduceAdd,reduceEqDiff,reduceLeDiff,reduceSub]
            simp (maxSteps:=2000000) (disch:=first|omega|(simp only[lenS];try omega)) only[go_sem,reduceAdd,reduceEqDiff,reduceLeDiff,reduceSub,hs0,he0,hx,fd,hz,hlt,hct,e3,hwt,hdd]
            first | done | rfl | exact⟨rfl,rfl⟩
        · by_cases h2:0≤k2
          · obtain⟨K,rfl⟩ : ∃ K:Nat,k2=K:=⟨k2.toNat,by omega⟩
            have hKl:K<R.sp.ms.length:=by omega
            have hVe:V=⟨2,2,tw R.sp.ar K,0⟩:=by rw[←hV,if_neg h1,if_pos h2,Int.toNat_natCast]
            have hwt:=hway K hKl
            have e3:R.sp.ms[K]? = some R.sp.ms[K]:=List.getElem?_eq_getElem hKl
            have htl:=z1fi f4 K hKl
            rw[hVe]
            simp only
            generalize R.sp.ms[K]=x at *
            generalize tw R.sp.ar K=W at *
            by_cases hl:W.length≤60
            · rw[if_pos hl,wh6 2 W (.inr rfl)]
              refine w0i ?_
              simp (maxSteps:=2000000) (disch:=first|omega|(simp only[lenS];try omega)) only[wc7,go_sem,reduceAdd,reduceEqDiff,reduceLeDiff,reduceSub]
              simp (maxSteps:=2000000) (disch:=first|omega|(simp only[lenS];try omega)) only[go_sem,reduceAdd,reduceEqDiff,reduceLeDiff,reduceSub,hs0,he0,hx,fd,hz,hlt,hct,h1,hov,e3,hwt,hdd]
              first | done | rfl | exact⟨rfl,rfl⟩
            · rw[if_neg hl]
              refine w0i ?_
              simp (maxSteps:=2000000) (disch:=first|omega|(simp only[lenS];try omega)) only[wc7,go_sem,reduceAdd,reduceEqDiff,reduceLeDiff,reduceSub]
              simp (maxSteps:=2000000) (disch:=first|omega|(simp only[lenS];try omega)) only[go_sem,reduceAdd,reduceEqDiff,reduceLeDiff,reduceSub,hs0,he0,hx,fd,hz,hlt,hct,h1,hov,e3,hwt,hdd]
              first | done | rfl | exact⟨rfl,rfl⟩
          · cases D with
            | nil =>
              have hVe:V=⟨1,0,[],0⟩:=by rw[←hV,if_neg h1,if_neg h2];rfl
              rw[hVe]
              refine w0i ?_
              simp (maxSteps:=2000000) (disch:=first|omega|(simp only[lenS];try omega)) only[wc7,go_sem,reduceAdd,reduceEqDiff,reduceLeDiff,reduceSub]
              simp (maxSteps:=2000000) (disch:=first|omega|(simp only[lenS];try omega)) only[go_sem,reduceAdd,reduceEqDiff,reduceLeDiff,reduceSub,hs0,he0,hx,fd,hz,hlt,hct,h1,hov,h2,hdd]
              first | done | rfl | exact⟨rfl,rfl⟩
            | cons d D =>
              have hVe:V=⟨2,3,[],d⟩:=by rw[←hV,if_neg h1,if_neg h2];rfl
              rw[hVe]
              refine w0i ?_
              simp (maxSteps:=2000000) (disch:=first|omega|(simp only[lenS];try omega)) only[wc7,go_sem,reduceAdd,reduceEqDiff,reduceLeDiff,reduceSub]
              simp (maxSteps:=2000000) (disch:=first|omega|(simp only[lenS];try omega)) only[go_sem,reduceAdd,reduceEqDiff,reduceLeDiff,reduceSub,hs0,he0,hx,fd,hz,hlt,hct,h1,hov,h2,hdd,Int.toNat_zero,List.getElem_cons_zero]
              first | done | rfl | exact⟨rfl,rfl⟩
  · rw[if_neg hc]
    simp only[exPV,w6o,hc,if_false] at hx ⊢
    have hc1:¬R.code=1:=by omega
    refine w0i ?_
    simp (maxSteps:=2000000) (disch:=first|omega|(simp only[lenS];try omega)) only[wc7,go_sem,reduceAdd,reduceEqDiff,reduceLeDiff,reduceSub]
    simp (maxSteps:=2000000) (disch:=first|omega|(simp only[lenS];try omega)) only[go_sem,reduceAdd,reduceEqDiff,reduceLeDiff,reduceSub,hs0,hx,hc1]
    first | done | rfl
end Go.Proofs.YtbaclnecajkknaaGreat.Pi

