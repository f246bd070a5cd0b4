/- The functions that the law reaches: what they answer. Conditions: those that each theorem names. -/
import Derived.Test.YtbaclnecajkknaaIrFnChained
import Derived.Test.YtbaclnecajkknaaPlFnChained
import Derived.Test.YtbaclnecajkknaaFnFnChained0
namespace Go.Proofs.Ytbaclnecajkknaa.Pi
open Go
set_option linter.all false
open Nat (reduceAdd reduceEqDiff reduceLeDiff reduceSub)
set_option maxHeartbeats 40000000
set_option maxRecDepth 20000
theorem wdw(n:Net)(p:Int)(hg:goodN n=true)(hp:0≤p∧p<n.pl):C w8b [encN n,I p] []=some (.tup [.un wdz true 1 ((z13q n false p).pl.map PV.bool),.un wdz true 1 ((z13q n false p).tr.map PV.bool)],[]):=by
  have hb:=zjy hg
  have hlen:=z13t n false p
  rw[z13r] at hlen ⊢
  refine w24 ?_
  simp (maxSteps:=2000000) (disch:=first|omega|(simp only[lenS];try omega)) only[wc4,go_sem,reduceAdd,reduceEqDiff,reduceLeDiff,reduceSub]
  simp (maxSteps:=2000000) (disch:=first|omega|(simp only[lenS];try omega)) only[go_sem,reduceAdd,reduceEqDiff,reduceLeDiff,reduceSub,List.getElem_replicate]
  generalize hR:clRun n false (cntF (List.replicate n.tr.length false)+1) ⟨(List.replicate n.pl.toNat false).set p.toNat true,List.replicate n.tr.length false,true⟩=R at *
  refine z1a (fun k s=>∃ c:Cl,c.pl.length=n.pl.toNat∧c.tr.length=n.tr.length∧((k=cntF c.tr+1∧s=⟨[.any,.any,.ptr 0 0,.any,.any,.ref 1 1 0 n.pl.toNat,.ref 2 1 0 n.tr.length,.bool true,.any,.any,.any,.any,.any,.any,.any,.any,.any,.any,.any,.any,.any,.any,.any,.any,.any,.any,.any],[.box we2 [I n.pl,trs n.tr],.row wdz true 1 (c.pl.map PV.bool),.row wdz true 1 (c.tr.map PV.bool)]⟩∧clRun n false (cntF c.tr+1) c=R)∨(k=0∧s=⟨[.any,.any,.ptr 0 0,.any,.any,.ref 1 1 0 n.pl.toNat,.ref 2 1 0 n.tr.length,.bool false,.any,.any,.any,.any,.any,.any,.any,.any,.any,.any,.any,.any,.any,.any,.any,.any,.any,.any,.any],[.box we2 [I n.pl,trs n.tr],.row wdz true 1 (c.pl.map PV.bool),.row wdz true 1 (c.tr.map PV.bool)]⟩∧c=R))) (cntF (List.replicate n.tr.length false)+1) ?_ ?_
  · refine⟨⟨(List.replicate n.pl.toNat false).set p.toNat true,List.replicate n.tr.length false,true⟩,by simp,by simp,.inl ⟨rfl,?_,hR⟩⟩
    simp (maxSteps:=2000000) (disch:=first|omega|(simp only[lenS];try omega)) only[go_sem,reduceAdd,reduceEqDiff,reduceLeDiff,reduceSub]
    simp
  · rintro k0 s ⟨c,hc1,hc2,⟨rfl,rfl,hc⟩ | ⟨rfl,rfl,rfl⟩⟩
    · have hcl:=fun k=>z9z n false c k
      simp (maxSteps:=2000000) (disch:=first|omega|(simp only[lenS];try omega)) only[go_sem,reduceAdd,reduceEqDiff,reduceLeDiff,reduceSub]
      refine W_for n.tr.length (fun k s=>s=⟨[.any,.any,.ptr 0 0,.any,.any,.ref 1 1 0 n.pl.toNat,.ref 2 1 0 n.tr.length,.bool (clK n false c k).ch,.any,.any,.any,.any,.any,.any,trs n.tr,I n.tr.length,I k,.any,.any,.any,.any,.any,.any,.any,.any,.any,.any],[.box we2 [I n.pl,trs n.tr],.row wdz true 1 ((clK n false c k).pl.map PV.bool),.row wdz true 1 ((clK n false c k).tr.map PV.bool)]⟩) ?_ ?_ ?_
      · simp (maxSteps:=2000000) (disch:=first|omega|(simp only[lenS];try omega)) only[go_sem,reduceAdd,reduceEqDiff,reduceLeDiff,reduceSub]
        rfl
      · rintro k s hk rfl
        have hT:=hb.2.2.2 _ (List.getElem_mem hk)
        have hLs:=zk4 hT (by omega)
        obtain⟨_,g1,g2,g3⟩:=zk8 hT
        have p1:=z11p g1
        have p2:=z11p g2
        have hd:=hcl k
        have hstep:=za1 n false c k
        have htr:n.tr[k]=trN n k:=(z1fx hk).symm
        rw[htr] at hLs p1 p2
        have s1:(clK n false c k).tr.getD k false=true→clK n false c (k+1)=clK n false c k:=fun h=>hstep.trans (zab (.inl h))
        have s2:hitB (clK n false c k).pl (sideI false (trN n k))=false→clK n false c (k+1)=clK n false c k:=fun h=>hstep.trans (zab (.inr h))
        have s3:(clK n false c k).tr.getD k false=false→hitB (clK n false c k).pl (sideI false (trN n k))=true→clK n false c (k+1)=⟨markB (clK n false c k).pl (sideO false (trN n k)),(clK n false c k).tr.set k true,true⟩:=fun h h2=>hstep.trans (zac h h2)
        simp only[sideI,sideO,Bool.false_eq_true,if_false,if_true] at s2 s3
        clear hstep
        generalize clK n false c k=d at *
        generalize clK n false c (k+1)=d' at *
        simp (maxSteps:=2000000) (disch:=first|omega|(simp only[lenS];try omega)) only[go_sem,reduceAdd,reduceEqDiff,reduceLeDiff,reduceSub]
        simp only[htr]
        generalize trN n k=tr at *
        refine W_for tr.inn.length (fun j s=>s=⟨[.any,.any,.ptr 0 0,.any,.any,.ref 1 1 0 n.pl.toNat,.ref 2 1 0 n.tr.length,.bool d.ch,I k,.ptr 3 0,.bool ((tr.inn.take j).any fun p=>d.pl.getD p.toNat false),.any,.any,.any,trs n.tr,I n.tr.length,I k,.any,ints tr.inn,I tr.inn.length,I j,.any,.any,.any,.any,.any,.any],[.box we2 [I n.pl,trs n.tr],.row wdz true 1 (d.pl.map PV.bool),.row wdz true 1 (d.tr.map PV.bool),.box we4 [ints tr.inn,ints tr.out,ints tr.rst]]⟩) ?_ ?_ ?_
        · simp (maxSteps:=2000000) (disch:=first|omega|(simp only[lenS];try omega)) only[go_sem,reduceAdd,reduceEqDiff,reduceLeDiff,reduceSub]
          rfl
        · rintro j s hj rfl
          have h1:=p1 _ (List.getElem_mem hj)
          have h2:tr.inn[j].toNat<d.pl.length:=by omega
          simp (maxSteps:=2000000) (disch:=first|omega|(simp only[lenS];try omega)) only[go_sem,reduceAdd,reduceEqDiff,reduceLeDiff,reduceSub]
          refine⟨fun h=>?_,fun h=>⟨fun h3=>?_,fun h3=>?_⟩⟩
          · rw[z3b hj h];rfl
          · rw[z39 hj (by rw[←zj5 h2];exact h3)];rfl
          · rw[z3e hj h (by rw[←zj5 h2];exact h3)];rfl
        · rintro s rfl
          have hkd:k<d.tr.length:=by omega
          simp (maxSteps:=2000000) (disch:=first|omega|(simp only[lenS];try omega)) only[go_sem,reduceAdd,reduceEqDiff,reduceLeDiff,reduceSub,List.take_length]
          refine⟨fun h=>⟨fun h3=>?_,fun h3=>?_⟩,fun h=>?_⟩
          · rw[s1 (by rw[←zj5 hkd];exact h3)];rfl
          · have e:=s3 (by rw[←zj5 hkd];exact h3) h
            subst e
            refine W_for tr.out.length (fun j s=>s=⟨[.any,.any,.ptr 0 0,.any,.any,.ref 1 1 0 n.pl.toNat,.ref 2 1 0 n.tr.length,.bool true,.any,.any,.any,.any,.any,.any,trs n.tr,I n.tr.length,I k,.any,.any,.any,.any,.any,.any,ints tr.out,I tr.out.length,I j,.any],[.box we2 [I n.pl,trs n.tr],.row wdz true 1 ((markB d.pl (tr.out.take j)).map PV.bool),.row wdz true 1 ((d.tr.set k true).map PV.bool)]⟩) ?_ ?_ ?_
            · simp (maxSteps:=2000000) (disch:=first|omega|(simp only[lenS];try omega)) only[go_sem,reduceAdd,reduceEqDiff,reduceLeDiff,reduceSub]
              rfl
            · rintro j s hj rfl
              have h1:=p2 _ (List.getElem_mem hj)
              have h2:tr.out[j].toNat<d.pl.length:=by omega
              have h4:=zsl d.pl (tr.out.take j)
              simp (maxSteps:=2000000) (disch:=first|omega|(simp only[lenS];try omega)) only[go_sem,reduceAdd,reduceEqDiff,reduceLeDiff,reduceSub]
              rw[zsm hj];rfl
            · rintro s rfl
              simp (maxSteps:=2000000) (disch:=first|omega|(simp only[lenS];try omega)) only[go_sem,reduceAdd,reduceEqDiff,reduceLeDiff,reduceSub,List.take_length]
              rfl
          · rw[s2 h];rfl
      · rintro s rfl
        simp (maxSteps:=2000000) (disch:=first|omega|(simp only[lenS];try omega)) only[go_sem,reduceAdd,reduceEqDiff,reduceLeDiff,reduceSub]
        have hn:=za7 (n:=n) (bk:=false) hc2
        rw[hc] at hn
        cases e:(za2 n false c).ch with
        | true =>
          have h1:=(z9y (n:=n) (bk:=false) (s:=c) (k:=n.tr.length) (by omega)).2 e
          simp only[e,if_true] at hn
          refine⟨cntF (za2 n false c).tr+1,by unfold za2;omega,za2 n false c,by unfold za2;have:=hcl n.tr.length;omega,by unfold za2;have:=hcl n.tr.length;omega,.inl ⟨rfl,?_,hn.symm⟩⟩
          unfold za2 at e ⊢
          rw[e]
        | false =>
          simp only[e,Bool.false_eq_true,if_false] at hn
          refine⟨0,by omega,za2 n false c,by unfold za2;have:=hcl n.tr.length;omega,by unfold za2;have:=hcl n.tr.length;omega,.inr ⟨rfl,?_,hn.symm⟩⟩
          unfold za2 at e ⊢
          rw[e]
    · simp (maxSteps:=2000000) (disch:=first|omega|(simp only[lenS];try omega)) only[go_sem,reduceAdd,reduceEqDiff,reduceLeDiff,reduceSub]
theorem wdu(n:Net)(p:Int)(hg:goodN n=true)(hp:0≤p∧p<n.pl):C w89 [encN n,I p] []=some (.tup [.un wdz true 1 ((z13q n true p).pl.map PV.bool),.un wdz true 1 ((z13q n true p).tr.map PV.bool)],[]):=by
  have hb:=zjy hg
  have hlen:=z13t n true p
  rw[z13r] at hlen ⊢
  refine w22 ?_
  simp (maxSteps:=2000000) (disch:=first|omega|(simp only[lenS];try omega)) only[wc2,go_sem,reduceAdd,reduceEqDiff,reduceLeDiff,reduceSub]
  simp (maxSteps:=2000000) (disch:=first|omega|(simp only[lenS];try omega)) only[go_sem,reduceAdd,reduceEqDiff,reduceLeDiff,reduceSub,List.getElem_replicate]
  generalize hR:clRun n true (cntF (List.replicate n.tr.length false)+1) ⟨(List.replicate n.pl.toNat false).set p.toNat true,List.replicate n.tr.length false,true⟩=R at *
  refine z1a (fun k s=>∃ c:Cl,c.pl.length=n.pl.toNat∧c.tr.length=n.tr.length∧((k=cntF c.tr+1∧s=⟨[.any,.any,.ptr 0 0,.any,.any,.ref 1 1 0 n.pl.toNat,.ref 2 1 0 n.tr.length,.bool true,.any,.any,.any,.any,.any,.any,.any,.any,.any,.any,.any,.any,.any,.any,.any,.any,.any,.any,.any],[.box we2 [I n.pl,trs n.tr],.row wdz true 1 (c.pl.map PV.bool),.row wdz true 1 (c.tr.map PV.bool)]⟩∧clRun n true (cntF c.tr+1) c=R)∨(k=0∧s=⟨[.any,.any,.ptr 0 0,.any,.any,.ref 1 1 0 n.pl.toNat,.ref 2 1 0 n.tr.length,.bool false,.any,.any,.any,.any,.any,.any,.any,.any,.any,.any,.any,.any,.any,.any,.any,.any,.any,.any,.any],[.box we2 [I n.pl,trs n.tr],.row wdz true 1 (c.pl.map PV.bool),.row wdz true 1 (c.tr.map PV.bool)]⟩∧c=R))) (cntF (List.replicate n.tr.length false)+1) ?_ ?_
  · refine⟨⟨(List.replicate n.pl.toNat false).set p.toNat true,List.replicate n.tr.length false,true⟩,by simp,by simp,.inl ⟨rfl,?_,hR⟩⟩
    simp (maxSteps:=2000000) (disch:=first|omega|(simp only[lenS];try omega)) only[go_sem,reduceAdd,reduceEqDiff,reduceLeDiff,reduceSub]
    simp
  · rintro k0 s ⟨c,hc1,hc2,⟨rfl,rfl,hc⟩ | ⟨rfl,rfl,rfl⟩⟩
    · have hcl:=fun k=>z9z n true c k
      simp (maxSteps:=2000000) (disch:=first|omega|(simp only[lenS];try omega)) only[go_sem,reduceAdd,reduceEqDiff,reduceLeDiff,reduceSub]
      refine W_for n.tr.length (fun k s=>s=⟨[.any,.any,.ptr 0 0,.any,.any,.ref 1 1 0 n.pl.toNat,.ref 2 1 0 n.tr.length,.bool (clK n true c k).ch,.any,.any,.any,.any,.any,.any,trs n.tr,I n.tr.length,I k,.any,.any,.any,.any,.any,.any,.any,.any,.any,.any],[.box we2 [I n.pl,trs n.tr],.row wdz true 1 ((clK n true c k).pl.map PV.bool),.row wdz true 1 ((clK n true c k).tr.map PV.bool)]⟩) ?_ ?_ ?_
      · simp (maxSteps:=2000000) (disch:=first|omega|(simp only[lenS];try omega)) only[go_sem,reduceAdd,reduceEqDiff,reduceLeDiff,reduceSub]
        rfl
      · rintro k s hk rfl
        have hT:=hb.2.2.2 _ (List.getElem_mem hk)
        have hLs:=zk4 hT (by omega)
        obtain⟨_,g1,g2,g3⟩:=zk8 hT
        have p1:=z11p g2
        have p2:=z11p g1
        have hd:=hcl k
        have hstep:=za1 n true c k
        have htr:n.tr[k]=trN n k:=(z1fx hk).symm
        rw[htr] at hLs p1 p2
        have s1:(clK n true c k).tr.getD k false=true→clK n true c (k+1)=clK n true c k:=fun h=>hstep.trans (zab (.inl h))
        have s2:hitB (clK n true c k).pl (sideI true (trN n k))=false→clK n true c (k+1)=clK n true c k:=fun h=>hstep.trans (zab (.inr h))
        have s3:(clK n true c k).tr.getD k false=false→hitB (clK n true c k).pl (sideI true (trN n k))=true→clK n true c (k+1)=⟨markB (clK n true c k).pl (sideO true (trN n k)),(clK n true c k).tr.set k true,true⟩:=fun h h2=>hstep.trans (zac h h2)
        simp only[sideI,sideO,Bool.false_eq_true,if_false,if_true] at s2 s3
        clear hstep
        generalize clK n true c k=d at *
        generalize clK n true c (k+1)=d' at *
        simp (maxSteps:=2000000) (disch:=first|omega|(simp only[lenS];try omega)) only[go_sem,reduceAdd,reduceEqDiff,reduceLeDiff,reduceSub]
        simp only[htr]
        generalize trN n k=tr at *
        refine W_for tr.out.length (fun j s=>s=⟨[.any,.any,.ptr 0 0,.any,.any,.ref 1 1 0 n.pl.toNat,.ref 2 1 0 n.tr.length,.bool d.ch,I k,.ptr 3 0,.bool ((tr.out.take j).any fun p=>d.pl.getD p.toNat false),.any,.any,.any,trs n.tr,I n.tr.length,I k,.any,ints tr.out,I tr.out.length,I j,.any,.any,.any,.any,.any,.any],[.box we2 [I n.pl,trs n.tr],.row wdz true 1 (d.pl.map PV.bool),.row wdz true 1 (d.tr.map PV.bool),.box we4 [ints tr.inn,ints tr.out,ints tr.rst]]⟩) ?_ ?_ ?_
        · simp (maxSteps:=2000000) (disch:=first|omega|(simp only[lenS];try omega)) only[go_sem,reduceAdd,reduceEqDiff,reduceLeDiff,reduceSub]
          rfl
        · rintro j s hj rfl
          have h1:=p1 _ (List.getElem_mem hj)
          have h2:tr.out[j].toNat<d.pl.length:=by omega
          simp (maxSteps:=2000000) (disch:=first|omega|(simp only[lenS];try omega)) only[go_sem,reduceAdd,reduceEqDiff,reduceLeDiff,reduceSub]
          refine⟨fun h=>?_,fun h=>⟨fun h3=>?_,fun h3=>?_⟩⟩
          · rw[z3b hj h];rfl
          · rw[z39 hj (by rw[←zj5 h2];exact h3)];rfl
          · rw[z3e hj h (by rw[←zj5 h2];exact h3)];rfl
        · rintro s rfl
          have hkd:k<d.tr.length:=by omega
          simp (maxSteps:=2000000) (disch:=first|omega|(simp only[lenS];try omega)) only[go_sem,reduceAdd,reduceEqDiff,reduceLeDiff,reduceSub,List.take_length]
          refine⟨fun h=>⟨fun h3=>?_,fun h3=>?_⟩,fun h=>?_⟩
          · rw[s1 (by rw[←zj5 hkd];exact h3)];rfl
          · have e:=s3 (by rw[←zj5 hkd];exact h3) h
            subst e
            refine W_for tr.inn.length (fun j s=>s=⟨[.any,.any,.ptr 0 0,.any,.any,.ref 1 1 0 n.pl.toNat,.ref 2 1 0 n.tr.length,.bool true,.any,.any,.any,.any,.any,.any,trs n.tr,I n.tr.length,I k,.any,.any,.any,.any,.any,.any,ints tr.inn,I tr.inn.length,I j,.any],[.box we2 [I n.pl,trs n.tr],.row wdz true 1 ((markB d.pl (tr.inn.take j)).map PV.bool),.row wdz true 1 ((d.tr.set k true).map PV.bool)]⟩) ?_ ?_ ?_
            · simp (maxSteps:=2000000) (disch:=first|omega|(simp only[lenS];try omega)) only[go_sem,reduceAdd,reduceEqDiff,reduceLeDiff,reduceSub]
              rfl
            · rintro j s hj rfl
              have h1:=p2 _ (List.getElem_mem hj)
              have h2:tr.inn[j].toNat<d.pl.length:=by omega
              have h4:=zsl d.pl (tr.inn.take j)
              simp (maxSteps:=2000000) (disch:=first|omega|(simp only[lenS];try omega)) only[go_sem,reduceAdd,reduceEqDiff,reduceLeDiff,reduceSub]
              rw[zsm hj];rfl
            · rintro s rfl
              simp (maxSteps:=2000000) (disch:=first|omega|(simp only[lenS];try omega)) only[go_sem,reduceAdd,reduceEqDiff,reduceLeDiff,reduceSub,List.take_length]
              rfl
          · rw[s2 h];rfl
      · rintro s rfl
        simp (maxSteps:=2000000) (disch:=first|omega|(simp only[lenS];try omega)) only[go_sem,reduceAdd,reduceEqDiff,reduceLeDiff,reduceSub]
        have hn:=za7 (n:=n) (bk:=true) hc2
        rw[hc] at hn
        cases e:(za2 n true c).ch with
        | true =>
          have h1:=(z9y (n:=n) (bk:=true) (s:=c) (k:=n.tr.length) (by omega)).2 e
          simp only[e,if_true] at hn
          refine⟨cntF (za2 n true c).tr+1,by unfold za2;omega,za2 n true c,by unfold za2;have:=hcl n.tr.length;omega,by unfold za2;have:=hcl n.tr.length;omega,.inl ⟨rfl,?_,hn.symm⟩⟩
          unfold za2 at e ⊢
          rw[e]
        | false =>
          simp only[e,Bool.false_eq_true,if_false] at hn
          refine⟨0,by omega,za2 n true c,by unfold za2;have:=hcl n.tr.length;omega,by unfold za2;have:=hcl n.tr.length;omega,.inr ⟨rfl,?_,hn.symm⟩⟩
          unfold za2 at e ⊢
          rw[e]
    · simp (maxSteps:=2000000) (disch:=first|omega|(simp only[lenS];try omega)) only[go_sem,reduceAdd,reduceEqDiff,reduceLeDiff,reduceSub]
theorem wdv(a b:List Bool)(ha:a.length<2^30)(hab:a.length≤b.length):C w8a [bls a,bls b] []=some (.un t_int true 1 ((bothL a b).map I),[]):=by
 refine w23 ?_
 simp (maxSteps:=2000000) (disch:=first|omega|(simp only[lenS];try omega)) only[wc3,go_sem,reduceAdd,reduceEqDiff,reduceLeDiff,reduceSub]
 refine W_for a.length (fun k s=>s=⟨[bls a,bls b,.any,.ref 0 1 0 (bothK a b k).length,.any,I a.length,I k,.any,.any],[.row t_int true 1 ((bothK a b k).map I)]⟩) ?_ ?_ ?_
 ·simp (maxSteps:=2000000) (disch:=first|omega|(simp only[lenS];try omega)) only[go_sem,reduceAdd,reduceEqDiff,reduceLeDiff,reduceSub]
  rfl
 ·rintro k s hk rfl
  have h2:=z76 a b k
  have hkb:k<b.length:=by omega
  have e1:=zj5 hk
  have e2:=zj5 hkb
  simp (maxSteps:=2000000) (disch:=first|omega|(simp only[lenS];try omega)) only[go_sem,reduceAdd,reduceEqDiff,reduceLeDiff,reduceSub]
  rw[e1,e2]
  refine⟨fun h=>⟨fun h3=>?_,fun h3=>?_⟩,fun h=>?_⟩
  ·rw[z77 h h3,List.map_append];simp
  ·rw[z75 (by rw[h,h3];rfl)];rfl
  ·rw[z75 (by rw[h];rfl)];rfl
 ·rintro s rfl
  simp (maxSteps:=2000000) (disch:=first|omega|(simp only[lenS];try omega)) only[go_sem,reduceAdd,reduceEqDiff,reduceLeDiff,reduceSub]
  rfl
theorem wde(n:Net)(a b:Int)(hn:smN n):C w7v [encN n,I a,I b] []=some (.tup [.un t_int true 1 ((if okWay n a b then wayP n a b else []).map I),.un t_int true 1 ((if okWay n a b then wayT n a b else []).map I),.bool (okWay n a b)],[]):=by
  refine w1v ?_
  simp (maxSteps:=2000000) (disch:=first|omega|(simp only[lenS];try omega)) only[wbo,go_sem,reduceAdd,reduceEqDiff,reduceLeDiff,reduceSub]
  simp (maxSteps:=2000000) (disch:=first|omega|(simp only[lenS];try omega)) only[go_sem,reduceAdd,reduceEqDiff,reduceLeDiff,reduceSub,wdd n hn,wdn]
  cases hg:goodN n with
  | false=>simp [okWay,hg]
  | true =>
    have hb:=zjy hg
    cases h1:inB 0 (n.pl-1) a with
    | false=>simp (maxSteps:=2000000) (disch:=first|omega|(simp only[lenS];try omega)) only[go_sem,reduceAdd,reduceEqDiff,reduceLeDiff,reduceSub,h1];simp [okWay,hg,h1]
    | true =>
      cases h2:inB 0 (n.pl-1) b with
      | false=>simp (maxSteps:=2000000) (disch:=first|omega|(simp only[lenS];try omega)) only[go_sem,reduceAdd,reduceEqDiff,reduceLeDiff,reduceSub,h1,h2];simp [okWay,hg,h1,h2]
      | true =>
        have hok:okWay n a b=true:=by simp [okWay,hg,h1,h2]
        have ha:0≤a∧a<n.pl:=by simp [inB] at h1;omega
        have hb2:0≤b∧b<n.pl:=by simp [inB] at h2;omega
        have l1:=z13t n false a
        have l2:=z13t n true b
        simp (maxSteps:=2000000) (disch:=first|omega|(simp only[lenS];try omega)) only[go_sem,reduceAdd,reduceEqDiff,reduceLeDiff,reduceSub,h1,h2,wdw n a hg ha,wdu n b hg hb2,hok]
        simp (maxSteps:=2000000) (disch:=first|omega|(simp only[lenS];try omega)) only[go_sem,reduceAdd,reduceEqDiff,reduceLeDiff,reduceSub,wdv (z13q n false a).pl (z13q n true b).pl (by omega) (by omega),wdv (z13q n false a).tr (z13q n true b).tr (by omega) (by omega)]
        rfl
theorem wdm(l:List Int)(x:Int)(hl:l.length<2^62):C w83 [ints l,I x] []=some (.bool (hasB l x),[]):=by
 refine w1w ?_
 simp (maxSteps:=2000000) (disch:=first|omega|(simp only[lenS];try omega)) only[wbw,go_sem,reduceAdd,reduceEqDiff,reduceLeDiff,reduceSub]
 refine W_for l.length (fun k s=>s=⟨[.any,I x,.any,.any,ints l,I l.length,I k,.any,.any],[]⟩∧(l.take k).any (fun y=>y == x)=false) ?_ ?_ ?_
 ·simp (maxSteps:=2000000) (disch:=first|omega|(simp only[lenS];try omega)) only[go_sem,reduceAdd,reduceEqDiff,reduceLeDiff,reduceSub]
  rfl
 ·rintro k s hk ⟨rfl,hall⟩
  simp (maxSteps:=2000000) (disch:=first|omega|(simp only[lenS];try omega)) only[go_sem,reduceAdd,reduceEqDiff,reduceLeDiff,reduceSub]
  refine⟨fun h=>?_,fun h=>⟨rfl,z3e hk hall (by simpa using h)⟩⟩
  rw[zkp hk h]
 ·rintro s ⟨rfl,hall⟩
  simp (maxSteps:=2000000) (disch:=first|omega|(simp only[lenS];try omega)) only[go_sem,reduceAdd,reduceEqDiff,reduceLeDiff,reduceSub]
  rw[List.take_length] at hall
  rw[zko hall]
theorem wdc(f:Fl)(hf:smN f.net):C w7t [encF f] []=some (.bool (zji f),[]):=by
  have hl:=hf.1
  have hw:=wde f.net f.src f.dst hf
  have hP:(wayP f.net f.src f.dst).length<2^62∨goodN f.net=false:=by
    cases hg:goodN f.net with
    | false=>exact .inr rfl
    | true =>
      have:=zjy hg
      have h1:=z76 (z13q f.net false f.src).pl (z13q f.net true f.dst).pl (z13q f.net false f.src).pl.length
      have h2:=z13t f.net false f.src
      exact .inl (by unfold wayP bothL;omega)
  have hT:(wayT f.net f.src f.dst).length<2^62:=by
    have h1:=z76 (z13q f.net false f.src).tr (z13q f.net true f.dst).tr (z13q f.net false f.src).tr.length
    have h2:=z13t f.net false f.src
    unfold wayT bothL;omega
  refine w1t ?_
  simp (maxSteps:=2000000) (disch:=first|omega|(simp only[lenS];try omega)) only[wbm,go_sem,reduceAdd,reduceEqDiff,reduceLeDiff,reduceSub]
  cases hok:okWay f.net f.src f.dst with
  | false =>
    simp only[hok] at hw
    simp (maxSteps:=2000000) (disch:=first|omega|(simp only[lenS];try omega)) only[go_sem,reduceAdd,reduceEqDiff,reduceLeDiff,reduceSub,hw]
    simp [zji,hok]
  | true =>
    have hg:goodN f.net=true:=by simp only[okWay,Bool.and_eq_true] at hok;exact hok.1.1
    have hb:=zjy hg
    have hP:(wayP f.net f.src f.dst).length<2^62:=by
      rcases hP with h | h
      · exact h
      · rw[hg] at h;cases h
    simp only[hok,if_true] at hw
    simp (maxSteps:=2000000) (disch:=first|omega|(simp only[lenS];try omega)) only[go_sem,reduceAdd,reduceEqDiff,reduceLeDiff,reduceSub,hw]
    refine⟨fun h=>by simp [zji,h],fun h=>⟨fun h2=>by simp [zji,h2],fun h2=>⟨fun h3=>?_,fun h3=>?_⟩⟩⟩
    · have:¬(wayT f.net f.src f.dst).length=f.net.tr.length:=by omega
      simp [zji,this]
    refine W_for f.net.tr.length (fun k s=>s=⟨[.any,.ptr 0 0,.any,.any,.any,.any,.any,.any,trs f.net.tr,I f.net.tr.length,I k,.any,.any],[.box we1 [I f.net.pl,trs f.net.tr,I f.src,I f.dst]]⟩∧(f.net.tr.take k).all (fun t=>!z1cj f t)=true) ?_ ?_ ?_
    · simp (maxSteps:=2000000) (disch:=first|omega|(simp only[lenS];try omega)) only[go_sem,reduceAdd,reduceEqDiff,reduceLeDiff,reduceSub]
      rfl
    · rintro k s hk ⟨rfl,hall⟩
      have hT:=hb.2.2.2 _ (List.getElem_mem hk)
      have hLs:=zk4 hT (by omega)
      simp (maxSteps:=2000000) (disch:=first|omega|(simp only[lenS];try omega)) only[go_sem,reduceAdd,reduceEqDiff,reduceLeDiff,reduceSub,wdm]
      have gs:z1cj f f.net.tr[k]=true→zji f=false:=fun hs=>by
        have:(f.net.tr.all fun t=>!z1cj f t)=false:=z2y hk (by simp [hs])
        simp [zji,this]
      exact⟨fun a=>by rw[gs (by simp [z1cj,a])],fun a=>⟨fun b=>by rw[gs (by simp [z1cj,b])],fun b=>⟨fun c=>by rw[gs (by simp [z1cj,c])],fun c=>⟨fun d=>by rw[gs (by simp [z1cj,d])],fun d=>⟨rfl,z2z hk hall (by simp [z1cj,a,b,c,d])⟩⟩⟩⟩⟩
    · rintro s ⟨rfl,hall⟩
      simp (maxSteps:=2000000) (disch:=first|omega|(simp only[lenS];try omega)) only[go_sem,reduceAdd,reduceEqDiff,reduceLeDiff,reduceSub]
      rw[List.take_length] at hall
      have h4:(wayT f.net f.src f.dst).length=f.net.tr.length:=by omega
      simp [zji,hok,h,h2,h4]
      simpa using hall
theorem wdo(l:List Int)(h:l.length<2^36):C w85 [ints l] []=some (.un t_int true 1 (l.map I),[]):=by
 refine w1y ?_
 simp (maxSteps:=2000000) (disch:=first|omega|(simp only[lenS];try omega)) only[wby,go_sem,reduceAdd,reduceEqDiff,reduceLeDiff,reduceSub]
theorem wdy(n:Net)(hg:goodN n=true)(h0:n.tr≠[]):C w8d [encN n] []=some (.agg [I n.pl,.un we4 false 3 (n.tr.map encT)],[]):=by
 have hb:=zjy hg
 have hl:0<n.tr.length:=List.length_pos_iff.2 h0
 refine w26 ?_
 simp (maxSteps:=2000000) (disch:=first|omega|(simp only[lenS];try omega)) only[wc6,go_sem,reduceAdd,reduceEqDiff,reduceLeDiff,reduceSub]
 refine W_for n.tr.length (fun k s=>(s=⟨[.any,.any,.ptr 0 0,.ptr 1 0,.any,trs n.tr,I n.tr.length,I k,.any],[.box we2 [I 0,.nil false 3],.box we2 [I n.pl,.nil false 3]]⟩∧k=0)∨(s=⟨[.any,.any,.ptr 0 0,.ptr 1 0,.any,trs n.tr,I n.tr.length,I k,.any],[.box we2 [I 0,.nil false 3],.box we2 [I n.pl,.ref 2 3 0 k],.row we4 false 3 ((n.tr.take k).map encT)]⟩∧0<k)) ?_ ?_ ?_
 ·refine .inl ⟨?_,rfl⟩
  simp (maxSteps:=2000000) (disch:=first|omega|(simp only[lenS];try omega)) only[go_sem,reduceAdd,reduceEqDiff,reduceLeDiff,reduceSub]
  rfl
 ·rintro k s hk (⟨rfl,rfl⟩ | ⟨rfl,h1⟩)
  ·have hT:=zk4 (hb.2.2.2 _ (List.getElem_mem hk)) (by omega)
   simp (maxSteps:=2000000) (disch:=first|omega|(simp only[lenS];try omega)) only[go_sem,reduceAdd,reduceEqDiff,reduceLeDiff,reduceSub,wdo]
   refine⟨rfl,?_,by omega⟩
   rw[z1fe (k:=0) hk];rfl
  ·have hT:=zk4 (hb.2.2.2 _ (List.getElem_mem hk)) (by omega)
   simp (maxSteps:=2000000) (disch:=first|omega|(simp only[lenS];try omega)) only[go_sem,reduceAdd,reduceEqDiff,reduceLeDiff,reduceSub,wdo]
   refine⟨rfl,?_⟩
   rw[z1fe hk,List.map_append];rfl
 ·rintro s (⟨rfl,hk⟩ | ⟨rfl,hk⟩)
  ·omega
  ·simp (maxSteps:=2000000) (disch:=first|omega|(simp only[lenS];try omega)) only[go_sem,reduceAdd,reduceEqDiff,reduceLeDiff,reduceSub,List.take_length]
theorem wdx(a b:Fl)(l A:List Int)(hl:l.length≤2^20)(hA:A.length≤2^20)(h : ∀ x∈l,(0≤x∧x<A.length)∧A[x.toNat]? = some (chP a b x)):C w8c [ints l,ints A] []=some (.un t_int true 1 ((chL a b l).map I),[]):=by
 refine w25 ?_
 simp (maxSteps:=2000000) (disch:=first|omega|(simp only[lenS];try omega)) only[wc5,go_sem,reduceAdd,reduceEqDiff,reduceLeDiff,reduceSub]
 refine W_for l.length (fun k s=>s=⟨[.any,ints A,.any,.ref 0 1 0 (chL a b (l.take k)).length,.any,ints l,I l.length,I k,.any],[.row t_int true 1 ((chL a b (l.take k)).map I)]⟩) ?_ ?_ ?_
 ·simp (maxSteps:=2000000) (disch:=first|omega|(simp only[lenS];try omega)) only[go_sem,reduceAdd,reduceEqDiff,reduceLeDiff,reduceSub]
  rfl
 ·rintro k s hk rfl
  have h1:=z95 a b (l.take k)
  rw[List.length_take] at h1
  obtain⟨hx,hx2⟩:=h _ (List.getElem_mem hk)
  have e1:A[l[k].toNat]'(by omega)=chP a b l[k]:=by rw[List.getElem?_eq_getElem (by omega)] at hx2;exact Option.some.inj hx2
  clear hx2
  rw[z9a hk]
  generalize chL a b (l.take k)=V at *
  generalize chP a b l[k]=y at *
  obtain⟨_,e3,rfl | ⟨rfl,e4⟩⟩:=wdr V y (by omega)
  ·simp (maxSteps:=2000000) (disch:=first|omega|(simp only[lenS];try omega)) only[go_sem,reduceAdd,reduceEqDiff,reduceLeDiff,reduceSub,e3,e1]
   first | done | rfl
  ·rw[e4]
   simp (maxSteps:=2000000) (disch:=first|omega|(simp only[lenS];try omega)) only[go_sem,reduceAdd,reduceEqDiff,reduceLeDiff,reduceSub,e3,e1]
   first | done | rfl
 ·rintro s rfl
  rw[List.take_length]
  have h1:=z95 a b l
  simp (maxSteps:=2000000) (disch:=first|omega|(simp only[lenS];try omega)) only[go_sem,reduceAdd,reduceEqDiff,reduceLeDiff,reduceSub]
theorem wd9(a b:Fl)(ha:smN a.net)(hb:smN b.net)(h:(zji a&&zji b)=false):C w7r [encF a,encF b] []=some (.tup [.agg [I 0,.nil false 3,I 0,I 0],.bool false],[]):=by
  have e1:=wdc a ha
  have e2:=wdc b hb
  unfold encF at e1 e2
  refine w1s ?_
  simp (maxSteps:=2000000) (disch:=first|omega|(simp only[lenS];try omega)) only[wbk,go_sem,reduceAdd,reduceEqDiff,reduceLeDiff,reduceSub]
  cases h1:zji a with
  | false =>
    rw[h1] at e1
    simp (maxSteps:=2000000) (disch:=first|omega|(simp only[lenS];try omega)) only[go_sem,reduceAdd,reduceEqDiff,reduceLeDiff,reduceSub,e1]
    first | done | rfl
  | true =>
    cases h2:zji b with
    | true=>rw[h1,h2] at h;cases h
    | false =>
      rw[h1] at e1;rw[h2] at e2
      simp (maxSteps:=2000000) (disch:=first|omega|(simp only[lenS];try omega)) only[go_sem,reduceAdd,reduceEqDiff,reduceLeDiff,reduceSub,e1,e2]
      first | done | rfl
theorem wda(a b:Fl)(ha:smN a.net)(hb:smN b.net)(h1:zji a=true)(h2:zji b=true):C w7r [encF a,encF b] []=some (.tup [if zji (chF a b)=true then .agg [I (chF a b).net.pl,.un we4 false 3 ((chF a b).net.tr.map encT),I (chF a b).src,I (chF a b).dst] else .agg [I 0,.nil false 3,I 0,I 0],.bool (zji (chF a b))],[]):=by
 have e1:=wdc a ha
 have e2:=wdc b hb
 obtain⟨hga,hsa,hda,-,-,-,-⟩:=zjm h1
 obtain⟨hgb,hsb,hdb,-,-,-,-⟩:=zjm h2
 obtain⟨hp1,hp2,hn,hT⟩:=zjy hgb
 obtain⟨hq1,hq2,hm,-⟩:=zjy hga
 have e3:=wdy a.net hga (by simpa using zjk h1)
 have e5:=wdc (chF a b) (w5f ha hb (by omega) (by omega))
 obtain⟨P,hP⟩ : ∃ P:Nat,b.net.pl=P:=⟨b.net.pl.toNat,by omega⟩
 rw[h1] at e1;rw[h2] at e2
 unfold encF at e1 e2
 refine w1s ?_
 simp (maxSteps:=2000000) (disch:=first|omega|(simp only[lenS];try omega)) only[wbk,go_sem,reduceAdd,reduceEqDiff,reduceLeDiff,reduceSub]
 simp (maxSteps:=2000000) (disch:=first|omega|(simp only[lenS];try omega)) only[go_sem,reduceAdd,reduceEqDiff,reduceLeDiff,reduceSub,e1,e2,e3]
 rw[show b.net.pl.toNat=P by omega]
 refine W_for P (fun k st=>st=⟨[.any,.any,.ptr 0 0,.ptr 1 0,.ptr 2 0,.any,.ptr 3 0,.ref 4 1 0 P,.any,.any,.any,I P,I k,.any,.any,.any,.any,.any,.any,.any],[.box we1 [I a.net.pl,trs a.net.tr,I a.src,I a.dst],.box we1 [I b.net.pl,trs b.net.tr,I b.src,I b.dst],.box we1 [I 0,.nil false 3,I 0,I 0],.box we1 [I (cntC a b k),.ref 5 3 0 a.net.tr.length,I a.src,I 0],.row t_int true 1 ((atC a b P k).map I),.row we4 false 3 (a.net.tr.map encT)]⟩) ?_ ?_ ?_
 ·simp (maxSteps:=2000000) (disch:=first|omega|(simp only[lenS];try omega)) only[go_sem,reduceAdd,reduceEqDiff,reduceLeDiff,reduceSub]
  rw[z4e,List.map_replicate,show cntC a b 0=a.net.pl by unfold cntC;rw[if_neg (by omega)];simp]
  rfl
 ·rintro k st hk rfl
  have q1:=z4c (a:=a) (b:=b) (P:=P) (k:=k)
  have q2:=z4d (a:=a) (b:=b) (P:=P) (k:=k)
  have q3:0≤cntC a b k∧cntC a b k≤100:=by unfold cntC;split<;>omega
  rw[←q2]
  by_cases c:(k:Int)=b.src
  ·obtain⟨r1,r2⟩:=zb1 (a:=a) c
   rw[r1,r2]
   generalize atC a b P k=A at *
   generalize cntC a b k=x at *
   simp (maxSteps:=2000000) (disch:=first|omega|(simp only[lenS];try omega)) only[go_sem,reduceAdd,reduceEqDiff,reduceLeDiff,reduceSub,q1,c]
   rw[show b.src.toNat=k by omega,show((k+1:Nat):Int)=b.src+1 by omega]
   first | done | rfl
  ·obtain⟨r1,r2⟩:=zb0 (a:=a) c
   rw[r1,←r2]
   generalize atC a b P k=A at *
   generalize cntC a b k=x at *
   simp (maxSteps:=2000000) (disch:=first|omega|(simp only[lenS];try omega)) only[go_sem,reduceAdd,reduceEqDiff,reduceLeDiff,reduceSub,q1,c,List.set_set]
   first | done | rfl
 ·rintro st rfl
  have q1:=z4c (a:=a) (b:=b) (P:=P) (k:=P)
  have q2:=fun(p:Int)=>z4b (a:=a) (b:=b) (p:=p) (P:=P)
  have hcn:cntC a b P=a.net.pl+(b.net.pl-1):=by unfold cntC;rw[if_pos (by omega)];omega
  rw[hcn]
  generalize atC a b P P=A at *
  simp (maxSteps:=2000000) (disch:=first|omega|(simp only[lenS];try omega)) only[go_sem,reduceAdd,reduceEqDiff,reduceLeDiff,reduceSub,q1]
  refine W_for b.net.tr.length (fun i st=>st=⟨[.any,.any,.any,.ptr 0 0,.ptr 1 0,.any,.ptr 2 0,.ref 3 1 0 P,.any,.any,.any,.any,.any,.any,.any,trs b.net.tr,I b.net.tr.length,I i,.any,.any],[.box we1 [I b.net.pl,trs b.net.tr,I b.src,I b.dst],.box we1 [I 0,.nil false 3,I 0,I 0],.box we1 [I (a.net.pl+(b.net.pl-1)),.ref 4 3 0 (a.net.tr++(b.net.tr.take i).map (chT a b)).length,I a.src,I 0],.row t_int true 1 (A.map I),.row we4 false 3 ((a.net.tr++(b.net.tr.take i).map (chT a b)).map encT)]⟩) ?_ ?_ ?_
  ·simp (maxSteps:=2000000) (disch:=first|omega|(simp only[lenS];try omega)) only[go_sem,reduceAdd,reduceEqDiff,reduceLeDiff,reduceSub]
   simp
  ·rintro i st hi rfl
   have hti:b.net.tr[i]? = some b.net.tr[i]:=List.getElem?_eq_getElem hi
   have hgt:=hT _ (List.getElem_mem hi)
   have hpl:=zk9 hgt
   have hln:=zk4 hgt (by omega)
   have hin:=fun x (h:0≤x∧x<b.net.pl)=>And.intro (show 0≤x∧x<A.length by omega) (q2 x h.1 (by omega))
   have d1:=wdx a b b.net.tr[i].inn A (by omega) (by omega) (fun x hx=>hin x (hpl.1 x hx))
   have d2:=wdx a b b.net.tr[i].out A (by omega) (by omega) (fun x hx=>hin x (hpl.2.1 x hx))
   have d3:=wdx a b b.net.tr[i].rst A (by omega) (by omega) (fun x hx=>hin x (hpl.2.2 x hx))
   have l1:=z95 a b b.net.tr[i].inn
   have l2:=z95 a b b.net.tr[i].out
   have l3:=z95 a b b.net.tr[i].rst
   have hL:(a.net.tr++(b.net.tr.take i).map (chT a b)).length≤60:=by simp;omega
   have hsn:a.net.tr++(b.net.tr.take (i+1)).map (chT a b)=(a.net.tr++(b.net.tr.take i).map (chT a b))++[chT a b b.net.tr[i]]:=by rw[List.take_succ_eq_append_getElem hi,List.map_append,List.append_assoc];rfl
   rw[hsn]
   generalize a.net.tr++(b.net.tr.take i).map (chT a b)=L at *
   clear q2 hin
   generalize b.net.tr[i]=t at *
   unfold chT
   generalize chL a b t.inn=A1 at *
   generalize chL a b t.out=B1 at *
   generalize chL a b t.rst=D1 at *
   simp (maxSteps:=2000000) (disch:=first|omega|(simp only[lenS];try omega)) only[go_sem,reduceAdd,reduceEqDiff,reduceLeDiff,reduceSub,hti,d1,d2,d3,q1]
   refine⟨by decide,?_⟩
   rw[List.map_append,List.length_append]
   rfl
  ·rintro st rfl
   rw[List.take_length]
   have hpl:(chF a b).net.pl=a.net.pl+(b.net.pl-1):=by show a.net.pl+b.net.pl-1=_;omega
   have hL:(a.net.tr++b.net.tr.map (chT a b)).length≤60:=by simp;omega
   have hg:=q2 b.dst hdb.1 (by omega)
   have hg2:A[b.dst.toNat]'(by omega)=chP a b b.dst:=by rw[List.getElem?_eq_getElem (by omega)] at hg;exact Option.some.inj hg
   unfold encF at e5
   rw[hpl] at e5 ⊢
   rw[show(chF a b).net.tr=a.net.tr++b.net.tr.map (chT a b) from rfl,show(chF a b).src=a.src from rfl,show(chF a b).dst=chP a b b.dst from rfl] at e5 ⊢
   generalize a.net.tr++b.net.tr.map (chT a b)=L at *
   generalize zji (chF a b)=G at *
   unfold trs at e5
   clear q2 hg
   cases G
   all_goals
    simp (maxSteps:=2000000) (disch:=first|omega|(simp only[lenS];try omega)) only[go_sem,reduceAdd,reduceEqDiff,reduceLeDiff,reduceSub,e5,hg2,q1]
    first | done | rfl
theorem wc9(a b:List Int)(hl:a.length<2^62):C w6t [ints a,ints b] []=some (.bool (decide (a=b)),[]):=by
 refine w15 ?_
 simp (maxSteps:=2000000) (disch:=first|omega|(simp only[lenS];try omega)) only[wal,go_sem,reduceAdd,reduceEqDiff,reduceLeDiff,reduceSub]
 refine⟨fun h=>?_,fun h=>?_⟩
 ·have:a≠b:=fun e=>h (by rw[e])
  simp [this]
 refine W_for a.length (fun k s=>s=⟨[ints a,ints b,.any,.any,.any,I a.length,I k,.any,.any],[]⟩∧a.take k=b.take k) ?_ ?_ ?_
 ·simp (maxSteps:=2000000) (disch:=first|omega|(simp only[lenS];try omega)) only[go_sem,reduceAdd,reduceEqDiff,reduceLeDiff,reduceSub]
  rfl
 ·rintro k s hk ⟨rfl,hall⟩
  simp (maxSteps:=2000000) (disch:=first|omega|(simp only[lenS];try omega)) only[go_sem,reduceAdd,reduceEqDiff,reduceLeDiff,reduceSub]
  refine⟨fun h=>?_,fun h=>⟨rfl,?_⟩⟩
  ·have:a≠b:=fun e=>h (by simp [e])
   simp [this]
  ·rw[z1fe hk,z1fe (show k<b.length by omega),hall,h]
 ·rintro s ⟨rfl,hall⟩
  simp (maxSteps:=2000000) (disch:=first|omega|(simp only[lenS];try omega)) only[go_sem,reduceAdd,reduceEqDiff,reduceLeDiff,reduceSub]
  rw[List.take_length,List.take_of_length_le (by omega)] at hall
  simp [hall]
theorem wca(n:Net)(hn:smN n):C w6u [encN n,encN n] []=some (.bool true,[]):=by
 have h0:=hn.1
 refine w16 ?_
 simp (maxSteps:=2000000) (disch:=first|omega|(simp only[lenS];try omega)) only[wam,go_sem,reduceAdd,reduceEqDiff,reduceLeDiff,reduceSub]
 refine W_for n.tr.length (fun k s=>s=⟨[.any,.any,.any,.ptr 0 0,.any,.any,.any,.any,.any,trs n.tr,I n.tr.length,I k,.any,.any],[.box we2 [I n.pl,trs n.tr]]⟩) ?_ ?_ ?_
 ·simp (maxSteps:=2000000) (disch:=first|omega|(simp only[lenS];try omega)) only[go_sem,reduceAdd,reduceEqDiff,reduceLeDiff,reduceSub]
  rfl
 ·rintro k s hk rfl
  obtain⟨h3,h4,h5⟩:=hn.2 _ (List.getElem_mem hk)
  simp (maxSteps:=2000000) (disch:=first|omega|(simp only[lenS];try omega)) only[go_sem,reduceAdd,reduceEqDiff,reduceLeDiff,reduceSub,wc9]
  rfl
 ·rintro s rfl
  simp (maxSteps:=2000000) (disch:=first|omega|(simp only[lenS];try omega)) only[go_sem,reduceAdd,reduceEqDiff,reduceLeDiff,reduceSub]
theorem wc8(f:Fl)(hn:smN f.net):C w6s [encF f,encF f] []=some (.bool true,[]):=by
 have h:=wca f.net hn
 refine w14 ?_
 simp (maxSteps:=2000000) (disch:=first|omega|(simp only[lenS];try omega)) only[wak,go_sem,reduceAdd,reduceEqDiff,reduceLeDiff,reduceSub]
 simp (maxSteps:=2000000) (disch:=first|omega|(simp only[lenS];try omega)) only[go_sem,reduceAdd,reduceEqDiff,reduceLeDiff,reduceSub,h]
theorem w95(f:Fl)(b:Int)(hf:smN f.net):C w6g [encF f,I b] []=some (.bool (zji f&&inB 1 400 b),[]):=by
 refine w0s ?_
 simp (maxSteps:=2000000) (disch:=first|omega|(simp only[lenS];try omega)) only[wa8,go_sem,reduceAdd,reduceEqDiff,reduceLeDiff,reduceSub]
 simp (maxSteps:=2000000) (disch:=first|omega|(simp only[lenS];try omega)) only[go_sem,reduceAdd,reduceEqDiff,reduceLeDiff,reduceSub,w8j f hf,w9f]
 grind
theorem w9d(n p:Int)(hn:0≤n∧n<2^30)(hp:0≤p∧p<n):C w6n [I n,I p] []=some (.un t_int true 1 ((oneM n.toNat p).map I),[]):=by
 refine w0z ?_
 simp (maxSteps:=2000000) (disch:=first|omega|(simp only[lenS];try omega)) only[waf,go_sem,reduceAdd,reduceEqDiff,reduceLeDiff,reduceSub]
 simp (maxSteps:=2000000) (disch:=first|omega|(simp only[lenS];try omega)) only[go_sem,reduceAdd,reduceEqDiff,reduceLeDiff,reduceSub,List.getElem_replicate]
 simp [oneM,List.map_set]
theorem w9e(f:Fl)(hg:zji f=true):C w6o [encF f] []=some (.un t_int true 1 ((oneM f.net.pl.toNat f.src).map I),[]):=by
 obtain⟨g1,g2,g3,_⟩:=zjm hg
 have hn:=zjy g1
 refine w10 ?_
 simp (maxSteps:=2000000) (disch:=first|omega|(simp only[lenS];try omega)) only[wag,go_sem,reduceAdd,reduceEqDiff,reduceLeDiff,reduceSub]
 simp (maxSteps:=2000000) (disch:=first|omega|(simp only[lenS];try omega)) only[go_sem,reduceAdd,reduceEqDiff,reduceLeDiff,reduceSub,w9d f.net.pl f.src (by omega) g2]
theorem w96(m:List Int)(p:Int)(h:0≤p∧p.toNat<m.length):C w6i [I p,.pv (.agg [ints m]) 0] []=some (.bool (at_ m p == 0),[]):=by
 obtain⟨h1,h2⟩:=h
 refine w0u ?_
 simp (maxSteps:=2000000) (disch:=first|omega|(simp only[lenS];try omega)) only[waa,go_sem,reduceAdd,reduceEqDiff,reduceLeDiff,reduceSub]
 simp only[at_eq h2]
 grind
theorem w97(t:Tr)(m:List Int)(ht : ∀ q∈t.inn,0≤q∧q.toNat<m.length)(hl:t.inn.length<2^62):C w6h [encT t,ints m] []=some (.bool (canT t m),[]):=by
 refine w0t ?_
 simp (maxSteps:=2000000) (disch:=first|omega|(simp only[lenS];try omega)) only[wa9,go_sem,reduceAdd,reduceEqDiff,reduceLeDiff,reduceSub]
 have h:=wci t.inn w6i [.pv (.agg [ints m]) 0] rfl (fun _ _=>rfl) (fun p=>at_ m p == 0) (fun x hx=>w96 m x (ht x hx)) hl
 simp (maxSteps:=2000000) (disch:=first|omega|(simp only[lenS];try omega)) only[go_sem,reduceAdd,reduceEqDiff,reduceLeDiff,reduceSub,h]
 have:(t.inn.any fun p=>at_ m p == 0) = !canT t m:=by rw[canT,List.any_eq_not_all_not]
 rw[this];simp
theorem w90(n:Net)(m:List Int)(hg:goodN n=true)(hm:(m.length:Int)=n.pl):C w6b [encN n,ints m] []=some (.un t_int true 1 ((enabL n m).map I),[]):=by
 have hb:=zjy hg
 refine w0n ?_
 simp (maxSteps:=2000000) (disch:=first|omega|(simp only[lenS];try omega)) only[wa3,go_sem,reduceAdd,reduceEqDiff,reduceLeDiff,reduceSub]
 refine W_for n.tr.length (fun k s=>s=⟨[.any,ints m,.any,.any,.ref 0 1 0 (enabK n m k).length,.any,.any,trs n.tr,I n.tr.length,I k,.any,.any],[.row t_int true 1 ((enabK n m k).map I)]⟩) ?_ ?_ ?_
 ·simp (maxSteps:=2000000) (disch:=first|omega|(simp only[lenS];try omega)) only[go_sem,reduceAdd,reduceEqDiff,reduceLeDiff,reduceSub]
  rfl
 ·rintro k s hk rfl
  have hT:=hb.2.2.2 _ (List.getElem_mem hk)
  have h2:=zdj n m k
  simp (maxSteps:=2000000) (disch:=first|omega|(simp only[lenS];try omega)) only[go_sem,reduceAdd,reduceEqDiff,reduceLeDiff,reduceSub,w97 _ m (zk5 hT hm).1 (by have:=(zk4 hT (by omega)).1;omega)]
  refine⟨fun h=>?_,fun h=>?_⟩
  ·rw[zdk hk h,List.map_append];simp
  ·rw[zdi hk h];rfl
 ·rintro s rfl
  simp (maxSteps:=2000000) (disch:=first|omega|(simp only[lenS];try omega)) only[go_sem,reduceAdd,reduceEqDiff,reduceLeDiff,reduceSub]
  rfl
theorem w93(t:Tr)(m:List Int)(h1 : ∀ q∈t.inn,0≤q∧q.toNat<m.length)(h2 : ∀ q∈t.out,0≤q∧q.toNat<m.length)(h3 : ∀ q∈t.rst,0≤q∧q.toNat<m.length)(hl:smT t)(hm:m.length<2^30)(hb : ∀ x∈m,0≤x∧x≤50) :
  C w6e [encT t,ints m] []=some (.un t_int true 1 ((zgw t m).map I),[]):=by
 obtain⟨g1,g2,g3⟩:=hl
 refine w0q ?_
 simp (maxSteps:=2000000) (disch:=first|omega|(simp only[lenS];try omega)) only[wa6,go_sem,reduceAdd,reduceEqDiff,reduceLeDiff,reduceSub]
 simp (maxSteps:=2000000) (disch:=first|omega|(simp only[lenS];try omega)) only[go_sem,reduceAdd,reduceEqDiff,reduceLeDiff,reduceSub,wcf]
 refine W_for t.inn.length (fun k s=>s=⟨[.any,.any,.ptr 0 0,.any,.ref 1 1 0 m.length,.any,.any,.any,ints t.inn,I t.inn.length,I k,.any,.any,.any,.any,.any,.any,.any,.any,.any],[.box we4 [ints t.inn,ints t.out,ints t.rst],.row t_int true 1 ((decL m (t.inn.take k)).map I)]⟩) ?_ ?_ ?_
 ·simp (maxSteps:=2000000) (disch:=first|omega|(simp only[lenS];try omega)) only[go_sem,reduceAdd,reduceEqDiff,reduceLeDiff,reduceSub]
  rfl
 ·rintro k s hk rfl
  obtain⟨h4,h5⟩:=h1 _ (List.getElem_mem hk)
  have h6:=zcc m (t.inn.take k)
  have h7:=z4o (p:=t.inn[k]) (zcb (l:=t.inn.take k) hb (fun p hp=>(h1 p (List.mem_of_mem_take hp)).2)) (by omega)
  have h8:(t.inn.take k).length=k:=by simp;omega
  simp (maxSteps:=2000000) (disch:=first|omega|(simp only[lenS];try omega)) only[go_sem,reduceAdd,reduceEqDiff,reduceLeDiff,reduceSub,at_eq]
  rw[zcd hk];rfl
 ·rintro s rfl
  simp (maxSteps:=2000000) (disch:=first|omega|(simp only[lenS];try omega)) only[go_sem,reduceAdd,reduceEqDiff,reduceLeDiff,reduceSub,List.take_length]
  have b1:=zcb (l:=t.inn) hb (fun p hp=>(h1 p hp).2)
  have l1:=zcc m t.inn
  generalize e1:decL m t.inn=m1 at b1 l1 ⊢
  refine W_for t.rst.length (fun k s=>s=⟨[.any,.any,.ptr 0 0,.any,.ref 1 1 0 m.length,.any,.any,.any,.any,.any,.any,.any,ints t.rst,I t.rst.length,I k,.any,.any,.any,.any,.any],[.box we4 [ints t.inn,ints t.out,ints t.rst],.row t_int true 1 ((zerL m1 (t.rst.take k)).map I)]⟩) ?_ ?_ ?_
  ·simp (maxSteps:=2000000) (disch:=first|omega|(simp only[lenS];try omega)) only[go_sem,reduceAdd,reduceEqDiff,reduceLeDiff,reduceSub]
   rfl
  ·rintro k s hk rfl
   obtain⟨h4,h5⟩:=h3 _ (List.getElem_mem hk)
   have h6:=z1i1 m1 (t.rst.take k)
   simp (maxSteps:=2000000) (disch:=first|omega|(simp only[lenS];try omega)) only[go_sem,reduceAdd,reduceEqDiff,reduceLeDiff,reduceSub]
   rw[z1i2 hk];rfl
  ·rintro s rfl
   simp (maxSteps:=2000000) (disch:=first|omega|(simp only[lenS];try omega)) only[go_sem,reduceAdd,reduceEqDiff,reduceLeDiff,reduceSub,List.take_length]
   have b2:=z1i0 (l:=t.rst) b1 (by omega)
   have l2:=z1i1 m1 t.rst
   generalize e2:zerL m1 t.rst=m2 at b2 l2 ⊢
   refine W_for t.out.length (fun k s=>s=⟨[.any,.any,.any,.any,.ref 0 1 0 m.length,.any,.any,.any,.any,.any,.any,.any,.any,.any,.any,.any,ints t.out,I t.out.length,I k,.any],[.row t_int true 1 ((incL m2 (t.out.take k)).map I)]⟩) ?_ ?_ ?_
   ·simp (maxSteps:=2000000) (disch:=first|omega|(simp only[lenS];try omega)) only[go_sem,reduceAdd,reduceEqDiff,reduceLeDiff,reduceSub]
    rfl
   ·rintro k s hk rfl
    obtain⟨h4,h5⟩:=h2 _ (List.getElem_mem hk)
    have h6:=zn3 m2 (t.out.take k)
    have h7:=z4o (p:=t.out[k]) (zn2 (l:=t.out.take k) b2 (fun p hp=>by have:=(h2 p (List.mem_of_mem_take hp)).2;omega)) (by omega)
    have h8:(t.out.take k).length=k:=by simp;omega
    simp (maxSteps:=2000000) (disch:=first|omega|(simp only[lenS];try omega)) only[go_sem,reduceAdd,reduceEqDiff,reduceLeDiff,reduceSub,at_eq]
    rw[zn4 hk];rfl
   ·rintro s rfl
    have h6:=zn3 m2 t.out
    simp (maxSteps:=2000000) (disch:=first|omega|(simp only[lenS];try omega)) only[go_sem,reduceAdd,reduceEqDiff,reduceLeDiff,reduceSub,List.take_length]
    subst e2 e1;rfl
theorem wck(a b:List Int)(hl:a.length<2^62):C w73 [ints a,ints b] []=some (.bool (decide (a=b)),[]):=by
 refine w1d ?_
 simp (maxSteps:=2000000) (disch:=first|omega|(simp only[lenS];try omega)) only[wav,go_sem,reduceAdd,reduceEqDiff,reduceLeDiff,reduceSub]
 refine⟨fun h=>?_,fun h=>?_⟩
 ·have:a≠b:=fun e=>h (by rw[e])
  simp [this]
 refine W_for a.length (fun k s=>s=⟨[ints a,ints b,.any,.any,.any,I a.length,I k,.any,.any],[]⟩∧a.take k=b.take k) ?_ ?_ ?_
 ·simp (maxSteps:=2000000) (disch:=first|omega|(simp only[lenS];try omega)) only[go_sem,reduceAdd,reduceEqDiff,reduceLeDiff,reduceSub]
  rfl
 ·rintro k s hk ⟨rfl,hall⟩
  simp (maxSteps:=2000000) (disch:=first|omega|(simp only[lenS];try omega)) only[go_sem,reduceAdd,reduceEqDiff,reduceLeDiff,reduceSub]
  refine⟨fun h=>?_,fun h=>⟨rfl,?_⟩⟩
  ·have:a≠b:=fun e=>h (by simp [e])
   simp [this]
  ·rw[z1fe hk,z1fe (show k<b.length by omega),hall,h]
 ·rintro s ⟨rfl,hall⟩
  simp (maxSteps:=2000000) (disch:=first|omega|(simp only[lenS];try omega)) only[go_sem,reduceAdd,reduceEqDiff,reduceLeDiff,reduceSub]
  rw[List.take_length,List.take_of_length_le (by omega)] at hall
  simp [hall]
abbrev encA(a:Arc3):PV:=.agg [I a.src,I a.by_,I a.dst]
def arcPV(l:List Arc3):PV:=if l=[] then .nil true 3 else .un we0 true 3 (l.map encA)
def exPV(r:Ex):PV:=if r.code=0 then .agg [.un we7 false 1 (r.sp.ms.map ints),arcPV r.sp.ar] else .agg [.nil false 1,.nil true 3]
def w5j(r:Ex):Int:=if r.code=0 then 1 else r.code
theorem w5k{n:Net}{start:List Int}{b:Int}(hm:zss n start=true)(hb:1≤b):ExOk n start b ⟨⟨[start],[]⟩,0⟩:=by
 refine⟨rfl,fun m hm2=>?_,by simp;omega,by simp,fun a ha=>by simp at ha,fun j hj hl=>?_⟩
 ·simp only[List.mem_singleton] at hm2;subst hm2;exact hm
 ·simp only[List.length_cons,List.length_nil] at hl;omega
theorem w8o(x m:List Int)(hx:x.length<2^62):C w60 [ints x,.pv (.agg [ints m]) 0] []=some (.bool (decide (x=m)),[]):=by
 refine w0c ?_
 simp (maxSteps:=2000000) (disch:=first|omega|(simp only[lenS];try omega)) only[w9s,go_sem,reduceAdd,reduceEqDiff,reduceLeDiff,reduceSub]
 simp (maxSteps:=2000000) (disch:=first|omega|(simp only[lenS];try omega)) only[go_sem,reduceAdd,reduceEqDiff,reduceLeDiff,reduceSub,wck]
 grind
theorem wco(l:List (List Int))(g:FuncId)(caps:List PV)(hc:refsL caps=[])(hcv : ∀ m h,z1gv [] m h caps=some caps)(p:List Int→Bool)(hp : ∀ x∈l,C g (ints x :: caps) []=some (.bool (p x),[]))(hl:l.length<2^62) :
  C w77 [rows l,.clo g caps] []=some (I (idxI l p),[]):=by
 refine w1h ?_
 simp (maxSteps:=2000000) (disch:=first|omega|(simp only[lenS];try omega)) only[wb0,go_sem,reduceAdd,reduceEqDiff,reduceLeDiff,reduceSub]
 refine W_for l.length (fun k s=>s=⟨[rows l,.clo g caps,.any,.any,I l.length,I k,.any,.any],[]⟩∧(l.take k).any p=false) ?_ ?_ ?_
 ·simp (maxSteps:=2000000) (disch:=first|omega|(simp only[lenS];try omega)) only[go_sem,reduceAdd,reduceEqDiff,reduceLeDiff,reduceSub,hc]
  rfl
 ·rintro k s hk ⟨rfl,hall⟩
  simp (maxSteps:=2000000) (disch:=first|omega|(simp only[lenS];try omega)) only[go_sem,reduceAdd,reduceEqDiff,reduceLeDiff,reduceSub,hc,hcv,hp _ (List.getElem_mem hk)]
  exact⟨fun h=>by rw[zl4 hk hall h],fun h=>⟨rfl,z3e hk hall h⟩⟩
 ·rintro s ⟨rfl,hall⟩
  simp (maxSteps:=2000000) (disch:=first|omega|(simp only[lenS];try omega)) only[go_sem,reduceAdd,reduceEqDiff,reduceLeDiff,reduceSub]
  rw[List.take_length] at hall
  rw[zl3 hall]
theorem w8p(ms:List (List Int))(A:List PV)(m:List Int)(hl:ms.length<2^62)(hx : ∀ x∈ms,x.length<2^62):C w5z [.agg [rows ms,.sl true 3 A],ints m] []=some (I (findM ms m),[]):=by
 have h:=wco ms w60 [.pv (.agg [ints m]) 0] rfl (fun _ _=>rfl) (fun x=>decide (x=m)) (fun x h=>w8o x m (hx x h)) hl
 refine w0b ?_
 simp (maxSteps:=2000000) (disch:=first|omega|(simp only[lenS];try omega)) only[w9r,go_sem,reduceAdd,reduceEqDiff,reduceLeDiff,reduceSub]
 simp (maxSteps:=2000000) (disch:=first|omega|(simp only[lenS];try omega)) only[go_sem,reduceAdd,reduceEqDiff,reduceLeDiff,reduceSub,h]
 rfl
theorem w92(n:Net)(start:List Int)(b:Int)(hm:zss n start=true)(hb:1≤b∧b≤400):C w6d [encN n,ints start,I b] []=some (.tup [exPV (exAll n start b),I (w5j (exAll n start b))],[]):=by
  obtain⟨hg,hmk⟩:=zst hm
  have hn:=zjy hg
  have hs:=zjq hmk
  refine w0p ?_
  simp (maxSteps:=2000000) (disch:=first|omega|(simp only[lenS];try omega)) only[wa5,go_sem,reduceAdd,reduceEqDiff,reduceLeDiff,reduceSub]
  simp (maxSteps:=2000000) (disch:=first|omega|(simp only[lenS];try omega)) only[go_sem,reduceAdd,reduceEqDiff,reduceLeDiff,reduceSub,wcf]
  generalize hR:exAll n start b=R
  refine z1a (fun d s=>∃ (k:Nat) (c:Ex),d+k=b.toNat+1∧ExOk n start b c∧c.code=0∧k≤c.sp.ms.length∧c.sp.ar.length≤24*k∧exRun n b (d+1) k c=R∧((s=⟨[.any,.any,I b,.ptr 0 0,.ptr 1 0,.any,.ptr 2 0,I k,.any,.any,.any,.any,.any,.any,.any,.any,.any,.any,.any],[.box we2 [I n.pl,trs n.tr],.box we3 [.nil false 1,.nil true 3],.box we3 [.ref 3 1 0 c.sp.ms.length,.nil true 3],.row we7 false 1 (c.sp.ms.map ints)]⟩∧c.sp.ar=[])∨(s=⟨[.any,.any,I b,.ptr 0 0,.ptr 1 0,.any,.ptr 2 0,I k,.any,.any,.any,.any,.any,.any,.any,.any,.any,.any,.any],[.box we2 [I n.pl,trs n.tr],.box we3 [.nil false 1,.nil true 3],.box we3 [.ref 3 1 0 c.sp.ms.length,.ref 4 3 0 c.sp.ar.length],.row we7 false 1 (c.sp.ms.map ints),.row we0 true 3 (c.sp.ar.map encA)]⟩∧c.sp.ar≠[]))) (b.toNat+1) ?_ ?_
  · refine⟨0,⟨⟨[start],[]⟩,0⟩,by omega,w5k hm hb.1,rfl,by omega,by simp,hR,.inl ⟨?_,rfl⟩⟩
    simp (maxSteps:=2000000) (disch:=first|omega|(simp only[lenS];try omega)) only[go_sem,reduceAdd,reduceEqDiff,reduceLeDiff,reduceSub]
    rfl
  · rintro d s ⟨k,c,hd,hok,hc0,hk,hal,hrun,hcs⟩
    have hlb:=hok.lenb
    by_cases hkl:k<c.sp.ms.length
    · have hmem:=zj8 hkl
      have hmg:=zst (hok.good _ hmem)
      have hml:=zjq hmg.2
      have en:=w90 n (c.sp.ms.getD k []) hg hml.2.2.1
      have hLl:(enabL n (c.sp.ms.getD k [])).length≤n.tr.length:=zdj ..
      have er:exRun n b (d+1) k c=exRun n b d (k+1) (exL n b k c (enabL n (c.sp.ms.getD k []))):=by
        show(if c.code≠0 then c else if k<c.sp.ms.length then _ else c)=_
        rw[if_neg (by omega),if_pos hkl]
      rw[er] at hrun
      have hen : ∀ t∈enabL n (c.sp.ms.getD k []),t∈enabL n (c.sp.ms.getD k []):=fun t h=>h
      generalize hL:enabL n (c.sp.ms.getD k [])=L at *
      rcases hcs with⟨rfl,har⟩ | ⟨rfl,har⟩
      all_goals
        simp (maxSteps:=2000000) (disch:=first|omega|(simp only[lenS];try omega)) only[go_sem,reduceAdd,reduceEqDiff,reduceLeDiff,reduceSub,zj9,en]
        refine W_for L.length (fun j s=>∃ c':Ex,ExOk n start b c'∧c'.code=0∧k<c'.sp.ms.length∧enabL n (c'.sp.ms.getD k [])=L∧c'.sp.ar.length≤24*k+j∧exRun n b d (k+1) (exL n b k c' (L.drop j))=R∧((s=⟨[.any,.any,I b,.ptr 0 0,.ptr 1 0,.any,.ptr 2 0,I k,.any,.any,.any,.any,.ref 3 1 0 L.length,I L.length,I j,.any,.any,.any,.any],[.box we2 [I n.pl,trs n.tr],.box we3 [.nil false 1,.nil true 3],.box we3 [.ref 4 1 0 c'.sp.ms.length,.nil true 3],.row t_int true 1 (L.map I),.row we7 false 1 (c'.sp.ms.map ints)]⟩∧c'.sp.ar=[])∨(s=⟨[.any,.any,I b,.ptr 0 0,.ptr 1 0,.any,.ptr 2 0,I k,.any,.any,.any,.any,.ref 3 1 0 L.length,I L.length,I j,.any,.any,.any,.any],[.box we2 [I n.pl,trs n.tr],.box we3 [.nil false 1,.nil true 3],.box we3 [.ref 4 1 0 c'.sp.ms.length,.ref 5 3 0 c'.sp.ar.length],.row t_int true 1 (L.map I),.row we7 false 1 (c'.sp.ms.map ints),.row we0 true 3 (c'.sp.ar.map encA)]⟩∧c'.sp.ar≠[]))) ?_ ?_ ?_
        · refine⟨c,hok,hc0,hkl,hL,by omega,hrun,?_⟩
          first
          | refine .inl ⟨?_, har⟩
            simp (maxSteps:=2000000) (disch:=first|omega|(simp only[lenS];try omega)) only[go_sem,reduceAdd,reduceEqDiff,reduceLeDiff,reduceSub]
            done
          | refine .inl ⟨?_, har⟩
            simp (maxSteps:=2000000) (disch:=first|omega|(simp only[lenS];try omega)) only[go_sem,reduceAdd,reduceEqDiff,reduceLeDiff,reduceSub]
            rfl
          | refine .inr ⟨?_, har⟩
            simp (maxSteps:=2000000) (disch:=first|omega|(simp only[lenS];try omega)) only[go_sem,reduceAdd,reduceEqDiff,reduceLeDiff,reduceSub]
            done
          | refine .inr ⟨?_, har⟩
            simp (maxSteps:=2000000) (disch:=first|omega|(simp only[lenS];try omega)) only[go_sem,reduceAdd,reduceEqDiff,reduceLeDiff,reduceSub]
            rfl
        · rintro j s hj ⟨c',hok',hc0',hkl',hL',hal',hrun',hcs'⟩
          have hlb':=hok'.lenb
          have ht:L[j]∈enabL n (c'.sp.ms.getD k []):=by rw[hL'];exact List.getElem_mem hj
          obtain⟨t1,t2,t3⟩:=zdl.1 ht
          have hT:=hn.2.2.2 (trAt n L[j]) (by rw[←z1fr t2];exact List.getElem_mem _)
          have hm2:=zjq (zst (hok'.good _ (zj8 hkl'))).2
          have hx:=zk5 hT hm2.2.2.1
          have hy:=zk4 hT (by omega)
          have hfire:=w93 (trAt n L[j]) (c'.sp.ms.getD k []) hx.1 hx.2.1 hx.2.2 ⟨by omega,by omega,by omega⟩ (by omega) hm2.2.2.2.2
          have hMl:=zgy (trAt n L[j]) (c'.sp.ms.getD k [])
          have hok2:=zew hok' hkl' ht
          have hxs : ∀ x∈c'.sp.ms,x.length<2^62:=fun x hx=>by have:=zjq (zst (hok'.good x hx)).2;omega
          rw[zed hj] at hrun'
          have f1:=zf1 (n:=n) (b:=b) (k:=k) (s:=c') (t:=L[j]) hc0'
          have f2:=zex (n:=n) (b:=b) (k:=k) (s:=c') (t:=L[j]) hc0'
          have f3:=zet (n:=n) (b:=b) (k:=k) (s:=c') (t:=L[j]) hc0'
          have f4:=zev (n:=n) (b:=b) (k:=k) (s:=c') (t:=L[j]) hc0'
          generalize hM:zgw (trAt n L[j]) (c'.sp.ms.getD k [])=M at *
          have ck:C w64 [ints M,I 0,I 50] []=some (.bool (M.all (inB 0 50)),[]):=w8t M 0 50 (by omega)
          have fd:=fun A=>w8p c'.sp.ms A M (by omega) hxs
          have hsl : ∀ c2:Ex,c2.code≠0→exRun n b d (k+1) (exL n b k c2 (L.drop (j+1)))=c2:=fun c2 h=>by rw[zef h,zem h]
          cases ha:M.all (inB 0 50) with
          | false =>
            rw[f1 ha,hsl _ (by simp)] at hrun'
            subst hrun'
            rw[ha] at ck
            rcases hcs' with⟨rfl,har'⟩ | ⟨rfl,har'⟩<;>simp (maxSteps:=2000000) (disch:=first|omega|(simp only[lenS];try omega)) only[go_sem,reduceAdd,reduceEqDiff,reduceLeDiff,reduceSub,zj9,z1fr,hfire,ck,exPV,w5j]
          | true =>
            rw[ha] at ck
            by_cases h2:0≤findM c'.sp.ms M
            · rw[f2 ha h2] at hrun' hok2
              rcases hcs' with⟨rfl,har'⟩ | ⟨rfl,har'⟩
              · simp (maxSteps:=2000000) (disch:=first|omega|(simp only[lenS];try omega)) only[go_sem,reduceAdd,reduceEqDiff,reduceLeDiff,reduceSub,zj9,z1fr,hfire,ck,fd]
                refine⟨_,hok2,rfl,hkl',hL',by simp only[List.length_append,List.length_cons,List.length_nil];omega,hrun',.inr ⟨?_,by simp⟩⟩
                simp [har']
              · simp (maxSteps:=2000000) (disch:=first|omega|(simp only[lenS];try omega)) only[go_sem,reduceAdd,reduceEqDiff,reduceLeDiff,reduceSub,zj9,z1fr,hfire,ck,fd]
                refine⟨_,hok2,rfl,hkl',hL',by simp only[List.length_append,List.length_cons,List.length_nil];omega,hrun',.inr ⟨?_,by simp⟩⟩
                simp
            · by_cases h3:b≤c'.sp.ms.length
              · rw[f3 ha h2 h3,hsl _ (by simp)] at hrun'
                subst hrun'
                rcases hcs' with⟨rfl,har'⟩ | ⟨rfl,har'⟩<;>simp (maxSteps:=2000000) (disch:=first|omega|(simp only[lenS];try omega)) only[go_sem,reduceAdd,reduceEqDiff,reduceLeDiff,reduceSub,zj9,z1fr,hfire,ck,fd,exPV,w5j]
              · rw[f4 ha h2 h3] at hrun' hok2
                rcases hcs' with⟨rfl,har'⟩ | ⟨rfl,har'⟩
                · simp (maxSteps:=2000000) (disch:=first|omega|(simp only[lenS];try omega)) only[go_sem,reduceAdd,reduceEqDiff,reduceLeDiff,reduceSub,zj9,z1fr,hfire,ck,fd]
                  refine⟨_,hok2,rfl,by simp only[List.length_append];omega,by simp only;rw[zj4 hkl'];exact hL',by simp only[List.length_append,List.length_cons,List.length_nil];omega,hrun',.inr ⟨?_,by simp⟩⟩
                  simp [har']
                · simp (maxSteps:=2000000) (disch:=first|omega|(simp only[lenS];try omega)) only[go_sem,reduceAdd,reduceEqDiff,reduceLeDiff,reduceSub,zj9,z1fr,hfire,ck,fd]
                  refine⟨_,hok2,rfl,by simp only[List.length_append];omega,by simp only;rw[zj4 hkl'];exact hL',by simp only[List.length_append,List.length_cons,List.length_nil];omega,hrun',.inr ⟨?_,by simp⟩⟩
                  simp
        · rintro s ⟨c',hok',hc0',hkl',hL',hal',hrun',hcs'⟩
          rw[List.drop_length] at hrun'
          have hlb':=hok'.lenb
          rcases hcs' with⟨rfl,har'⟩ | ⟨rfl,har'⟩
          · simp (maxSteps:=2000000) (disch:=first|omega|(simp only[lenS];try omega)) only[go_sem,reduceAdd,reduceEqDiff,reduceLeDiff,reduceSub]
            refine⟨d-1,by omega,k+1,c',by omega,hok',hc0',by omega,by omega,by rw[show d-1+1=d by omega];exact hrun',.inl ⟨rfl,har'⟩⟩
          · simp (maxSteps:=2000000) (disch:=first|omega|(simp only[lenS];try omega)) only[go_sem,reduceAdd,reduceEqDiff,reduceLeDiff,reduceSub]
            refine⟨d-1,by omega,k+1,c',by omega,hok',hc0',by omega,by omega,by rw[show d-1+1=d by omega];exact hrun',.inr ⟨rfl,har'⟩⟩
    · have er:exRun n b (d+1) k c=c:=by
        show(if c.code≠0 then c else if k<c.sp.ms.length then _ else c)=_
        rw[if_neg (by omega),if_neg hkl]
      rw[er] at hrun
      subst hrun
      rcases hcs with⟨rfl,har⟩ | ⟨rfl,har⟩
      · simp (maxSteps:=2000000) (disch:=first|omega|(simp only[lenS];try omega)) only[go_sem,reduceAdd,reduceEqDiff,reduceLeDiff,reduceSub]
        simp [exPV,w5j,hc0,arcPV,har]
      · simp (maxSteps:=2000000) (disch:=first|omega|(simp only[lenS];try omega)) only[go_sem,reduceAdd,reduceEqDiff,reduceLeDiff,reduceSub]
        simp [exPV,w5j,hc0,arcPV,har]
theorem w91(f:Fl)(hg:zji f=true):C w6c [encF f] []=some (.un t_int true 1 ((oneM f.net.pl.toNat f.dst).map I),[]):=by
 obtain⟨g1,g2,g3,_⟩:=zjm hg
 have hn:=zjy g1
 refine w0o ?_
 simp (maxSteps:=2000000) (disch:=first|omega|(simp only[lenS];try omega)) only[wa4,go_sem,reduceAdd,reduceEqDiff,reduceLeDiff,reduceSub]
 simp (maxSteps:=2000000) (disch:=first|omega|(simp only[lenS];try omega)) only[go_sem,reduceAdd,reduceEqDiff,reduceLeDiff,reduceSub,w9d f.net.pl f.dst (by omega) g3]
theorem w8q(ms:List (List Int))(ar:List Arc3)(p:Int)(hm:ms.length<2^36)(hr:ar.length<2^35)(ha:z44 ar ms.length)(hk:0≤p∧p<ms.length) :
  C w61 [.agg [rows ms,.sl true 3 (ar.map encA)],ints [p]] []=some (.un wdz true 1 ((toL ar ms.length [p]).map PV.bool),[]):=by
 refine w0d ?_
 simp (maxSteps:=2000000) (disch:=first|omega|(simp only[lenS];try omega)) only[w9t,go_sem,reduceAdd,reduceEqDiff,reduceLeDiff,reduceSub]
 generalize hn:ms.length=n at *
 refine W_for ar.length (fun k s=>s=⟨[.any,ints [p],.any,.any,.ref 0 1 0 n,.ref 1 1 0 n,.any,.any,.any,.any,.any,.sl true 3 (ar.map encA),I ar.length,I k,.any,.any,.any,.any,.any,.any,.any,.any,.any,.any,.any],[.row wdz true 1 (List.replicate n (.bool false)),.lin we7 1 (befP (ar.take k) n)]⟩) ?_ ?_ ?_
 ·simp (maxSteps:=2000000) (disch:=first|omega|(simp only[lenS];try omega)) only[go_sem,reduceAdd,reduceEqDiff,reduceLeDiff,reduceSub]
  rw[z5f];rfl
 ·rintro k s hk2 rfl
  obtain⟨a1,a2,a3,a4⟩:=ha _ (List.getElem_mem hk2)
  have h1:=z5d (ar.take k) n
  have h2:=z5c (ar:=ar.take k) (n:=n) a3 a4
  have h3:=z5e (n:=n) hk2 a3
  have h4:=z5g (ar.take k) ar[k].dst
  rw[List.length_take] at h4
  rw[h3]
  generalize befP (ar.take k) n=B at *
  generalize befs (ar.take k) ar[k].dst=L at *
  generalize hA:ar[k]=a at *
  by_cases hL:L=[]
  ·subst hL
   rw[show pvB []=PV.nil true 1 from rfl] at h2
   simp (maxSteps:=2000000) (disch:=first|omega|(simp only[lenS];try omega)) only[go_sem,reduceAdd,reduceEqDiff,reduceLeDiff,reduceSub,hA,h1,h2]
   exact⟨by decide,rfl⟩
  ·have hpos:=List.length_pos_iff.2 hL
   rw[show pvB L=ints L by simp [pvB,hL]] at h2
   simp (maxSteps:=2000000) (disch:=first|omega|(simp only[lenS];try omega)) only[go_sem,reduceAdd,reduceEqDiff,reduceLeDiff,reduceSub,hA,h1,h2,List.getElem_set_self,List.set_set]
   refine⟨by decide,?_⟩
   rw[show ints (L++[a.src])=.sl true 1 (L.map I++[I a.src]) by show PV.sl true 1 ((L++[a.src]).map I)=_;rw[List.map_append];rfl];rfl
 ·rintro s rfl
  have hcl:=wcf (es:=[I p]) (by simp)
  rw[List.take_length]
  simp (maxSteps:=2000000) (disch:=first|omega|(simp only[lenS];try omega)) only[go_sem,reduceAdd,reduceEqDiff,reduceLeDiff,reduceSub,hcl]
  refine W_for 1 (fun k s=>s=⟨[.any,.any,.any,.any,.ref 0 1 0 n,.ref 1 1 0 n,.any,.ref 2 1 0 1,.any,.any,.any,.any,.any,.any,.any,ints [p],I 1,I k,.any,.any,.any,.any,.any,.any,.any],[.row wdz true 1 ((putS (List.replicate n false) ([p].take k)).map PV.bool),.lin we7 1 (befP ar n),.row t_int true 1 [I p]]⟩) ?_ ?_ ?_
  ·simp (maxSteps:=2000000) (disch:=first|omega|(simp only[lenS];try omega)) only[go_sem,reduceAdd,reduceEqDiff,reduceLeDiff,reduceSub]
   simp [putS]
  ·rintro k s hk2 rfl
   obtain rfl:k=0:=by omega
   have h5:(List.replicate n false)[p.toNat]? = some false:=by rw[List.getElem?_replicate,if_pos (by omega)]
   have h6:(List.replicate n false).length=n:=List.length_replicate
   show W _ _ _ ⟨_,[.row wdz true 1 ((List.replicate n false).map PV.bool),_,_]⟩ _
   rw[show putS (List.replicate n false) ([p].take (0+1))=(List.replicate n false).set p.toNat true from rfl]
   generalize List.replicate n false=c at *
   simp (maxSteps:=2000000) (disch:=first|omega|(simp only[lenS];try omega)) only[go_sem,reduceAdd,reduceEqDiff,reduceLeDiff,reduceSub,h5,h6]
   rw[List.map_set];rfl
  ·rintro s rfl
   have e0:putS (List.replicate n false) ([p].take 1)=(List.replicate n false).set p.toNat true:=rfl
   rw[e0]
   have hst:=BF.start (ar:=ar) hk.1 hk.2
   generalize (List.replicate n false).set p.toNat true=c0 at *
   simp (maxSteps:=2000000) (disch:=first|omega|(simp only[lenS];try omega)) only[go_sem,reduceAdd,reduceEqDiff,reduceLeDiff,reduceSub]
   refine z1a (fun j s=>∃ (c:List Bool) (q:List Int) (i:Nat) (K:Blk),(K=.lin we7 1 (befP ar n)∨K=.fro false 1 (befP ar n))∧BF ar n [p] c q i∧j=cntF c+(q.length-i)∧s=⟨[.any,.any,.any,.any,.ref 0 1 0 n,.ref 1 1 0 n,.any,.ref 2 1 0 q.length,.any,I i,.any,.any,.any,.any,.any,.any,.any,.any,.any,.any,.any,.any,.any,.any,.any],[.row wdz true 1 (c.map PV.bool),K,.row t_int true 1 (q.map I)]⟩) (cntF c0+1) ?_ ?_
   ·refine⟨c0,[p],0,_,.inl rfl,hst,rfl,?_⟩
    simp (maxSteps:=2000000) (disch:=first|omega|(simp only[lenS];try omega)) only[go_sem,reduceAdd,reduceEqDiff,reduceLeDiff,reduceSub]
    rfl
   ·rintro j s ⟨c,q,i,K,hK,hB,rfl,rfl⟩
    have hqn:q.length≤n:=by have:=hB.cnt;omega
    by_cases hi:i<q.length
    case neg =>
     have hiq:i=q.length:=by have:=hB.le;omega
     subst hiq
     have hend:=hB.end_ ha (fun k hk'=>by simp at hk';subst hk';exact hk)
     have hcl:=hB.len
     rcases hK with rfl | rfl
     all_goals
      simp (maxSteps:=2000000) (disch:=first|omega|(simp only[lenS];try omega)) only[go_sem,reduceAdd,reduceEqDiff,reduceLeDiff,reduceSub,hcl]
      rw[hend]
    case pos =>
     have hq:=hB.inn _ (List.getElem_mem hi)
     have hlk:=hB.look hi
     have hget:=z5c (ar:=ar) (n:=n) hq.1 hq.2
     have hln:=z5d ar n
     have hbl:=z5g ar q[i]
     have hsrc : ∀ x∈befs ar q[i],0≤x∧x<n:=fun x hx=>by
      obtain⟨a,h1,_,rfl⟩:=z5h.1 hx
      exact⟨(ha a h1).1,(ha a h1).2.1⟩
     have hnext:=fun c' q'=>BG.next (ar:=ar) (n:=n) (S:=[p]) (i:=i) (x:=q[i]) (c:=c') (q:=q')
     have hold:=fun m c' q'=>BG.old (ar:=ar) (n:=n) (S:=[p]) (i:=i) (L:=befs ar q[i]) (m:=m) (x:=q[i]) (c:=c') (q:=q')
     have hnew:=fun m c' q' (h:BG ar n [p] i (befs ar q[i]) m q[i] c' q')=>h.new ha
     generalize befs ar q[i]=L at *
     generalize hqi:q[i]=x at *
     generalize befP ar n=B at *
     have hmeas:=hB.cnt
     by_cases hL:L=[]
     ·subst hL
      rw[show pvB []=PV.nil true 1 from rfl] at hget
      rcases hK with rfl | rfl
      all_goals
       simp (maxSteps:=2000000) (disch:=first|omega|(simp only[lenS];try omega)) only[go_sem,reduceAdd,reduceEqDiff,reduceLeDiff,reduceSub,hqi,hln,hget]
       refine W_for 0 (fun m s=>m=0∧s=⟨[.any,.any,.any,.any,.ref 0 1 0 n,.ref 1 1 0 n,.any,.ref 2 1 0 q.length,.any,I i,.any,.any,.any,.any,.any,.any,.any,.any,.any,.any,.nil true 1,I 0,I 0,.any,.any],[.row wdz true 1 (c.map PV.bool),.fro false 1 B,.row t_int true 1 (q.map I)]⟩) ?_ ?_ ?_
       ·simp (maxSteps:=2000000) (disch:=first|omega|(simp only[lenS];try omega)) only[go_sem,reduceAdd,reduceEqDiff,reduceLeDiff,reduceSub]
        first | done | rfl | exact⟨rfl,rfl⟩
       ·intro m s hm2;omega
       ·rintro s ⟨_,rfl⟩
        simp (maxSteps:=2000000) (disch:=first|omega|(simp only[lenS];try omega)) only[go_sem,reduceAdd,reduceEqDiff,reduceLeDiff,reduceSub]
        exact⟨cntF c+(q.length-(i+1)),by omega,c,q,i+1,_,.inr rfl,hnext c q hlk,rfl,rfl⟩
     ·have hpos:=List.length_pos_iff.2 hL
      rw[show pvB L=ints L by simp [pvB,hL]] at hget
      rcases hK with rfl | rfl
      all_goals
       simp (maxSteps:=2000000) (disch:=first|omega|(simp only[lenS];try omega)) only[go_sem,reduceAdd,reduceEqDiff,reduceLeDiff,reduceSub,hqi,hln,hget]
       refine W_for L.length (fun m s=>∃ (c':List Bool) (q':List Int),BG ar n [p] i L m x c' q'∧cntF c'+q'.length≤cntF c+q.length∧s=⟨[.any,.any,.any,.any,.ref 0 1 0 n,.ref 1 1 0 n,.any,.ref 2 1 0 q'.length,.any,I i,.any,.any,.any,.any,.any,.any,.any,.any,.any,.any,ints L,I L.length,I m,.any,.any],[.row wdz true 1 (c'.map PV.bool),.fro false 1 B,.row t_int true 1 (q'.map I)]⟩) ?_ ?_ ?_
       ·refine⟨c,q,hlk,Nat.le_refl _,?_⟩
        simp (maxSteps:=2000000) (disch:=first|omega|(simp only[lenS];try omega)) only[go_sem,reduceAdd,reduceEqDiff,reduceLeDiff,reduceSub]
        first | done | rfl
       ·rintro m s hm2 ⟨c',q',h1,h2,rfl⟩
        have hy:=hsrc _ (List.getElem_mem hm2)
        have hcl:=h1.len
        have hcn:=h1.cnt
        have g1:c'[L[m].toNat]? = some (c'[L[m].toNat]'(by omega)):=List.getElem?_eq_getElem (by omega)
        have o1:=hold m c' q' h1 hm2
        have o2:=hnew m c' q' h1 hm2
        have hcs:=zb4 (l:=c') (k:=L[m].toNat) (by omega)
        rw[List.getD_eq_getElem?_getD] at hcs
        rw[g1] at o1 o2 hcs
        generalize c'[L[m].toNat]'(by omega)=b at *
        generalize hy2:L[m]=y at *
        simp (maxSteps:=2000000) (disch:=first|omega|(simp only[lenS];try omega)) only[go_sem,reduceAdd,reduceEqDiff,reduceLeDiff,reduceSub,hy2,hcl,g1]
        refine⟨fun e=>?_,fun e=>?_⟩
        ·subst e
         exact⟨c',q',o1 rfl,h2,rfl⟩
        ·subst e
         have:=hcs rfl
         refine⟨_,_,o2 rfl,by rw[List.length_append];simp only[List.length_cons,List.length_nil];omega,?_⟩
         rw[List.map_append,List.map_set,List.length_append];rfl
       ·rintro s ⟨c',q',h1,h2,rfl⟩
        simp (maxSteps:=2000000) (disch:=first|omega|(simp only[lenS];try omega)) only[go_sem,reduceAdd,reduceEqDiff,reduceLeDiff,reduceSub]
        exact⟨cntF c'+(q'.length-(i+1)),by have:=h1.lt;omega,c',q',i+1,_,.inr rfl,hnext c' q' h1,rfl,rfl⟩
theorem wcp(c:List Bool)(b:Bool)(hl:c.length<2^62):C w78 [.sl true 1 (c.map PV.bool),.bool b] []=some (I (idxI c (fun x=>x == b)),[]):=by
 refine w1i ?_
 simp (maxSteps:=2000000) (disch:=first|omega|(simp only[lenS];try omega)) only[wb1,go_sem,reduceAdd,reduceEqDiff,reduceLeDiff,reduceSub]
 refine W_for c.length (fun k s=>s=⟨[.sl true 1 (c.map PV.bool),.bool b,.any,.any,I c.length,I k,.any,.any],[]⟩∧(c.take k).any (fun x=>x == b)=false) ?_ ?_ ?_
 ·simp (maxSteps:=2000000) (disch:=first|omega|(simp only[lenS];try omega)) only[go_sem,reduceAdd,reduceEqDiff,reduceLeDiff,reduceSub]
  simp
 ·rintro k s hk ⟨rfl,h⟩
  have h1:=fun e=>zl4 (p:=fun x=>x == b) hk h e
  have h2:=fun e=>z3e (p:=fun x=>x == b) hk h e
  cases b
  all_goals
   simp (maxSteps:=2000000) (disch:=first|omega|(simp only[lenS];try omega)) only[go_sem,reduceAdd,reduceEqDiff,reduceLeDiff,reduceSub]
   refine⟨fun e=>?_,fun e=>?_⟩
   all_goals first
    | (rw[h1 (by simp [e])])
    | exact⟨rfl,h2 (by simp [e])⟩
 ·rintro s ⟨rfl,h⟩
  rw[List.take_length] at h
  simp (maxSteps:=2000000) (disch:=first|omega|(simp only[lenS];try omega)) only[go_sem,reduceAdd,reduceEqDiff,reduceLeDiff,reduceSub]
  rw[zl3 h]
theorem w8z(a b:List Int)(hl:a.length=b.length)(hb:b.length<2^62):C w6a [ints a,ints b] []=some (.bool (zby a b),[]):=by
 refine w0m ?_
 simp (maxSteps:=2000000) (disch:=first|omega|(simp only[lenS];try omega)) only[wa2,go_sem,reduceAdd,reduceEqDiff,reduceLeDiff,reduceSub]
 refine W_for a.length (fun k s=>s=⟨[.any,ints b,.any,.any,.any,ints a,I a.length,I k,.any,.any],[]⟩∧((a.zip b).take k).all (fun p=>decide (p.2≤p.1))=true) ?_ ?_ ?_
 ·simp (maxSteps:=2000000) (disch:=first|omega|(simp only[lenS];try omega)) only[go_sem,reduceAdd,reduceEqDiff,reduceLeDiff,reduceSub]
  rfl
 ·rintro k s hk ⟨rfl,hall⟩
  simp (maxSteps:=2000000) (disch:=first|omega|(simp only[lenS];try omega)) only[go_sem,reduceAdd,reduceEqDiff,reduceLeDiff,reduceSub]
  have hz:k<(a.zip b).length:=by simp;omega
  refine⟨fun h=>?_,fun h=>⟨rfl,z2z hz hall (by simp;omega)⟩⟩
  have:zby a b=false:=z2y hz (by simp;omega)
  rw[this]
 ·rintro s ⟨rfl,hall⟩
  simp (maxSteps:=2000000) (disch:=first|omega|(simp only[lenS];try omega)) only[go_sem,reduceAdd,reduceEqDiff,reduceLeDiff,reduceSub]
  rw[List.take_of_length_le (by simp;omega)] at hall
  unfold zby
  rw[hall]
theorem w98(a b:List Int)(hl:a.length=b.length)(hb:b.length<2^62):C w6j [ints a,ints b] []=some (.bool (overB a b),[]):=by
 have h1:=w8z a b hl hb
 have h2:=wck a b (by omega)
 unfold overB
 generalize zby a b=c at *
 refine w0v ?_
 simp (maxSteps:=2000000) (disch:=first|omega|(simp only[lenS];try omega)) only[wab,go_sem,reduceAdd,reduceEqDiff,reduceLeDiff,reduceSub]
 simp (maxSteps:=2000000) (disch:=first|omega|(simp only[lenS];try omega)) only[go_sem,reduceAdd,reduceEqDiff,reduceLeDiff,reduceSub,h1,h2]
 grind
theorem w8w(a b:List Int)(hl:a.length=b.length)(hb:b.length<2^62):C w68 [ints a,.pv (.agg [ints b]) 0] []=some (.bool (overB a b),[]):=by
 have h1:=w98 a b hl hb
 generalize overB a b=c at *
 refine w0k ?_
 simp (maxSteps:=2000000) (disch:=first|omega|(simp only[lenS];try omega)) only[wa0,go_sem,reduceAdd,reduceEqDiff,reduceLeDiff,reduceSub]
 simp (maxSteps:=2000000) (disch:=first|omega|(simp only[lenS];try omega)) only[go_sem,reduceAdd,reduceEqDiff,reduceLeDiff,reduceSub,h1]
 cases c<;>simp
theorem w8r(a:Arc3)(p:Int):C w63 [encA a,.pv (.agg [I p]) 0] []=some (.bool (decide (a.dst=p)),[]):=by
 refine w0f ?_
 simp (maxSteps:=2000000) (disch:=first|omega|(simp only[lenS];try omega)) only[w9v,go_sem,reduceAdd,reduceEqDiff,reduceLeDiff,reduceSub]
 grind
theorem wcl(l:List Arc3)(g:FuncId)(caps:List PV)(hc:refsL caps=[])(hcv : ∀ m h,z1gv [] m h caps=some caps)(p:Arc3→Bool)(hp : ∀ x∈l,C g (encA x :: caps) []=some (.bool (p x),[]))(hl:l.length<2^62) :
  C w74 [.sl true 3 (l.map encA),.clo g caps] []=some (I (idxI l p),[]):=by
 refine w1e ?_
 simp (maxSteps:=2000000) (disch:=first|omega|(simp only[lenS];try omega)) only[waw,go_sem,reduceAdd,reduceEqDiff,reduceLeDiff,reduceSub]
 refine W_for l.length (fun k s=>s=⟨[.sl true 3 (l.map encA),.clo g caps,.any,.any,I l.length,I k,.any,.any],[]⟩∧(l.take k).any p=false) ?_ ?_ ?_
 ·simp (maxSteps:=2000000) (disch:=first|omega|(simp only[lenS];try omega)) only[go_sem,reduceAdd,reduceEqDiff,reduceLeDiff,reduceSub,hc]
  rfl
 ·rintro k s hk ⟨rfl,hall⟩
  simp (maxSteps:=2000000) (disch:=first|omega|(simp only[lenS];try omega)) only[go_sem,reduceAdd,reduceEqDiff,reduceLeDiff,reduceSub,hc,hcv,hp _ (List.getElem_mem hk)]
  exact⟨fun h=>by rw[zl4 hk hall h],fun h=>⟨rfl,z3e hk hall h⟩⟩
 ·rintro s ⟨rfl,hall⟩
  simp (maxSteps:=2000000) (disch:=first|omega|(simp only[lenS];try omega)) only[go_sem,reduceAdd,reduceEqDiff,reduceLeDiff,reduceSub]
  rw[List.take_length] at hall
  rw[zl3 hall]
theorem wcr(l:List Int)(hl:l.length<2^60):C w7a [.ref 0 1 0 l.length] [.row t_int true 1 (l.map I)]=some (.tup [],[.row t_int true 1 (l.reverse.map I)]):=by
 refine w1k ?_
 simp (maxSteps:=2000000) (disch:=first|omega|(simp only[lenS];try omega)) only[wb3,go_sem,reduceAdd,reduceEqDiff,reduceLeDiff,reduceSub]
 refine z1a (fun k s=>∃ (i:Nat) (c:List Int),k+2*i=l.length+1∧revI l c i∧s=⟨[.ref 0 1 0 l.length,I i,I (l.length-1-i:Int),.any],[.row t_int true 1 (c.map I)]⟩) (l.length+1) ?_ ?_
 ·refine⟨0,l,by omega,z16p l,?_⟩
  simp (maxSteps:=2000000) (disch:=first|omega|(simp only[lenS];try omega)) only[go_sem,reduceAdd,reduceEqDiff,reduceLeDiff,reduceSub]
  simp
 ·rintro k s ⟨i,c,hk,hr,rfl⟩
  have hcl:=hr.1
  by_cases hi:2*i+1<l.length
  ·have e1:((l.length:Int)-1-i).toNat=l.length-1-i:=by omega
   have hst:=z16o hr hi
   simp (maxSteps:=2000000) (disch:=first|omega|(simp only[lenS];try omega)) only[go_sem,reduceAdd,reduceEqDiff,reduceLeDiff,reduceSub,e1]
   refine⟨k-2,by omega,i+1,_,by omega,hst,?_⟩
   rw[show(l.length:Int)-1-((i+1:Nat):Int)=l.length-1-i-1 by omega]
   rfl
  ·have:=z16n hr (by omega)
   subst this
   simp (maxSteps:=2000000) (disch:=first|omega|(simp only[lenS];try omega)) only[go_sem,reduceAdd,reduceEqDiff,reduceLeDiff,reduceSub]
theorem w8m(a:Arc3)(t:Int):C w5y [encA a,.pv (.agg [I t]) 0] []=some (.bool (decide (a.by_=t)),[]):=by
 refine w0a ?_
 simp (maxSteps:=2000000) (disch:=first|omega|(simp only[lenS];try omega)) only[w9q,go_sem,reduceAdd,reduceEqDiff,reduceLeDiff,reduceSub]
 grind
theorem wcg(l:List Arc3)(g:FuncId)(caps:List PV)(hc:refsL caps=[])(hcv : ∀ m h,z1gv [] m h caps=some caps)(p:Arc3→Bool)(hp : ∀ x∈l,C g (encA x :: caps) []=some (.bool (p x),[]))(hl:l.length<2^62) :
  C w6z [.sl true 3 (l.map encA),.clo g caps] []=some (.bool (l.any p),[]):=by
 refine w19 ?_
 simp (maxSteps:=2000000) (disch:=first|omega|(simp only[lenS];try omega)) only[waq,go_sem,reduceAdd,reduceEqDiff,reduceLeDiff,reduceSub]
 simp (maxSteps:=2000000) (disch:=first|omega|(simp only[lenS];try omega)) only[go_sem,reduceAdd,reduceEqDiff,reduceLeDiff,reduceSub,hc,hcv,wcl l g caps hc hcv p hp hl]
 have:=zl0 l p
 grind
theorem w8n(ms:List (List Int))(ar:List Arc3)(n:Net)(hr:ar.length<2^35)(ht:n.tr.length<2^20):C w5x [.agg [rows ms,.sl true 3 (ar.map encA)],encN n] []=some (.un t_int true 1 ((deadK ar n.tr.length).map I),[]):=by
  refine w09 ?_
  simp (maxSteps:=2000000) (disch:=first|omega|(simp only[lenS];try omega)) only[w9p,go_sem,reduceAdd,reduceEqDiff,reduceLeDiff,reduceSub]
  refine W_for n.tr.length (fun k s=>s=⟨[.any,.any,.ptr 0 0,.any,.any,.ref 1 1 0 (deadK ar k).length,.any,I n.tr.length,I k,.any,.any],[.box we3 [rows ms,.sl true 3 (ar.map encA)],.row t_int true 1 ((deadK ar k).map I)]⟩) ?_ ?_ ?_
  · simp (maxSteps:=2000000) (disch:=first|omega|(simp only[lenS];try omega)) only[go_sem,reduceAdd,reduceEqDiff,reduceLeDiff,reduceSub]
    rfl
  · rintro k s hk rfl
    have ix:=wcg ar w5y [.pv (.agg [I k]) 0] rfl (fun _ _=>rfl) (fun a=>decide (a.by_=k)) (fun x _=>w8m x k) (by omega)
    have hl:=zc6 ar k
    have hst:=zc7 ar k
    rw[hst]
    generalize deadK ar k=D at *
    cases ha:ar.any fun a=>decide (a.by_=(k:Int)) with
    | true =>
      rw[ha] at ix
      simp (maxSteps:=2000000) (disch:=first|omega|(simp only[lenS];try omega)) only[go_sem,reduceAdd,reduceEqDiff,reduceLeDiff,reduceSub,ix]
      simp
    | false =>
      rw[ha] at ix
      simp (maxSteps:=2000000) (disch:=first|omega|(simp only[lenS];try omega)) only[go_sem,reduceAdd,reduceEqDiff,reduceLeDiff,reduceSub,ix]
      simp
  · rintro s rfl
    simp (maxSteps:=2000000) (disch:=first|omega|(simp only[lenS];try omega)) only[go_sem,reduceAdd,reduceEqDiff,reduceLeDiff,reduceSub]
theorem w8s(ms:List (List Int))(ar:List Arc3)(m:List Int)(hm:ms.length<2^30)(hr:ar.length<2^35)(hb:Bfs ar ms.length)(hxs : ∀ x∈ms,x.length<2^62)(K:Nat)(hK:K<ms.length)(hf:findM ms m=K) :
  C w62 [.agg [rows ms,.sl true 3 (ar.map encA)],ints m] []=some (.tup [.un t_int true 1 ((tw ar K).map I),.bool true],[]):=by
 have fd:=w8p ms (ar.map encA) m (by omega) hxs
 rw[hf] at fd
 refine w0e ?_
 simp (maxSteps:=2000000) (disch:=first|omega|(simp only[lenS];try omega)) only[w9u,go_sem,reduceAdd,reduceEqDiff,reduceLeDiff,reduceSub]
 simp (maxSteps:=2000000) (disch:=first|omega|(simp only[lenS];try omega)) only[go_sem,reduceAdd,reduceEqDiff,reduceLeDiff,reduceSub,fd]
 refine z1a (fun k s=>∃ W:List Int,k<ms.length∧tw ar K=tw ar k++W.reverse∧s=⟨[.any,.any,.ptr 0 0,.any,.any,.ptr 1 0,.ref 2 1 0 W.length,.any,.any,.any],[.box we3 [rows ms,.sl true 3 (ar.map encA)],.box t_int [I k],.row t_int true 1 (W.map I)]⟩) K ?_ ?_
 ·refine⟨[],hK,by simp,?_⟩
  simp (maxSteps:=2000000) (disch:=first|omega|(simp only[lenS];try omega)) only[go_sem,reduceAdd,reduceEqDiff,reduceLeDiff,reduceSub]
  first | done | rfl
 ·rintro k s ⟨W,hk,hW,rfl⟩
  have hlW:=congrArg List.length hW
  rw[List.length_append,List.length_reverse] at hlW
  have hlK:=z1gc hb K hK
  by_cases h0:0<k
  ·obtain⟨i,hi,a1,a2,a3,a4,a5⟩:=hb.arc h0 hk
   have ix:=wcl ar w63 [.pv (.agg [I k]) 0] rfl (fun _ _=>rfl) (fun a=>decide (a.dst=k)) (fun x _=>w8r x k) (by omega)
   rw[show idxI ar (fun a=>decide (a.dst=k))=i from a1] at ix
   have hst:=z1gf hb h0 hk hi a1
   rw[hst] at hW
   simp (maxSteps:=2000000) (disch:=first|omega|(simp only[lenS];try omega)) only[go_sem,reduceAdd,reduceEqDiff,reduceLeDiff,reduceSub,ix]
   have e2:((ar[i].src.toNat:Nat):Int)=ar[i].src:=by omega
   refine⟨ar[i].src.toNat,by omega,W++[ar[i].by_],by omega,by rw[hW,List.reverse_append];simp,?_⟩
   rw[e2,List.map_append,List.length_append];rfl
  ·have:k=0:=by omega
   subst this
   rw[z1gh,List.nil_append] at hW
   have rv:=wcr W (by omega)
   rw[←hW] at rv
   have hl2:W.length=(tw ar K).length:=by rw[hW,List.length_reverse]
   rw[hl2] at rv
   generalize tw ar K=T at *
   simp (maxSteps:=2000000) (disch:=first|omega|(simp only[lenS];try omega)) only[go_sem,reduceAdd,reduceEqDiff,reduceLeDiff,reduceSub,rv,hl2]
def vdPV(v:Vd):PV:=.agg [I v.ok,I v.kind,if v.kind=1∨v.kind=2 then .un t_int true 1 (v.way.map I) else .nil true 1,I v.dead]
theorem w5l{f:Fl}{b:Int}(hg:zji f=true)(hb:inB 1 400 b=true):ExOk f.net (oneM f.net.pl.toNat f.src) b (exAll f.net (oneM f.net.pl.toNat f.src) b)∧(exAll f.net (oneM f.net.pl.toNat f.src) b).sp.ms.length≤400∧(exAll f.net (oneM f.net.pl.toNat f.src) b).sp.ar.length≤20000∧Bfs (exAll f.net (oneM f.net.pl.toNat f.src) b).sp.ar (exAll f.net (oneM f.net.pl.toNat f.src) b).sp.ms.length∧0<(exAll f.net (oneM f.net.pl.toNat f.src) b).sp.ms.length∧∀ x∈(exAll f.net (oneM f.net.pl.toNat f.src) b).sp.ms,x.length=f.net.pl.toNat:=by
 have h1:=zxf hg
 simp only[inB,Bool.and_eq_true,decide_eq_true_eq] at hb
 have f1:=(ze7 h1 hb.1).1
 have hl:=f1.lenb
 refine⟨f1,by omega,ze4 (zjy (zst h1).1).2.2.1 hb.2,ze5 h1 hb.1,?_,fun x hx=>?_⟩
 ·have:=f1.first
  rcases Nat.eq_zero_or_pos (exAll f.net (oneM f.net.pl.toNat f.src) b).sp.ms.length with h | h
  ·rw[List.length_eq_zero_iff.1 h] at this;simp at this
  ·exact h
 ·have:=zjq (zst (f1.good x hx)).2
  omega
theorem web(ar:List Arc3)(n:Nat):toL ar n []=List.replicate n false:=by
 have hno : ∀ k,¬Rk ar [] k:=by
  intro k hk
  induction hk with
  | base h=>simp at h
  | step _ _ ih=>exact ih
 unfold toL
 rw[List.eq_replicate_iff]
 refine⟨by simp,fun b hb=>?_⟩
 obtain⟨k,_,rfl⟩:=List.mem_map.1 hb
 simp [hno k]
theorem wec(k:Int)(W:List Int)(hk:k=1∨k=2):vdPV ⟨2,k,W,0⟩=.agg [I 2,I k,.un t_int true 1 (W.map I),I 0]:=by
 unfold vdPV;rw[if_pos hk]
theorem w8x(f:Fl)(b:Int)(hg:zji f=true)(hb:inB 1 400 b=true):C w67 [encF f,I b] []=some (.tup [vdPV (sndV f b),exPV (exAll f.net (oneM f.net.pl.toNat f.src) b)],[]):=by
  have hs0:=w9e f hg
  have he0:=w91 f hg
  have hx:=w92 f.net (oneM f.net.pl.toNat f.src) b (zxf hg) (by simp only[inB,Bool.and_eq_true,decide_eq_true_eq] at hb;omega)
  obtain⟨f1,f2,f3,f4,f5,f6⟩:=w5l hg hb
  unfold sndV
  have hcd:=ze6 f.net (oneM f.net.pl.toNat f.src) b
  have hEl:(oneM f.net.pl.toNat f.dst).length=f.net.pl.toNat:=by simp [oneM]
  have hnd:=f1.nodup
  obtain⟨g1,_⟩:=zjm hg
  have hn:=zjy g1
  generalize exAll f.net (oneM f.net.pl.toNat f.src) b=R at *
  generalize oneM f.net.pl.toNat f.src=E0 at *
  generalize oneM f.net.pl.toNat f.dst=E at *
  have hdd:=w8n R.sp.ms R.sp.ar f.net (by omega) (by omega)
  have hdl:=zc6 R.sp.ar f.net.tr.length
  have fd:=w8p R.sp.ms (R.sp.ar.map encA) E (by omega) (fun x hx=>by have:=f6 x hx;omega)
  have hfg:=fun h=>(zgl (l:=R.sp.ms) (m:=E) h).1
  have hcl:=z1fo R.sp.ar R.sp.ms.length (endS R.sp.ms E)
  have hct:=wcp (toL R.sp.ar R.sp.ms.length (endS R.sp.ms E)) false (by omega)
  have hil:=zl2 (toL R.sp.ar R.sp.ms.length (endS R.sp.ms E)) (fun x=>x == false)
  rw[hcl] at hil
  have hov:=wco R.sp.ms w68 [.pv (.agg [ints E]) 0] rfl (fun _ _=>rfl) (fun m=>overB m E) (fun x hx=>w8w x E (by have:=f6 x hx;omega) (by omega)) (by omega)
  have hol:=zl2 R.sp.ms (fun m=>overB m E)
  by_cases hc:R.code=0
  · rw[if_pos hc]
    have hec:w5j R=1:=by simp only[w5j,hc,if_true]
    rw[hec] at hx
    have hls : ∀ x∈R.sp.ms,x.length<2^62:=fun x hx=>by have:=f6 x hx;omega
    have hway : ∀ A,A=R.sp.ar.map encA→∀ K:Nat,(hK:K<R.sp.ms.length)→C w62 [.agg [rows R.sp.ms,.sl true 3 A],ints R.sp.ms[K]] []=some (.tup [.un t_int true 1 ((tw R.sp.ar K).map I),.bool true],[]):=fun A hA K hK=>by subst hA;exact w8s R.sp.ms R.sp.ar R.sp.ms[K] (by omega) (by omega) f4 hls K hK (by rw[zj9 hK];exact zgk hnd hK)
    unfold chkV
    have hend:endS R.sp.ms E=if 0≤findM R.sp.ms E then [findM R.sp.ms E] else []:=rfl
    have hlt0:=fun h:0≤findM R.sp.ms E=>w8q R.sp.ms R.sp.ar (findM R.sp.ms E) (by omega) (by omega) f4.inn ⟨h,by have:=hfg h;omega⟩
    generalize endS R.sp.ms E=S at *
    generalize findM R.sp.ms E=z at *
    by_cases hz:0≤z
    · rw[if_pos hz] at hend
      have hlt:=hlt0 hz
      subst hend
      generalize toL R.sp.ar R.sp.ms.length [z]=c at *
      generalize deadK R.sp.ar f.net.tr.length=D at *
      generalize idxI c (fun x=>x == false)=k1 at *
      generalize idxI R.sp.ms (fun m=>overB m E)=k2 at *
      generalize hV:(if 0≤k1 then(⟨2,1,tw R.sp.ar k1.toNat,0⟩:Vd) else if 0≤k2 then⟨2,2,tw R.sp.ar k2.toNat,0⟩ else if 0<D.length then⟨2,3,[],D.getD 0 0⟩ else⟨1,0,[],0⟩)=V
      simp only[ints,List.map_cons,List.map_nil] at hlt
      by_cases har:R.sp.ar=[]
      · have hPV:exPV R=.agg [.un we7 false 1 (R.sp.ms.map ints),.nil true 3]:=by simp only[exPV,arcPV,hc,har,if_true]
        rw[hPV] at hx ⊢
        have hway:=hway [] (by rw[har];rfl)
        simp only[har,List.map_nil] at hlt fd hdd
        by_cases h1:0≤k1
        · obtain⟨K,rfl⟩ : ∃ K:Nat,k1=K:=⟨k1.toNat,by omega⟩
          have hKl:K<R.sp.ms.length:=by omega
          have hVe:V=⟨2,1,tw R.sp.ar K,0⟩:=by rw[←hV,if_pos h1,Int.toNat_natCast]
          have hwt:=hway K hKl
          have e3:R.sp.ms[K]? = some R.sp.ms[K]:=List.getElem?_eq_getElem hKl
          have htl:=z1gc f4 K hKl
          rw[hVe]
          simp only
          generalize R.sp.ms[K]=x at *
          generalize tw R.sp.ar K=W at *
          by_cases hl:W.length≤60
          · rw[if_pos hl,wec 1 W (.inl rfl)]
            refine w0j ?_
            simp (maxSteps:=2000000) (disch:=first|omega|(simp only[lenS];try omega)) only[w9z,go_sem,reduceAdd,reduceEqDiff,reduceLeDiff,reduceSub]
            simp (maxSteps:=2000000) (disch:=first|omega|(simp only[lenS];try omega)) only[go_sem,reduceAdd,reduceEqDiff,reduceLeDiff,reduceSub,hs0,he0,hx,fd,hz,hlt,hct,e3,hwt,hdd]
            first | done | rfl | exact⟨rfl,rfl⟩
          · rw[if_neg hl]
            refine w0j ?_
            simp (maxSteps:=2000000) (disch:=first|omega|(simp only[lenS];try omega)) only[w9z,go_sem,reduceAdd,reduceEqDiff,reduceLeDiff,reduceSub]
            simp (maxSteps:=2000000) (disch:=first|omega|(simp only[lenS];try omega)) only[go_sem,reduceAdd,reduceEqDiff,reduceLeDiff,reduceSub,hs0,he0,hx,fd,hz,hlt,hct,e3,hwt,hdd]
            first | done | rfl | exact⟨rfl,rfl⟩
        · by_cases h2:0≤k2
          · obtain⟨K,rfl⟩ : ∃ K:Nat,k2=K:=⟨k2.toNat,by omega⟩
            have hKl:K<R.sp.ms.length:=by omega
            have hVe:V=⟨2,2,tw R.sp.ar K,0⟩:=by rw[←hV,if_neg h1,if_pos h2,Int.toNat_natCast]
            have hwt:=hway K hKl
            have e3:R.sp.ms[K]? = some R.sp.ms[K]:=List.getElem?_eq_getElem hKl
            have htl:=z1gc f4 K hKl
            rw[hVe]
            simp only
            generalize R.sp.ms[K]=x at *
            generalize tw R.sp.ar K=W at *
            by_cases hl:W.length≤60
            · rw[if_pos hl,wec 2 W (.inr rfl)]
              refine w0j ?_
              simp (maxSteps:=2000000) (disch:=first|omega|(simp only[lenS];try omega)) only[w9z,go_sem,reduceAdd,reduceEqDiff,reduceLeDiff,reduceSub]
              simp (maxSteps:=2000000) (disch:=first|omega|(simp only[lenS];try omega)) only[go_sem,reduceAdd,reduceEqDiff,reduceLeDiff,reduceSub,hs0,he0,hx,fd,hz,hlt,hct,h1,hov,e3,hwt,hdd]
              first | done | rfl | exact⟨rfl,rfl⟩
            · rw[if_neg hl]
              refine w0j ?_
              simp (maxSteps:=2000000) (disch:=first|omega|(simp only[lenS];try omega)) only[w9z,go_sem,reduceAdd,reduceEqDiff,reduceLeDiff,reduceSub]
              simp (maxSteps:=2000000) (disch:=first|omega|(simp only[lenS];try omega)) only[go_sem,reduceAdd,reduceEqDiff,reduceLeDiff,reduceSub,hs0,he0,hx,fd,hz,hlt,hct,h1,hov,e3,hwt,hdd]
              first | done | rfl | exact⟨rfl,rfl⟩
          · cases D with
            | nil =>
              have hVe:V=⟨1,0,[],0⟩:=by rw[←hV,if_neg h1,if_neg h2];rfl
              rw[hVe]
              refine w0j ?_
              simp (maxSteps:=2000000) (disch:=first|omega|(simp only[lenS];try omega)) only[w9z,go_sem,reduceAdd,reduceEqDiff,reduceLeDiff,reduceSub]
              simp (maxSteps:=2000000) (disch:=first|omega|(simp only[lenS];try omega)) only[go_sem,reduceAdd,reduceEqDiff,reduceLeDiff,reduceSub,hs0,he0,hx,fd,hz,hlt,hct,h1,hov,h2,hdd]
              first | done | rfl | exact⟨rfl,rfl⟩
            | cons d D =>
              have hVe:V=⟨2,3,[],d⟩:=by rw[←hV,if_neg h1,if_neg h2];rfl
              rw[hVe]
              refine w0j ?_
              simp (maxSteps:=2000000) (disch:=first|omega|(simp only[lenS];try omega)) only[w9z,go_sem,reduceAdd,reduceEqDiff,reduceLeDiff,reduceSub]
              simp (maxSteps:=2000000) (disch:=first|omega|(simp only[lenS];try omega)) only[go_sem,reduceAdd,reduceEqDiff,reduceLeDiff,reduceSub,hs0,he0,hx,fd,hz,hlt,hct,h1,hov,h2,hdd,Int.toNat_zero,List.getElem_cons_zero]
              first | done | rfl | exact⟨rfl,rfl⟩
      · have hPV:exPV R=.agg [.un we7 false 1 (R.sp.ms.map ints),.un we0 true 3 (R.sp.ar.map encA)]:=by simp only[exPV,arcPV,hc,har,if_true,if_false]
        rw[hPV] at hx ⊢
        have hway:=hway _ rfl
        by_cases h1:0≤k1
        · obtain⟨K,rfl⟩ : ∃ K:Nat,k1=K:=⟨k1.toNat,by omega⟩
          have hKl:K<R.sp.ms.length:=by omega
          have hVe:V=⟨2,1,tw R.sp.ar K,0⟩:=by rw[←hV,if_pos h1,Int.toNat_natCast]
          have hwt:=hway K hKl
          have e3:R.sp.ms[K]? = some R.sp.ms[K]:=List.getElem?_eq_getElem hKl
          have htl:=z1gc f4 K hKl
          rw[hVe]
          simp only
          generalize R.sp.ms[K]=x at *
          generalize tw R.sp.ar K=W at *
          by_cases hl:W.length≤60
          · rw[if_pos hl,wec 1 W (.inl rfl)]
            refine w0j ?_
            simp (maxSteps:=2000000) (disch:=first|omega|(simp only[lenS];try omega)) only[w9z,go_sem,reduceAdd,reduceEqDiff,reduceLeDiff,reduceSub]
            simp (maxSteps:=2000000) (disch:=first|omega|(simp only[lenS];try omega)) only[go_sem,reduceAdd,reduceEqDiff,reduceLeDiff,reduceSub,hs0,he0,hx,fd,hz,hlt,hct,e3,hwt,hdd]
            first | done | rfl | exact⟨rfl,rfl⟩
          · rw[if_neg hl]
            refine w0j ?_
            simp (maxSteps:=2000000) (disch:=first|omega|(simp only[lenS];try omega)) only[w9z,go_sem,reduceAdd,reduceEqDiff,reduceLeDiff,reduceSub]
            simp (maxSteps:=2000000) (disch:=first|omega|(simp only[lenS];try omega)) only[go_sem,reduceAdd,reduceEqDiff,reduceLeDiff,reduceSub,hs0,he0,hx,fd,hz,hlt,hct,e3,hwt,hdd]
            first | done | rfl | exact⟨rfl,rfl⟩
        · by_cases h2:0≤k2
          · obtain⟨K,rfl⟩ : ∃ K:Nat,k2=K:=⟨k2.toNat,by omega⟩
            have hKl:K<R.sp.ms.length:=by omega
            have hVe:V=⟨2,2,tw R.sp.ar K,0⟩:=by rw[←hV,if_neg h1,if_pos h2,Int.toNat_natCast]
            have hwt:=hway K hKl
            have e3:R.sp.ms[K]? = some R.sp.ms[K]:=List.getElem?_eq_getElem hKl
            have htl:=z1gc f4 K hKl
            rw[hVe]
            simp only
            generalize R.sp.ms[K]=x at *
            generalize tw R.sp.ar K=W at *
            by_cases hl:W.length≤60
            · rw[if_pos hl,wec 2 W (.inr rfl)]
              refine w0j ?_
              simp (maxSteps:=2000000) (disch:=first|omega|(simp only[lenS];try omega)) only[w9z,go_sem,reduceAdd,reduceEqDiff,reduceLeDiff,reduceSub]
              simp (maxSteps:=2000000) (disch:=first|omega|(simp only[lenS];try omega)) only[go_sem,reduceAdd,reduceEqDiff,reduceLeDiff,reduceSub,hs0,he0,hx,fd,hz,hlt,hct,h1,hov,e3,hwt,hdd]
              first | done | rfl | exact⟨rfl,rfl⟩
            · rw[if_neg hl]
              refine w0j ?_
              simp (maxSteps:=2000000) (disch:=first|omega|(simp only[lenS];try omega)) only[w9z,go_sem,reduceAdd,reduceEqDiff,reduceLeDiff,reduceSub]
              simp (maxSteps:=2000000) (disch:=first|omega|(simp only[lenS];try omega)) only[go_sem,reduceAdd,reduceEqDiff,reduceLeDiff,reduceSub,hs0,he0,hx,fd,hz,hlt,hct,h1,hov,e3,hwt,hdd]
              first | done | rfl | exact⟨rfl,rfl⟩
          · cases D with
            | nil =>
              have hVe:V=⟨1,0,[],0⟩:=by rw[←hV,if_neg h1,if_neg h2];rfl
              rw[hVe]
              refine w0j ?_
              simp (maxSteps:=2000000) (disch:=first|omega|(simp only[lenS];try omega)) only[w9z,go_sem,reduceAdd,reduceEqDiff,reduceLeDiff,reduceSub]
              simp (maxSteps:=2000000) (disch:=first|omega|(simp only[lenS];try omega)) only[go_sem,reduceAdd,reduceEqDiff,reduceLeDiff,reduceSub,hs0,he0,hx,fd,hz,hlt,hct,h1,hov,h2,hdd]
              first | done | rfl | exact⟨rfl,rfl⟩
            | cons d D =>
              have hVe:V=⟨2,3,[],d⟩:=by rw[←hV,if_neg h1,if_neg h2];rfl
              rw[hVe]
              refine w0j ?_
              simp (maxSteps:=2000000) (disch:=first|omega|(simp only[lenS];try omega)) only[w9z,go_sem,reduceAdd,reduceEqDiff,reduceLeDiff,reduceSub]
              simp (maxSteps:=2000000) (disch:=first|omega|(simp only[lenS];try omega)) only[go_sem,reduceAdd,reduceEqDiff,reduceLeDiff,reduceSub,hs0,he0,hx,fd,hz,hlt,hct,h1,hov,h2,hdd,Int.toNat_zero,List.getElem_cons_zero]
              first | done | rfl | exact⟨rfl,rfl⟩
    · rw[if_neg hz] at hend
      have hlt:=hcl
      subst hend
      have hrp:=web R.sp.ar R.sp.ms.length
      rw[hrp,List.map_replicate] at hct
      rw[hrp] at hil ⊢
      generalize deadK R.sp.ar f.net.tr.length=D at *
      generalize idxI (List.replicate R.sp.ms.length false) (fun x=>x == false)=k1 at *
      generalize idxI R.sp.ms (fun m=>overB m E)=k2 at *
      generalize hV:(if 0≤k1 then(⟨2,1,tw R.sp.ar k1.toNat,0⟩:Vd) else if 0≤k2 then⟨2,2,tw R.sp.ar k2.toNat,0⟩ else if 0<D.length then⟨2,3,[],D.getD 0 0⟩ else⟨1,0,[],0⟩)=V
      clear hlt hcl
      have hlt:True:=trivial
      by_cases har:R.sp.ar=[]
      · have hPV:exPV R=.agg [.un we7 false 1 (R.sp.ms.map ints),.nil true 3]:=by simp only[exPV,arcPV,hc,har,if_true]
        rw[hPV] at hx ⊢
        have hway:=hway [] (by rw[har];rfl)
        simp only[har,List.map_nil] at hlt fd hdd
        by_cases h1:0≤k1
        · obtain⟨K,rfl⟩ : ∃ K:Nat,k1=K:=⟨k1.toNat,by omega⟩
          have hKl:K<R.sp.ms.length:=by omega
          have hVe:V=⟨2,1,tw R.sp.ar K,0⟩:=by rw[←hV,if_pos h1,Int.toNat_natCast]
          have hwt:=hway K hKl
          have e3:R.sp.ms[K]? = some R.sp.ms[K]:=List.getElem?_eq_getElem hKl
          have htl:=z1gc f4 K hKl
          rw[hVe]
          simp only
          generalize R.sp.ms[K]=x at *
          generalize tw R.sp.ar K=W at *
          by_cases hl:W.length≤60
          · rw[if_pos hl,wec 1 W (.inl rfl)]
            refine w0j ?_
            simp (maxSteps:=2000000) (disch:=first|omega|(simp only[lenS];try omega)) only[w9z,go_sem,reduceAdd,reduceEqDiff,reduceLeDiff,reduceSub]
            simp (maxSteps:=2000000) (disch:=first|omega|(simp only[lenS];try omega)) only[go_sem,reduceAdd,reduceEqDiff,reduceLeDiff,reduceSub,hs0,he0,hx,fd,hz,hlt,hct,e3,hwt,hdd]
            first | done | rfl | exact⟨rfl,rfl⟩
          · rw[if_neg hl]
            refine w0j ?_
            simp (maxSteps:=2000000) (disch:=first|omega|(simp only[lenS];try omega)) only[w9z,go_sem,reduceAdd,reduceEqDiff,reduceLeDiff,reduceSub]
            simp (maxSteps:=2000000) (disch:=first|omega|(simp only[lenS];try omega)) only[go_sem,reduceAdd,reduceEqDiff,reduceLeDiff,reduceSub,hs0,he0,hx,fd,hz,hlt,hct,e3,hwt,hdd]
            first | done | rfl | exact⟨rfl,rfl⟩
        · by_cases h2:0≤k2
          · obtain⟨K,rfl⟩ : ∃ K:Nat,k2=K:=⟨k2.toNat,by omega⟩
            have hKl:K<R.sp.ms.length:=by omega
            have hVe:V=⟨2,2,tw R.sp.ar K,0⟩:=by rw[←hV,if_neg h1,if_pos h2,Int.toNat_natCast]
            have hwt:=hway K hKl
            have e3:R.sp.ms[K]? = some R.sp.ms[K]:=List.getElem?_eq_getElem hKl
            have htl:=z1gc f4 K hKl
            rw[hVe]
            simp only
            generalize R.sp.ms[K]=x at *
            generalize tw R.sp.ar K=W at *
            by_cases hl:W.length≤60
            · rw[if_pos hl,wec 2 W (.inr rfl)]
              refine w0j ?_
              simp (maxSteps:=2000000) (disch:=first|omega|(simp only[lenS];try omega)) only[w9z,go_sem,reduceAdd,reduceEqDiff,reduceLeDiff,reduceSub]
              simp (maxSteps:=2000000) (disch:=first|omega|(simp only[lenS];try omega)) only[go_sem,reduceAdd,reduceEqDiff,reduceLeDiff,reduceSub,hs0,he0,hx,fd,hz,hlt,hct,h1,hov,e3,hwt,hdd]
              first | done | rfl | exact⟨rfl,rfl⟩
            · rw[if_neg hl]
              refine w0j ?_
              simp (maxSteps:=2000000) (disch:=first|omega|(simp only[lenS];try omega)) only[w9z,go_sem,reduceAdd,reduceEqDiff,reduceLeDiff,reduceSub]
              simp (maxSteps:=2000000) (disch:=first|omega|(simp only[lenS];try omega)) only[go_sem,reduceAdd,reduceEqDiff,reduceLeDiff,reduceSub,hs0,he0,hx,fd,hz,hlt,hct,h1,hov,e3,hwt,hdd]
              first | done | rfl | exact⟨rfl,rfl⟩
          · cases D with
            | nil =>
              have hVe:V=⟨1,0,[],0⟩:=by rw[←hV,if_neg h1,if_neg h2];rfl
              rw[hVe]
              refine w0j ?_
              simp (maxSteps:=2000000) (disch:=first|omega|(simp only[lenS];try omega)) only[w9z,go_sem,reduceAdd,reduceEqDiff,reduceLeDiff,reduceSub]
              simp (maxSteps:=2000000) (disch:=first|omega|(simp only[lenS];try omega)) only[go_sem,reduceAdd,reduceEqDiff,reduceLeDiff,reduceSub,hs0,he0,hx,fd,hz,hlt,hct,h1,hov,h2,hdd]
              first | done | rfl | exact⟨rfl,rfl⟩
            | cons d D =>
              have hVe:V=⟨2,3,[],d⟩:=by rw[←hV,if_neg h1,if_neg h2];rfl
              rw[hVe]
              refine w0j ?_
              simp (maxSteps:=2000000) (disch:=first|omega|(simp only[lenS];try omega)) only[w9z,go_sem,reduceAdd,reduceEqDiff,reduceLeDiff,reduceSub]
              simp (maxSteps:=2000000) (disch:=first|omega|(simp only[lenS];try omega)) only[go_sem,reduceAdd,reduceEqDiff,reduceLeDiff,reduceSub,hs0,he0,hx,fd,hz,hlt,hct,h1,hov,h2,hdd,Int.toNat_zero,List.getElem_cons_zero]
              first | done | rfl | exact⟨rfl,rfl⟩
      · have hPV:exPV R=.agg [.un we7 false 1 (R.sp.ms.map ints),.un we0 true 3 (R.sp.ar.map encA)]:=by simp only[exPV,arcPV,hc,har,if_true,if_false]
        rw[hPV] at hx ⊢
        have hway:=hway _ rfl
        by_cases h1:0≤k1
        · obtain⟨K,rfl⟩ : ∃ K:Nat,k1=K:=⟨k1.toNat,by omega⟩
          have hKl:K<R.sp.ms.length:=by omega
          have hVe:V=⟨2,1,tw R.sp.ar K,0⟩:=by rw[←hV,if_pos h1,Int.toNat_natCast]
          have hwt:=hway K hKl
          have e3:R.sp.ms[K]? = some R.sp.ms[K]:=List.getElem?_eq_getElem hKl
          have htl:=z1gc f4 K hKl
          rw[hVe]
          simp only
          generalize R.sp.ms[K]=x at *
          generalize tw R.sp.ar K=W at *
          by_cases hl:W.length≤60
          · rw[if_pos hl,wec 1 W (.inl rfl)]
            refine w0j ?_
            simp (maxSteps:=2000000) (disch:=first|omega|(simp only[lenS];try omega)) only[w9z,go_sem,reduceAdd,reduceEqDiff,reduceLeDiff,reduceSub]
            simp (maxSteps:=2000000) (disch:=first|omega|(simp only[lenS];try omega)) only[go_sem,reduceAdd,reduceEqDiff,reduceLeDiff,reduceSub,hs0,he0,hx,fd,hz,hlt,hct,e3,hwt,hdd]
            first | done | rfl | exact⟨rfl,rfl⟩
          · rw[if_neg hl]
            refine w0j ?_
            simp (maxSteps:=2000000) (disch:=first|omega|(simp only[lenS];try omega)) only[w9z,go_sem,reduceAdd,reduceEqDiff,reduceLeDiff,reduceSub]
            simp (maxSteps:=2000000) (disch:=first|omega|(simp only[lenS];try omega)) only[go_sem,reduceAdd,reduceEqDiff,reduceLeDiff,reduceSub,hs0,he0,hx,fd,hz,hlt,hct,e3,hwt,hdd]
            first | done | rfl | exact⟨rfl,rfl⟩
        · by_cases h2:0≤k2
          · obtain⟨K,rfl⟩ : ∃ K:Nat,k2=K:=⟨k2.toNat,by omega⟩
            have hKl:K<R.sp.ms.length:=by omega
            have hVe:V=⟨2,2,tw R.sp.ar K,0⟩:=by rw[←hV,if_neg h1,if_pos h2,Int.toNat_natCast]
            have hwt:=hway K hKl
            have e3:R.sp.ms[K]? = some R.sp.ms[K]:=List.getElem?_eq_getElem hKl
            have htl:=z1gc f4 K hKl
            rw[hVe]
            simp only
            generalize R.sp.ms[K]=x at *
            generalize tw R.sp.ar K=W at *
            by_cases hl:W.length≤60
            · rw[if_pos hl,wec 2 W (.inr rfl)]
              refine w0j ?_
              simp (maxSteps:=2000000) (disch:=first|omega|(simp only[lenS];try omega)) only[w9z,go_sem,reduceAdd,reduceEqDiff,reduceLeDiff,reduceSub]
              simp (maxSteps:=2000000) (disch:=first|omega|(simp only[lenS];try omega)) only[go_sem,reduceAdd,reduceEqDiff,reduceLeDiff,reduceSub,hs0,he0,hx,fd,hz,hlt,hct,h1,hov,e3,hwt,hdd]
              first | done | rfl | exact⟨rfl,rfl⟩
            · rw[if_neg hl]
              refine w0j ?_
              simp (maxSteps:=2000000) (disch:=first|omega|(simp only[lenS];try omega)) only[w9z,go_sem,reduceAdd,reduceEqDiff,reduceLeDiff,reduceSub]
              simp (maxSteps:=2000000) (disch:=first|omega|(simp only[lenS];try omega)) only[go_sem,reduceAdd,reduceEqDiff,reduceLeDiff,reduceSub,hs0,he0,hx,fd,hz,hlt,hct,h1,hov,e3,hwt,hdd]
              first | done | rfl | exact⟨rfl,rfl⟩
          · cases D with
            | nil =>
              have hVe:V=⟨1,0,[],0⟩:=by rw[←hV,if_neg h1,if_neg h2];rfl
              rw[hVe]
              refine w0j ?_
              simp (maxSteps:=2000000) (disch:=first|omega|(simp only[lenS];try omega)) only[w9z,go_sem,reduceAdd,reduceEqDiff,reduceLeDiff,reduceSub]
              simp (maxSteps:=2000000) (disch:=first|omega|(simp only[lenS];try omega)) only[go_sem,reduceAdd,reduceEqDiff,reduceLeDiff,reduceSub,hs0,he0,hx,fd,hz,hlt,hct,h1,hov,h2,hdd]
              first | done | rfl | exact⟨rfl,rfl⟩
            | cons d D =>
              have hVe:V=⟨2,3,[],d⟩:=by rw[←hV,if_neg h1,if_neg h2];rfl
              rw[hVe]
              refine w0j ?_
              simp (maxSteps:=2000000) (disch:=first|omega|(simp only[lenS];try omega)) only[w9z,go_sem,reduceAdd,reduceEqDiff,reduceLeDiff,reduceSub]
              simp (maxSteps:=2000000) (disch:=first|omega|(simp only[lenS];try omega)) only[go_sem,reduceAdd,reduceEqDiff,reduceLeDiff,reduceSub,hs0,he0,hx,fd,hz,hlt,hct,h1,hov,h2,hdd,Int.toNat_zero,List.getElem_cons_zero]
              first | done | rfl | exact⟨rfl,rfl⟩
  · rw[if_neg hc]
    simp only[exPV,w5j,hc,if_false] at hx ⊢
    have hc1:¬R.code=1:=by omega
    refine w0j ?_
    simp (maxSteps:=2000000) (disch:=first|omega|(simp only[lenS];try omega)) only[w9z,go_sem,reduceAdd,reduceEqDiff,reduceLeDiff,reduceSub]
    simp (maxSteps:=2000000) (disch:=first|omega|(simp only[lenS];try omega)) only[go_sem,reduceAdd,reduceEqDiff,reduceLeDiff,reduceSub,hs0,hx,hc1]
    first | done | rfl
theorem wd8(f:Fl)(b:Int):(sndV f b).way.length≤60:=by
 unfold sndV
 split
 ·split
  ·assumption
  ·simp
 ·simp
theorem w8i(f:Fl)(b:Int)(hg:zji f=true)(hb:inB 1 400 b=true)(hf:smN f.net):C w5t [encF f,I b] []=some (.tup [vdPV (sndV f b),.bool true],[]):=by
 have h0:=w95 f b hf
 rw[hg,hb] at h0
 have h1:=w8x f b hg hb
 have hw:=wd8 f b
 have hgn:=zjy (zjm hg).1
 obtain⟨f1,f2,f3,f4,f5,f6⟩:=w5l hg hb
 generalize sndV f b=V at *
 generalize exAll f.net (oneM f.net.pl.toNat f.src) b=R at *
 obtain⟨vo,vk,vw,vd⟩:=V
 unfold vdPV at h1 ⊢
 simp only at h1 hw ⊢
 by_cases hc:R.code=0
 ·by_cases har:R.sp.ar=[]
  ·simp only[exPV,arcPV,hc,har,if_true] at h1
   by_cases hk:vk=1∨vk=2
   ·simp only[hk,if_true] at h1 ⊢
    refine w05 ?_
    simp (maxSteps:=2000000) (disch:=first|omega|(simp only[lenS];try omega)) only[w9l,go_sem,reduceAdd,reduceEqDiff,reduceLeDiff,reduceSub]
    simp (maxSteps:=2000000) (disch:=first|omega|(simp only[lenS];try omega)) only[go_sem,reduceAdd,reduceEqDiff,reduceLeDiff,reduceSub,h0,h1]
    first | done | rfl
   ·simp only[hk,if_false] at h1 ⊢
    refine w05 ?_
    simp (maxSteps:=2000000) (disch:=first|omega|(simp only[lenS];try omega)) only[w9l,go_sem,reduceAdd,reduceEqDiff,reduceLeDiff,reduceSub]
    simp (maxSteps:=2000000) (disch:=first|omega|(simp only[lenS];try omega)) only[go_sem,reduceAdd,reduceEqDiff,reduceLeDiff,reduceSub,h0,h1]
    first | done | rfl
  ·simp only[exPV,arcPV,hc,har,if_true,if_false] at h1
   by_cases hk:vk=1∨vk=2
   ·simp only[hk,if_true] at h1 ⊢
    refine w05 ?_
    simp (maxSteps:=2000000) (disch:=first|omega|(simp only[lenS];try omega)) only[w9l,go_sem,reduceAdd,reduceEqDiff,reduceLeDiff,reduceSub]
    simp (maxSteps:=2000000) (disch:=first|omega|(simp only[lenS];try omega)) only[go_sem,reduceAdd,reduceEqDiff,reduceLeDiff,reduceSub,h0,h1]
    first | done | rfl
   ·simp only[hk,if_false] at h1 ⊢
    refine w05 ?_
    simp (maxSteps:=2000000) (disch:=first|omega|(simp only[lenS];try omega)) only[w9l,go_sem,reduceAdd,reduceEqDiff,reduceLeDiff,reduceSub]
    simp (maxSteps:=2000000) (disch:=first|omega|(simp only[lenS];try omega)) only[go_sem,reduceAdd,reduceEqDiff,reduceLeDiff,reduceSub,h0,h1]
    first | done | rfl
 ·simp only[exPV,hc,if_false] at h1
  by_cases hk:vk=1∨vk=2
  ·simp only[hk,if_true] at h1 ⊢
   refine w05 ?_
   simp (maxSteps:=2000000) (disch:=first|omega|(simp only[lenS];try omega)) only[w9l,go_sem,reduceAdd,reduceEqDiff,reduceLeDiff,reduceSub]
   simp (maxSteps:=2000000) (disch:=first|omega|(simp only[lenS];try omega)) only[go_sem,reduceAdd,reduceEqDiff,reduceLeDiff,reduceSub,h0,h1]
   first | done | rfl
  ·simp only[hk,if_false] at h1 ⊢
   refine w05 ?_
   simp (maxSteps:=2000000) (disch:=first|omega|(simp only[lenS];try omega)) only[w9l,go_sem,reduceAdd,reduceEqDiff,reduceLeDiff,reduceSub]
   simp (maxSteps:=2000000) (disch:=first|omega|(simp only[lenS];try omega)) only[go_sem,reduceAdd,reduceEqDiff,reduceLeDiff,reduceSub,h0,h1]
   first | done | rfl
theorem wed(f:Fl)(b:Int) : ∃ (o k d:Int) (W:PV),vdPV (sndV f b)=.agg [I o,I k,W,I d]∧o=(sndV f b).ok∧((∃ w:List Int,W=.un t_int true 1 (w.map I))∨W=.nil true 1):=by
 unfold vdPV
 by_cases hk:(sndV f b).kind=1∨(sndV f b).kind=2
 ·rw[if_pos hk];exact⟨_,_,_,_,rfl,rfl,.inl ⟨_,rfl⟩⟩
 ·rw[if_neg hk];exact⟨_,_,_,_,rfl,rfl,.inr rfl⟩
theorem laws_FnChained_ok(a b:List Int)(ha2 : ∀ x∈a,0≤x∧x<256)(hb2 : ∀ x∈b,0≤x∧x<256):C w6q [bys a,bys b] []=some (.bool true,[]):=by
  have z:C w6s [.agg [I 0,.sl false 3 [],I 0,I 0],.agg [I 0,.sl false 3 [],I 0,I 0]] []=some (.bool true,[]):=wc8 ⟨⟨0,[]⟩,0,0⟩ ⟨by simp,by simp⟩
  refine w12 ?_
  simp (maxSteps:=2000000) (disch:=first|omega|(simp only[lenS];try omega)) only[wai,go_sem,reduceAdd,reduceEqDiff,reduceLeDiff,reduceSub]
  simp (maxSteps:=2000000) (disch:=first|omega|(simp only[lenS];try omega)) only[go_sem,reduceAdd,reduceEqDiff,reduceLeDiff,reduceSub,wc7]
  intro hbig
  simp only[Bool.or_eq_false_iff,decide_eq_false_iff_not] at hbig
  obtain⟨_,e1,f,g,rfl,h1,h2⟩:=wdb a (by omega) ha2
  by_cases hg:(zji f&&zji g)=true
  · rw[Bool.and_eq_true] at hg
    have i1:=w8h f g h1 h2 hg.1 hg.2
    have j1:=wda f g h1 h2 hg.1 hg.2
    obtain⟨hga,-⟩:=zjm hg.1
    obtain⟨hgb,-⟩:=zjm hg.2
    obtain⟨hp1,hp2,hn1,-⟩:=zjy hga
    obtain⟨hq1,hq2,hn2,-⟩:=zjy hgb
    have hs:=w5f h1 h2 (by omega) (by omega)
    cases hc:zji (chF f g) with
    | false =>
      simp only[hc,Bool.false_eq_true,if_false] at i1 j1
      simp (maxSteps:=2000000) (disch:=first|omega|(simp only[lenS];try omega)) only[go_sem,reduceAdd,reduceEqDiff,reduceLeDiff,reduceSub,e1,i1,j1,z]
      first | done | rfl
    | true =>
      simp only[hc,if_true] at i1 j1
      have c1:=w8i f 400 hg.1 (by decide) h1
      have c2:=w8i g 400 hg.2 (by decide) h2
      have c3:=w8i (chF f g) 400 hc (by decide) hs
      have s:=wc8 (chF f g) hs
      have law:=z9m (a:=f) (b:=g) (c:=400) (by omega) hg.1 hg.2 hc
      have w1:(chF f g).net.pl=f.net.pl+g.net.pl-1:=rfl
      have w2:(chF f g).net.tr.length=f.net.tr.length+g.net.tr.length:=by show(f.net.tr++g.net.tr.map (chT f g)).length=_;simp
      have w3:((chF f g).net.tr.length:Int)=(f.net.tr.length:Int)+g.net.tr.length:=by omega
      obtain⟨o1,k1,d1,W1,q1,r1,s1⟩:=wed f 400
      obtain⟨o2,k2,d2,W2,q2,r2,s2⟩:=wed g 400
      obtain⟨o3,k3,d3,W3,q3,r3,s3⟩:=wed (chF f g) 400
      rw[q1] at c1
      rw[q2] at c2
      rw[q3] at c3
      rw[←r1,←r2,←r3] at law
      clear q1 q2 q3 r1 r2 r3 hs
      generalize chF f g=X at *
      rcases s1 with⟨x1,rfl⟩ | rfl<;>rcases s2 with⟨x2,rfl⟩ | rfl<;>rcases s3 with⟨x3,rfl⟩ | rfl
      all_goals
        simp (maxSteps:=2000000) (disch:=first|omega|(simp only[lenS];try omega)) only[go_sem,reduceAdd,reduceEqDiff,reduceLeDiff,reduceSub,e1,i1,j1,s,c1,c2,c3]
        exact fun p q r=>absurd r (law p q)
  · rw[Bool.not_eq_true] at hg
    have i1:=w8g f g h1 h2 hg
    have j1:=wd9 f g h1 h2 hg
    simp (maxSteps:=2000000) (disch:=first|omega|(simp only[lenS];try omega)) only[go_sem,reduceAdd,reduceEqDiff,reduceLeDiff,reduceSub,e1,i1,j1,z]
    first | done | rfl
end Go.Proofs.Ytbaclnecajkknaa.Pi

