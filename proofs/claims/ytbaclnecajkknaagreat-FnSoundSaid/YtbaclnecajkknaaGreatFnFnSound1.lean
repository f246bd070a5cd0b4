/- The functions that the law reaches: what they answer. Conditions: those that each theorem names. -/
import Derived.Test.YtbaclnecajkknaaGreatIrFnSound
import Derived.Test.YtbaclnecajkknaaGreatPlFnSound
import Derived.Test.YtbaclnecajkknaaGreatFnFnSound0
open Nat renaming reduceAdd->P'k,reduceEqDiff->C',reduceLeDiff->D',reduceSub->E',le_refl->L'l,sub_self->R'h,eq_zero_or_pos->Q'3,add_sub_cancel->N'5
open List renaming replicate->L'0,getElem?_eq_getElem->L'v,length_append->L'x,getElem?_set_ne->L'n,getElem_set_ne->R'b,getElem_map->R'c,getElem_mem->P'l,range->L'1,length_cons->M'2,length_nil->M'7,length_replicate->M'j,map_append->M'r,map_set->R'2,take_length->M'i,map_map->R'g,map_nil->R'4,take_succ_eq_append_getElem->P'z,getElem_cons_zero->Q'n,nil_append->M'3,set_append->R'k,replicate_succ->R'l,set_cons_zero->R'm,replicate_zero->R'n,append_nil->M'e,countP_le_length->Q's,map_drop->R'o,drop_left->R'p,drop_replicate->R'q,finRange->R'r,length_map->Q'1,length_range->R's,getD_eq_getElem?_getD->N'u
open Int renaming not_lt->R'd,not_le->R'e,toNat_natCast->P'm,toNat->R'f,toNat_zero->R'6,ofNat_tdiv->R'i,mul_one->R'j
namespace Go.Proofs.YtbaclnecajkknaaGreat.Pi
open Go
set_option linter.all false
set_option maxHeartbeats 40000000
set_option maxRecDepth 20000
theorem wkx(n:Net)(start:List Int)(b:Int)(hm:zss n start=true)(hb:1<=b/\b<=400):C wcf [encN n,ints start,I b] []=some (.tup [exPV (exAll n start b),I (w8c (exAll n start b))],[]):=by
  obtain⟨hg,hmk⟩:=zst hm
  have hn:=zjy hg
  have hs:=zjq hmk
  refine w35 ?_
  simp(maxSteps:=9^9)(disch:=first|omega|(simp only[H'];try omega))only[wic,go_sem,P'k,C',D',E']
  simp(maxSteps:=9^9)(disch:=first|omega|(simp only[H'];try omega))only[go_sem,P'k,C',D',E',wki start (by omega)]
  generalize hR:exAll n start b=R
  refine z1a (fun d s=>∃(k:Nat) (c:Ex),d+k=b.toNat+1/\ExOk n start b c/\c.code=0/\k<=c.sp.ms.length/\c.sp.ar.length<=24*k/\exRun n b (d+1) k c=R/\((s=⟨[.any,.any,I b,.ptr 0 0,.ptr 1 0,.any,.ptr 2 0,I k,.any,.any,.any,.any,.any,.any,.any,.any,.any,.any,.any],[.box wl9 [I n.pl,trs n.tr],.box wla [.nil false 1,.nil true 3],.box wla [.ref 3 1 0 c.sp.ms.length,.nil true 3],.row wle false 1 (c.sp.ms.map ints)]⟩/\c.sp.ar=[])\/(s=⟨[.any,.any,I b,.ptr 0 0,.ptr 1 0,.any,.ptr 2 0,I k,.any,.any,.any,.any,.any,.any,.any,.any,.any,.any,.any],[.box wl9 [I n.pl,trs n.tr],.box wla [.nil false 1,.nil true 3],.box wla [.ref 3 1 0 c.sp.ms.length,.ref 4 3 0 c.sp.ar.length],.row wle false 1 (c.sp.ms.map ints),.row wl6 true 3 (c.sp.ar.map encA)]⟩/\c.sp.ar≠[]))) (b.toNat+1) ?_ ?_
  · refine⟨0,⟨⟨[start],[]⟩,0⟩,by omega,w8d hm hb.1,rfl,by omega,by simp,hR,.inl ⟨?_,rfl⟩⟩
    simp(maxSteps:=9^9)(disch:=first|omega|(simp only[H'];try omega))only[go_sem,P'k,C',D',E']
    rfl
  · rintro d s ⟨k,c,hd,hok,hc0,hk,hal,hrun,hcs⟩
    have hlb:=hok.lenb
    by_cases hkl:k<c.sp.ms.length
    · have hmem:=zj8 hkl
      have hmg:=zst (hok.good _ hmem)
      have hml:=zjq hmg.2
      have en:=wkq n (c.sp.ms.getD k []) hg hml.2.2.1
      have hLl:(enabL n (c.sp.ms.getD k [])).length<=n.tr.length:=zdj ..
      have er:exRun n b (d+1) k c=exRun n b d (k+1) (exL n b k c (enabL n (c.sp.ms.getD k []))):=by
        show(if c.code≠0 then c else if k<c.sp.ms.length then _ else c)=_
        rw[if_neg (by omega),if_pos hkl]
      rw[er]at hrun
      have hen:∀t∈enabL n (c.sp.ms.getD k []),t∈enabL n (c.sp.ms.getD k []):=fun t h=>h
      generalize hL:enabL n (c.sp.ms.getD k [])=L at *
      rcases hcs with⟨rfl,har⟩|⟨rfl,har⟩
      all_goals
        simp(maxSteps:=9^9)(disch:=first|omega|(simp only[H'];try omega))only[go_sem,P'k,C',D',E',zj9,en]
        refine W_for L.length (fun j s=>∃c':Ex,ExOk n start b c'/\c'.code=0/\k<c'.sp.ms.length/\enabL n (c'.sp.ms.getD k [])=L/\c'.sp.ar.length<=24*k+j/\exRun n b d (k+1) (exL n b k c' (L.drop j))=R/\((s=⟨[.any,.any,I b,.ptr 0 0,.ptr 1 0,.any,.ptr 2 0,I k,.any,.any,.any,.any,.ref 3 1 0 L.length,I L.length,I j,.any,.any,.any,.any],[.box wl9 [I n.pl,trs n.tr],.box wla [.nil false 1,.nil true 3],.box wla [.ref 4 1 0 c'.sp.ms.length,.nil true 3],.row t_int true 1 (L.map I),.row wle false 1 (c'.sp.ms.map ints)]⟩/\c'.sp.ar=[])\/(s=⟨[.any,.any,I b,.ptr 0 0,.ptr 1 0,.any,.ptr 2 0,I k,.any,.any,.any,.any,.ref 3 1 0 L.length,I L.length,I j,.any,.any,.any,.any],[.box wl9 [I n.pl,trs n.tr],.box wla [.nil false 1,.nil true 3],.box wla [.ref 4 1 0 c'.sp.ms.length,.ref 5 3 0 c'.sp.ar.length],.row t_int true 1 (L.map I),.row wle false 1 (c'.sp.ms.map ints),.row wl6 true 3 (c'.sp.ar.map encA)]⟩/\c'.sp.ar≠[]))) ?_ ?_ ?_
        · refine⟨c,hok,hc0,hkl,hL,by omega,hrun,?_⟩
          first
          | refine .inl ⟨?_,har⟩
            simp(maxSteps:=9^9)(disch:=first|omega|(simp only[H'];try omega))only[go_sem,P'k,C',D',E']
            done
          | refine .inl ⟨?_,har⟩
            simp(maxSteps:=9^9)(disch:=first|omega|(simp only[H'];try omega))only[go_sem,P'k,C',D',E']
            rfl
          | refine .inr ⟨?_,har⟩
            simp(maxSteps:=9^9)(disch:=first|omega|(simp only[H'];try omega))only[go_sem,P'k,C',D',E']
            done
          | refine .inr ⟨?_,har⟩
            simp(maxSteps:=9^9)(disch:=first|omega|(simp only[H'];try omega))only[go_sem,P'k,C',D',E']
            rfl
        · rintro j s hj ⟨c',hok',hc0',hkl',hL',hal',hrun',hcs'⟩
          have hlb':=hok'.lenb
          have ht:L[j]∈enabL n (c'.sp.ms.getD k []):=by rw[hL'];exact P'l hj
          obtain⟨t1,t2,t3⟩:=zdl.1 ht
          have hT:=hn.2.2.2 (trAt n L[j]) (by rw[<-z1fr t2];exact P'l _)
          have hm2:=zjq (zst (hok'.good _ (zj8 hkl'))).2
          have hx:=zk5 hT hm2.2.2.1
          have hy:=zk4 hT (by omega)
          have hfire:=wkr (trAt n L[j]) (c'.sp.ms.getD k []) hx.1 hx.2.1 hx.2.2 ⟨by omega,by omega,by omega⟩ (by omega) hm2.2.2.2.2
          have hMl:=zgy (trAt n L[j]) (c'.sp.ms.getD k [])
          have hok2:=zew hok' hkl' ht
          have hxs:∀x∈c'.sp.ms,x.length<2^62:=fun x hx=>by have:=zjq (zst (hok'.good x hx)).2;omega
          rw[zed hj]at hrun'
          have f1:=zf1 (n:=n) (b:=b) (k:=k) (s:=c') (t:=L[j]) hc0'
          have f2:=zex (n:=n) (b:=b) (k:=k) (s:=c') (t:=L[j]) hc0'
          have f3:=zet (n:=n) (b:=b) (k:=k) (s:=c') (t:=L[j]) hc0'
          have f4:=zev (n:=n) (b:=b) (k:=k) (s:=c') (t:=L[j]) hc0'
          generalize hM:zgw (trAt n L[j]) (c'.sp.ms.getD k [])=M at *
          have ck:C wbl [I n.pl,ints M] []=some (.bool (M.all (inB 0 50)),[]):=by
            rw[wk1 n.pl M (by omega)]
            have h9:inB 1 16 n.pl=true:=by simp[inB];omega
            have h10:((M.length:Int)==n.pl)=true:=by simp;omega
            simp only[goodM,h9,h10,Bool.true_and]
          have fd:=wky c'.sp.ms M (by omega) hxs
          have hsl:∀c2:Ex,c2.code≠0->exRun n b d (k+1) (exL n b k c2 (L.drop (j+1)))=c2:=fun c2 h=>by rw[zef h,zem h]
          cases ha:M.all (inB 0 50)with
          | false=>
            rw[f1 ha,hsl _ (by simp)]at hrun'
            subst hrun'
            rw[ha]at ck
            rcases hcs' with⟨rfl,har'⟩|⟨rfl,har'⟩<;>simp(maxSteps:=9^9)(disch:=first|omega|(simp only[H'];try omega))only[go_sem,P'k,C',D',E',zj9,z1fr,hfire,ck,exPV,w8c]
          | true=>
            rw[ha]at ck
            by_cases h2:0<=findM c'.sp.ms M
            · rw[f2 ha h2]at hrun' hok2
              rcases hcs' with⟨rfl,har'⟩|⟨rfl,har'⟩
              · simp(maxSteps:=9^9)(disch:=first|omega|(simp only[H'];try omega))only[go_sem,P'k,C',D',E',zj9,z1fr,hfire,ck,fd]
                refine⟨_,hok2,rfl,hkl',hL',by simp only[L'x,M'2,M'7];omega,hrun',.inr ⟨?_,by simp⟩⟩
                simp[har']
              · simp(maxSteps:=9^9)(disch:=first|omega|(simp only[H'];try omega))only[go_sem,P'k,C',D',E',zj9,z1fr,hfire,ck,fd]
                refine⟨_,hok2,rfl,hkl',hL',by simp only[L'x,M'2,M'7];omega,hrun',.inr ⟨?_,by simp⟩⟩
                simp
            · by_cases h3:b<=c'.sp.ms.length
              · rw[f3 ha h2 h3,hsl _ (by simp)]at hrun'
                subst hrun'
                rcases hcs' with⟨rfl,har'⟩|⟨rfl,har'⟩<;>simp(maxSteps:=9^9)(disch:=first|omega|(simp only[H'];try omega))only[go_sem,P'k,C',D',E',zj9,z1fr,hfire,ck,fd,exPV,w8c]
              · rw[f4 ha h2 h3]at hrun' hok2
                rcases hcs' with⟨rfl,har'⟩|⟨rfl,har'⟩
                · simp(maxSteps:=9^9)(disch:=first|omega|(simp only[H'];try omega))only[go_sem,P'k,C',D',E',zj9,z1fr,hfire,ck,fd]
                  refine⟨_,hok2,rfl,by simp only[L'x];omega,by simp only;rw[zj4 hkl'];exact hL',by simp only[L'x,M'2,M'7];omega,hrun',.inr ⟨?_,by simp⟩⟩
                  simp[har']
                · simp(maxSteps:=9^9)(disch:=first|omega|(simp only[H'];try omega))only[go_sem,P'k,C',D',E',zj9,z1fr,hfire,ck,fd]
                  refine⟨_,hok2,rfl,by simp only[L'x];omega,by simp only;rw[zj4 hkl'];exact hL',by simp only[L'x,M'2,M'7];omega,hrun',.inr ⟨?_,by simp⟩⟩
                  simp
        · rintro s ⟨c',hok',hc0',hkl',hL',hal',hrun',hcs'⟩
          rw[List.drop_length]at hrun'
          have hlb':=hok'.lenb
          rcases hcs' with⟨rfl,har'⟩|⟨rfl,har'⟩
          · simp(maxSteps:=9^9)(disch:=first|omega|(simp only[H'];try omega))only[go_sem,P'k,C',D',E']
            refine⟨d-1,by omega,k+1,c',by omega,hok',hc0',by omega,by omega,by rw[show d-1+1=d by omega];exact hrun',.inl ⟨rfl,har'⟩⟩
          · simp(maxSteps:=9^9)(disch:=first|omega|(simp only[H'];try omega))only[go_sem,P'k,C',D',E']
            refine⟨d-1,by omega,k+1,c',by omega,hok',hc0',by omega,by omega,by rw[show d-1+1=d by omega];exact hrun',.inr ⟨rfl,har'⟩⟩
    · have er:exRun n b (d+1) k c=c:=by
        show(if c.code≠0 then c else if k<c.sp.ms.length then _ else c)=_
        rw[if_neg (by omega),if_neg hkl]
      rw[er]at hrun
      subst hrun
      rcases hcs with⟨rfl,har⟩|⟨rfl,har⟩
      · simp(maxSteps:=9^9)(disch:=first|omega|(simp only[H'];try omega))only[go_sem,P'k,C',D',E']
        simp[exPV,w8c,hc0,arcPV,har]
      · simp(maxSteps:=9^9)(disch:=first|omega|(simp only[H'];try omega))only[go_sem,P'k,C',D',E']
        simp[exPV,w8c,hc0,arcPV,har]
theorem wkz(ms:List (List Int))(ar:List Arc3)(S:List Int)(hm:ms.length<2^36)(hr:ar.length<2^40)(hS:S.length<2^40)(ha:z44 ar ms.length)(hk:∀k∈S,0<=k/\k<ms.length) :
  C wch [.agg [rows ms,.sl true 3 (ar.map encA)],ints S] []=some (.un wl5 true 1 ((toL ar ms.length S).map PV.bool),[]):=by
 refine w37 ?_
 simp(maxSteps:=9^9)(disch:=first|omega|(simp only[H'];try omega))only[wie,go_sem,P'k,C',D',E']
 generalize hn:ms.length=n at *
 refine W_for S.length (fun k s=>s=⟨[.any,.any,.ptr 0 0,.any,.ref 1 1 0 n,.any,.any,.any,ints S,I S.length,I k,.any,.any,.any,.any,.any,.any,.any],[.box wla [rows ms,.sl true 3 (ar.map encA)],.row wl5 true 1 ((putS (L'0 n false) (S.take k)).map PV.bool)]⟩) ?_ ?_ ?_
 ·simp(maxSteps:=9^9)(disch:=first|omega|(simp only[H'];try omega))only[go_sem,P'k,C',D',E',hn]
  simp[putS]
 ·rintro k s hk2 rfl
  have h1:=hk _ (P'l hk2)
  have h2:(putS (L'0 n false) (S.take k)).length=n:=by rw[z138,M'j]
  rw[z13a hk2]
  generalize putS (L'0 n false) (S.take k)=c at *
  simp(maxSteps:=9^9)(disch:=first|omega|(simp only[H'];try omega))only[go_sem,P'k,C',D',E',h2]
  rw[R'2];rfl
 ·rintro s rfl
  rw[M'i]
  have e1:(putS (L'0 n false) S).length=n:=by rw[z138,M'j]
  have e2:hasS S (putS (L'0 n false) S):=z137 (fun k hk'=>by have:=hk k hk';simp;omega)
  have e3:sndB ar S (putS (L'0 n false) S):=z139 (fun k hk'=>⟨(hk k hk').1,hk'⟩) z1c8
  generalize putS (L'0 n false) S=c0 at *
  simp(maxSteps:=9^9)(disch:=first|omega|(simp only[H'];try omega))only[go_sem,P'k,C',D',E']
  refine z1a (fun j s=>∃c:List Bool,c.length=n/\hasS S c/\sndB ar S c/\((j=cntF c+1/\s=⟨[.any,.any,.ptr 0 0,.any,.ref 1 1 0 n,.any,.bool true,.any,.any,.any,.any,.any,.any,.any,.any,.any,.any,.any],[.box wla [rows ms,.sl true 3 (ar.map encA)],.row wl5 true 1 (c.map PV.bool)]⟩)\/(j=0/\clsB ar c/\s=⟨[.any,.any,.ptr 0 0,.any,.ref 1 1 0 n,.any,.bool false,.any,.any,.any,.any,.any,.any,.any,.any,.any,.any,.any],[.box wla [rows ms,.sl true 3 (ar.map encA)],.row wl5 true 1 (c.map PV.bool)]⟩))) (cntF c0+1) ?_ ?_
  ·refine⟨c0,e1,e2,e3,.inl ⟨rfl,?_⟩⟩
   simp(maxSteps:=9^9)(disch:=first|omega|(simp only[H'];try omega))only[go_sem,P'k,C',D',E']
  ·rintro j s ⟨c,h1,h2,h3,⟨rfl,rfl⟩|⟨rfl,h4,rfl⟩⟩
   ·simp(maxSteps:=9^9)(disch:=first|omega|(simp only[H'];try omega))only[go_sem,P'k,C',D',E']
    refine W_for ar.length (fun k s=>s=⟨[.any,.any,.ptr 0 0,.any,.ref 1 1 0 n,.any,.bool (passK ar c k).2,.any,.any,.any,.any,.any,.any,.sl true 3 (ar.map encA),I ar.length,I k,.any,.any],[.box wla [rows ms,.sl true 3 (ar.map encA)],.row wl5 true 1 ((passK ar c k).1.map PV.bool)]⟩) ?_ ?_ ?_
    ·simp(maxSteps:=9^9)(disch:=first|omega|(simp only[H'];try omega))only[go_sem,P'k,C',D',E']
     rfl
    ·rintro k s hk2 rfl
     obtain⟨a1,a2,a3,a4⟩:=ha _ (P'l hk2)
     have hl:=z118 (ar:=ar) (c:=c) k
     have y:=z11b (c:=c) hk2
     have z:=z119 (c:=c) hk2
     generalize passK ar c (k+1)=P' at *
     generalize passK ar c k=P at *
     obtain⟨d,m⟩:=P
     simp only at hl y z
     generalize hA:ar[k]=a at *
     have g1:d[a.dst.toNat]?=some (d[a.dst.toNat]'(by omega)):=L'v (by omega)
     have g2:d[a.src.toNat]?=some (d[a.src.toNat]'(by omega)):=L'v (by omega)
     rw[g1,g2]at y z
     generalize d[a.dst.toNat]'(by omega)=bd at *
     generalize d[a.src.toNat]'(by omega)=bs at *
     simp(maxSteps:=9^9)(disch:=first|omega|(simp only[H'];try omega))only[go_sem,P'k,C',D',E',hA,hl,g1,g2]
     refine⟨fun e=>⟨fun e2=>?_,fun e2=>?_⟩,fun e=>?_⟩
     ·rw[z (by simp[e2])];rfl
     ·rw[y (by rw[e]) (by rw[e2])];rfl
     ·rw[z (by simp[e])];rfl
    ·rintro s rfl
     simp(maxSteps:=9^9)(disch:=first|omega|(simp only[H'];try omega))only[go_sem,P'k,C',D',E']
     have p1:=z115 (ar:=ar) (c:=c) ar.length
     have p2:=z118 (ar:=ar) (c:=c) ar.length
     have p3:=z117 (ar:=ar) h2 ar.length
     have p4:=z11a ha h3 ar.length
     have p5:=z114 h1 ha
     generalize passK ar c ar.length=P at *
     obtain⟨d,m⟩:=P
     simp only at p1 p2 p3 p4 p5 ⊢
     cases m with
     |true=>exact⟨cntF d+1,by have:=p1.2.1 rfl;omega,d,by omega,p3,p4,.inl ⟨rfl,rfl⟩⟩
     |false=>exact⟨0,by omega,c,h1,h2,h3,.inr ⟨rfl,p5 rfl,by rw[p1.2.2 rfl]⟩⟩
   ·simp(maxSteps:=9^9)(disch:=first|omega|(simp only[H'];try omega))only[go_sem,P'k,C',D',E',h1]
    rw[z1fp h1 hk h3 h2 h4]
theorem wl0(ms:List (List Int))(ar:List Arc3)(p:Nat)(hm:ms.length<2^30)(hr:ar.length<2^35)(hb:Bfs ar ms.length)(hp:p<ms.length) :
  C wci [.agg [rows ms,.sl true 3 (ar.map encA)],I p] []=some (.un t_int true 1 ((tw ar p).map I),[]):=by
 have hA:=hb.inn
 refine w38 ?_
 simp(maxSteps:=9^9)(disch:=first|omega|(simp only[H'];try omega))only[wif,go_sem,P'k,C',D',E']
 generalize hn:ms.length=n at *
 refine W_for n (fun k s=>s=⟨[.any,I p,.ptr 0 0,.any,.ref 1 1 0 n,.any,.any,.any,.any,.any,.any,.any,I n,I k,.any,.any,.any,.any,.any,.any,.any,.any,.any,.any,.any,.any,.any],[.box wla [rows ms,.sl true 3 (ar.map encA)],.row t_int true 1 ((L'0 k (-1:Int)++L'0 (n-k) 0).map I)]⟩) ?_ ?_ ?_
 ·simp(maxSteps:=9^9)(disch:=first|omega|(simp only[H'];try omega))only[go_sem,P'k,C',D',E',hn]
  simp
 ·rintro k s hk rfl
  have e1:(L'0 k (-1:Int)++L'0 (n-k) 0).length=n:=by simp;omega
  have e2:L'0 (k+1) (-1:Int)++L'0 (n-(k+1)) 0=(L'0 k (-1:Int)++L'0 (n-k) 0).set k (-1):=by
   rw[R'k,if_neg (by simp),M'j,R'h,show n-k=(n-(k+1))+1 by omega,R'l (n:=n-(k+1)),R'm,List.replicate_succ' (n:=k)]
   simp
  rw[e2]
  generalize L'0 k (-1:Int)++L'0 (n-k) 0=c at *
  simp(maxSteps:=9^9)(disch:=first|omega|(simp only[H'];try omega))only[go_sem,P'k,C',D',E',e1]
  rw[R'2];rfl
 ·rintro s rfl
  have hst:=FQ.start (ar:=ar) (p:=(p:Int)) (n:=n) hA (by omega)
  have hbs:=z74 hp
  have e1:(L'0 n (-1:Int)).length=n:=M'j
  rw[R'h,R'n,M'e]
  have e2:(L'0 n (-1:Int)).set p 0=(L'0 n (-1:Int)).set (p:Int).toNat 0:=rfl
  rw[P'm]at hst
  generalize L'0 n (-1:Int)=F0 at *
  simp(maxSteps:=9^9)(disch:=first|omega|(simp only[H'];try omega))only[go_sem,P'k,C',D',E',e1]
  refine z1a (fun j s=>∃(F q:List Int) (V:PV) (K:Blk),((V=.ref 2 1 0 q.length/\K=.row t_int true 1 (q.map I))\/∃pre:List Int,V=.qref 2 1 pre.length q.length/\K=.que t_int 1 ((pre++q).map I))/\FQ ar p n F q (fun _=>False)/\bndF n F/\j=cntU F+q.length/\q.length+cntU F<=2^31/\s=⟨[.any,I p,.ptr 0 0,.any,.ref 1 1 0 n,.any,V,.any,.any,.any,.any,.any,.any,.any,.any,.any,.any,.any,.any,.any,.any,.any,.any,.any,.any,.any,.any],[.box wla [rows ms,.sl true 3 (ar.map encA)],.row t_int true 1 (F.map I),K]⟩) (cntU (F0.set p 0)+1) ?_ ?_
  ·refine⟨_,[(p:Int)],_,_,.inl ⟨rfl,rfl⟩,hst,hbs,rfl,?_,?_⟩
   ·have:cntU (F0.set p 0)<=(F0.set p 0).length:=Q's
    rw[List.length_set]at this
    simp only[M'2,M'7];omega
   ·simp(maxSteps:=9^9)(disch:=first|omega|(simp only[H'];try omega))only[go_sem,P'k,C',D',E']
    first| done| (rw[R'2];rfl)
  ·rintro j s ⟨F,q,V,K,hV,hF,hbd,rfl,hle,rfl⟩
   have hFl:=hF.len
   cases q with
   |nil=>
    have hfar:=hF.end_ hA (by omega)
    have h00:0<n:=by omega
    obtain⟨d0,hd0,hdn⟩:=hfar.begin_ hb hp
    have hnn:=hfar.nonneg
    rcases hV with⟨rfl,rfl⟩|⟨pre,rfl,rfl⟩
    all_goals
     simp(maxSteps:=9^9)(disch:=first|omega|(simp only[H'];try omega))only[go_sem,P'k,C',D',E']
     refine z1a (fun j s=>∃(t:Nat) (W:List Int),t<n/\F[t]?=some (j:Int)/\W.length+j<=d0/\(∀V,Gd ar F p t V->Gd ar F p 0 (W++V))/\s=⟨[.any,I p,.ptr 0 0,.any,.ref 1 1 0 n,.any,.any,.any,.any,.ref 2 1 0 W.length,I t,.any,.any,.any,.any,.any,.any,.any,.any,.any,.any,.any,.any,.any,.any,.any,.any],[.box wla [rows ms,.sl true 3 (ar.map encA)],.row t_int true 1 (F.map I),.row t_int true 1 (W.map I)]⟩) d0 ?_ ?_
     ·refine⟨0,[],h00,hd0,by simp,fun V h=>h,?_⟩
      simp(maxSteps:=9^9)(disch:=first|omega|(simp only[H'];try omega))only[go_sem,P'k,C',D',E']
      first| done| rfl
     ·rintro j s ⟨t,W,ht,hFt,hWj,hG,rfl⟩
      by_cases htp:t=p
      ·subst htp
       have hW:=gd_tw hb hp hfar (by simpa using hG [] .refl)
       subst hW
       simp(maxSteps:=9^9)(disch:=first|omega|(simp only[H'];try omega))only[go_sem,P'k,C',D',E']
      ·obtain⟨i0,hi0,hs0,hf0⟩:=hfar.near hA ht htp hFt
       have hj0:=hfar.pos ht htp hFt
       have htp2:¬((t:Int)=(p:Int)):=by omega
       simp(maxSteps:=9^9)(disch:=first|omega|(simp only[H'];try omega))only[go_sem,P'k,C',D',E',htp2]
       refine W_for ar.length (fun k s=>(∀i,i<k->∀hi:i<ar.length,ar[i].src=t->F[ar[i].dst.toNat]?≠some ((j:Int)-1))/\s=⟨[.any,I p,.ptr 0 0,.any,.ref 1 1 0 n,.any,.any,.any,.any,.ref 2 1 0 W.length,I t,.any,.any,.any,.any,.any,.any,.any,.any,.any,.any,.any,.sl true 3 (ar.map encA),I ar.length,I k,.any,.any],[.box wla [rows ms,.sl true 3 (ar.map encA)],.row t_int true 1 (F.map I),.row t_int true 1 (W.map I)]⟩) ?_ ?_ ?_
       ·simp(maxSteps:=9^9)(disch:=first|omega|(simp only[H'];try omega))only[go_sem,P'k,C',D',E']
        exact⟨fun i hi=>by omega,rfl⟩
       ·rintro k s hk ⟨hno,rfl⟩
        obtain⟨a1,a2,a3,a4⟩:=hA _ (P'l hk)
        have hlt:ar[k].dst.toNat<F.length:=by omega
        obtain⟨u,g1⟩:∃u,F[ar[k].dst.toNat]?=some u:=⟨_,L'v hlt⟩
        clear hlt
        have hmore:(ar[k].src=t->F[ar[k].dst.toNat]?≠some ((j:Int)-1))->∀i,i<k+1->∀hi:i<ar.length,ar[i].src=t->F[ar[i].dst.toNat]?≠some ((j:Int)-1):=by
         intro h i hi hi2 hs
         by_cases e:i=k
         ·subst e;exact h hs
         ·exact hno i (by omega) hi2 hs
        have htake:ar[k].src=t->F[ar[k].dst.toNat]?=some ((j:Int)-1)->∀V,Gd ar F p ar[k].dst.toNat V->Gd ar F p 0 ((W++[ar[k].by_])++V):=by
         intro hs hf V hV
         rw[List.append_assoc]
         refine hG _ (.step htp hk hs (fun u v hu hv=>?_) (fun i hi hs2 u v hu hv e=>?_) hV)
         ·rw[hf]at hu;rw[hFt]at hv
          have e1:=Option.some.inj hu;have e2:=Option.some.inj hv;omega
         ·rw[hFt]at hv
          have e2:=Option.some.inj hv
          exact hno i hi (by omega) hs2 (by rw[hu,e,<-e2])
        rw[g1]at hmore htake
        generalize hak:ar[k]=a at *
        simp(maxSteps:=9^9)(disch:=first|omega|(simp only[H'];try omega))only[go_sem,P'k,C',D',E',hak,hFt,g1,hFl]
        refine⟨fun e=>⟨fun e2=>?_,fun e2=>?_⟩,fun e=>?_⟩
        ·refine⟨j-1,by omega,a.dst.toNat,W++[a.by_],by omega,by rw[g1,e2];congr 1;omega,by simp only[L'x,M'2,M'7];omega,htake e (by rw[e2]),?_⟩
         rw[M'r,L'x,Int.toNat_of_nonneg a3];rfl
        ·exact⟨hmore (fun _ h=>e2 (Option.some.inj h)),rfl⟩
        ·exact⟨hmore (fun h=>(e h).elim),rfl⟩
       ·rintro s ⟨hno,rfl⟩
        exact(hno i0 hi0 hi0 hs0 hf0).elim
   |cons x q=>
    obtain⟨d,hw⟩:=hF.look
    have hpos:=hw.pos
    simp only[M'2]at hle
    rcases hV with⟨rfl,rfl⟩|⟨pre,rfl,rfl⟩
    ·simp(maxSteps:=9^9)(disch:=first|omega|(simp only[H'];try omega))only[go_sem,P'k,C',D',E',R'6,Q'n,Int.toNat_one,N'5]
     obtain⟨P,hP⟩:∃P:List Int,P=[x]:=⟨_,rfl⟩
     refine W_for ar.length (fun m s=>∃(F' pre' q':List Int),FW ar p n x d m F' q'/\bndF n F'/\cntU F'+q'.length<=cntU F+q.length/\s=⟨[.any,I p,.ptr 0 0,.any,.ref 1 1 0 n,.any,.qref 2 1 pre'.length q'.length,I x,.any,.any,.any,.any,.any,.any,.any,.any,.sl true 3 (ar.map encA),I ar.length,I m,.any,.any,.any,.any,.any,.any,.any,.any],[.box wla [rows ms,.sl true 3 (ar.map encA)],.row t_int true 1 (F'.map I),.que t_int 1 ((pre'++q').map I)]⟩) ?_ ?_ ?_
     ·refine⟨F,P,q,hw,hbd,L'l _,?_⟩
      simp(maxSteps:=9^9)(disch:=first|omega|(simp only[H'];try omega))only[go_sem,P'k,C',D',E']
      rw[hP]
      first
       |rfl
       |(rw[L'x,hL];rfl)
     ·rintro m s hm2 ⟨F',pre',q',h1,h2,h3,rfl⟩
      obtain⟨a1,a2,a3,a4⟩:=hA _ (P'l hm2)
      have hFl':=h1.len
      have hlt:ar[m].src.toNat<F'.length:=by omega
      obtain⟨u,g1⟩:∃u,F'[ar[m].src.toNat]?=some u:=⟨_,L'v hlt⟩
      clear hlt
      have g2:=h1.at_
      have hdb:=h2 _ _ g2
      have hu:=h1.val _ _ g1
      have o1:=h1.old hm2
      have o2:=h1.new hA hm2
      have hcs:=zb9 (F:=F') (k:=ar[m].src.toNat) (v:=(d:Int)+1)
      have hbs:=z73 (y:=ar[m].src.toNat) h2 g2
      have hdrop:((pre'++q').map I).drop pre'.length=q'.map I:=by rw[<-R'o,R'p]
      have hLl:(pre'++q').length=pre'.length+q'.length:=L'x
      generalize hL':pre'++q'=L' at *
      generalize hak:ar[m]=a at *
      simp(maxSteps:=9^9)(disch:=first|omega|(simp only[H'];try omega))only[go_sem,P'k,C',D',E',hak,g1,g2,hFl',hLl,hdrop]
      refine⟨fun e=>⟨fun hneg=>?_,fun hp'=>?_⟩,fun e=>?_⟩
      ·have hu1:u=-1:=by rcases hu with h|⟨d',h,_⟩<;>omega
       subst hu1
       have:=hcs g1 (by omega)
       refine⟨_,[],q'++[a.src],o2 e g1,hbs g1,by rw[L'x];simp only[M'2,M'7];omega,?_⟩
       rw[M'3,M'r,R'2,L'x];rfl
      ·exact⟨F',pre',q',o1 (fun _=>⟨u,g1,hp'⟩),h2,h3,by rw[hL'];rfl⟩
      ·exact⟨F',pre',q',o1 (fun h=>(e h).elim),h2,h3,by rw[hL'];rfl⟩
     ·rintro s ⟨F',pre',q',h1,h2,h3,rfl⟩
      simp(maxSteps:=9^9)(disch:=first|omega|(simp only[H'];try omega))only[go_sem,P'k,C',D',E']
      exact⟨cntU F'+q'.length,by omega,F',q',_,_,.inr ⟨pre',rfl,rfl⟩,h1.next,h2,rfl,by omega,rfl⟩
    ·have hx:(pre++x::q)[pre.length]?=some x:=by simp
     have hLl:(pre++x::q).length=pre.length+q.length+1:=by simp;omega
     have hL:(pre++x::q)=(pre++[x])++q:=by simp
     obtain⟨P,hP⟩:∃P:List Int,P=pre++[x]:=⟨_,rfl⟩
     generalize pre++x::q=L at *
     have hx':L[pre.length]'(by omega)=x:=by rw[L'v (by omega)]at hx;exact Option.some.inj hx
     simp(maxSteps:=9^9)(disch:=first|omega|(simp only[H'];try omega))only[go_sem,P'k,C',D',E',R'6,hx,hx',hLl,Int.toNat_one,N'5]
     refine W_for ar.length (fun m s=>∃(F' pre' q':List Int),FW ar p n x d m F' q'/\bndF n F'/\cntU F'+q'.length<=cntU F+q.length/\s=⟨[.any,I p,.ptr 0 0,.any,.ref 1 1 0 n,.any,.qref 2 1 pre'.length q'.length,I x,.any,.any,.any,.any,.any,.any,.any,.any,.sl true 3 (ar.map encA),I ar.length,I m,.any,.any,.any,.any,.any,.any,.any,.any],[.box wla [rows ms,.sl true 3 (ar.map encA)],.row t_int true 1 (F'.map I),.que t_int 1 ((pre'++q').map I)]⟩) ?_ ?_ ?_
     ·refine⟨F,P,q,hw,hbd,L'l _,?_⟩
      simp(maxSteps:=9^9)(disch:=first|omega|(simp only[H'];try omega))only[go_sem,P'k,C',D',E']
      rw[hP]
      first
       |rfl
       |(rw[L'x,hL];rfl)
     ·rintro m s hm2 ⟨F',pre',q',h1,h2,h3,rfl⟩
      obtain⟨a1,a2,a3,a4⟩:=hA _ (P'l hm2)
      have hFl':=h1.len
      have hlt:ar[m].src.toNat<F'.length:=by omega
      obtain⟨u,g1⟩:∃u,F'[ar[m].src.toNat]?=some u:=⟨_,L'v hlt⟩
      clear hlt
      have g2:=h1.at_
      have hdb:=h2 _ _ g2
      have hu:=h1.val _ _ g1
      have o1:=h1.old hm2
      have o2:=h1.new hA hm2
      have hcs:=zb9 (F:=F') (k:=ar[m].src.toNat) (v:=(d:Int)+1)
      have hbs:=z73 (y:=ar[m].src.toNat) h2 g2
      have hdrop:((pre'++q').map I).drop pre'.length=q'.map I:=by rw[<-R'o,R'p]
      have hLl:(pre'++q').length=pre'.length+q'.length:=L'x
      generalize hL':pre'++q'=L' at *
      generalize hak:ar[m]=a at *
      simp(maxSteps:=9^9)(disch:=first|omega|(simp only[H'];try omega))only[go_sem,P'k,C',D',E',hak,g1,g2,hFl',hLl,hdrop]
      refine⟨fun e=>⟨fun hneg=>?_,fun hp'=>?_⟩,fun e=>?_⟩
      ·have hu1:u=-1:=by rcases hu with h|⟨d',h,_⟩<;>omega
       subst hu1
       have:=hcs g1 (by omega)
       refine⟨_,[],q'++[a.src],o2 e g1,hbs g1,by rw[L'x];simp only[M'2,M'7];omega,?_⟩
       rw[M'3,M'r,R'2,L'x];rfl
      ·exact⟨F',pre',q',o1 (fun _=>⟨u,g1,hp'⟩),h2,h3,by rw[hL'];rfl⟩
      ·exact⟨F',pre',q',o1 (fun h=>(e h).elim),h2,h3,by rw[hL'];rfl⟩
     ·rintro s ⟨F',pre',q',h1,h2,h3,rfl⟩
      simp(maxSteps:=9^9)(disch:=first|omega|(simp only[H'];try omega))only[go_sem,P'k,C',D',E']
      exact⟨cntU F'+q'.length,by omega,F',q',_,_,.inr ⟨pre',rfl,rfl⟩,h1.next,h2,rfl,by omega,rfl⟩
theorem wk6(a b:List Int)(hl:a.length=b.length)(hb:b.length<2^62):C wbq [ints a,ints b] []=some (.bool (zby a b),[]):=by
 refine w2p ?_
 simp(maxSteps:=9^9)(disch:=first|omega|(simp only[H'];try omega))only[whl,go_sem,P'k,C',D',E']
 refine W_for b.length (fun k s=>s=⟨[ints a,.any,.any,.any,.any,ints b,I b.length,I k,.any,.any],[]⟩/\((a.zip b).take k).all (fun p=>decide (p.2<=p.1))=true) ?_ ?_ ?_
 ·simp(maxSteps:=9^9)(disch:=first|omega|(simp only[H'];try omega))only[go_sem,P'k,C',D',E']
  rfl
 ·rintro k s hk⟨rfl,hall⟩
  simp(maxSteps:=9^9)(disch:=first|omega|(simp only[H'];try omega))only[go_sem,P'k,C',D',E']
  have hz:k<(a.zip b).length:=by simp;omega
  refine⟨fun h=>?_,fun h=>⟨rfl,z2z hz hall (by simp;omega)⟩⟩
  have:zby a b=false:=z2y hz (by simp;omega)
  rw[this]
 ·rintro s⟨rfl,hall⟩
  simp(maxSteps:=9^9)(disch:=first|omega|(simp only[H'];try omega))only[go_sem,P'k,C',D',E']
  rw[List.take_of_length_le (by simp;omega)]at hall
  unfold zby
  rw[hall]
theorem wkw(ms:List (List Int))(ar:List Arc3)(n:Net)(hr:ar.length<2^35)(ht:n.tr.length<2^20):C wce [encN n,.agg [rows ms,.sl true 3 (ar.map encA)]] []=some (.un t_int true 1 ((deadK ar n.tr.length).map I),[]):=by
 refine w34 ?_
 simp(maxSteps:=9^9)(disch:=first|omega|(simp only[H'];try omega))only[wib,go_sem,P'k,C',D',E']
 refine W_for n.tr.length (fun k s=>s=⟨[.any,.any,.any,.ptr 0 0,.any,.ref 1 1 0 (deadK ar k).length,.any,.any,.any,I n.tr.length,I k,.any,.any,.any,.any,.any,.any],[.box wla [rows ms,.sl true 3 (ar.map encA)],.row t_int true 1 ((deadK ar k).map I)]⟩) ?_ ?_ ?_
 ·simp(maxSteps:=9^9)(disch:=first|omega|(simp only[H'];try omega))only[go_sem,P'k,C',D',E']
  rfl
 ·rintro k s hk rfl
  have hl:=zc6 ar k
  have hst:=zc7 ar k
  rw[hst]
  generalize deadK ar k=D at *
  simp(maxSteps:=9^9)(disch:=first|omega|(simp only[H'];try omega))only[go_sem,P'k,C',D',E']
  refine W_for ar.length (fun j s=>s=⟨[.any,.any,.any,.ptr 0 0,.any,.ref 1 1 0 D.length,I k,.bool ((ar.take j).any fun a=>decide (a.by_=(k:Int))),.any,I n.tr.length,I k,.any,.sl true 3 (ar.map encA),I ar.length,I j,.any,.any],[.box wla [rows ms,.sl true 3 (ar.map encA)],.row t_int true 1 (D.map I)]⟩) ?_ ?_ ?_
  ·simp(maxSteps:=9^9)(disch:=first|omega|(simp only[H'];try omega))only[go_sem,P'k,C',D',E']
   rfl
  ·rintro j s hj rfl
   have e1:(ar.take (j+1)).any (fun a=>decide (a.by_=(k:Int)))=((ar.take j).any (fun a=>decide (a.by_=(k:Int)))||decide (ar[j].by_=(k:Int))):=by
    rw[P'z hj,List.any_append];simp
   rw[e1]
   generalize(ar.take j).any (fun a=>decide (a.by_=(k:Int)))=q at *
   generalize hA:ar[j]=a at *
   cases q with
   |true=>
    simp(maxSteps:=9^9)(disch:=first|omega|(simp only[H'];try omega))only[go_sem,P'k,C',D',E',hA]
    first| done| rfl| simp
   |false=>
    simp(maxSteps:=9^9)(disch:=first|omega|(simp only[H'];try omega))only[go_sem,P'k,C',D',E',hA]
    first| done| rfl| (by_cases h:a.by_=(k:Int)<;>simp[h])
  ·rintro s rfl
   rw[M'i]
   cases ha:ar.any fun a=>decide (a.by_=(k:Int))with
   |true=>
    simp(maxSteps:=9^9)(disch:=first|omega|(simp only[H'];try omega))only[go_sem,P'k,C',D',E']
    simp
   |false=>
    simp(maxSteps:=9^9)(disch:=first|omega|(simp only[H'];try omega))only[go_sem,P'k,C',D',E']
    simp
 ·rintro s rfl
  simp(maxSteps:=9^9)(disch:=first|omega|(simp only[H'];try omega))only[go_sem,P'k,C',D',E']
theorem wl2(f:Fl)(ms:List (List Int))(ar:List Arc3)(hg:zji f=true)(hm:ms.length<2^30)(hr:ar.length<2^35)(hb:Bfs ar ms.length)(h0:0<ms.length)(hxs:∀x∈ms,x.length=f.net.pl.toNat) :
  C wck [encF f,.agg [rows ms,.sl true 3 (ar.map encA)]] []=some (vdPV (chkV f.net.tr.length ms ar (oneM f.net.pl.toNat f.dst)),[]):=by
 have he:=wl3 f hg
 obtain⟨g1,g2,g3,_⟩:=zjm hg
 have hn:=zjy g1
 have hEl:(oneM f.net.pl.toNat f.dst).length=f.net.pl.toNat:=by simp[oneM]
 have hdd:=wkw ms ar f.net hr (by omega)
 have hdl:=zc6 ar f.net.tr.length
 unfold chkV
 generalize oneM f.net.pl.toNat f.dst=E at *
 generalize oneM f.net.pl.toNat f.src=E0 at *
 generalize deadK ar f.net.tr.length=D at *
 have fd:=wky ms E (by omega) (fun x hx=>by have:=hxs x hx;omega)
 have hfg:=fun h=>(zgl (l:=ms) (m:=E) h).1
 have hS:∀k∈endS ms E,0<=k/\k<ms.length:=by
  intro k hk
  unfold endS at hk
  split at hk
  ·rename_i h
   have:=hfg h
   rw[List.mem_singleton]at hk
   omega
  ·simp at hk
 have hto:=wkz ms ar (endS ms E) (by omega) (by omega) (by unfold endS;split<;>simp) hb.inn hS
 have hcl:=z1fo ar ms.length (endS ms E)
 have hway:=fun p hp=>wl0 ms ar p hm hr hb hp
 have hend:endS ms E=if 0<=findM ms E then[findM ms E]else[]:=rfl
 generalize endS ms E=S at *
 generalize findM ms E=z at *
 generalize toL ar ms.length S=c at *
 generalize hV:(if 0<=idxI c (fun x=>x==false)then(⟨2,1,tw ar (idxI c (fun x=>x==false)).toNat,0⟩:Vd)else if 0<=idxI ms (fun m=>overB m E)then⟨2,2,tw ar (idxI ms (fun m=>overB m E)).toNat,0⟩else if 0<D.length then⟨2,3,[],D.getD 0 0⟩else⟨1,0,[],0⟩)=V
 by_cases hz:0<=z
 ·rw[if_pos hz]at hend
  subst hend
  simp only[ints,List.map_cons,R'4]at hto
  refine w3a ?_
  simp(maxSteps:=9^9)(disch:=first|omega|(simp only[H'];try omega))only[wih,go_sem,P'k,C',D',E']
  simp(maxSteps:=9^9)(disch:=first|omega|(simp only[H'];try omega))only[go_sem,P'k,C',D',E',he,fd,hz,hto]
  refine W_for c.length (fun k s=>s=⟨[.any,.any,.ptr 0 0,.ptr 1 0,.ptr 2 0,.ref 3 1 0 E.length,.any,.any,.any,.any,.any,.any,.any,.any,.ref 4 1 0 c.length,I c.length,I k,.any,.any,.any,.any,.any,.any,.any,.any],[.box wl8 [I f.net.pl,trs f.net.tr,I f.src,I f.dst],.box wla [rows ms,.sl true 3 (ar.map encA)],.box wlc [I 0,I 0,.nil true 1,I 0],.row t_int true 1 (E.map I),.row wl5 true 1 (c.map PV.bool)]⟩/\(c.take k).any (fun x=>x==false)=false) ?_ ?_ ?_
  ·simp(maxSteps:=9^9)(disch:=first|omega|(simp only[H'];try omega))only[go_sem,P'k,C',D',E']
   simp
  ·rintro k s hk⟨rfl,h0⟩
   have e1:=z3e (p:=fun x:Bool=>x==false) hk h0
   have e2:=fun h=>zl4 (p:=fun x:Bool=>x==false) hk h0 h
   have e3:c[k]?=some c[k]:=L'v hk
   generalize c[k]=b at *
   cases b with
   |true=>
    simp(maxSteps:=9^9)(disch:=first|omega|(simp only[H'];try omega))only[go_sem,P'k,C',D',E',e3]
    exact⟨rfl,e1 rfl⟩
   |false=>
    have hw:=hway k (by omega)
    simp(maxSteps:=9^9)(disch:=first|omega|(simp only[H'];try omega))only[go_sem,P'k,C',D',E',e3,hw]
    rw[<-hV,e2 rfl,if_pos (by omega),P'm];rfl
  ·rintro s⟨rfl,h0⟩
   rw[M'i]at h0
   have n1:=zl3 h0
   simp(maxSteps:=9^9)(disch:=first|omega|(simp only[H'];try omega))only[go_sem,P'k,C',D',E']
   refine W_for ms.length (fun k s=>s=⟨[.any,.any,.ptr 0 0,.ptr 1 0,.ptr 2 0,.ref 3 1 0 E.length,.any,.any,.any,.any,.any,.any,.any,.any,.any,.any,.any,.any,.any,rows ms,I ms.length,I k,.any,.any,.any],[.box wl8 [I f.net.pl,trs f.net.tr,I f.src,I f.dst],.box wla [rows ms,.sl true 3 (ar.map encA)],.box wlc [I 0,I 0,.nil true 1,I 0],.row t_int true 1 (E.map I)]⟩/\(ms.take k).any (fun m=>overB m E)=false) ?_ ?_ ?_
   ·simp(maxSteps:=9^9)(disch:=first|omega|(simp only[H'];try omega))only[go_sem,P'k,C',D',E']
    simp
   ·rintro k s hk⟨rfl,h0⟩
    have e1:=z3e (p:=fun m=>overB m E) hk h0
    have e2:=fun h=>zl4 (p:=fun m=>overB m E) hk h0 h
    have e3:ms[k]?=some ms[k]:=L'v hk
    have e4:=hxs _ (P'l hk)
    have c1:=wk6 ms[k] E (by omega) (by omega)
    have c2:=wko ms[k] E (by omega)
    have hw:=hway k hk
    unfold overB at e1 e2
    generalize ms[k]=x at *
    generalize zby x E=q1 at *
    generalize decide (x=E)=q2 at *
    cases q1<;>cases q2
    ·simp(maxSteps:=9^9)(disch:=first|omega|(simp only[H'];try omega))only[go_sem,P'k,C',D',E',e3,c1,c2]
     exact⟨rfl,e1 rfl⟩
    ·simp(maxSteps:=9^9)(disch:=first|omega|(simp only[H'];try omega))only[go_sem,P'k,C',D',E',e3,c1,c2]
     exact⟨rfl,e1 rfl⟩
    ·simp(maxSteps:=9^9)(disch:=first|omega|(simp only[H'];try omega))only[go_sem,P'k,C',D',E',e3,c1,c2,hw]
     rw[<-hV,n1,if_neg (by decide)]
     unfold overB
     rw[e2 rfl,if_pos (by omega),P'm];rfl
    ·simp(maxSteps:=9^9)(disch:=first|omega|(simp only[H'];try omega))only[go_sem,P'k,C',D',E',e3,c1,c2]
     exact⟨rfl,e1 rfl⟩
   ·rintro s⟨rfl,h0⟩
    rw[M'i]at h0
    have n2:=zl3 h0
    cases D with
    |nil=>
     simp(maxSteps:=9^9)(disch:=first|omega|(simp only[H'];try omega))only[go_sem,P'k,C',D',E',hdd]
     rw[<-hV,n1,n2];rfl
    |cons d D=>
     simp(maxSteps:=9^9)(disch:=first|omega|(simp only[H'];try omega))only[go_sem,P'k,C',D',E',hdd,R'6,Q'n]
     rw[<-hV,n1,n2];rfl
 ·rw[if_neg hz]at hend
  subst hend
  simp only[ints,R'4]at hto
  refine w3a ?_
  simp(maxSteps:=9^9)(disch:=first|omega|(simp only[H'];try omega))only[wih,go_sem,P'k,C',D',E']
  simp(maxSteps:=9^9)(disch:=first|omega|(simp only[H'];try omega))only[go_sem,P'k,C',D',E',he,fd,hz,hto]
  refine W_for c.length (fun k s=>s=⟨[.any,.any,.ptr 0 0,.ptr 1 0,.ptr 2 0,.ref 3 1 0 E.length,.any,.any,.any,.any,.any,.any,.any,.any,.ref 4 1 0 c.length,I c.length,I k,.any,.any,.any,.any,.any,.any,.any,.any],[.box wl8 [I f.net.pl,trs f.net.tr,I f.src,I f.dst],.box wla [rows ms,.sl true 3 (ar.map encA)],.box wlc [I 0,I 0,.nil true 1,I 0],.row t_int true 1 (E.map I),.row wl5 true 1 (c.map PV.bool)]⟩/\(c.take k).any (fun x=>x==false)=false) ?_ ?_ ?_
  ·simp(maxSteps:=9^9)(disch:=first|omega|(simp only[H'];try omega))only[go_sem,P'k,C',D',E']
   simp
  ·rintro k s hk⟨rfl,h0⟩
   have e1:=z3e (p:=fun x:Bool=>x==false) hk h0
   have e2:=fun h=>zl4 (p:=fun x:Bool=>x==false) hk h0 h
   have e3:c[k]?=some c[k]:=L'v hk
   generalize c[k]=b at *
   cases b with
   |true=>
    simp(maxSteps:=9^9)(disch:=first|omega|(simp only[H'];try omega))only[go_sem,P'k,C',D',E',e3]
    exact⟨rfl,e1 rfl⟩
   |false=>
    have hw:=hway k (by omega)
    simp(maxSteps:=9^9)(disch:=first|omega|(simp only[H'];try omega))only[go_sem,P'k,C',D',E',e3,hw]
    rw[<-hV,e2 rfl,if_pos (by omega),P'm];rfl
  ·rintro s⟨rfl,h0⟩
   rw[M'i]at h0
   have n1:=zl3 h0
   simp(maxSteps:=9^9)(disch:=first|omega|(simp only[H'];try omega))only[go_sem,P'k,C',D',E']
   refine W_for ms.length (fun k s=>s=⟨[.any,.any,.ptr 0 0,.ptr 1 0,.ptr 2 0,.ref 3 1 0 E.length,.any,.any,.any,.any,.any,.any,.any,.any,.any,.any,.any,.any,.any,rows ms,I ms.length,I k,.any,.any,.any],[.box wl8 [I f.net.pl,trs f.net.tr,I f.src,I f.dst],.box wla [rows ms,.sl true 3 (ar.map encA)],.box wlc [I 0,I 0,.nil true 1,I 0],.row t_int true 1 (E.map I)]⟩/\(ms.take k).any (fun m=>overB m E)=false) ?_ ?_ ?_
   ·simp(maxSteps:=9^9)(disch:=first|omega|(simp only[H'];try omega))only[go_sem,P'k,C',D',E']
    simp
   ·rintro k s hk⟨rfl,h0⟩
    have e1:=z3e (p:=fun m=>overB m E) hk h0
    have e2:=fun h=>zl4 (p:=fun m=>overB m E) hk h0 h
    have e3:ms[k]?=some ms[k]:=L'v hk
    have e4:=hxs _ (P'l hk)
    have c1:=wk6 ms[k] E (by omega) (by omega)
    have c2:=wko ms[k] E (by omega)
    have hw:=hway k hk
    unfold overB at e1 e2
    generalize ms[k]=x at *
    generalize zby x E=q1 at *
    generalize decide (x=E)=q2 at *
    cases q1<;>cases q2
    ·simp(maxSteps:=9^9)(disch:=first|omega|(simp only[H'];try omega))only[go_sem,P'k,C',D',E',e3,c1,c2]
     exact⟨rfl,e1 rfl⟩
    ·simp(maxSteps:=9^9)(disch:=first|omega|(simp only[H'];try omega))only[go_sem,P'k,C',D',E',e3,c1,c2]
     exact⟨rfl,e1 rfl⟩
    ·simp(maxSteps:=9^9)(disch:=first|omega|(simp only[H'];try omega))only[go_sem,P'k,C',D',E',e3,c1,c2,hw]
     rw[<-hV,n1,if_neg (by decide)]
     unfold overB
     rw[e2 rfl,if_pos (by omega),P'm];rfl
    ·simp(maxSteps:=9^9)(disch:=first|omega|(simp only[H'];try omega))only[go_sem,P'k,C',D',E',e3,c1,c2]
     exact⟨rfl,e1 rfl⟩
   ·rintro s⟨rfl,h0⟩
    rw[M'i]at h0
    have n2:=zl3 h0
    cases D with
    |nil=>
     simp(maxSteps:=9^9)(disch:=first|omega|(simp only[H'];try omega))only[go_sem,P'k,C',D',E',hdd]
     rw[<-hV,n1,n2];rfl
    |cons d D=>
     simp(maxSteps:=9^9)(disch:=first|omega|(simp only[H'];try omega))only[go_sem,P'k,C',D',E',hdd,R'6,Q'n]
     rw[<-hV,n1,n2];rfl
theorem wjy(f:Fl)(b:Int)(hg:zji f=true)(hb:inB 1 400 b=true)(hf:smN f.net):C wbi [encF f,I b] []=some (.tup [vdPV (sndV f b),.bool true],[]):=by
 have ha:=wl1 f b hf
 rw[hg,hb]at ha
 have he:=wl3 f hg
 have hx:=wkx f.net (oneM f.net.pl.toNat f.src) b (zxf hg) (by simp only[inB,Bool.and_eq_true,decide_eq_true_eq]at hb;omega)
 obtain⟨f1,f2,f3,f4,f5,f6⟩:=w8e hg hb
 unfold sndV
 have hcd:=ze6 f.net (oneM f.net.pl.toNat f.src) b
 have hck:=wl2 f (exAll f.net (oneM f.net.pl.toNat f.src) b).sp.ms (exAll f.net (oneM f.net.pl.toNat f.src) b).sp.ar hg (by omega) (by omega) f4 f5 f6
 have hwl:=z9u (nt:=f.net.tr.length) (E:=oneM f.net.pl.toNat f.dst) f4
 have hcw:=z9v f.net.tr.length (exAll f.net (oneM f.net.pl.toNat f.src) b).sp.ms (exAll f.net (oneM f.net.pl.toNat f.src) b).sp.ar (oneM f.net.pl.toNat f.dst)
 generalize chkV f.net.tr.length (exAll f.net (oneM f.net.pl.toNat f.src) b).sp.ms (exAll f.net (oneM f.net.pl.toNat f.src) b).sp.ar (oneM f.net.pl.toNat f.dst)=V at *
 generalize exAll f.net (oneM f.net.pl.toNat f.src) b=R at *
 have hEl:(oneM f.net.pl.toNat f.src).length=f.net.pl.toNat:=by simp[oneM]
 generalize oneM f.net.pl.toNat f.src=E0 at *
 generalize oneM f.net.pl.toNat f.dst=E at *
 by_cases hc:R.code=0
 ·rw[if_pos hc]
  unfold vdPV at hck
  by_cases hk:V.kind=1\/V.kind=2
  ·rw[if_pos hk]at hck
   have e1:vdPV V=.agg [I V.ok,I V.kind,.un t_int true 1 (V.way.map I),I V.dead]:=by unfold vdPV;rw[if_pos hk]
   by_cases hl:V.way.length<=60
   ·rw[if_pos hl,e1]
    by_cases har:R.sp.ar=[]
    ·simp only[exPV,w8c,arcPV,hc,har,if_true]at hx
     simp only[har,R'4]at hck
     refine w2i ?_
     simp(maxSteps:=9^9)(disch:=first|omega|(simp only[H'];try omega))only[whd,go_sem,P'k,C',D',E']
     simp(maxSteps:=9^9)(disch:=first|omega|(simp only[H'];try omega))only[go_sem,P'k,C',D',E',ha,he,hx,hck]
     first| done| rfl
    ·simp only[exPV,w8c,arcPV,hc,har,if_true,if_false]at hx
     refine w2i ?_
     simp(maxSteps:=9^9)(disch:=first|omega|(simp only[H'];try omega))only[whd,go_sem,P'k,C',D',E']
     simp(maxSteps:=9^9)(disch:=first|omega|(simp only[H'];try omega))only[go_sem,P'k,C',D',E',ha,he,hx,hck]
     first| done| rfl
   ·rw[if_neg hl]
    by_cases har:R.sp.ar=[]
    ·simp only[exPV,w8c,arcPV,hc,har,if_true]at hx
     simp only[har,R'4]at hck
     refine w2i ?_
     simp(maxSteps:=9^9)(disch:=first|omega|(simp only[H'];try omega))only[whd,go_sem,P'k,C',D',E']
     simp(maxSteps:=9^9)(disch:=first|omega|(simp only[H'];try omega))only[go_sem,P'k,C',D',E',ha,he,hx,hck]
     first| done| rfl
    ·simp only[exPV,w8c,arcPV,hc,har,if_true,if_false]at hx
     refine w2i ?_
     simp(maxSteps:=9^9)(disch:=first|omega|(simp only[H'];try omega))only[whd,go_sem,P'k,C',D',E']
     simp(maxSteps:=9^9)(disch:=first|omega|(simp only[H'];try omega))only[go_sem,P'k,C',D',E',ha,he,hx,hck]
     first| done| rfl
  ·rw[if_neg hk]at hck
   have e1:vdPV V=.agg [I V.ok,I V.kind,.nil true 1,I V.dead]:=by unfold vdPV;rw[if_neg hk]
   rw[hcw hk,if_pos (by simp),e1]
   by_cases har:R.sp.ar=[]
   ·simp only[exPV,w8c,arcPV,hc,har,if_true]at hx
    simp only[har,R'4]at hck
    refine w2i ?_
    simp(maxSteps:=9^9)(disch:=first|omega|(simp only[H'];try omega))only[whd,go_sem,P'k,C',D',E']
    simp(maxSteps:=9^9)(disch:=first|omega|(simp only[H'];try omega))only[go_sem,P'k,C',D',E',ha,he,hx,hck]
   ·simp only[exPV,w8c,arcPV,hc,har,if_true,if_false]at hx
    refine w2i ?_
    simp(maxSteps:=9^9)(disch:=first|omega|(simp only[H'];try omega))only[whd,go_sem,P'k,C',D',E']
    simp(maxSteps:=9^9)(disch:=first|omega|(simp only[H'];try omega))only[go_sem,P'k,C',D',E',ha,he,hx,hck]
 ·have hc1:¬R.code=1:=by omega
  rw[if_neg hc]
  simp only[exPV,w8c,hc,if_false]at hx
  refine w2i ?_
  simp(maxSteps:=9^9)(disch:=first|omega|(simp only[H'];try omega))only[whd,go_sem,P'k,C',D',E']
  simp(maxSteps:=9^9)(disch:=first|omega|(simp only[H'];try omega))only[go_sem,P'k,C',D',E',ha,he,hx,hc1]
  first| done| rfl
theorem wiu(n:Nat)(hn:n<2^31):C waf [.int .u64 1,.int .u64 n] []=some (.tup [.int .u64 0,.int .u64 n],[]):=by
 have h1:bits .and .u64 1 4294967295=1:=bits_and_u64_nat 1 4294967295 (by omega) (by omega)
 have h0:bits .and .u64 0 4294967295=0:=bits_and_u64_nat 0 4294967295 (by omega) (by omega)
 have h2:bits .and .u64 (n:Int) 4294967295=n:=by
  have:=bits_and_u64_nat n 4294967295 (by omega) (by omega)
  rw[show(4294967295:Nat)=2^32-1 from rfl,Nat.and_two_pow_sub_one_eq_mod,Nat.mod_eq_of_lt (by omega)]at this
  exact this
 have h3:(1:Int)/2^min (R'f 32) 64=0:=by decide
 have h4:(0:Int)/2^min (R'f 32) 64=0:=by decide
 have h5:(n:Int)/2^min (R'f 32) 64=0:=by show(n:Int)/4294967296=0;omega
 have h6:IntKind.u64.wrap (n:Int)=n:=by rw[IntKind.wrap_u64];omega
 have h7:IntKind.u64.wrap 0=0:=by decide
 refine w1s ?_
 simp(maxSteps:=9^9)(disch:=first|omega|(simp only[H'];try omega))only[wgd,go_sem,P'k,C',D',E']
 simp(maxSteps:=9^9)(disch:=first|omega|(simp only[H'];try omega))only[go_sem,P'k,C',D',E',h0,h1,h2,h3,h4,h5,h6,h7,Int.one_mul,Int.zero_mul,Int.mul_zero,Int.add_zero,Int.zero_add]
 first| done| rfl
theorem wiv(n:Nat)(hn:n<2^31):C wad [.int .u64 1,.int .u64 n] []=some (.tup [.int .u64 0,.int .u64 n],[]):=by
 have h:=wiu n hn
 refine w1r ?_
 simp(maxSteps:=9^9)(disch:=first|omega|(simp only[H'];try omega))only[wgb,go_sem,P'k,C',D',E']
 simp(maxSteps:=9^9)(disch:=first|omega|(simp only[H'];try omega))only[go_sem,P'k,C',D',E',h]
theorem wjd(v:Int)(n:Nat)(h0:0<n)(hn:n<2^30):C waz [.sl true 1 [I v],I n] []=some (.un t_int true 1 (L'0 n (I v)),[]):=by
 have h:=wiv n (by omega)
 have h6:IntKind.u64.wrap (n:Int)=n:=by rw[IntKind.wrap_u64];omega
 have h7:IntKind.u64.wrap 1=1:=by decide
 have h8:IntKind.i64.wrap (n:Int)=n:=by rw[IntKind.wrap_i64];omega
 refine w29 ?_
 simp(maxSteps:=9^9)(disch:=first|omega|(simp only[H'];try omega))only[wgu,go_sem,P'k,C',D',E']
 simp(maxSteps:=9^9)(disch:=first|omega|(simp only[H'];try omega))only[go_sem,P'k,C',D',E',h,h6,h7,h8,Int.ofNat_one]
 refine z1a (fun k s=>∃m:Nat,1<=m/\m<=n/\k=n-m/\s=⟨[.any,.any,.any,.any,.any,.ref 0 1 0 n,I m,.any,.any,.any],[.row t_int true 1 (L'0 m (I v)++L'0 (n-m) (I 0))]⟩) (n-1) ?_ ?_
 ·simp(maxSteps:=9^9)(disch:=first|omega|(simp only[H'];try omega))only[go_sem,P'k,C',D',E']
  refine⟨1,by omega,by omega,rfl,?_⟩
  rw[show min 1 n=1 by omega,R'q]
  rfl
 ·rintro k s⟨m,m1,m2,rfl,rfl⟩
  by_cases hm:(m:Int)<n
  ·have e1:(L'0 m (I v)++L'0 (n-m) (I 0)).length=n:=by simp;omega
   have e2:(L'0 m (I v)++L'0 (n-m) (I 0)).take m=L'0 m (I v):=by rw[List.take_append_of_le_length (by simp)];simp
   have e3:splice (L'0 m (I v)++L'0 (n-m) (I 0)) m (List.take (min m (n-m)) (L'0 m (I v)))=L'0 (m+min m (n-m)) (I v)++L'0 (n-(m+min m (n-m))) (I 0):=by
    unfold splice
    rw[e2,List.take_replicate,show min (min m (n-m)) m=min m (n-m)by omega,M'j,List.drop_append,List.drop_of_length_le (by simp),M'3,M'j,R'q,List.replicate_append_replicate]
    congr 2
    omega
   obtain⟨E,hE⟩:∃E,L'0 m (I v)++L'0 (n-m) (I 0)=E:=⟨_,rfl⟩
   obtain⟨q,hq⟩:∃q,min m (n-m)=q:=⟨_,rfl⟩
   rw[hE]at e1 e2 e3 ⊢
   rw[hq]at e3
   unfold splice at e3
   rw[e2]at e3
   simp(maxSteps:=9^9)(disch:=first|omega|(simp only[H'];try omega))only[go_sem,P'k,C',D',E',hm,e1,e2,hq,e3,Nat.sub_zero,M'j]
   exact⟨n-(m+q),by omega,m+q,by omega,by omega,rfl,by rw[show((m+q:Nat):Int)=(m:Int)+(q:Int)by omega]⟩
  ·simp(maxSteps:=9^9)(disch:=first|omega|(simp only[H'];try omega))only[go_sem,P'k,C',D',E',hm]
   rw[show n-m=0 by omega,show m=n by omega]
   simp
theorem wdq(ms:List (List Int))(ar:List Arc3)(p:Nat)(b:Bool)(hm:ms.length<2^30)(hr:ar.length<2^35)(hin:z44 ar ms.length)(hp:p<ms.length) :
  Lw (C w9j [.agg [rows ms,.sl true 3 (ar.map encA)],I p,.bool b] []) fun r=>∃F:List Int,r=(.un t_int true 1 (F.map I),[])/\isFar (dirA b ar) p ms.length F:=by
 have h1:=wjd (-1) ms.length (by omega) (by omega)
 have hin2:=zcq (b:=b) hin
 obtain⟨n,hn⟩:∃n,ms.length=n:=⟨_,rfl⟩
 have hrep:L'0 ms.length (I (-1))=(L'0 ms.length (-1)).map I:=by simp
 have hst:=Lvl.start (ar:=dirA b ar) (p:=(p:Int)) (n:=ms.length) (by omega)
 rw[P'm]at hst
 rw[hrep]at h1
 have hRl:(L'0 ms.length (-1:Int)).length=ms.length:=by simp
 generalize L'0 ms.length (-1:Int)=R0 at *
 refine w3e ?_
 simp(maxSteps:=9^9)(disch:=first|omega|(simp only[H'];try omega))only[wfg,go_sem,P'k,C',D',E']
 simp(maxSteps:=9^9)(disch:=first|omega|(simp only[H'];try omega))only[go_sem,P'k,C',D',E',h1,hRl]
 refine z1a (fun k s=>∃(F:List Int) (d:Nat) (f:Bool),s=⟨[.any,.any,.bool b,.ptr 0 0,.any,.ref 1 1 0 ms.length,I d,.bool f,.any,.any,.any,.any,.any,.any,.any,.any,.any,.any],[.box wla [rows ms,.sl true 3 (ar.map encA)],.row t_int true 1 (F.map I)]⟩/\((f=true/\d+cntU F<=2^40/\Lvl (dirA b ar) p ms.length d F/\k=cntU F+1)\/(f=false/\isFar (dirA b ar) p ms.length F/\k=0))) (cntU (R0.set p 0)+1) ?_ ?_
 ·simp(maxSteps:=9^9)(disch:=first|omega|(simp only[H'];try omega))only[go_sem,P'k,C',D',E']
  have hcu:cntU (R0.set p 0)<=R0.length:=by
   unfold cntU
   have:=Q's (p:=fun x:Int=>decide (x<0)) (l:=R0.set p 0)
   simpa using this
  exact⟨R0.set p 0,0,true,by rw[R'2];rfl,rfl,by omega,hst,rfl⟩
 ·rintro k s ⟨F,d,f,rfl,⟨rfl,hdb,hF,rfl⟩|⟨rfl,hF,rfl⟩⟩
  ·have hFl:=hF.len
   simp(maxSteps:=9^9)(disch:=first|omega|(simp only[H'];try omega))only[go_sem,P'k,C',D',E']
   refine W_for ar.length (fun j s=>∃(G:List Int) (f:Bool),cntU G<=cntU F/\(f=true->cntU G<cntU F)/\(f=false->G=F)/\Lvm (dirA b ar) p ms.length d j f G/\s=⟨[.any,.any,.bool b,.ptr 0 0,.any,.ref 1 1 0 ms.length,I d,.bool f,.any,.any,.any,.any,.sl true 3 (ar.map encA),I ar.length,I j,.any,.any,.any],[.box wla [rows ms,.sl true 3 (ar.map encA)],.row t_int true 1 (G.map I)]⟩) ?_ ?_ ?_
   ·simp(maxSteps:=9^9)(disch:=first|omega|(simp only[H'];try omega))only[go_sem,P'k,C',D',E']
    exact⟨F,false,L'l _,by simp,by simp,hF.mid,rfl⟩
   ·rintro j s hj ⟨G,f,c1,c2,c3,hG,rfl⟩
    have e1:ar[j]?=some ar[j]:=L'v hj
    have e2:=zcp (b:=b) hj
    have hjd:j<(dirA b ar).length:=by rw[zcr];exact hj
    have hold:=hG.old hjd hin2
    have hnew:=hG.new hjd hin2
    have hup:=hG.up
    have hGl:=hG.len
    obtain⟨a1,a2,a3,a4⟩:=hin _ (P'l hj)
    rw[e2]at hold hnew
    generalize ar[j]=a at *
    obtain⟨x,t,y⟩:=a
    simp only at a1 a2 a3 a4
    obtain⟨x',rfl⟩:∃x':Nat,x=x':=⟨x.toNat,by omega⟩
    obtain⟨y',rfl⟩:∃y':Nat,y=y':=⟨y.toNat,by omega⟩
    have hx:x'<G.length:=by omega
    have hy:y'<G.length:=by omega
    have g1:G[x']?=some G[x']:=L'v hx
    have g2:G[y']?=some G[y']:=L'v hy
    cases b with
    |true=>
     simp only[if_true,P'm,g1,g2]at hold hnew
     have t2:=hG.two (k:=x') (by omega) g1
     have hcs:=zb9 (F:=G) (k:=x') (v:=((d+1:Nat):Int))
     rw[g1]at hcs
     generalize G[y']=u at *
     generalize G[x']=v at *
     by_cases hu:u=(d:Int)
     ·by_cases hv:v<0
      ·obtain rfl:v=-1:=by omega
       subst hu
       have hc2:=hcs rfl (by omega)
       simp(maxSteps:=9^9)(disch:=first|omega|(simp only[H'];try omega))only[go_sem,P'k,C',D',E',e1,g1,g2,hGl]
       exact⟨G.set x' ((d+1:Nat):Int),true,by omega,fun _=>by omega,(by intro h;cases h),hnew rfl rfl,rfl⟩
      ·have h3:=hold (fun h=>by have:=Option.some.inj h.2;omega)
       simp(maxSteps:=9^9)(disch:=first|omega|(simp only[H'];try omega))only[go_sem,P'k,C',D',E',e1,g1,g2,hGl,hu,hv]
       exact⟨G,f,c1,c2,c3,h3,rfl⟩
     ·have h3:=hold (fun h=>hu (Option.some.inj h.1))
      simp(maxSteps:=9^9)(disch:=first|omega|(simp only[H'];try omega))only[go_sem,P'k,C',D',E',e1,g1,g2,hGl,hu]
      exact⟨G,f,c1,c2,c3,h3,rfl⟩
    |false=>
     simp only[Bool.false_eq_true,if_false,P'm,g1,g2]at hold hnew
     have t2:=hG.two (k:=y') (by omega) g2
     have hcs:=zb9 (F:=G) (k:=y') (v:=((d+1:Nat):Int))
     rw[g2]at hcs
     generalize G[x']=u at *
     generalize G[y']=v at *
     by_cases hu:u=(d:Int)
     ·by_cases hv:v<0
      ·obtain rfl:v=-1:=by omega
       subst hu
       have hc2:=hcs rfl (by omega)
       simp(maxSteps:=9^9)(disch:=first|omega|(simp only[H'];try omega))only[go_sem,P'k,C',D',E',e1,g1,g2,hGl]
       exact⟨G.set y' ((d+1:Nat):Int),true,by omega,fun _=>by omega,(by intro h;cases h),hnew rfl rfl,rfl⟩
      ·have h3:=hold (fun h=>by have:=Option.some.inj h.2;omega)
       simp(maxSteps:=9^9)(disch:=first|omega|(simp only[H'];try omega))only[go_sem,P'k,C',D',E',e1,g1,g2,hGl,hu,hv]
       exact⟨G,f,c1,c2,c3,h3,rfl⟩
     ·have h3:=hold (fun h=>hu (Option.some.inj h.1))
      simp(maxSteps:=9^9)(disch:=first|omega|(simp only[H'];try omega))only[go_sem,P'k,C',D',E',e1,g1,g2,hGl,hu]
      exact⟨G,f,c1,c2,c3,h3,rfl⟩
   ·rintro s ⟨G,f,c1,c2,c3,hG,rfl⟩
    rw[<-zcr b]at hG
    cases f with
    |true=>
     have:=c2 rfl
     simp(maxSteps:=9^9)(disch:=first|omega|(simp only[H'];try omega))only[go_sem,P'k,C',D',E']
     exact⟨cntU G+1,by omega,G,d+1,true,rfl,.inl ⟨rfl,by omega,hG.end_ hin2,rfl⟩⟩
    |false=>
     simp(maxSteps:=9^9)(disch:=first|omega|(simp only[H'];try omega))only[go_sem,P'k,C',D',E']
     exact⟨0,by omega,G,d+1,false,rfl,.inr ⟨rfl,hG.done hin2 (by omega),rfl⟩⟩
  ·have hFl:=hF.len
   simp(maxSteps:=9^9)(disch:=first|omega|(simp only[H'];try omega))only[go_sem,P'k,C',D',E',hFl]
   first|done|exact⟨F,rfl,hF⟩
theorem w8a(x:Int):C w8i [I x] []=some (.bool false,[]):=by
 refine w01 ?_
 simp(maxSteps:=9^9)(disch:=first|omega|(simp only[H'];try omega))only[wed,go_sem,P'k,C',D',E']
theorem w89(x y:Int):C w8h [I x,I y] []=some (I (cmpI x y),[]):=by
 refine w00 ?_
 simp(maxSteps:=9^9)(disch:=first|omega|(simp only[H'];try omega))only[wec,go_sem,P'k,C',D',E']
 simp(maxSteps:=9^9)(disch:=first|omega|(simp only[H'];try omega))only[go_sem,P'k,C',D',E',w8a]
 unfold cmpI
 refine⟨fun h=>by rw[if_pos h],fun h=>⟨fun h2=>by rw[if_neg (by omega),if_pos h2],fun h2=>by rw[if_neg (by omega),if_neg (by omega)]⟩⟩
theorem wix(a b:List Int)(ha:a.length<2^60)(hb:b.length<2^60):C wah [ints a,ints b] []=some (I (cmpL a b),[]):=by
 refine w1t ?_
 simp(maxSteps:=9^9)(disch:=first|omega|(simp only[H'];try omega))only[wge,go_sem,P'k,C',D',E']
 refine W_for a.length (fun k s=>s=⟨[ints a,ints b,.any,.any,.any,.any,.any,ints a,I a.length,I k,.any,.any,.any,.any],[]⟩/\k<=b.length/\a.take k=b.take k) ?_ ?_ ?_
 ·simp(maxSteps:=9^9)(disch:=first|omega|(simp only[H'];try omega))only[go_sem,P'k,C',D',E']
  simp
 ·rintro k s hk⟨rfl,h1,h2⟩
  have e1:a[k]?=some a[k]:=L'v hk
  by_cases hkb:(b.length:Int)<=k
  ·have:=zat h2 hk (by omega)
   simp(maxSteps:=9^9)(disch:=first|omega|(simp only[H'];try omega))only[go_sem,P'k,C',D',E',e1,hkb]
   rw[this]
  ·have hkb2:k<b.length:=by omega
   have e2:b[k]?=some b[k]:=L'v hkb2
   have e3:=zap h2 hk hkb2
   have e4:cmpI a[k] b[k]=0->a.take (k+1)=b.take (k+1):=fun h=>by rw[z1fe hk,z1fe hkb2,h2,zao h]
   generalize a[k]=x at *
   generalize b[k]=y at *
   simp(maxSteps:=9^9)(disch:=first|omega|(simp only[H'];try omega))only[go_sem,P'k,C',D',E',e1,e2,w89,hkb]
   exact⟨fun h=>by rw[e3 h],fun h=>⟨rfl,by omega,e4 h⟩⟩
 ·rintro s⟨rfl,h1,h2⟩
  have:=zar h2 h1
  simp(maxSteps:=9^9)(disch:=first|omega|(simp only[H'];try omega))only[go_sem,P'k,C',D',E']
  rw[this]
  exact⟨fun h=>by rw[if_pos (by omega)],fun h=>by rw[if_neg (by omega)]⟩
theorem wdh(ms:List (List Int))(vs:List PV)(i j:Nat)(hi:i<ms.length)(hj:j<ms.length)(hx:∀x∈ms,x.length<2^40):C w9c [I i,I j,.pv (.agg [.sl false 1 (ms.map ints),.sl true 3 vs]) 0] []=some (I (cmpL (ms.getD i []) (ms.getD j [])),[]):=by
 have h:=wix ms[i] ms[j] (by have:=hx _ (P'l hi);omega) (by have:=hx _ (P'l hj);omega)
 rw[<-zj9 hi,<-zj9 hj]
 refine w0t ?_
 simp(maxSteps:=9^9)(disch:=first|omega|(simp only[H'];try omega))only[wf9,go_sem,P'k,C',D',E']
 simp(maxSteps:=9^9)(disch:=first|omega|(simp only[H'];try omega))only[go_sem,P'k,C',D',E',h]
theorem wiq:∀k:Fin 256,(⟨#[0,1,2,2,3,3,3,3,4,4,4,4,4,4,4,4,5,5,5,5,5,5,5,5,5,5,5,5,5,5,5,5,6,6,6,6,6,6,6,6,6,6,6,6,6,6,6,6,6,6,6,6,6,6,6,6,6,6,6,6,6,6,6,6,7,7,7,7,7,7,7,7,7,7,7,7,7,7,7,7,7,7,7,7,7,7,7,7,7,7,7,7,7,7,7,7,7,7,7,7,7,7,7,7,7,7,7,7,7,7,7,7,7,7,7,7,7,7,7,7,7,7,7,7,7,7,7,7,8,8,8,8,8,8,8,8,8,8,8,8,8,8,8,8,8,8,8,8,8,8,8,8,8,8,8,8,8,8,8,8,8,8,8,8,8,8,8,8,8,8,8,8,8,8,8,8,8,8,8,8,8,8,8,8,8,8,8,8,8,8,8,8,8,8,8,8,8,8,8,8,8,8,8,8,8,8,8,8,8,8,8,8,8,8,8,8,8,8,8,8,8,8,8,8,8,8,8,8,8,8,8,8,8,8,8,8,8,8,8,8,8,8,8,8,8,8,8,8,8,8,8,8,8,8,8,8]⟩:ByteArray)[k.val]?=some (UInt8.ofNat (Sort.bitsLen k.val)):=by decide+kernel
theorem wir:∀k:Fin 256,(UInt8.ofNat (Sort.bitsLen k.val)).toNat=Sort.bitsLen k.val/\Sort.bitsLen k.val<=8:=by decide+kernel
theorem wis(n:Nat)(hn:n<65536):C wac [.int .u64 n] []=some (I (Sort.bitsLen n),[]):=by
 refine w1q ?_
 simp(maxSteps:=9^9)(disch:=first|omega|(simp only[H'];try omega))only[wga,go_sem,P'k,C',D',E']
 by_cases h:(256:Int)<=n
 ·have e1:=wiq ⟨n/256,by omega⟩
  have e2:=wir ⟨n/256,by omega⟩
  have e3:=z6v (n:=n) (by omega)
  simp only at e1 e2
  have hd:(n:Int)/2^min (R'f 8) 64=((n/256:Nat):Int):=by show(n:Int)/256=_;omega
  have e4:(IntKind.u8.wrap ((n/256:Nat):Int)).toNat=n/256:=by rw[IntKind.wrap_u8];omega
  have h2:¬(n:Int)<256:=by omega
  rw[e3]
  generalize Sort.bitsLen (n/256)=z at *
  simp(maxSteps:=9^9)(disch:=first|omega|(simp only[H'];try omega))only[go_sem,P'k,C',D',E',h,h2,e1,hd,e4,e2.1,false_implies,and_true]
  rw[show((8+z:Nat):Int)=0+8+(z:Int)by omega]
 ·have e1:=wiq ⟨n,by omega⟩
  have e2:=wir ⟨n,by omega⟩
  simp only at e1 e2
  have e4:(IntKind.u8.wrap (n:Int)).toNat=n:=by rw[IntKind.wrap_u8];omega
  have h2:(n:Int)<256:=by omega
  generalize Sort.bitsLen n=z at *
  simp(maxSteps:=9^9)(disch:=first|omega|(simp only[H'];try omega))only[go_sem,P'k,C',D',E',h,h2,e1,e4,e2.1,false_implies,true_and,forall_const]
  rw[show(0:Int)+(z:Int)=z by omega]
theorem wit(n:Nat)(hn:n<65536):C waa [.int .u64 n] []=some (I (Sort.bitsLen n),[]):=by
 have h:=wis n hn
 refine w1p ?_
 simp(maxSteps:=9^9)(disch:=first|omega|(simp only[H'];try omega))only[wg8,go_sem,P'k,C',D',E']
 simp(maxSteps:=9^9)(disch:=first|omega|(simp only[H'];try omega))only[go_sem,P'k,C',D',E',h]
theorem wjj{α:Type}[Inhabited α](g:α->Int)(cm:α->α->Int)(us vs:List PV)(H : ∀x y,C w9c [I (g x),I (g y),.pv (.agg [.sl false 1 us,.sl true 3 vs]) 0] []=some (I (cm x y),[]))(t:TypeId)(d:Array α)(a b:Nat)(hab:a<=b)(hb:b<=d.size)(hs:d.size<2^40) :
  C wb5 [.ref 0 1 0 d.size,I a,I b,.clo w9c [.ptr 1 0]] (.row t true 1 (d.toList.map fun x=>I (g x))::[.box wla [.sl false 1 us,.sl true 3 vs]])=some (.tup [],.row t true 1 ((Sort.insertionSort (ltC cm) d a b).toList.map fun x=>I (g x))::[.box wla [.sl false 1 us,.sl true 3 vs]]):=by
 unfold Sort.insertionSort
 refine w2c ?_
 simp(maxSteps:=9^9)(disch:=first|omega|(simp only[H'];try omega))only[wh0,go_sem,P'k,C',D',E']
 refine z1a (fun k s=>∃(i:Nat) (D:Array α),a<i/\k=b+1-i/\i<=b+1/\D.size=d.size/\Sort.insOuter (ltC cm) a b i D=Sort.insOuter (ltC cm) a b (a+1) d/\s=⟨[.ref 0 1 0 d.size,I a,I b,.clo w9c [.ptr 1 0],I i,.any,.any,.any],.row t true 1 (D.toList.map fun x=>I (g x))::[.box wla [.sl false 1 us,.sl true 3 vs]]⟩) (b-a) ?_ ?_
 ·simp(maxSteps:=9^9)(disch:=first|omega|(simp only[H'];try omega))only[go_sem,P'k,C',D',E']
  exact⟨a+1,d,by omega,by omega,by omega,rfl,rfl,by simp⟩
 ·rintro k s⟨i,D,h1,rfl,h2,h3,h4,rfl⟩
  simp(maxSteps:=9^9)(disch:=first|omega|(simp only[H'];try omega))only[go_sem,P'k,C',D',E']
  refine⟨fun hi=>?_,fun hi=>?_⟩
  ·refine z1a (fun k s=>∃(E:Array α),a<=k/\k<=i/\E.size=d.size/\Sort.insInner (ltC cm) a k E=Sort.insInner (ltC cm) a i D/\s=⟨[.ref 0 1 0 d.size,I a,I b,.clo w9c [.ptr 1 0],I i,I k,.any,.any],.row t true 1 (E.toList.map fun x=>I (g x))::[.box wla [.sl false 1 us,.sl true 3 vs]]⟩) i ?_ ?_
   ·simp(maxSteps:=9^9)(disch:=first|omega|(simp only[H'];try omega))only[go_sem,P'k,C',D',E']
    exact⟨D,by omega,h3,rfl,rfl⟩
   ·rintro k s⟨E,k1,k2,k3,k4,rfl⟩
    have e0:=zng (ltC cm) (a:=a) (j:=k) E
    have e1:=znh (ltC cm) (a:=a) (j:=k) E
    have e2:=z18k E (i:=k) (by omega)
    have e3:=z18k E (i:=k-1) (by omega)
    have e4:=z18o (fun x=>I (g x)) E k (k-1)
    have e5:((k:Int)-1).toNat=k-1:=by omega
    have e6:(E.toList.map fun x=>I (g x)).length=d.size:=by simp[k3]
    have e7:E.toList.length=d.size:=by simp[k3]
    simp only[ltC]at e0 e1
    generalize E[k]! = x at *
    generalize E[k-1]! = y at *
    have hout:=znm (ltC cm) (a:=a) D (show i<b by omega)
    by_cases hak:(a:Int)<k
    ·by_cases hlt:cm x y<0
     ·simp(maxSteps:=9^9)(disch:=first|omega|(simp only[H'];try omega))only[go_sem,P'k,C',D',E',H,e2,e3,e5,e7,hlt,L'n,R'b,R'c]
      refine⟨k-1,by omega,Sort.swp E k (k-1),by omega,by omega,?_,?_,?_⟩
      ·rw[Sort.size_swp];exact k3
      ·rw[<-k4,e1 (by omega) (by simp[hlt])]
      ·rw[e4,show((k:Int)-1)=((k-1:Nat):Int)by omega]
     ·simp(maxSteps:=9^9)(disch:=first|omega|(simp only[H'];try omega))only[go_sem,P'k,C',D',E',H,e2,e3,e5,e7,hlt,L'n,R'b,R'c]
      refine⟨b+1-(i+1),by omega,i+1,E,by omega,rfl,by omega,k3,?_,?_⟩
      ·rw[<-h4,hout,<-k4,e0 (.inr (by simp[hlt]))]
      ·rfl
    ·simp(maxSteps:=9^9)(disch:=first|omega|(simp only[H'];try omega))only[go_sem,P'k,C',D',E']
     refine⟨b+1-(i+1),by omega,i+1,E,by omega,rfl,by omega,k3,?_,?_⟩
     ·rw[<-h4,hout,<-k4,e0 (.inl (by omega))]
     ·rfl
  ·rw[<-h4,znl _ _ (by omega)]
theorem wjt{α:Type}[Inhabited α](g:α->Int)(cm:α->α->Int)(us vs:List PV)(H : ∀x y,C w9c [I (g x),I (g y),.pv (.agg [.sl false 1 us,.sl true 3 vs]) 0] []=some (I (cm x y),[]))(t:TypeId)(d:Array α)(lo hi f:Nat)(hlo:lo<=d.size)(hb:f+hi<=d.size)(hs:d.size<2^40) :
  C wbf [.ref 0 1 0 d.size,I lo,I hi,I f,.clo w9c [.ptr 1 0]] (.row t true 1 (d.toList.map fun x=>I (g x))::[.box wla [.sl false 1 us,.sl true 3 vs]])=some (.tup [],.row t true 1 ((Sort.siftDown (ltC cm) hi f lo d).toList.map fun x=>I (g x))::[.box wla [.sl false 1 us,.sl true 3 vs]]):=by
 refine w2h ?_
 simp(maxSteps:=9^9)(disch:=first|omega|(simp only[H'];try omega))only[wha,go_sem,P'k,C',D',E']
 refine z1a (fun k s=>∃(r:Nat) (E:Array α),k=hi-r/\r<=d.size/\E.size=d.size/\Sort.siftDown (ltC cm) hi f r E=Sort.siftDown (ltC cm) hi f lo d/\s=⟨[.ref 0 1 0 d.size,.any,I hi,I f,.clo w9c [.ptr 1 0],I r,.any,.any,.any,.any],.row t true 1 (E.toList.map fun x=>I (g x))::[.box wla [.sl false 1 us,.sl true 3 vs]]⟩) (hi-lo) ?_ ?_
 ·simp(maxSteps:=9^9)(disch:=first|omega|(simp only[H'];try omega))only[go_sem,P'k,C',D',E']
  exact⟨lo,d,rfl,by omega,rfl,rfl,rfl⟩
 ·rintro k s ⟨r,E,rfl,k1,k3,k4,rfl⟩
  have e7:E.toList.length=d.size:=by simp[k3]
  obtain⟨c1,hc1⟩ : ∃c:Nat,2*(r:Int)+1=c:=⟨2*r+1,by omega⟩
  obtain⟨c2,hc2⟩ : ∃c:Nat,(c1:Int)+1=c:=⟨2*r+2,by omega⟩
  by_cases h1:(c1:Int)<hi
  ·obtain⟨p1,hp1⟩ : ∃p:Nat,(f:Int)+(c1:Int)=p:=⟨f+c1,by omega⟩
   have z1:f+(2*r+1)=p1:=by omega
   have e2:=z18k E (i:=p1) (by omega)
   by_cases h2:(c2:Int)<hi
   ·obtain⟨p2,hp2⟩ : ∃p:Nat,(f:Int)+(c2:Int)=p:=⟨f+c2,by omega⟩
    have hp3:(p1:Int)+1=p2:=by omega
    have z2:f+(2*r+2)=p2:=by omega
    have e3:=z18k E (i:=p2) (by omega)
    by_cases hlt:cm E[p1]! E[p2]! < 0
    ·have hcc:(c2=2*r+2/\2*r+2<hi/\ltC cm E[f+(2*r+1)]! E[f+(2*r+2)]! = true)\/(c2=2*r+1/\¬(2*r+2<hi/\ltC cm E[f+(2*r+1)]! E[f+(2*r+2)]! = true)):=.inl ⟨by omega,by omega,by rw[z1,z2];simpa [ltC]using hlt⟩
     generalize E[p1]! = a1 at *
     have hq:=hp2
     generalize c2=c at *
     generalize p2=q at *
     obtain⟨p,hp⟩ : ∃p:Nat,(f:Int)+(r:Int)=p:=⟨f+r,by omega⟩
     have hs0:=z1ak (ltC cm) (f:=f) (c:=c) E (show 2*r+1<hi by omega) hcc
     have hs1:=z1ai (ltC cm) (f:=f) (c:=c) E (show 2*r+1<hi by omega) hcc
     have hcl:r<c/\c<hi:=by rcases hcc with⟨h,_⟩|⟨h,_⟩<;>omega
     clear hcc
     rw[show f+c=q by omega,show f+r=p by omega]at hs0 hs1
     have w3:=z18k E (i:=p) (by omega)
     have w4:=z18o (fun x=>I (g x)) E p q
     simp only[ltC]at hs0 hs1
     generalize E[q]! = y at *
     generalize E[p]! = x at *
     by_cases hs2:cm x y<0
     simp(maxSteps:=9^9)(disch:=first|omega|(simp only[H'];try omega))only[go_sem,P'k,C',D',E',H,e2,e3,w3,e7,hc1,hc2,hp1,hp2,hp3,hp,hlt,hs2,L'n,R'b,R'c]
     rotate_left
     simp(maxSteps:=9^9)(disch:=first|omega|(simp only[H'];try omega))only[go_sem,P'k,C',D',E',H,e2,e3,w3,e7,hc1,hc2,hp1,hp2,hp3,hp,hlt,hs2,L'n,R'b,R'c]
     rotate_left
     ·refine⟨hi-c,by omega,c,Sort.swp E p q,rfl,by omega,?_,?_,?_⟩
      ·rw[Sort.size_swp];exact k3
      ·rw[<-k4,hs1 (by simp[hs2])]
      ·rw[w4]
     ·rw[<-k4,hs0 (by simp[hs2])]
    ·have hcc:(c1=2*r+2/\2*r+2<hi/\ltC cm E[f+(2*r+1)]! E[f+(2*r+2)]! = true)\/(c1=2*r+1/\¬(2*r+2<hi/\ltC cm E[f+(2*r+1)]! E[f+(2*r+2)]! = true)):=.inr ⟨by omega,by rw[z1,z2];simpa [ltC]using fun _=>hlt⟩
     generalize E[p2]! = a2 at *
     have hq:=hp1
     generalize c1=c at *
     generalize p1=q at *
     obtain⟨p,hp⟩ : ∃p:Nat,(f:Int)+(r:Int)=p:=⟨f+r,by omega⟩
     have hs0:=z1ak (ltC cm) (f:=f) (c:=c) E (show 2*r+1<hi by omega) hcc
     have hs1:=z1ai (ltC cm) (f:=f) (c:=c) E (show 2*r+1<hi by omega) hcc
     have hcl:r<c/\c<hi:=by rcases hcc with⟨h,_⟩|⟨h,_⟩<;>omega
     clear hcc
     rw[show f+c=q by omega,show f+r=p by omega]at hs0 hs1
     have w3:=z18k E (i:=p) (by omega)
     have w4:=z18o (fun x=>I (g x)) E p q
     simp only[ltC]at hs0 hs1
     generalize E[q]! = y at *
     generalize E[p]! = x at *
     by_cases hs2:cm x y<0
     simp(maxSteps:=9^9)(disch:=first|omega|(simp only[H'];try omega))only[go_sem,P'k,C',D',E',H,e2,e3,w3,e7,hc1,hc2,hp1,hp2,hp3,hp,hlt,hs2,L'n,R'b,R'c]
     rotate_left
     simp(maxSteps:=9^9)(disch:=first|omega|(simp only[H'];try omega))only[go_sem,P'k,C',D',E',H,e2,e3,w3,e7,hc1,hc2,hp1,hp2,hp3,hp,hlt,hs2,L'n,R'b,R'c]
     rotate_left
     ·refine⟨hi-c,by omega,c,Sort.swp E p q,rfl,by omega,?_,?_,?_⟩
      ·rw[Sort.size_swp];exact k3
      ·rw[<-k4,hs1 (by simp[hs2])]
      ·rw[w4]
     ·rw[<-k4,hs0 (by simp[hs2])]
   ·have hcc:(c1=2*r+2/\2*r+2<hi/\ltC cm E[f+(2*r+1)]! E[f+(2*r+2)]! = true)\/(c1=2*r+1/\¬(2*r+2<hi/\ltC cm E[f+(2*r+1)]! E[f+(2*r+2)]! = true)):=.inr ⟨by omega,by omega⟩
    have hq:=hp1
    generalize c1=c at *
    generalize p1=q at *
    obtain⟨p,hp⟩ : ∃p:Nat,(f:Int)+(r:Int)=p:=⟨f+r,by omega⟩
    have hs0:=z1ak (ltC cm) (f:=f) (c:=c) E (show 2*r+1<hi by omega) hcc
    have hs1:=z1ai (ltC cm) (f:=f) (c:=c) E (show 2*r+1<hi by omega) hcc
    have hcl:r<c/\c<hi:=by rcases hcc with⟨h,_⟩|⟨h,_⟩<;>omega
    clear hcc
    rw[show f+c=q by omega,show f+r=p by omega]at hs0 hs1
    have w3:=z18k E (i:=p) (by omega)
    have w4:=z18o (fun x=>I (g x)) E p q
    simp only[ltC]at hs0 hs1
    generalize E[q]! = y at *
    generalize E[p]! = x at *
    by_cases hs2:cm x y<0
    simp(maxSteps:=9^9)(disch:=first|omega|(simp only[H'];try omega))only[go_sem,P'k,C',D',E',H,e2,w3,e7,hc1,hc2,hp1,hp,hs2,L'n,R'b,R'c]
    rotate_left
    simp(maxSteps:=9^9)(disch:=first|omega|(simp only[H'];try omega))only[go_sem,P'k,C',D',E',H,e2,w3,e7,hc1,hc2,hp1,hp,hs2,L'n,R'b,R'c]
    rotate_left
    ·refine⟨hi-c,by omega,c,Sort.swp E p q,rfl,by omega,?_,?_,?_⟩
     ·rw[Sort.size_swp];exact k3
     ·rw[<-k4,hs1 (by simp[hs2])]
     ·rw[w4]
    ·rw[<-k4,hs0 (by simp[hs2])]
  ·simp(maxSteps:=9^9)(disch:=first|omega|(simp only[H'];try omega))only[go_sem,P'k,C',D',E',hc1]
   rw[<-k4,z1ah _ _ (by omega)]
theorem wji{α:Type}[Inhabited α](g:α->Int)(cm:α->α->Int)(us vs:List PV)(H : ∀x y,C w9c [I (g x),I (g y),.pv (.agg [.sl false 1 us,.sl true 3 vs]) 0] []=some (I (cm x y),[]))(t:TypeId)(d:Array α)(a b:Nat)(hab:a<=b)(hb:b<=d.size)(hs:d.size<2^40) :
  C wb4 [.ref 0 1 0 d.size,I a,I b,.clo w9c [.ptr 1 0]] (.row t true 1 (d.toList.map fun x=>I (g x))::[.box wla [.sl false 1 us,.sl true 3 vs]])=some (.tup [],.row t true 1 ((Sort.heapSort (ltC cm) d a b).toList.map fun x=>I (g x))::[.box wla [.sl false 1 us,.sl true 3 vs]]):=by
 obtain⟨n,hn⟩ : ∃n:Nat,(b:Int)-(a:Int)=n:=⟨b-a,by omega⟩
 obtain⟨K,hK⟩ : ∃K:Nat,((n:Int)-1).tdiv 2=(K:Int)-1/\K=(b-a-1) / 2+1/\K<=n+1:=by
  rcases Q'3 n with h|h
  ·subst h;exact⟨1,by decide,by omega,by omega⟩
  ·obtain⟨q,rfl⟩ : ∃q,n=q+1:=⟨n-1,by omega⟩
   have:(((q+1:Nat):Int)-1).tdiv 2=((q / 2:Nat):Int):=by
    rw[show(((q+1:Nat):Int)-1)=(q:Int)by omega]
    exact(R'i q 2).symm
   refine⟨q / 2+1,by rw[this];omega,by omega,by omega⟩
 unfold Sort.heapSort
 rw[<-hK.2.1,show b-a=n by omega]
 have hK1:=hK.1
 have hK2:=hK.2.2
 refine w2b ?_
 simp(maxSteps:=9^9)(disch:=first|omega|(simp only[H'];try omega))only[wgz,go_sem,P'k,C',D',E']
 simp(maxSteps:=9^9)(disch:=first|omega|(simp only[H'];try omega))only[go_sem,P'k,C',D',E',hn,hK1]
 refine z1a (fun k s=>∃(E:Array α),k<=K/\E.size=d.size/\Sort.heapBuild (ltC cm) n a k E=Sort.heapBuild (ltC cm) n a K d/\s=⟨[.ref 0 1 0 d.size,.any,.any,.clo w9c [.ptr 1 0],I a,I 0,I n,I ((k:Int)-1),.any,.any,.any],.row t true 1 (E.toList.map fun x=>I (g x))::[.box wla [.sl false 1 us,.sl true 3 vs]]⟩) K ?_ ?_
 ·simp(maxSteps:=9^9)(disch:=first|omega|(simp only[H'];try omega))only[go_sem,P'k,C',D',E']
  exact⟨d,rfl,rfl,rfl⟩
 ·rintro k s⟨E,k1,k3,k4,rfl⟩
  rcases Q'3 k with rfl| hk
  ·simp(maxSteps:=9^9)(disch:=first|omega|(simp only[H'];try omega))only[go_sem,P'k,C',D',E']
   rw[<-show E=_ from k4]
   refine z1a (fun k s=>∃(G:Array α),k<=n/\G.size=d.size/\Sort.heapPop (ltC cm) a k G=Sort.heapPop (ltC cm) a n E/\s=⟨[.ref 0 1 0 d.size,.any,.any,.clo w9c [.ptr 1 0],I a,I 0,.any,.any,I ((k:Int)-1),.any,.any],.row t true 1 (G.toList.map fun x=>I (g x))::[.box wla [.sl false 1 us,.sl true 3 vs]]⟩) n ?_ ?_
   ·simp(maxSteps:=9^9)(disch:=first|omega|(simp only[H'];try omega))only[go_sem,P'k,C',D',E']
    exact⟨E,k3,rfl,rfl⟩
   ·rintro k s⟨G,g1,g3,g4,rfl⟩
    rcases Q'3 k with rfl| hk
    ·simp(maxSteps:=9^9)(disch:=first|omega|(simp only[H'];try omega))only[go_sem,P'k,C',D',E']
     rw[<-g4];rfl
    ·obtain⟨j,hj⟩ : ∃j:Nat,(k:Int)-1=j:=⟨k-1,by omega⟩
     obtain⟨q,hq⟩ : ∃q:Nat,(a:Int)+(j:Int)=q:=⟨a+j,by omega⟩
     obtain rfl:k=j+1:=by omega
     have h1:=wjt g cm us vs H t (Sort.swp G a q) 0 j a (by omega) (by rw[Sort.size_swp];omega) (by rw[Sort.size_swp];omega)
     rw[Sort.size_swp,g3,z18o,show((0:Nat):Int)=0 from rfl]at h1
     have e7:G.toList.length=d.size:=by simp[g3]
     have w2:=z18k G (i:=a) (by omega)
     have w3:=z18k G (i:=q) (by omega)
     have e5:=z18n (fun x=>I (g x)) G (i:=a) (j:=q) G[q]! (by omega) (by omega)
     have e6:Sort.heapPop (ltC cm) a (j+1) G=Sort.heapPop (ltC cm) a j (Sort.siftDown (ltC cm) j a 0 (Sort.swp G a q)):=by rw[Sort.heapPop,show a+j=q by omega]
     have e8:(Sort.siftDown (ltC cm) j a 0 (Sort.swp G a q)).size=d.size:=by rw[z1aj _ _ _ _ _ _ (L'l _),Sort.size_swp,g3]
     generalize Sort.siftDown (ltC cm) j a 0 (Sort.swp G a q)=Z at *
     generalize(if a=q then G[q]! else G[q]!)=z at *
     generalize G[q]! = y at *
     generalize G[a]! = x at *
     simp(maxSteps:=9^9)(disch:=first|omega|(simp only[H'];try omega))only[go_sem,P'k,C',D',E',hj,hq,w2,w3,e5,e7,h1]
     exact⟨j,by omega,Z,by omega,e8,by rw[<-e6,g4],rfl⟩
  ·obtain⟨j,hj⟩ : ∃j:Nat,(k:Int)-1=j:=⟨k-1,by omega⟩
   have h1:=wjt g cm us vs H t E j n a (by omega) (by omega) (by omega)
   rw[k3]at h1
   obtain rfl:k=j+1:=by omega
   simp(maxSteps:=9^9)(disch:=first|omega|(simp only[H'];try omega))only[go_sem,P'k,C',D',E',hj,h1]
   refine⟨j,by omega,Sort.siftDown (ltC cm) n a j E,by omega,?_,k4,rfl⟩
   rw[z1aj _ _ _ _ _ _ (L'l _),k3]
theorem wjm(n:Nat)(hn:n<65536):C wb8 [I n] []=some (.int .u64 ((2^Sort.bitsLen n:Nat):Int),[]):=by
 have h:=wit n hn
 have h1:=(Sort.bitsLen_le_iff n 16).2 (by omega)
 have h3:(2:Nat)^Sort.bitsLen n<=2^16:=Nat.pow_le_pow_right (by decide) h1
 have h2:IntKind.u64.wrap (1*(2:Int)^min (Sort.bitsLen n) 64)=((2^Sort.bitsLen n:Nat):Int):=by
  rw[Nat.min_eq_left (by omega),Int.one_mul,IntKind.wrap_u64,show(2:Int)^Sort.bitsLen n=((2^Sort.bitsLen n:Nat):Int)by simp]
  generalize(2:Nat)^Sort.bitsLen n=w at *
  omega
 have h0:IntKind.u64.wrap (n:Int)=n:=by rw[IntKind.wrap_u64];omega
 refine w2d ?_
 simp(maxSteps:=9^9)(disch:=first|omega|(simp only[H'];try omega))only[wh3,go_sem,P'k,C',D',E']
 generalize Sort.bitsLen n=z at *
 simp(maxSteps:=9^9)(disch:=first|omega|(simp only[H'];try omega))only[go_sem,P'k,C',D',E',h0,h,h2]
theorem wju(x:Int)(hx:0<=x/\x<18446744073709551616):Lw (C wbg [.ptr 0 0] [.box wlf [.int .u64 x]]) fun r=>∃y:Int,r=(.int .u64 y,[.box wlf [.int .u64 y]])/\0<=y/\y<18446744073709551616:=by
 refine w3o ?_
 simp(maxSteps:=9^9)(disch:=first|omega|(simp only[H'];try omega))only[whb,go_sem,P'k,C',D',E']
 have h1:=z1hz hx (z1gj (x*2^min (R'f 13) 64))
 have h2:=z1hz h1 (z1aa (min (R'f 7) 64) h1)
 exact⟨_,rfl,z1hz h2 (z1gj _)⟩
theorem wjg{α:Type}[Inhabited α](g:α->Int)(cm:α->α->Int)(us vs:List PV)(H : ∀x y,C w9c [I (g x),I (g y),.pv (.agg [.sl false 1 us,.sl true 3 vs]) 0] []=some (I (cm x y),[]))(t:TypeId)(d:Array α)(a b:Nat)(hab:a<b)(hb:b<=d.size)(hs:d.size<65536) :
  Lw (C wb2 [.ref 0 1 0 d.size,I a,I b,.clo w9c [.ptr 1 0]] (.row t true 1 (d.toList.map fun x=>I (g x))::[.box wla [.sl false 1 us,.sl true 3 vs]])) fun r=>∃E:Array α,r=(.tup [],.row t true 1 (E.toList.map fun x=>I (g x))::[.box wla [.sl false 1 us,.sl true 3 vs]])/\Sort.PermIn a b d E:=by
 obtain⟨n,hn⟩ : ∃n:Nat,(b:Int)-(a:Int)=n:=⟨b-a,by omega⟩
 obtain⟨q,hq,hq2⟩ : ∃q:Nat,(n:Int).tdiv 4=q/\q=n / 4:=⟨n / 4,(R'i n 4).symm,rfl⟩
 have hp:=wjm n (by omega)
 have hp1:=Sort.lt_two_pow_bitsLen n
 have hp2:=fun h=>Sort.two_pow_bitsLen_le (n:=n) h
 obtain⟨i,hi⟩ : ∃i:Nat,(a:Int)+(q:Int)*2=i:=⟨a+q*2,by omega⟩
 refine w3h ?_
 simp(maxSteps:=9^9)(disch:=first|omega|(simp only[H'];try omega))only[wgx,go_sem,P'k,C',D',E']
 by_cases h8:(8:Int)<=n
 ·have hp3:=hp2 (by omega)
  clear hp2
  generalize 2 ^ Sort.bitsLen n=p at *
  obtain⟨m,hm⟩ : ∃m:Nat,(p:Int)-1=m:=⟨p-1,by omega⟩
  have e0:IntKind.u64.wrap (n:Int)=n:=by rw[IntKind.wrap_u64];omega
  simp(maxSteps:=9^9)(disch:=first|omega|(simp only[H'];try omega))only[go_sem,P'k,C',D',E',hn,hq,hi,h8,R'd.2 h8,hp,e0,false_implies,and_true]
  refine z1a (fun k s=>∃(j:Nat) (E:Array α) (x:Int),i<=j+1/\j<=i+2/\k=i+2-j/\(0<=x/\x<18446744073709551616)/\Sort.PermIn a b d E/\s=⟨[.ref 0 1 0 d.size,I a,.any,I n,.ptr 2 0,.int .u64 p,I j,.any,.any,.any,.any],.row t true 1 (E.toList.map fun x=>I (g x))::.box wla [.sl false 1 us,.sl true 3 vs]::[.box wlf [.int .u64 x]]⟩) 3 ?_ ?_
  ·simp(maxSteps:=9^9)(disch:=first|omega|(simp only[H'];try omega))only[go_sem,P'k,C',D',E']
   exact⟨i-1,d,n,by omega,by omega,by omega,by omega,Sort.permIn_refl d a b,by rw[show((i-1:Nat):Int)=(i:Int)-1 by omega]⟩
  ·rintro k s⟨j,E,x,h1,h2,rfl,h3,h4,rfl⟩
   have k3:=z11k h4
   have e7:E.toList.length=d.size:=by simp[k3]
   by_cases hj:(j:Int)<=(i:Int)+1
   ·obtain⟨_,e1,y,rfl,y1,y2⟩:=wju x h3
    have ha:=z37 (x:=y) (y:=m) (by omega) (by omega)
    have e5:IntKind.u64.wrap ((p:Int)-1)=m:=by rw[IntKind.wrap_u64];omega
    have e6:IntKind.i64.wrap (bits .and .u64 y m)=bits .and .u64 y m:=by rw[IntKind.wrap_i64];omega
    obtain⟨o,ho⟩ : ∃o:Nat,bits .and .u64 y m=o:=⟨(bits .and .u64 y m).toNat,by omega⟩
    rw[ho]at ha e6
    obtain⟨u,hu⟩ : ∃u:Nat,(a:Int)+(o:Int)=u:=⟨a+o,by omega⟩
    have w2:=z18k E (i:=j) (by omega)
    by_cases hon:(n:Int)<=o
    ·obtain⟨o2,ho2⟩ : ∃o2:Nat,(o:Int)-n=o2:=⟨o-n,by omega⟩
     obtain⟨v,hv⟩ : ∃v:Nat,(a:Int)+(o2:Int)=v:=⟨a+o2,by omega⟩
     have w3:=z18k E (i:=v) (by omega)
     have w4:=z18o (fun x=>I (g x)) E j v
     have w5:=Sort.permIn_trans d E (Sort.swp E j v) a b h4 (Sort.swp_permIn E a b j v (by omega) (by omega) (by omega) (by omega) (by omega))
     have w6:=z18n (fun x=>I (g x)) E (i:=j) (j:=v) E[v]! (by omega) (by omega)
     generalize(if j=v then E[v]! else E[v]!)=z at *
     generalize E[j]! = x at *
     generalize E[v]! = w at *
     simp(maxSteps:=9^9)(disch:=first|omega|(simp only[H'];try omega))only[go_sem,P'k,C',D',E',hq,hi,e1,e5,ho,e6,hon,R'd.2 hon,ho2,hv,w2,w3,w6,e7,false_implies,and_true]
     exact⟨i+2-(j+1),by omega,j+1,Sort.swp E j v,y,by omega,by omega,rfl,⟨y1,y2⟩,w5,by rw[w4];rfl⟩
    ·obtain⟨v,hv⟩ : ∃v:Nat,(a:Int)+(o:Int)=v:=⟨a+o,by omega⟩
     have w3:=z18k E (i:=v) (by omega)
     have w4:=z18o (fun x=>I (g x)) E j v
     have w5:=Sort.permIn_trans d E (Sort.swp E j v) a b h4 (Sort.swp_permIn E a b j v (by omega) (by omega) (by omega) (by omega) (by omega))
     have w6:=z18n (fun x=>I (g x)) E (i:=j) (j:=v) E[v]! (by omega) (by omega)
     generalize(if j=v then E[v]! else E[v]!)=z at *
     generalize E[j]! = x at *
     generalize E[v]! = w at *
     simp(maxSteps:=9^9)(disch:=first|omega|(simp only[H'];try omega))only[go_sem,P'k,C',D',E',hq,hi,e1,e5,ho,e6,hon,R'e.1 hon,hv,w2,w3,w6,e7,false_implies,true_and,forall_const]
     exact⟨i+2-(j+1),by omega,j+1,Sort.swp E j v,y,by omega,by omega,rfl,⟨y1,y2⟩,w5,by rw[w4];rfl⟩
   ·simp(maxSteps:=9^9)(disch:=first|omega|(simp only[H'];try omega))only[go_sem,P'k,C',D',E',hq,hi]
    exact⟨E,rfl,h4⟩
 ·simp(maxSteps:=9^9)(disch:=first|omega|(simp only[H'];try omega))only[go_sem,P'k,C',D',E',hn,hq,hi,h8,R'e.1 h8,false_implies,true_and,forall_const]
  exact⟨d,rfl,Sort.permIn_refl d a b⟩
theorem wjn{α:Type}[Inhabited α](g:α->Int)(cm:α->α->Int)(us vs:List PV)(H:∀x y,C w9c [I (g x),I (g y),.pv (.agg [.sl false 1 us,.sl true 3 vs]) 0] []=some (I (cm x y),[]))(t:TypeId)(d:Array α)(a b:Nat)(k:Int)(ha:a<d.size)(hb:b<d.size)(hk:0<=k/\k<2^40)(hs:d.size<2^40) :
  Lw (C wb9 [.ref 0 1 0 d.size,I a,I b,.ptr 1 0,.clo w9c [.ptr 2 0]] (.row t true 1 (d.toList.map fun x=>I (g x))::.box t_int [I k]::[.box wla [.sl false 1 us,.sl true 3 vs]])) fun r=>∃(x y:Nat) (k':Int),r=(.tup [I x,I y],.row t true 1 (d.toList.map fun x=>I (g x))::.box t_int [I k']::[.box wla [.sl false 1 us,.sl true 3 vs]])/\((x=a/\y=b)\/(x=b/\y=a))/\k<=k'/\k'<=k+1:=by
 have e7:d.toList.length=d.size:=by simp
 refine w3l ?_
 simp(maxSteps:=9^9)(disch:=first|omega|(simp only[H'];try omega))only[wh4,go_sem,P'k,C',D',E']
 simp(maxSteps:=9^9)(disch:=first|omega|(simp only[H'];try omega))only[go_sem,P'k,C',D',E',H,e7]
 exact⟨fun _=>⟨b,a,k+1,rfl,by omega⟩,fun _=>⟨a,b,k,rfl,by omega⟩⟩
theorem wjl{α:Type}[Inhabited α](g:α->Int)(cm:α->α->Int)(us vs:List PV)(H:∀x y,C w9c [I (g x),I (g y),.pv (.agg [.sl false 1 us,.sl true 3 vs]) 0] []=some (I (cm x y),[]))(t:TypeId)(d:Array α)(a b c:Nat)(k:Int)(ha:a<d.size)(hb:b<d.size)(hc:c<d.size)(hk:0<=k/\k<2^39)(hs:d.size<2^40) :
  Lw (C wb7 [.ref 0 1 0 d.size,I a,I b,I c,.ptr 1 0,.clo w9c [.ptr 2 0]] (.row t true 1 (d.toList.map fun x=>I (g x))::.box t_int [I k]::[.box wla [.sl false 1 us,.sl true 3 vs]])) fun r=>∃(x:Nat) (k':Int),r=(I x,.row t true 1 (d.toList.map fun x=>I (g x))::.box t_int [I k']::[.box wla [.sl false 1 us,.sl true 3 vs]])/\(x=a\/x=b\/x=c)/\k<=k'/\k'<=k+3:=by
 obtain⟨_,e1,x1,y1,k1,rfl,h1,h2,h3⟩:=wjn g cm us vs H t d a b k ha hb (by omega) hs
 obtain⟨_,e2,x2,y2,k2,rfl,g1,g2,g3⟩:=wjn g cm us vs H t d y1 c k1 (by omega) hc (by omega) hs
 obtain⟨_,e3,x3,y3,k3,rfl,f1,f2,f3⟩:=wjn g cm us vs H t d x1 x2 k2 (by omega) (by omega) (by omega) hs
 refine w3k ?_
 simp(maxSteps:=9^9)(disch:=first|omega|(simp only[H'];try omega))only[wh2,go_sem,P'k,C',D',E']
 simp(maxSteps:=9^9)(disch:=first|omega|(simp only[H'];try omega))only[go_sem,P'k,C',D',E',e1,e2,e3]
 exact⟨y3,k3,rfl,by omega⟩
theorem wjk{α:Type}[Inhabited α](g:α->Int)(cm:α->α->Int)(us vs:List PV)(H:∀x y,C w9c [I (g x),I (g y),.pv (.agg [.sl false 1 us,.sl true 3 vs]) 0] []=some (I (cm x y),[]))(t:TypeId)(d:Array α)(a:Nat)(k:Int)(ha:0<a/\a+1<d.size)(hk:0<=k/\k<2^39)(hs:d.size<2^40) :
  Lw (C wb6 [.ref 0 1 0 d.size,I a,.ptr 1 0,.clo w9c [.ptr 2 0]] (.row t true 1 (d.toList.map fun x=>I (g x))::.box t_int [I k]::[.box wla [.sl false 1 us,.sl true 3 vs]])) fun r=>∃(x:Nat) (k':Int),r=(I x,.row t true 1 (d.toList.map fun x=>I (g x))::.box t_int [I k']::[.box wla [.sl false 1 us,.sl true 3 vs]])/\(a<=x+1/\x<=a+1)/\k<=k'/\k'<=k+3:=by
 obtain⟨_,e1,x1,k1,rfl,h1,h2,h3⟩:=wjl g cm us vs H t d (a-1) a (a+1) k (by omega) (by omega) (by omega) hk hs
 rw[show((a-1:Nat):Int)=(a:Int)-1 by omega,show((a+1:Nat):Int)=(a:Int)+1 by omega]at e1
 refine w3j ?_
 simp(maxSteps:=9^9)(disch:=first|omega|(simp only[H'];try omega))only[wh1,go_sem,P'k,C',D',E']
 simp(maxSteps:=9^9)(disch:=first|omega|(simp only[H'];try omega))only[go_sem,P'k,C',D',E',e1]
 exact⟨x1,k1,rfl,by omega⟩
theorem wjh{α:Type}[Inhabited α](g:α->Int)(cm:α->α->Int)(us vs:List PV)(H:∀x y,C w9c [I (g x),I (g y),.pv (.agg [.sl false 1 us,.sl true 3 vs]) 0] []=some (I (cm x y),[]))(t:TypeId)(d:Array α)(a b:Nat)(hab:a<b)(hb:b<=d.size)(hs:d.size<2^40) :
  Lw (C wb3 [.ref 0 1 0 d.size,I a,I b,.clo w9c [.ptr 1 0]] (.row t true 1 (d.toList.map fun x=>I (g x))::[.box wla [.sl false 1 us,.sl true 3 vs]])) fun r=>∃(x:Nat) (h:Int),r=(.tup [I x,I h],.row t true 1 (d.toList.map fun x=>I (g x))::[.box wla [.sl false 1 us,.sl true 3 vs]])/\a<=x/\x<b/\0<=h/\h<=2:=by
 obtain⟨n,hn⟩:∃n:Nat,(b:Int)-(a:Int)=n:=⟨b-a,by omega⟩
 obtain⟨q,hq,hq2⟩:∃q:Nat,(n:Int).tdiv 4=q/\q=n/4:=⟨n/4,(R'i n 4).symm,rfl⟩
 obtain⟨i,hi⟩:∃i:Nat,(a:Int)+(q:Int)=i:=⟨a+q,by omega⟩
 obtain⟨j,hj⟩:∃j:Nat,(a:Int)+(q:Int)*2=j:=⟨a+q*2,by omega⟩
 obtain⟨k,hk⟩:∃k:Nat,(a:Int)+(q:Int)*3=k:=⟨a+q*3,by omega⟩
 refine w3i ?_
 simp(maxSteps:=9^9)(disch:=first|omega|(simp only[H'];try omega))only[wgy,go_sem,P'k,C',D',E']
 by_cases h8:(8:Int)<=n
 ·by_cases h50:(50:Int)<=n
  ·obtain⟨_,e1,x1,k1,rfl,h1,h2,h3⟩:=wjk g cm us vs H t d i 0 (by omega) (by omega) hs
   obtain⟨_,e2,x2,k2,rfl,g1,g2,g3⟩:=wjk g cm us vs H t d j k1 (by omega) (by omega) hs
   obtain⟨_,e3,x3,k3,rfl,f1,f2,f3⟩:=wjk g cm us vs H t d k k2 (by omega) (by omega) hs
   obtain⟨_,e4,x4,k4,rfl,d1,d2,d3⟩:=wjl g cm us vs H t d x1 x2 x3 k3 (by omega) (by omega) (by omega) (by omega) hs
   have hlo:a<=x4/\x4<b:=by omega
   simp(maxSteps:=9^9)(disch:=first|omega|(simp only[H'];try omega))only[go_sem,P'k,C',D',E',hn,hq,hi,hj,hk,R'j,e1,e2,e3,e4,h8,h50,R'd.2 h8,R'd.2 h50]
   exact⟨fun _=>⟨x4,_,rfl,by omega⟩,fun _=>⟨fun _=>⟨x4,_,rfl,by omega⟩,fun _=>⟨x4,_,rfl,by omega⟩⟩⟩
  ·obtain⟨_,e4,x4,k4,rfl,d1,d2,d3⟩:=wjl g cm us vs H t d i j k 0 (by omega) (by omega) (by omega) (by omega) hs
   have hlo:a<=x4/\x4<b:=by omega
   simp(maxSteps:=9^9)(disch:=first|omega|(simp only[H'];try omega))only[go_sem,P'k,C',D',E',hn,hq,hi,hj,hk,R'j,e4,h8,h50,R'd.2 h8,R'e.1 h50]
   exact⟨fun _=>⟨x4,_,rfl,by omega⟩,fun _=>⟨x4,_,rfl,by omega⟩⟩
 ·simp(maxSteps:=9^9)(disch:=first|omega|(simp only[H'];try omega))only[go_sem,P'k,C',D',E',hn,hq,hi,hj,hk,R'j,h8,R'e.1 h8]
  exact⟨j,1,rfl,by omega⟩
theorem wjs{α:Type}[Inhabited α](g:α->Int)(cm:α->α->Int)(us vs:List PV)(H : ∀x y,C w9c [I (g x),I (g y),.pv (.agg [.sl false 1 us,.sl true 3 vs]) 0] []=some (I (cm x y),[]))(t:TypeId)(d:Array α)(a b:Nat)(hab:a<b)(hb:b<=d.size)(hs:d.size<2^40) :
  Lw (C wbe [.ref 0 1 0 d.size,I a,I b,.clo w9c [.ptr 1 0]] (.row t true 1 (d.toList.map fun x=>I (g x))::[.box wla [.sl false 1 us,.sl true 3 vs]])) fun r=>∃E:Array α,r=(.tup [],.row t true 1 (E.toList.map fun x=>I (g x))::[.box wla [.sl false 1 us,.sl true 3 vs]])/\Sort.PermIn a b d E:=by
 obtain⟨n,hn⟩ : ∃n:Nat,(b:Int)-1=n:=⟨b-1,by omega⟩
 refine w3n ?_
 simp(maxSteps:=9^9)(disch:=first|omega|(simp only[H'];try omega))only[wh9,go_sem,P'k,C',D',E']
 simp(maxSteps:=9^9)(disch:=first|omega|(simp only[H'];try omega))only[go_sem,P'k,C',D',E',hn]
 refine z1a (fun k s=>∃(i j:Nat) (E:Array α),a<=i/\j<b/\i<=b/\k=b-i/\Sort.PermIn a b d E/\s=⟨[.ref 0 1 0 d.size,.any,.any,I i,I j,.any],.row t true 1 (E.toList.map fun x=>I (g x))::[.box wla [.sl false 1 us,.sl true 3 vs]]⟩) (b-a) ?_ ?_
 ·simp(maxSteps:=9^9)(disch:=first|omega|(simp only[H'];try omega))only[go_sem,P'k,C',D',E']
  exact⟨a,n,d,by omega,by omega,by omega,rfl,Sort.permIn_refl d a b,rfl⟩
 ·rintro k s⟨i,j,E,h1,h2,h3,rfl,h4,rfl⟩
  have k3:=z11k h4
  have e7:E.toList.length=d.size:=by simp[k3]
  by_cases hij:(i:Int)<j
  ·obtain⟨m,hm⟩ : ∃m:Nat,(j:Int)-1=m:=⟨j-1,by omega⟩
   have w2:=z18k E (i:=i) (by omega)
   have w3:=z18k E (i:=j) (by omega)
   have w4:=z18o (fun x=>I (g x)) E i j
   have w5:=Sort.permIn_trans d E (Sort.swp E i j) a b h4 (Sort.swp_permIn E a b i j h1 (by omega) (by omega) h2 (by omega))
   generalize E[i]! = x at *
   generalize E[j]! = y at *
   simp(maxSteps:=9^9)(disch:=first|omega|(simp only[H'];try omega))only[go_sem,P'k,C',D',E',w2,w3,e7,hm,L'n,R'b,R'c]
   exact⟨b-(i+1),by omega,i+1,m,Sort.swp E i j,by omega,by omega,by omega,rfl,w5,by rw[w4];rfl⟩
  ·simp(maxSteps:=9^9)(disch:=first|omega|(simp only[H'];try omega))only[go_sem,P'k,C',D',E']
   exact⟨E,rfl,h4⟩
theorem wjo{α:Type}[Inhabited α](g:α->Int)(cm:α->α->Int)(us vs:List PV)(H : ∀x y,C w9c [I (g x),I (g y),.pv (.agg [.sl false 1 us,.sl true 3 vs]) 0] []=some (I (cm x y),[]))(t:TypeId)(d:Array α)(a b:Nat)(hab:a<b)(hb:b<=d.size)(hs:d.size<2^40) :
  C wba [.ref 0 1 0 d.size,I a,I b,.clo w9c [.ptr 1 0]] (.row t true 1 (d.toList.map fun x=>I (g x))::[.box wla [.sl false 1 us,.sl true 3 vs]])=some (.bool (Sort.partialInsertionSort (ltC cm) d a b).2,.row t true 1 ((Sort.partialInsertionSort (ltC cm) d a b).1.toList.map fun x=>I (g x))::[.box wla [.sl false 1 us,.sl true 3 vs]]):=by
 unfold Sort.partialInsertionSort
 refine w2e ?_
 simp(maxSteps:=9^9)(disch:=first|omega|(simp only[H'];try omega))only[wh5,go_sem,P'k,C',D',E']
 refine z1a (fun k s=>∃(i:Nat) (D:Array α),k<=5/\a<i/\i<=b/\D.size=d.size/\Sort.partialIns (ltC cm) a b k i D=Sort.partialIns (ltC cm) a b 5 (a+1) d/\s=⟨[.ref 0 1 0 d.size,I a,I b,.clo w9c [.ptr 1 0],.any,I i,I (5-(k:Int)),.any,.any,.any,.any,.any,.any,.any,.any,.any,.any,.any,.any],.row t true 1 (D.toList.map fun x=>I (g x))::[.box wla [.sl false 1 us,.sl true 3 vs]]⟩) 5 ?_ ?_
 ·simp(maxSteps:=9^9)(disch:=first|omega|(simp only[H'];try omega))only[go_sem,P'k,C',D',E']
  exact⟨a+1,d,by omega,by omega,rfl,rfl,rfl⟩
 ·rintro k s⟨i,D,d0,d1,d2,d3,d4,rfl⟩
  have e7:D.toList.length=d.size:=by simp[d3]
  rcases Q'3 k with rfl| hk
  ·simp(maxSteps:=9^9)(disch:=first|omega|(simp only[H'];try omega))only[go_sem,P'k,C',D',E']
   rw[<-d4];rfl
  ·obtain⟨u,rfl⟩ : ∃u,k=u+1:=⟨k-1,by omega⟩
   simp(maxSteps:=9^9)(disch:=first|omega|(simp only[H'];try omega))only[go_sem,P'k,C',D',E']
   refine z1a (fun q s=>∃m:Nat,i<=m/\m<=b/\q=b-m/\Sort.scanSorted (ltC cm) D b m=Sort.scanSorted (ltC cm) D b i/\s=⟨[.ref 0 1 0 d.size,I a,I b,.clo w9c [.ptr 1 0],.any,I m,I (5-((u+1:Nat):Int)),.any,.any,.any,.any,.any,.any,.any,.any,.any,.any,.any,.any],.row t true 1 (D.toList.map fun x=>I (g x))::[.box wla [.sl false 1 us,.sl true 3 vs]]⟩) (b-i) ?_ ?_
   ·simp(maxSteps:=9^9)(disch:=first|omega|(simp only[H'];try omega))only[go_sem,P'k,C',D',E']
    exact⟨i,by omega,d2,rfl,rfl,rfl⟩
   ·rintro q s⟨m,m1,m2,rfl,m4,rfl⟩
    have s0:=z18z (ltC cm) D (b:=b) (i:=m)
    have s1:=z190 (ltC cm) D (b:=b) (i:=m)
    simp only[ltC]at s0 s1
    obtain⟨m',hm'⟩ : ∃m':Nat,(m:Int)-1=m':=⟨m-1,by omega⟩
    have hm1:m-1=m':=by omega
    rw[hm1]at s0 s1
    by_cases hmb:(m:Int)<b
    ·have w2:=z18k D (i:=m) (by omega)
     have w3:=z18k D (i:=m') (by omega)
     have w4:=z18o (fun x=>I (g x)) D m m'
     generalize D[m]! = x at *
     generalize D[m']! = y at *
     by_cases hlt:cm x y<0
     ·have hscan:m=Sort.scanSorted (ltC cm) D b i:=by rw[<-m4];exact(s0 (.inr (by simp[hlt]))).symm
      clear s0 s1 m4
      by_cases h50:(b:Int)-a<50
      ·have e5:Sort.partialIns (ltC cm) a b 5 (a+1) d=(D,false):=by rw[<-d4,Sort.partialIns_succ,<-hscan,if_neg (by omega),if_pos (by omega)]
       simp(maxSteps:=9^9)(disch:=first|omega|(simp only[H'];try omega))only[go_sem,P'k,C',D',E',H,w2,w3,e7,hm',hmb,hlt,h50,R'e.2 h50,false_implies,and_true,true_and,forall_const]
       rw[e5]
      ·by_cases hma : (2 : Int) <= (m : Int) - a
       ·simp(maxSteps:=2000000) (disch:=first| omega| (simp only[H'];try omega))only[go_sem,P'k,C',D',E',H,w2,w3,e7,hm',hmb,hlt,h50,R'd.1 h50,hma,R'd.2 hma,L'n,R'b,R'c,false_implies,and_true,true_and,forall_const]
        refine z1a (fun q s=>∃(G2:Array α),q<=m'/\G2.size=d.size/\Sort.shiftDown (ltC cm) q G2=Sort.shiftDown (ltC cm) m' (Sort.swp D m m')/\s=⟨[.ref 0 1 0 d.size,I a,I b,.clo w9c [.ptr 1 0],.any,I m,I (5-((u+1:Nat):Int)),I q,.any,.any,.any,.any,.any,.any,.any,.any,.any,.any,.any],.row t true 1 (G2.toList.map fun x=>I (g x))::[.box wla [.sl false 1 us,.sl true 3 vs]]⟩) m' ?_ ?_
        ·simp(maxSteps:=9^9)(disch:=first|omega|(simp only[H'];try omega))only[go_sem,P'k,C',D',E']
         first| exact⟨Sort.swp D m m',by rw[Sort.size_swp];exact d3,rfl,by rw[w4]⟩|exact⟨Sort.swp D m m',by omega,by rw[Sort.size_swp];exact d3,rfl,by rw[w4]⟩
        ·rintro q s⟨G2,c1,k5,c2,rfl⟩
         have z0:=z19w (ltC cm) G2 (j:=q)
         have z1:=z19x (ltC cm) G2 (j:=q)
         simp only[ltC]at z0 z1
         have e9:G2.toList.length=d.size:=by simp[k5]
         have hG:Sort.fixDown (ltC cm) a m (Sort.swp D m m')=Sort.shiftDown (ltC cm) m' (Sort.swp D m m'):=by unfold Sort.fixDown;rw[if_pos (by omega),hm1]
         by_cases hq:(1:Int)<=q
         ·obtain⟨q',hq'⟩ : ∃q':Nat,(q:Int)-1=q':=⟨q-1,by omega⟩
          rw[show q-1=q' by omega]at z0 z1
          have v2:=z18k G2 (i:=q) (by omega)
          have v3:=z18k G2 (i:=q') (by omega)
          have v4:=z18o (fun x=>I (g x)) G2 q q'
          generalize G2[q]! = x2 at *
          generalize G2[q']! = y2 at *
          by_cases hl2:cm x2 y2<0
          ·have z2:=z1 (by omega) (by simp[hl2])
           simp(maxSteps:=9^9)(disch:=first|omega|(simp only[H'];try omega))only[go_sem,P'k,C',D',E',H,v2,v3,e9,hq',hq,R'd.2 hq,hl2,L'n,R'b,R'c]
           exact⟨q',by omega,Sort.swp G2 q q',by omega,by rw[Sort.size_swp];exact k5,by rw[<-c2,z2],by rw[v4]⟩
          ·have z2:=z0 (.inr (by simp[hl2]))
           have hG2:Sort.fixDown (ltC cm) a m (Sort.swp D m m')=G2:=by rw[hG,<-c2];exact z2
           by_cases hbm:(2:Int)<=(b:Int)-(m:Int)
           ·have h2':Sort.fixUp (ltC cm) b m G2=Sort.shiftUp (ltC cm) b (m+1) G2:=by unfold Sort.fixUp;rw[if_pos (by omega)]
            simp(maxSteps:=9^9)(disch:=first|omega|(simp only[H'];try omega))only[go_sem,P'k,C',D',E',H,v2,v3,e9,hq',hq,R'd.2 hq,hl2,hbm,R'd.2 hbm,false_implies,and_true,true_and,forall_const]
            clear v2 v3 v4 z0 z1 z2 w2 w3 w4 hl2 hlt
            refine z1a (fun q s=>∃(w:Nat) (G3:Array α),m<w/\w<=b/\q=b-w/\G3.size=d.size/\Sort.shiftUp (ltC cm) b w G3=Sort.shiftUp (ltC cm) b (m+1) G2/\s=⟨[.ref 0 1 0 d.size,I a,I b,.clo w9c [.ptr 1 0],.any,I m,I (5-((u+1:Nat):Int)),.any,I w,.any,.any,.any,.any,.any,.any,.any,.any,.any,.any],.row t true 1 (G3.toList.map fun x=>I (g x))::[.box wla [.sl false 1 us,.sl true 3 vs]]⟩) (b-(m+1)) ?_ ?_
            ·simp(maxSteps:=9^9)(disch:=first|omega|(simp only[H'];try omega))only[go_sem,P'k,C',D',E']
             exact⟨m+1,G2,by omega,by omega,rfl,k5,rfl,rfl⟩
            ·rintro q s⟨w,G3,c1,c2,rfl,c3,c4,rfl⟩
             have z0:=z1ad (ltC cm) G3 (b:=b) (j:=w)
             have z1:=z1ae (ltC cm) G3 (b:=b) (j:=w)
             simp only[ltC]at z0 z1
             have e8:G3.toList.length=d.size:=by simp[c3]
             obtain⟨w',hw'⟩ : ∃w':Nat,(w:Int)-1=w':=⟨w-1,by omega⟩
             rw[show w-1=w' by omega]at z0 z1
             by_cases hwb:(w:Int)<b
             ·have v2:=z18k G3 (i:=w) (by omega)
              have v3:=z18k G3 (i:=w') (by omega)
              have v4:=z18o (fun x=>I (g x)) G3 w w'
              generalize G3[w]! = x3 at *
              generalize G3[w']! = y3 at *
              by_cases hl3:cm x3 y3<0
              ·have z2:=z1 (by omega) (by simp[hl3])
               simp(maxSteps:=9^9)(disch:=first|omega|(simp only[H'];try omega))only[go_sem,P'k,C',D',E',H,v2,v3,e8,hw',hwb,hl3,L'n,R'b,R'c]
               exact⟨b-(w+1),by omega,w+1,Sort.swp G3 w w',by omega,by omega,rfl,by rw[Sort.size_swp];exact c3,by rw[<-c4,z2],by rw[v4];rfl⟩
              ·have z2:=z0 (.inr (by simp[hl3]))
               simp(maxSteps:=9^9)(disch:=first|omega|(simp only[H'];try omega))only[go_sem,P'k,C',D',E',H,v2,v3,e8,hw',hwb,hl3]
               refine⟨u,by omega,m,G3,by omega,by omega,by omega,c3,?_,?_⟩
               ·rw[<-d4,Sort.partialIns_succ,<-hscan,if_neg (by omega),if_neg (by omega),hm1,hG2,h2',<-c4]
                exact congrArg _ z2.symm
               ·rw[show(5:Int)-((u+1:Nat):Int)+1=5-(u:Int)by omega]
             ·have z2:=z0 (.inl (by omega))
              simp(maxSteps:=9^9)(disch:=first|omega|(simp only[H'];try omega))only[go_sem,P'k,C',D',E',hwb]
              refine⟨u,by omega,m,G3,by omega,by omega,by omega,c3,?_,?_⟩
              ·rw[<-d4,Sort.partialIns_succ,<-hscan,if_neg (by omega),if_neg (by omega),hm1,hG2,h2',<-c4]
               exact congrArg _ z2.symm
              ·rw[show(5:Int)-((u+1:Nat):Int)+1=5-(u:Int)by omega]
           ·have h2':Sort.fixUp (ltC cm) b m G2=G2:=by unfold Sort.fixUp;rw[if_neg (by omega)]
            simp(maxSteps:=9^9)(disch:=first|omega|(simp only[H'];try omega))only[go_sem,P'k,C',D',E',H,v2,v3,e9,hq',hq,R'd.2 hq,hl2,hbm,R'e.1 hbm,false_implies,and_true,true_and,forall_const]
            refine⟨u,by omega,m,G2,by omega,by omega,by omega,k5,?_,?_⟩
            ·rw[<-d4,Sort.partialIns_succ,<-hscan,if_neg (by omega),if_neg (by omega),hm1,hG2,h2']
            ·rw[show(5:Int)-((u+1:Nat):Int)+1=5-(u:Int)by omega]
         ·have z2:=z0 (.inl (by omega))
          have hG2:Sort.fixDown (ltC cm) a m (Sort.swp D m m')=G2:=by rw[hG,<-c2];exact z2
          by_cases hbm:(2:Int)<=(b:Int)-(m:Int)
          ·have h2':Sort.fixUp (ltC cm) b m G2=Sort.shiftUp (ltC cm) b (m+1) G2:=by unfold Sort.fixUp;rw[if_pos (by omega)]
           simp(maxSteps:=9^9)(disch:=first|omega|(simp only[H'];try omega))only[go_sem,P'k,C',D',E',hq,R'e.1 hq,hbm,R'd.2 hbm,false_implies,and_true,true_and,forall_const]
           clear z0 z1 z2 w2 w3 w4 hlt
           refine z1a (fun q s=>∃(w:Nat) (G3:Array α),m<w/\w<=b/\q=b-w/\G3.size=d.size/\Sort.shiftUp (ltC cm) b w G3=Sort.shiftUp (ltC cm) b (m+1) G2/\s=⟨[.ref 0 1 0 d.size,I a,I b,.clo w9c [.ptr 1 0],.any,I m,I (5-((u+1:Nat):Int)),.any,I w,.any,.any,.any,.any,.any,.any,.any,.any,.any,.any],.row t true 1 (G3.toList.map fun x=>I (g x))::[.box wla [.sl false 1 us,.sl true 3 vs]]⟩) (b-(m+1)) ?_ ?_
           ·simp(maxSteps:=9^9)(disch:=first|omega|(simp only[H'];try omega))only[go_sem,P'k,C',D',E']
            exact⟨m+1,G2,by omega,by omega,rfl,k5,rfl,rfl⟩
           ·rintro q s⟨w,G3,c1,c2,rfl,c3,c4,rfl⟩
            have z0:=z1ad (ltC cm) G3 (b:=b) (j:=w)
            have z1:=z1ae (ltC cm) G3 (b:=b) (j:=w)
            simp only[ltC]at z0 z1
            have e8:G3.toList.length=d.size:=by simp[c3]
            obtain⟨w',hw'⟩ : ∃w':Nat,(w:Int)-1=w':=⟨w-1,by omega⟩
            rw[show w-1=w' by omega]at z0 z1
            by_cases hwb:(w:Int)<b
            ·have v2:=z18k G3 (i:=w) (by omega)
             have v3:=z18k G3 (i:=w') (by omega)
             have v4:=z18o (fun x=>I (g x)) G3 w w'
             generalize G3[w]! = x3 at *
             generalize G3[w']! = y3 at *
             by_cases hl3:cm x3 y3<0
             ·have z2:=z1 (by omega) (by simp[hl3])
              simp(maxSteps:=9^9)(disch:=first|omega|(simp only[H'];try omega))only[go_sem,P'k,C',D',E',H,v2,v3,e8,hw',hwb,hl3,L'n,R'b,R'c]
              exact⟨b-(w+1),by omega,w+1,Sort.swp G3 w w',by omega,by omega,rfl,by rw[Sort.size_swp];exact c3,by rw[<-c4,z2],by rw[v4];rfl⟩
             ·have z2:=z0 (.inr (by simp[hl3]))
              simp(maxSteps:=9^9)(disch:=first|omega|(simp only[H'];try omega))only[go_sem,P'k,C',D',E',H,v2,v3,e8,hw',hwb,hl3]
              refine⟨u,by omega,m,G3,by omega,by omega,by omega,c3,?_,?_⟩
              ·rw[<-d4,Sort.partialIns_succ,<-hscan,if_neg (by omega),if_neg (by omega),hm1,hG2,h2',<-c4]
               exact congrArg _ z2.symm
              ·rw[show(5:Int)-((u+1:Nat):Int)+1=5-(u:Int)by omega]
            ·have z2:=z0 (.inl (by omega))
             simp(maxSteps:=9^9)(disch:=first|omega|(simp only[H'];try omega))only[go_sem,P'k,C',D',E',hwb]
             refine⟨u,by omega,m,G3,by omega,by omega,by omega,c3,?_,?_⟩
             ·rw[<-d4,Sort.partialIns_succ,<-hscan,if_neg (by omega),if_neg (by omega),hm1,hG2,h2',<-c4]
              exact congrArg _ z2.symm
             ·rw[show(5:Int)-((u+1:Nat):Int)+1=5-(u:Int)by omega]
          ·have h2':Sort.fixUp (ltC cm) b m G2=G2:=by unfold Sort.fixUp;rw[if_neg (by omega)]
           simp(maxSteps:=9^9)(disch:=first|omega|(simp only[H'];try omega))only[go_sem,P'k,C',D',E',hq,R'e.1 hq,hbm,R'e.1 hbm,false_implies,and_true,true_and,forall_const]
           refine⟨u,by omega,m,G2,by omega,by omega,by omega,k5,?_,?_⟩
           ·rw[<-d4,Sort.partialIns_succ,<-hscan,if_neg (by omega),if_neg (by omega),hm1,hG2,h2']
           ·rw[show(5:Int)-((u+1:Nat):Int)+1=5-(u:Int)by omega]
       ·have hG0:Sort.fixDown (ltC cm) a m (Sort.swp D m m')=Sort.swp D m m':=by unfold Sort.fixDown;rw[if_neg (by omega)]
        have k5':(Sort.swp D m m').size=d.size:=by rw[Sort.size_swp];exact d3
        obtain⟨G2,hGG⟩ : ∃G2,Sort.swp D m m'=G2:=⟨_,rfl⟩
        have hG2:Sort.fixDown (ltC cm) a m (Sort.swp D m m')=G2:=by rw[hG0,hGG]
        have k5:G2.size=d.size:=by rw[<-hGG];exact k5'
        rw[hGG]at w4
        by_cases hbm:(2:Int)<=(b:Int)-(m:Int)
        ·have h2':Sort.fixUp (ltC cm) b m G2=Sort.shiftUp (ltC cm) b (m+1) G2:=by unfold Sort.fixUp;rw[if_pos (by omega)]
         simp(maxSteps:=9^9)(disch:=first|omega|(simp only[H'];try omega))only[go_sem,P'k,C',D',E',H,w2,w3,e7,hm',hmb,hlt,h50,R'd.1 h50,hma,R'e.1 hma,hbm,R'd.2 hbm,L'n,R'b,R'c,false_implies,and_true,true_and,forall_const]
         rw[<-w4]
         clear w2 w3 w4 hlt
         refine z1a (fun q s=>∃(w:Nat) (G3:Array α),m<w/\w<=b/\q=b-w/\G3.size=d.size/\Sort.shiftUp (ltC cm) b w G3=Sort.shiftUp (ltC cm) b (m+1) G2/\s=⟨[.ref 0 1 0 d.size,I a,I b,.clo w9c [.ptr 1 0],.any,I m,I (5-((u+1:Nat):Int)),.any,I w,.any,.any,.any,.any,.any,.any,.any,.any,.any,.any],.row t true 1 (G3.toList.map fun x=>I (g x))::[.box wla [.sl false 1 us,.sl true 3 vs]]⟩) (b-(m+1)) ?_ ?_
         ·simp(maxSteps:=9^9)(disch:=first|omega|(simp only[H'];try omega))only[go_sem,P'k,C',D',E']
          exact⟨m+1,G2,by omega,by omega,rfl,k5,rfl,rfl⟩
         ·rintro q s⟨w,G3,c1,c2,rfl,c3,c4,rfl⟩
          have z0:=z1ad (ltC cm) G3 (b:=b) (j:=w)
          have z1:=z1ae (ltC cm) G3 (b:=b) (j:=w)
          simp only[ltC]at z0 z1
          have e8:G3.toList.length=d.size:=by simp[c3]
          obtain⟨w',hw'⟩ : ∃w':Nat,(w:Int)-1=w':=⟨w-1,by omega⟩
          rw[show w-1=w' by omega]at z0 z1
          by_cases hwb:(w:Int)<b
          ·have v2:=z18k G3 (i:=w) (by omega)
           have v3:=z18k G3 (i:=w') (by omega)
           have v4:=z18o (fun x=>I (g x)) G3 w w'
           generalize G3[w]! = x3 at *
           generalize G3[w']! = y3 at *
           by_cases hl3:cm x3 y3<0
           ·have z2:=z1 (by omega) (by simp[hl3])
            simp(maxSteps:=9^9)(disch:=first|omega|(simp only[H'];try omega))only[go_sem,P'k,C',D',E',H,v2,v3,e8,hw',hwb,hl3,L'n,R'b,R'c]
            exact⟨b-(w+1),by omega,w+1,Sort.swp G3 w w',by omega,by omega,rfl,by rw[Sort.size_swp];exact c3,by rw[<-c4,z2],by rw[v4];rfl⟩
           ·have z2:=z0 (.inr (by simp[hl3]))
            simp(maxSteps:=9^9)(disch:=first|omega|(simp only[H'];try omega))only[go_sem,P'k,C',D',E',H,v2,v3,e8,hw',hwb,hl3]
            refine⟨u,by omega,m,G3,by omega,by omega,by omega,c3,?_,?_⟩
            ·rw[<-d4,Sort.partialIns_succ,<-hscan,if_neg (by omega),if_neg (by omega),hm1,hG2,h2',<-c4]
             exact congrArg _ z2.symm
            ·rw[show(5:Int)-((u+1:Nat):Int)+1=5-(u:Int)by omega]
          ·have z2:=z0 (.inl (by omega))
           simp(maxSteps:=9^9)(disch:=first|omega|(simp only[H'];try omega))only[go_sem,P'k,C',D',E',hwb]
           refine⟨u,by omega,m,G3,by omega,by omega,by omega,c3,?_,?_⟩
           ·rw[<-d4,Sort.partialIns_succ,<-hscan,if_neg (by omega),if_neg (by omega),hm1,hG2,h2',<-c4]
            exact congrArg _ z2.symm
           ·rw[show(5:Int)-((u+1:Nat):Int)+1=5-(u:Int)by omega]
        ·exfalso
         omega
     ·have s2:=s1 (by omega) (by simp[hlt])
      simp(maxSteps:=9^9)(disch:=first|omega|(simp only[H'];try omega))only[go_sem,P'k,C',D',E',H,w2,w3,e7,hm',hmb,hlt]
      exact⟨b-(m+1),by omega,m+1,by omega,by omega,rfl,by rw[<-m4,s2],rfl⟩
    ·have hscan:m=Sort.scanSorted (ltC cm) D b i:=by rw[<-m4];exact(s0 (.inl (by omega))).symm
     have e5:Sort.partialIns (ltC cm) a b 5 (a+1) d=(D,true):=by rw[<-d4,Sort.partialIns_succ,<-hscan,if_pos (by omega)]
     simp(maxSteps:=9^9)(disch:=first|omega|(simp only[H'];try omega))only[go_sem,P'k,C',D',E',hmb]
     rw[e5]
theorem wjq{α:Type}[Inhabited α](g:α->Int)(cm:α->α->Int)(us vs:List PV)(H : ∀x y,C w9c [I (g x),I (g y),.pv (.agg [.sl false 1 us,.sl true 3 vs]) 0] []=some (I (cm x y),[]))(t:TypeId)(d:Array α)(a b pv:Nat)(h1:a<=pv)(h2:pv<b)(hb:b<=d.size)(hs:d.size<2^40) :
  C wbc [.ref 0 1 0 d.size,I a,I b,I pv,.clo w9c [.ptr 1 0]] (.row t true 1 (d.toList.map fun x=>I (g x))::[.box wla [.sl false 1 us,.sl true 3 vs]])=some (I (Sort.partitionEqual (ltC cm) d a b pv).1,.row t true 1 ((Sort.partitionEqual (ltC cm) d a b pv).2.toList.map fun x=>I (g x))::[.box wla [.sl false 1 us,.sl true 3 vs]]):=by
 obtain⟨n,hn⟩ : ∃n:Nat,(b:Int)-1=n:=⟨b-1,by omega⟩
 have w2:=z18k d (i:=a) (by omega)
 have w3:=z18k d (i:=pv) (by omega)
 have w4:=z18o (fun x=>I (g x)) d a pv
 have w6:=z18n (fun x=>I (g x)) d (i:=a) (j:=pv) d[pv]! (by omega) (by omega)
 generalize(if a=pv then d[pv]! else d[pv]!)=z at *
 generalize d[a]! = x at *
 generalize d[pv]! = y at *
 unfold Sort.partitionEqual
 rw[show b-1=n by omega]
 refine w2g ?_
 simp(maxSteps:=9^9)(disch:=first|omega|(simp only[H'];try omega))only[wh7,go_sem,P'k,C',D',E']
 have e7:d.toList.length=d.size:=by simp
 simp(maxSteps:=9^9)(disch:=first|omega|(simp only[H'];try omega))only[go_sem,P'k,C',D',E',w2,w3,w6,e7,hn]
 rw[<-w4]
 have k0:(Sort.swp d a pv).size=d.size:=Sort.size_swp _ _ _
 generalize Sort.swp d a pv=D at *
 clear w2 w3 w4 w6 x y z e7
 refine z1a (fun k s=>∃(i j:Nat) (E:Array α),a<i/\i<=j+2/\j<b/\k=j+1-i/\E.size=d.size/\Sort.partEqLoop (ltC cm) a i j E=Sort.partEqLoop (ltC cm) a (a+1) n D/\s=⟨[.ref 0 1 0 d.size,I a,.any,.any,.clo w9c [.ptr 1 0],.any,I i,I j,.any,.any,.any],.row t true 1 (E.toList.map fun x=>I (g x))::[.box wla [.sl false 1 us,.sl true 3 vs]]⟩) (n+1-(a+1)) ?_ ?_
 ·simp(maxSteps:=9^9)(disch:=first|omega|(simp only[H'];try omega))only[go_sem,P'k,C',D',E']
  exact⟨a+1,n,D,by omega,by omega,by omega,rfl,k0,rfl,rfl⟩
 ·rintro k s⟨i,j,E,c1,c2,c3,rfl,c4,c5,rfl⟩
  have hq:=Sort.partEqLoop_eq (ltC cm) a i j E
  rw[c5]at hq
  have e7:E.toList.length=d.size:=by simp[c4]
  have w1:=z18k E (i:=a) (by omega)
  simp(maxSteps:=9^9)(disch:=first|omega|(simp only[H'];try omega))only[go_sem,P'k,C',D',E']
  refine z1a (fun q s=>∃u:Nat,i<=u/\u<=j+2/\q=j+2-u/\Sort.scanUp (fun x=>!ltC cm E[a]! x) E j u=Sort.scanUp (fun x=>!ltC cm E[a]! x) E j i/\s=⟨[.ref 0 1 0 d.size,I a,.any,.any,.clo w9c [.ptr 1 0],.any,I u,I j,.any,.any,.any],.row t true 1 (E.toList.map fun x=>I (g x))::[.box wla [.sl false 1 us,.sl true 3 vs]]⟩) (j+2-i) ?_ ?_
  ·simp(maxSteps:=9^9)(disch:=first|omega|(simp only[H'];try omega))only[go_sem,P'k,C',D',E']
   exact⟨i,by omega,c2,rfl,rfl,rfl⟩
  ·rintro q s⟨u,u1,u2,rfl,u4,rfl⟩
   have s0:=z1gr (fun x=>!ltC cm E[a]! x) E (i:=u) (j:=j)
   have s1:=up_go (fun x=>!ltC cm E[a]! x) E (i:=u) (j:=j)
   by_cases huj:(u:Int)<=j
   ·have w2:=z18k E (i:=u) (by omega)
    by_cases hlt:cm E[a]! E[u]! < 0
    ·have hup:Sort.scanUp (fun x=>!ltC cm E[a]! x) E j i=u:=by rw[<-u4];exact s0 (.inr (by simp[hlt]))
     rw[hup]at hq
     clear s0 s1 u4 hup
     generalize hA:E[a]! = A at *
     generalize E[u]! = x at *
     simp(maxSteps:=9^9)(disch:=first|omega|(simp only[H'];try omega))only[go_sem,P'k,C',D',E',H,w1,w2,e7,huj,hlt]
     clear w2 hlt x
     refine z1a (fun q s=>∃v:Nat,v<=j/\u<=v+2/\q=v/\Sort.scanDown (fun x=>ltC cm A x) E u v=Sort.scanDown (fun x=>ltC cm A x) E u j/\s=⟨[.ref 0 1 0 d.size,I a,.any,.any,.clo w9c [.ptr 1 0],.any,I u,I v,.any,.any,.any],.row t true 1 (E.toList.map fun x=>I (g x))::[.box wla [.sl false 1 us,.sl true 3 vs]]⟩) j ?_ ?_
     ·simp(maxSteps:=9^9)(disch:=first|omega|(simp only[H'];try omega))only[go_sem,P'k,C',D',E']
      exact⟨j,by omega,u2,rfl,rfl,rfl⟩
     ·rintro q s⟨v,v1,v2,rfl,v4,rfl⟩
      have s0:=zcv (fun x=>ltC cm A x) E (i:=u) (j:=q)
      have s1:=zcw (fun x=>ltC cm A x) E (i:=u) (j:=q)
      by_cases huv:(u:Int)<=q
      ·have w2:=z18k E (i:=q) (by omega)
       obtain⟨q',hq'⟩ : ∃q':Nat,(q:Int)-1=q':=⟨q-1,by omega⟩
       by_cases hl2:cm A E[q]! < 0
       ·have s2:=s1 (by omega) (by omega) (by simp[hl2])
        rw[show q-1=q' by omega]at s2
        generalize E[q]! = y at *
        simp(maxSteps:=9^9)(disch:=first|omega|(simp only[H'];try omega))only[go_sem,P'k,C',D',E',H,w1,w2,e7,huv,hl2,hq']
        exact⟨q',by omega,q',by omega,by omega,rfl,by rw[<-v4,s2],rfl⟩
       ·have hdn:Sort.scanDown (fun x=>ltC cm A x) E u j=q:=by rw[<-v4];exact s0 (.inr (by simp[hl2]))
        rw[hdn,if_neg (by omega),show q-1=q' by omega]at hq
        have w3:=z18k E (i:=u) (by omega)
        have w4:=z18o (fun x=>I (g x)) E u q
        have w6:=z18n (fun x=>I (g x)) E (i:=u) (j:=q) E[q]! (by omega) (by omega)
        generalize(if u=q then E[q]! else E[q]!)=z at *
        generalize E[u]! = x at *
        generalize E[q]! = y at *
        simp(maxSteps:=9^9)(disch:=first|omega|(simp only[H'];try omega))only[go_sem,P'k,C',D',E',H,w1,w2,w3,w6,e7,huv,hl2,hq']
        exact⟨q'+1-(u+1),by omega,u+1,q',Sort.swp E u q,by omega,by omega,by omega,rfl,by rw[Sort.size_swp];exact c4,hq.symm,by rw[w4];rfl⟩
      ·have hdn:Sort.scanDown (fun x=>ltC cm A x) E u j=q:=by rw[<-v4];exact s0 (.inl (by omega))
       rw[hdn,if_pos (by omega)]at hq
       simp(maxSteps:=9^9)(disch:=first|omega|(simp only[H'];try omega))only[go_sem,P'k,C',D',E',huv]
       rw[hq]
    ·have s2:=s1 (by omega) (by simp[hlt])
     generalize hA:E[a]! = A at *
     generalize E[u]! = x at *
     simp(maxSteps:=9^9)(disch:=first|omega|(simp only[H'];try omega))only[go_sem,P'k,C',D',E',H,w1,w2,e7,huj,hlt]
     exact⟨j+2-(u+1),by omega,u+1,by omega,by omega,rfl,by rw[<-u4,s2],rfl⟩
   ·have hup:Sort.scanUp (fun x=>!ltC cm E[a]! x) E j i=u:=by rw[<-u4];exact s0 (.inl (by omega))
    rw[hup]at hq
    clear s0 s1 u4 hup
    simp(maxSteps:=9^9)(disch:=first|omega|(simp only[H'];try omega))only[go_sem,P'k,C',D',E',huj]
    generalize hA:E[a]! = A at *
    refine z1a (fun q s=>∃v:Nat,v<=j/\q=v/\Sort.scanDown (fun x=>ltC cm A x) E u v=Sort.scanDown (fun x=>ltC cm A x) E u j/\s=⟨[.ref 0 1 0 d.size,I a,.any,.any,.clo w9c [.ptr 1 0],.any,I u,I v,.any,.any,.any],.row t true 1 (E.toList.map fun x=>I (g x))::[.box wla [.sl false 1 us,.sl true 3 vs]]⟩) j ?_ ?_
    ·simp(maxSteps:=9^9)(disch:=first|omega|(simp only[H'];try omega))only[go_sem,P'k,C',D',E']
     exact⟨j,by omega,rfl,rfl,rfl⟩
    ·rintro q s⟨v,v1,rfl,v4,rfl⟩
     have s0:=zcv (fun x=>ltC cm A x) E (i:=u) (j:=q)
     have huv:¬(u:Int)<=q:=by omega
     have hdn:Sort.scanDown (fun x=>ltC cm A x) E u j=q:=by rw[<-v4];exact s0 (.inl (by omega))
     rw[hdn,if_pos (by omega)]at hq
     simp(maxSteps:=9^9)(disch:=first|omega|(simp only[H'];try omega))only[go_sem,P'k,C',D',E',huv]
     rw[hq]
theorem wjp{α:Type}[Inhabited α](g:α->Int)(cm:α->α->Int)(us vs:List PV)(H : ∀x y,C w9c [I (g x),I (g y),.pv (.agg [.sl false 1 us,.sl true 3 vs]) 0] []=some (I (cm x y),[]))(t:TypeId)(d:Array α)(a b pv:Nat)(h1:a<=pv)(h2:pv<b)(hb:b<=d.size)(hs:d.size<2^40) :
  C wbb [.ref 0 1 0 d.size,I a,I b,I pv,.clo w9c [.ptr 1 0]] (.row t true 1 (d.toList.map fun x=>I (g x))::[.box wla [.sl false 1 us,.sl true 3 vs]])=some (.tup [I (Sort.partition (ltC cm) d a b pv).1,.bool (Sort.partition (ltC cm) d a b pv).2.1],.row t true 1 ((Sort.partition (ltC cm) d a b pv).2.2.toList.map fun x=>I (g x))::[.box wla [.sl false 1 us,.sl true 3 vs]]):=by
 obtain⟨n,hn⟩ : ∃n:Nat,(b:Int)-1=n:=⟨b-1,by omega⟩
 have w2:=z18k d (i:=a) (by omega)
 have w3:=z18k d (i:=pv) (by omega)
 have w4:=z18o (fun x=>I (g x)) d a pv
 have w6:=z18n (fun x=>I (g x)) d (i:=a) (j:=pv) d[pv]! (by omega) (by omega)
 generalize(if a=pv then d[pv]! else d[pv]!)=z at *
 generalize d[a]! = x at *
 generalize d[pv]! = y at *
 refine w2f ?_
 simp(maxSteps:=9^9)(disch:=first|omega|(simp only[H'];try omega))only[wh6,go_sem,P'k,C',D',E']
 have e7:d.toList.length=d.size:=by simp
 simp(maxSteps:=9^9)(disch:=first|omega|(simp only[H'];try omega))only[go_sem,P'k,C',D',E',w2,w3,w6,e7,hn]
 rw[<-w4]
 have hq:(Sort.partition (ltC cm) d a b pv)=(let d:=Sort.swp d a pv
  let i:=Sort.scanUp (fun x=>ltC cm x d[a]!) d (b-1) (a+1)
  let j:=Sort.scanDown (fun x=>!ltC cm x d[a]!) d i (b-1)
  if i>j then(j,true,Sort.swp d j a)else
   let r:=Sort.partLoop (ltC cm) a (i+1) (j-1) (Sort.swp d i j)
   (r.1,false,Sort.swp r.2 r.1 a)):=rfl
 rw[show b-1=n by omega]at hq
 simp only[]at hq
 have c4:(Sort.swp d a pv).size=d.size:=Sort.size_swp _ _ _
 generalize hE:Sort.swp d a pv=E at *
 clear w2 w3 w4 w6 x y z e7
 have e7:E.toList.length=d.size:=by simp[c4]
 have w1:=z18k E (i:=a) (by omega)
 obtain⟨i,hi⟩ : ∃i,a+1=i:=⟨_,rfl⟩
 have hi':(a:Int)+1=i:=by omega
 rw[hi]at hq
 rw[hi']
 have c1:a<i:=by omega
 have c2:i<=n+2:=by omega
 have c3:n<b:=by omega
 clear hi hi' hE
 generalize n=j at *
 refine z1a (fun q s=>∃u:Nat,i<=u/\u<=j+2/\q=j+2-u/\Sort.scanUp (fun x=>ltC cm x E[a]!) E j u=Sort.scanUp (fun x=>ltC cm x E[a]!) E j i/\s=⟨[.ref 0 1 0 d.size,I a,.any,.any,.clo w9c [.ptr 1 0],.any,.any,I u,I j,.any,.any,.any,.any,.any,.any],.row t true 1 (E.toList.map fun x=>I (g x))::[.box wla [.sl false 1 us,.sl true 3 vs]]⟩) (j+2-i) ?_ ?_
 ·simp(maxSteps:=9^9)(disch:=first|omega|(simp only[H'];try omega))only[go_sem,P'k,C',D',E']
  exact⟨i,by omega,c2,rfl,rfl,rfl⟩
 ·rintro q s⟨u,u1,u2,rfl,u4,rfl⟩
  have s0:=z1gr (fun x=>ltC cm x E[a]!) E (i:=u) (j:=j)
  have s1:=up_go (fun x=>ltC cm x E[a]!) E (i:=u) (j:=j)
  by_cases huj:(u:Int)<=j
  ·have w2:=z18k E (i:=u) (by omega)
   by_cases hlt:cm E[u]! E[a]! < 0
   ·have s2:=s1 (by omega) (by simp[hlt])
    generalize hA:E[a]! = A at *
    generalize E[u]! = x at *
    simp(maxSteps:=9^9)(disch:=first|omega|(simp only[H'];try omega))only[go_sem,P'k,C',D',E',H,w1,w2,e7,huj,hlt]
    exact⟨j+2-(u+1),by omega,u+1,by omega,by omega,rfl,by rw[<-u4,s2],rfl⟩
   ·have hup:Sort.scanUp (fun x=>ltC cm x E[a]!) E j i=u:=by rw[<-u4];exact s0 (.inr (by simp[hlt]))
    rw[hup]at hq
    clear s0 s1 u4 hup
    generalize hA:E[a]! = A at *
    generalize E[u]! = x at *
    simp(maxSteps:=9^9)(disch:=first|omega|(simp only[H'];try omega))only[go_sem,P'k,C',D',E',H,w1,w2,e7,huj,hlt]
    clear w2 hlt x
    refine z1a (fun q s=>∃v:Nat,v<=j/\u<=v+2/\q=v/\Sort.scanDown (fun x=>!ltC cm x A) E u v=Sort.scanDown (fun x=>!ltC cm x A) E u j/\s=⟨[.ref 0 1 0 d.size,I a,.any,.any,.clo w9c [.ptr 1 0],.any,.any,I u,I v,.any,.any,.any,.any,.any,.any],.row t true 1 (E.toList.map fun x=>I (g x))::[.box wla [.sl false 1 us,.sl true 3 vs]]⟩) j ?_ ?_
    ·simp(maxSteps:=9^9)(disch:=first|omega|(simp only[H'];try omega))only[go_sem,P'k,C',D',E']
     exact⟨j,by omega,u2,rfl,rfl,rfl⟩
    ·rintro q s⟨v,v1,v2,rfl,v4,rfl⟩
     have s0:=zcv (fun x=>!ltC cm x A) E (i:=u) (j:=q)
     have s1:=zcw (fun x=>!ltC cm x A) E (i:=u) (j:=q)
     by_cases huv:(u:Int)<=q
     ·have w2:=z18k E (i:=q) (by omega)
      obtain⟨q',hq'⟩ : ∃q':Nat,(q:Int)-1=q':=⟨q-1,by omega⟩
      by_cases hl2:cm E[q]! A<0
      ·have hdn:Sort.scanDown (fun x=>!ltC cm x A) E u j=q:=by rw[<-v4];exact s0 (.inr (by simp[hl2]))
       rw[hdn,if_neg (by omega),show q-1=q' by omega]at hq
       have w3:=z18k E (i:=u) (by omega)
       have w4:=z18o (fun x=>I (g x)) E u q
       have w6:=z18n (fun x=>I (g x)) E (i:=u) (j:=q) E[q]! (by omega) (by omega)
       generalize(if u=q then E[q]! else E[q]!)=z at *
       generalize E[u]! = x at *
       generalize E[q]! = y at *
       simp(maxSteps:=9^9)(disch:=first|omega|(simp only[H'];try omega))only[go_sem,P'k,C',D',E',H,w1,w2,w3,w6,e7,huv,hl2,hq']
       obtain⟨I0,hI0⟩ : ∃I0,u+1=I0:=⟨_,rfl⟩
       obtain⟨J0,hJ0⟩ : ∃J0,q'=J0:=⟨_,rfl⟩
       obtain⟨E0,hE0⟩ : ∃E0,Sort.swp E u q=E0:=⟨_,rfl⟩
       have k0:E0.size=d.size:=by rw[<-hE0,Sort.size_swp];exact c4
       have w4':=w4
       rw[hE0]at w4'
       rw[hI0,hJ0,hE0]at hq
       have hr:(Sort.partition (ltC cm) d a b pv)=((Sort.partLoop (ltC cm) a I0 J0 E0).1,false,Sort.swp (Sort.partLoop (ltC cm) a I0 J0 E0).2 (Sort.partLoop (ltC cm) a I0 J0 E0).1 a):=hq
       clear hq w1 w2 w3 w4 w6 e7 hdn
       have hb1:a<I0/\I0<=J0+2/\J0<b/\a<=J0:=by omega
       clear hE0 c1 c2 c4 u1 u2 v1 v2 hl2 huv huj hA v4
       refine z1a (fun k s=>∃(i j:Nat) (E:Array α),a<i/\i<=j+2/\j<b/\a<=j/\k=j+1-i/\E.size=d.size/\Sort.partLoop (ltC cm) a i j E=Sort.partLoop (ltC cm) a I0 J0 E0/\s=⟨[.ref 0 1 0 d.size,I a,.any,.any,.clo w9c [.ptr 1 0],.any,.any,I i,I j,.any,.any,.any,.any,.any,.any],.row t true 1 (E.toList.map fun x=>I (g x))::[.box wla [.sl false 1 us,.sl true 3 vs]]⟩) (J0+1-I0) ?_ ?_
       ·simp(maxSteps:=9^9)(disch:=first|omega|(simp only[H'];try omega))only[go_sem,P'k,C',D',E']
        exact⟨I0,J0,E0,by omega,by omega,by omega,by omega,rfl,k0,rfl,by rw[w4',<-hI0,<-hJ0];rfl⟩
       ·rintro k s⟨i,j,E,c1,c2,c3,c3',rfl,c4,c5,rfl⟩
        have hq:=Sort.partLoop_eq (ltC cm) a i j E
        have e7:E.toList.length=d.size:=by simp[c4]
        have w1:=z18k E (i:=a) (by omega)
        simp(maxSteps:=9^9)(disch:=first|omega|(simp only[H'];try omega))only[go_sem,P'k,C',D',E']
        refine z1a (fun q s=>∃u:Nat,i<=u/\u<=j+2/\q=j+2-u/\Sort.scanUp (fun x=>ltC cm x E[a]!) E j u=Sort.scanUp (fun x=>ltC cm x E[a]!) E j i/\s=⟨[.ref 0 1 0 d.size,I a,.any,.any,.clo w9c [.ptr 1 0],.any,.any,I u,I j,.any,.any,.any,.any,.any,.any],.row t true 1 (E.toList.map fun x=>I (g x))::[.box wla [.sl false 1 us,.sl true 3 vs]]⟩) (j+2-i) ?_ ?_
        ·simp(maxSteps:=9^9)(disch:=first|omega|(simp only[H'];try omega))only[go_sem,P'k,C',D',E']
         exact⟨i,by omega,c2,rfl,rfl,rfl⟩
        ·rintro q s⟨u,u1,u2,rfl,u4,rfl⟩
         have s0:=z1gr (fun x=>ltC cm x E[a]!) E (i:=u) (j:=j)
         have s1:=up_go (fun x=>ltC cm x E[a]!) E (i:=u) (j:=j)
         by_cases huj:(u:Int)<=j
         ·have w2:=z18k E (i:=u) (by omega)
          by_cases hlt:cm E[u]! E[a]! < 0
          ·have s2:=s1 (by omega) (by simp[hlt])
           generalize hA:E[a]! = A at *
           generalize E[u]! = x at *
           simp(maxSteps:=9^9)(disch:=first|omega|(simp only[H'];try omega))only[go_sem,P'k,C',D',E',H,w1,w2,e7,huj,hlt]
           exact⟨j+2-(u+1),by omega,u+1,by omega,by omega,rfl,by rw[<-u4,s2],rfl⟩
          ·have hup:Sort.scanUp (fun x=>ltC cm x E[a]!) E j i=u:=by rw[<-u4];exact s0 (.inr (by simp[hlt]))
           rw[hup]at hq
           clear s0 s1 u4 hup
           generalize hA:E[a]! = A at *
           generalize E[u]! = x at *
           simp(maxSteps:=9^9)(disch:=first|omega|(simp only[H'];try omega))only[go_sem,P'k,C',D',E',H,w1,w2,e7,huj,hlt]
           clear w2 hlt x
           refine z1a (fun q s=>∃v:Nat,v<=j/\u<=v+2/\q=v/\Sort.scanDown (fun x=>!ltC cm x A) E u v=Sort.scanDown (fun x=>!ltC cm x A) E u j/\s=⟨[.ref 0 1 0 d.size,I a,.any,.any,.clo w9c [.ptr 1 0],.any,.any,I u,I v,.any,.any,.any,.any,.any,.any],.row t true 1 (E.toList.map fun x=>I (g x))::[.box wla [.sl false 1 us,.sl true 3 vs]]⟩) j ?_ ?_
           ·simp(maxSteps:=9^9)(disch:=first|omega|(simp only[H'];try omega))only[go_sem,P'k,C',D',E']
            exact⟨j,by omega,u2,rfl,rfl,rfl⟩
           ·rintro q s⟨v,v1,v2,rfl,v4,rfl⟩
            have s0:=zcv (fun x=>!ltC cm x A) E (i:=u) (j:=q)
            have s1:=zcw (fun x=>!ltC cm x A) E (i:=u) (j:=q)
            by_cases huv:(u:Int)<=q
            ·have w2:=z18k E (i:=q) (by omega)
             obtain⟨q',hq'⟩ : ∃q':Nat,(q:Int)-1=q':=⟨q-1,by omega⟩
             by_cases hl2:cm E[q]! A<0
             ·have hdn:Sort.scanDown (fun x=>!ltC cm x A) E u j=q:=by rw[<-v4];exact s0 (.inr (by simp[hl2]))
              rw[hdn,if_neg (by omega),show q-1=q' by omega]at hq
              have w3:=z18k E (i:=u) (by omega)
              have w4:=z18o (fun x=>I (g x)) E u q
              have w6:=z18n (fun x=>I (g x)) E (i:=u) (j:=q) E[q]! (by omega) (by omega)
              generalize(if u=q then E[q]! else E[q]!)=z at *
              generalize E[u]! = x at *
              generalize E[q]! = y at *
              simp(maxSteps:=9^9)(disch:=first|omega|(simp only[H'];try omega))only[go_sem,P'k,C',D',E',H,w1,w2,w3,w6,e7,huv,hl2,hq']
              exact⟨q'+1-(u+1),by omega,u+1,q',Sort.swp E u q,by omega,by omega,by omega,by omega,rfl,by rw[Sort.size_swp];exact c4,by rw[<-c5];exact hq.symm,by rw[w4];rfl⟩
             ·have s2:=s1 (by omega) (by omega) (by simp[hl2])
              rw[show q-1=q' by omega]at s2
              generalize E[q]! = y at *
              simp(maxSteps:=9^9)(disch:=first|omega|(simp only[H'];try omega))only[go_sem,P'k,C',D',E',H,w1,w2,e7,huv,hl2,hq']
              exact⟨q',by omega,q',by omega,by omega,rfl,by rw[<-v4,s2],rfl⟩
            ·have hdn:Sort.scanDown (fun x=>!ltC cm x A) E u j=q:=by rw[<-v4];exact s0 (.inl (by omega))
             rw[hdn,if_pos (by omega)]at hq
             have w2:=z18k E (i:=q) (by omega)
             have w4:=z18o (fun x=>I (g x)) E q a
             have w6:=z18n (fun x=>I (g x)) E (i:=q) (j:=a) A (by omega) (by omega)
             rw[hA]at w4
             generalize(if q=a then A else E[a]!)=z at *
             generalize E[q]! = y at *
             simp(maxSteps:=9^9)(disch:=first|omega|(simp only[H'];try omega))only[go_sem,P'k,C',D',E',huv,w1,w2,w6,e7]
             rw[hr,<-c5,hq,w4]
         ·have hup:Sort.scanUp (fun x=>ltC cm x E[a]!) E j i=u:=by rw[<-u4];exact s0 (.inl (by omega))
          rw[hup]at hq
          clear s0 s1 u4 hup
          simp(maxSteps:=9^9)(disch:=first|omega|(simp only[H'];try omega))only[go_sem,P'k,C',D',E',huj]
          generalize hA:E[a]! = A at *
          refine z1a (fun q s=>∃v:Nat,v<=j/\u<=v+2/\q=v/\Sort.scanDown (fun x=>!ltC cm x A) E u v=Sort.scanDown (fun x=>!ltC cm x A) E u j/\s=⟨[.ref 0 1 0 d.size,I a,.any,.any,.clo w9c [.ptr 1 0],.any,.any,I u,I v,.any,.any,.any,.any,.any,.any],.row t true 1 (E.toList.map fun x=>I (g x))::[.box wla [.sl false 1 us,.sl true 3 vs]]⟩) j ?_ ?_
          ·simp(maxSteps:=9^9)(disch:=first|omega|(simp only[H'];try omega))only[go_sem,P'k,C',D',E']
           exact⟨j,by omega,u2,rfl,rfl,rfl⟩
          ·rintro q s⟨v,v1,v2,rfl,v4,rfl⟩
           have s0:=zcv (fun x=>!ltC cm x A) E (i:=u) (j:=q)
           have huv:¬(u:Int)<=q:=by omega
           have hdn:Sort.scanDown (fun x=>!ltC cm x A) E u j=q:=by rw[<-v4];exact s0 (.inl (by omega))
           rw[hdn,if_pos (by omega)]at hq
           have w2:=z18k E (i:=q) (by omega)
           have w4:=z18o (fun x=>I (g x)) E q a
           have w6:=z18n (fun x=>I (g x)) E (i:=q) (j:=a) A (by omega) (by omega)
           rw[hA]at w4
           generalize(if q=a then A else E[a]!)=z at *
           generalize E[q]! = y at *
           simp(maxSteps:=9^9)(disch:=first|omega|(simp only[H'];try omega))only[go_sem,P'k,C',D',E',huv,w1,w2,w6,e7]
           rw[hr,<-c5,hq,w4]
      ·have s2:=s1 (by omega) (by omega) (by simp[hl2])
       rw[show q-1=q' by omega]at s2
       generalize E[q]! = y at *
       simp(maxSteps:=9^9)(disch:=first|omega|(simp only[H'];try omega))only[go_sem,P'k,C',D',E',H,w1,w2,e7,huv,hl2,hq']
       exact⟨q',by omega,q',by omega,by omega,rfl,by rw[<-v4,s2],rfl⟩
     ·have hdn:Sort.scanDown (fun x=>!ltC cm x A) E u j=q:=by rw[<-v4];exact s0 (.inl (by omega))
      rw[hdn,if_pos (by omega)]at hq
      have w2:=z18k E (i:=q) (by omega)
      have w4:=z18o (fun x=>I (g x)) E q a
      have w6:=z18n (fun x=>I (g x)) E (i:=q) (j:=a) A (by omega) (by omega)
      rw[hA]at w4
      generalize(if q=a then A else E[a]!)=z at *
      generalize E[q]! = y at *
      simp(maxSteps:=9^9)(disch:=first|omega|(simp only[H'];try omega))only[go_sem,P'k,C',D',E',huv,w1,w2,w6,e7]
      rw[hq,w4]
  ·have hup:Sort.scanUp (fun x=>ltC cm x E[a]!) E j i=u:=by rw[<-u4];exact s0 (.inl (by omega))
   rw[hup]at hq
   clear s0 s1 u4 hup
   simp(maxSteps:=9^9)(disch:=first|omega|(simp only[H'];try omega))only[go_sem,P'k,C',D',E',huj]
   generalize hA:E[a]! = A at *
   refine z1a (fun q s=>∃v:Nat,v<=j/\u<=v+2/\q=v/\Sort.scanDown (fun x=>!ltC cm x A) E u v=Sort.scanDown (fun x=>!ltC cm x A) E u j/\s=⟨[.ref 0 1 0 d.size,I a,.any,.any,.clo w9c [.ptr 1 0],.any,.any,I u,I v,.any,.any,.any,.any,.any,.any],.row t true 1 (E.toList.map fun x=>I (g x))::[.box wla [.sl false 1 us,.sl true 3 vs]]⟩) j ?_ ?_
   ·simp(maxSteps:=9^9)(disch:=first|omega|(simp only[H'];try omega))only[go_sem,P'k,C',D',E']
    exact⟨j,by omega,u2,rfl,rfl,rfl⟩
   ·rintro q s⟨v,v1,v2,rfl,v4,rfl⟩
    have s0:=zcv (fun x=>!ltC cm x A) E (i:=u) (j:=q)
    have huv:¬(u:Int)<=q:=by omega
    have hdn:Sort.scanDown (fun x=>!ltC cm x A) E u j=q:=by rw[<-v4];exact s0 (.inl (by omega))
    rw[hdn,if_pos (by omega)]at hq
    have w2:=z18k E (i:=q) (by omega)
    have w4:=z18o (fun x=>I (g x)) E q a
    have w6:=z18n (fun x=>I (g x)) E (i:=q) (j:=a) A (by omega) (by omega)
    rw[hA]at w4
    generalize(if q=a then A else E[a]!)=z at *
    generalize E[q]! = y at *
    simp(maxSteps:=9^9)(disch:=first|omega|(simp only[H'];try omega))only[go_sem,P'k,C',D',E',huv,w1,w2,w6,e7]
    rw[hq,w4]
theorem wjr{α:Type}[Inhabited α](g:α->Int)(cm:α->α->Int)(us vs:List PV)(H : ∀x y,C w9c [I (g x),I (g y),.pv (.agg [.sl false 1 us,.sl true 3 vs]) 0] []=some (I (cm x y),[]))(hw:Sort.SWO (ltC cm))(t:TypeId) : ∀(n:Nat) (d:Array α) (a b:Nat) (lim:Int),b-a<=n->a<=b->b<=d.size->d.size<65536->0<=lim/\lim<2^40->Sort.Below (ltC cm) a b d ->
  Lw (C wbd [.ref 0 1 0 d.size,I a,I b,I lim,.clo w9c [.ptr 1 0]] (.row t true 1 (d.toList.map fun x=>I (g x))::[.box wla [.sl false 1 us,.sl true 3 vs]])) fun r=>∃E:Array α,r=(.tup [],.row t true 1 (E.toList.map fun x=>I (g x))::[.box wla [.sl false 1 us,.sl true 3 vs]])/\Sort.PermIn a b d E/\Sort.SortedIn (ltC cm) a b E:=by
 intro n
 induction n using Nat.strongRecOn with
 |_ n IH=>
 intro d a b lim hn hab hb hs hlim hB
 refine w3m ?_
 simp(maxSteps:=9^9)(disch:=first|omega|(simp only[H'];try omega))only[wh8,go_sem,P'k,C',D',E']
 refine z1a (fun k s=>∃(a' b':Nat) (lim':Int) (E:Array α) (wb wp:Bool),k=b'-a'/\a'<=b'/\b'-a'<=n/\b'<=d.size/\E.size=d.size/\(0<=lim'/\lim'<2^40)/\Sort.Below (ltC cm) a' b' E/\(∀R,Sort.PermIn a' b' E R->Sort.SortedIn (ltC cm) a' b' R->Sort.PermIn a b d R/\Sort.SortedIn (ltC cm) a b R)/\s=⟨[.ref 0 1 0 d.size,I a',I b',I lim',.clo w9c [.ptr 1 0],.bool wb,.bool wp,.any,.any,.any,.any,.any,.any,.any,.any,.any,.any,.any,.any,.any,.any,.any,.any,.any],.row t true 1 (E.toList.map fun x=>I (g x))::[.box wla [.sl false 1 us,.sl true 3 vs]]⟩) (b-a) ?_ ?_
 ·simp(maxSteps:=9^9)(disch:=first|omega|(simp only[H'];try omega))only[go_sem,P'k,C',D',E']
  exact⟨a,b,lim,d,true,true,rfl,hab,hn,hb,rfl,hlim,hB,fun R h1 h2=>⟨h1,h2⟩,rfl⟩
 ·rintro k s ⟨a',b',lim',E,wb,wp,rfl,a1,a2,a3,a4,a5,a6,a7,rfl⟩
  clear hB hn hab hb hlim
  obtain⟨L,hL⟩ : ∃L:Nat,(b':Int)-(a':Int)=L:=⟨b'-a',by omega⟩
  by_cases h12:(L:Int)<=12
  ·have e1:=wjj g cm us vs H t E a' b' a1 (by omega) (by omega)
   rw[a4]at e1
   obtain⟨i1,i2⟩:=Sort.insertionSort_holds hw E a' b' a1 (by omega)
   generalize Sort.insertionSort (ltC cm) E a' b'=R at *
   simp(maxSteps:=9^9)(disch:=first|omega|(simp only[H'];try omega))only[go_sem,P'k,C',D',E',hL,h12,e1]
   exact⟨R,rfl,a7 R i1 i2⟩
  by_cases hl0:lim'=0
  ·have e1:=wji g cm us vs H t E a' b' a1 (by omega) (by omega)
   rw[a4]at e1
   obtain⟨i1,i2⟩:=Sort.heapSort_holds hw E a' b' a1 (by omega)
   generalize Sort.heapSort (ltC cm) E a' b'=R at *
   subst hl0
   simp(maxSteps:=9^9)(disch:=first|omega|(simp only[H'];try omega))only[go_sem,P'k,C',D',E',hL,h12,e1]
   exact⟨R,rfl,a7 R i1 i2⟩
  refine z16 (W_seq (W.mono (Q:=fun o=>o=.next ⟨[.ref 0 1 0 d.size,I a',I b',I lim',.clo w9c [.ptr 1 0],.bool wb,.bool wp,I L,.any,.any,.any,.any,.any,.any,.any,.any,.any,.any,.any,.any,.any,.any,.any,.any],.row t true 1 (E.toList.map fun x=>I (g x))::[.box wla [.sl false 1 us,.sl true 3 vs]]⟩) ?_ ?_))
  ·simp(maxSteps:=9^9)(disch:=first|omega|(simp only[H'];try omega))only[go_sem,P'k,C',D',E',hL]
  rintro _ rfl
  refine W_seq (W.mono (Q:=fun o=>o=.next ⟨[.ref 0 1 0 d.size,I a',I b',I lim',.clo w9c [.ptr 1 0],.bool wb,.bool wp,I L,.any,.any,.any,.any,.any,.any,.any,.any,.bool false,.any,.any,.any,.any,.any,.any,.any],.row t true 1 (E.toList.map fun x=>I (g x))::[.box wla [.sl false 1 us,.sl true 3 vs]]⟩) ?_ ?_)
  ·simp(maxSteps:=9^9)(disch:=first|omega|(simp only[H'];try omega))only[go_sem,P'k,C',D',E',h12]
  rintro _ rfl
  refine W_seq (W.mono (Q:=fun o=>o=.next ⟨[.ref 0 1 0 d.size,I a',I b',I lim',.clo w9c [.ptr 1 0],.bool wb,.bool wp,I L,.any,.any,.any,.any,.any,.any,.any,.any,.bool false,.bool false,.any,.any,.any,.any,.any,.any],.row t true 1 (E.toList.map fun x=>I (g x))::[.box wla [.sl false 1 us,.sl true 3 vs]]⟩) ?_ ?_)
  ·simp(maxSteps:=9^9)(disch:=first|omega|(simp only[H'];try omega))only[go_sem,P'k,C',D',E',hl0]
  rintro _ rfl
  refine W_seq (W.mono (Q:=fun o=>∃(E1:Array α) (lim1:Int),Sort.PermIn a' b' E E1/\(0<=lim1/\lim1<2^40)/\o=.next ⟨[.ref 0 1 0 d.size,I a',I b',I lim1,.clo w9c [.ptr 1 0],.bool wb,.bool wp,I L,.any,.any,.any,.any,.any,.any,.any,.any,.bool false,.bool false,.bool !wb,.any,.any,.any,.any,.any],.row t true 1 (E1.toList.map fun x=>I (g x))::[.box wla [.sl false 1 us,.sl true 3 vs]]⟩) ?_ ?_)
  ·cases wb with
   |true=>
    simp(maxSteps:=9^9)(disch:=first|omega|(simp only[H'];try omega))only[go_sem,P'k,C',D',E']
    exact⟨E,lim',Sort.permIn_refl E a' b',a5,rfl⟩
   |false=>
    obtain⟨_,e1,E1,rfl,p1⟩:=wjg g cm us vs H t E a' b' (by omega) (by omega) (by omega)
    rw[a4]at e1
    simp(maxSteps:=9^9)(disch:=first|omega|(simp only[H'];try omega))only[go_sem,P'k,C',D',E',e1]
    exact⟨E1,lim'-1,p1,by omega,rfl⟩
  rintro _ ⟨E1,lim1,p1,a5',rfl⟩
  have s1:=z11k p1
  obtain⟨_,e1,x,h,rfl,x1,x2,x3,x4⟩:=wjh g cm us vs H t E1 a' b' (by omega) (by omega) (by omega)
  rw[s1,a4]at e1
  refine W_seq (W.mono (Q:=fun o=>o=.next ⟨[.ref 0 1 0 d.size,I a',I b',I lim1,.clo w9c [.ptr 1 0],.bool wb,.bool wp,I L,I x,I h,.any,.any,.any,.any,.any,.any,.bool false,.bool false,.bool !wb,.any,.any,.any,.any,.any],.row t true 1 (E1.toList.map fun x=>I (g x))::[.box wla [.sl false 1 us,.sl true 3 vs]]⟩) ?_ ?_)
  ·simp(maxSteps:=9^9)(disch:=first|omega|(simp only[H'];try omega))only[go_sem,P'k,C',D',E',e1]
  rintro _ rfl
  refine W_seq (W.mono (Q:=fun o=>∃(E2:Array α) (pv:Nat) (h':Int) (q:Bool),Sort.PermIn a' b' E E2/\a'<=pv/\pv<b'/\o=.next ⟨[.ref 0 1 0 d.size,I a',I b',I lim1,.clo w9c [.ptr 1 0],.bool wb,.bool wp,I L,I pv,I h',.any,.any,.any,.any,.any,.any,.bool false,.bool false,.bool !wb,.bool q,.any,.any,.any,.any],.row t true 1 (E2.toList.map fun x=>I (g x))::[.box wla [.sl false 1 us,.sl true 3 vs]]⟩) ?_ ?_)
  ·by_cases h2:h=2
   ·subst h2
    obtain⟨_,e2,E2,rfl,p2⟩:=wjs g cm us vs H t E1 a' b' (by omega) (by omega) (by omega)
    rw[s1,a4]at e2
    simp(maxSteps:=9^9)(disch:=first|omega|(simp only[H'];try omega))only[go_sem,P'k,C',D',E',e2]
    exact⟨E2,b'-1-(x-a'),1,true,Sort.permIn_trans E E1 E2 a' b' p1 p2,by omega,by omega,by rw[show((b'-1-(x-a'):Nat):Int)=(b':Int)-1-((x:Int)-a')by omega]⟩
   ·simp(maxSteps:=9^9)(disch:=first|omega|(simp only[H'];try omega))only[go_sem,P'k,C',D',E',h2]
    exact⟨E1,x,h,false,p1,x1,x2,rfl⟩
  rintro _ ⟨E2,pv,h',q,p2,v1,v2,rfl⟩
  have s2:=z11k p2
  have B2:=a6.permA Sort.permIn_all (by omega) p2
  refine W_seq (W.mono (Q:=fun o=>∃(E3:Array α) (f:List PV),Sort.PermIn a' b' E E3/\((∃z:PV,∃y:Bool,o=.next ⟨[.ref 0 1 0 d.size,I a',I b',I lim1,.clo w9c [.ptr 1 0],.bool wb,.bool wp,I L,I pv,I h',.any,.any,.any,.any,.any,.any,.bool false,.bool false,.bool !wb,.bool q,.bool y,z,.any,.any],.row t true 1 (E3.toList.map fun x=>I (g x))::[.box wla [.sl false 1 us,.sl true 3 vs]]⟩)\/(Sort.SortedIn (ltC cm) a' b' E3/\o=.ret ⟨f,.row t true 1 (E3.toList.map fun x=>I (g x))::[.box wla [.sl false 1 us,.sl true 3 vs]]⟩))) ?_ ?_)
  ·have e3:=wjo g cm us vs H t E2 a' b' (by omega) (by omega) (by omega)
   rw[s2,a4]at e3
   obtain⟨i1,i2⟩:=Sort.partialInsertionSort_holds hw E2 a' b' (by omega) (by omega) B2
   generalize Sort.partialInsertionSort (ltC cm) E2 a' b'=R at *
   obtain⟨R,w⟩:=R
   have i3:=Sort.permIn_trans E E2 R a' b' p2 i1
   simp only at e3 i2
   cases wb with
   |false=>
    simp(maxSteps:=9^9)(disch:=first|omega|(simp only[H'];try omega))only[go_sem,P'k,C',D',E']
    exact⟨E2,[],p2,.inl ⟨_,_,rfl⟩⟩
   |true=>cases wp with
    |false=>
     simp(maxSteps:=9^9)(disch:=first|omega|(simp only[H'];try omega))only[go_sem,P'k,C',D',E']
     exact⟨E2,[],p2,.inl ⟨_,_,rfl⟩⟩
    |true=>
     by_cases h1:h'=1
     ·subst h1
      cases w with
      |true=>
       simp(maxSteps:=9^9)(disch:=first|omega|(simp only[H'];try omega))only[go_sem,P'k,C',D',E',e3]
       exact⟨R,_,i3,.inr ⟨i2 rfl,rfl⟩⟩
      |false=>
       simp(maxSteps:=9^9)(disch:=first|omega|(simp only[H'];try omega))only[go_sem,P'k,C',D',E',e3]
       exact⟨R,[],i3,.inl ⟨_,_,rfl⟩⟩
     ·simp(maxSteps:=9^9)(disch:=first|omega|(simp only[H'];try omega))only[go_sem,P'k,C',D',E',h1]
      exact⟨E2,[],p2,.inl ⟨_,_,rfl⟩⟩
  rintro _ ⟨E3,f,p3,⟨z,y,rfl⟩|⟨sr,rfl⟩⟩
  ·clear e1 p1 p2 s1 s2 B2
   have s3:=z11k p3
   have B3:=a6.permA Sort.permIn_all (by omega) p3
   have e7:E3.toList.length=d.size:=by simp[s3,a4]
   show W _ _ _ _ _
   refine W_seq (W.mono (Q:=fun o=>(o=.next ⟨[.ref 0 1 0 d.size,I a',I b',I lim1,.clo w9c [.ptr 1 0],.bool wb,.bool wp,I L,I pv,I h',.any,.any,.any,.any,.any,.any,.bool false,.bool false,.bool !wb,.bool q,.bool y,z,.bool false,.any],.row t true 1 (E3.toList.map fun x=>I (g x))::[.box wla [.sl false 1 us,.sl true 3 vs]]⟩)\/(∃(mid:Nat) (d4:Array α),(a'<mid/\mid<=b'/\d4.size=E3.size/\Sort.Below (ltC cm) mid b' d4/\∀R,Sort.PermIn mid b' d4 R->Sort.SortedIn (ltC cm) mid b' R->Sort.PermIn a' b' E3 R/\Sort.SortedIn (ltC cm) a' b' R)/\o=.exit 1 ⟨[.ref 0 1 0 d.size,I mid,I b',I lim1,.clo w9c [.ptr 1 0],.bool wb,.bool wp,I L,I pv,I h',I mid,.any,.any,.any,.any,.any,.bool false,.bool false,.bool !wb,.bool q,.bool y,z,.bool true,.any],.row t true 1 (d4.toList.map fun x=>I (g x))::[.box wla [.sl false 1 us,.sl true 3 vs]]⟩)) ?_ ?_)
   ·by_cases h0:(0:Int)<a'
    ·obtain⟨am,ham⟩ : ∃am:Nat,(a':Int)-1=am:=⟨a'-1,by omega⟩
     have w1:=z18k E3 (i:=am) (by omega)
     have w2:=z18k E3 (i:=pv) (by omega)
     by_cases hlt:cm E3[am]! E3[pv]! < 0
     ·generalize E3[am]! = x1 at *
      generalize E3[pv]! = x2 at *
      simp(maxSteps:=9^9)(disch:=first|omega|(simp only[H'];try omega))only[go_sem,P'k,C',D',E',H,w1,w2,e7,ham,h0,hlt]
      first| exact .inl trivial|exact .inl rfl
     ·have e4:=wjq g cm us vs H t E3 a' b' pv (by omega) (by omega) (by omega) (by omega)
      have hr:=fun mid d4 hx=>Sort.round_eq hw (Sort.partitionEqual_holds (ltC cm)) (d3:=E3) (d4:=d4) (a:=a') (b:=b') (pivot:=pv) (mid:=mid) (by omega) v1 v2 (by omega) B3 (by rw[show a'-1=am by omega];simp[hlt]) hx
      generalize Sort.partitionEqual (ltC cm) E3 a' b' pv=Z at *
      obtain⟨mid,d4⟩:=Z
      have hr:=hr mid d4 rfl
      simp only[s3,a4]at e4
      generalize E3[am]! = x1 at *
      generalize E3[pv]! = x2 at *
      simp(maxSteps:=9^9)(disch:=first|omega|(simp only[H'];try omega))only[go_sem,P'k,C',D',E',H,w1,w2,e7,ham,h0,hlt,e4]
      exact .inr ⟨mid,d4,hr,rfl⟩
    ·simp(maxSteps:=9^9)(disch:=first|omega|(simp only[H'];try omega))only[go_sem,P'k,C',D',E',h0]
     first| exact .inl trivial|exact .inl rfl
   rintro _ (rfl| ⟨mid,d4,⟨r1,r2,r3,r4,r5⟩,rfl⟩)
   ·have e4:=wjp g cm us vs H t E3 a' b' pv (by omega) (by omega) (by omega) (by omega)
    have hr:=fun mid ap d4 hx=>Sort.round_part hw (Sort.partition_holds (ltC cm)) (d3:=E3) (d4:=d4) (a:=a') (b:=b') (pivot:=pv) (mid:=mid) (ap:=ap) v1 v2 (by omega) B3 hx
    generalize Sort.partition (ltC cm) E3 a' b' pv=Z at *
    obtain⟨mid,ap,d4⟩:=Z
    obtain⟨r1,r2,r3,r4,r5,r6,r7⟩:=hr mid ap d4 rfl
    simp only[s3,a4]at e4
    have r3':d4.size=d.size:=by omega
    obtain⟨ll,hll⟩ : ∃l:Nat,(mid:Int)-(a':Int)=l:=⟨mid-a',by omega⟩
    obtain⟨rl,hrl⟩ : ∃l:Nat,(b':Int)-(mid:Int)=l:=⟨b'-mid,by omega⟩
    obtain⟨bt,hbt⟩ : ∃l:Nat,(L:Int).tdiv 8=l:=⟨L / 8,(R'i L 8).symm⟩
    obtain⟨mp,hmp⟩ : ∃l:Nat,(mid:Int)+1=l:=⟨mid+1,by omega⟩
    obtain rfl:mp=mid+1:=by omega
    clear e7
    show W _ _ _ _ _
    by_cases hlr:(ll:Int)<rl
    ·obtain⟨_,e5,F5,rfl,q1,q2⟩:=IH (mid-a') (by omega) d4 a' mid lim1 (L'l _) r1 (by omega) (by omega) (by omega) r4
     obtain⟨q3,q4⟩:=r6 F5 q1 q2
     have q5:=z11k q1
     rw[r3']at e5
     simp(maxSteps:=9^9)(disch:=first|omega|(simp only[H'];try omega))only[go_sem,P'k,C',D',E',e4,hll,hrl,hbt,hlr,e5,hmp]
     refine⟨fun _=>⟨fun _=>?_,fun _=>?_⟩,fun _=>⟨fun _=>?_,fun _=>?_⟩⟩
     all_goals exact⟨b'-(mid+1),by omega,mid+1,b',lim1,F5,_,_,rfl,by omega,by omega,by omega,by omega,a5',q3,fun R h1 h2=>a7 R (Sort.permIn_trans E E3 R a' b' p3 (q4 R h1 h2).1) (q4 R h1 h2).2,rfl⟩
    ·obtain⟨_,e5,F5,rfl,q1,q2⟩:=IH (b'-(mid+1)) (by omega) d4 (mid+1) b' lim1 (L'l _) (by omega) (by omega) (by omega) (by omega) r5
     obtain⟨q3,q4⟩:=r7 F5 q1 q2
     have q5:=z11k q1
     rw[r3']at e5
     simp(maxSteps:=9^9)(disch:=first|omega|(simp only[H'];try omega))only[go_sem,P'k,C',D',E',e4,hll,hrl,hbt,hlr,e5,hmp]
     refine⟨fun _=>⟨fun _=>?_,fun _=>?_⟩,fun _=>⟨fun _=>?_,fun _=>?_⟩⟩
     all_goals exact⟨mid-a',by omega,a',mid,lim1,F5,_,_,rfl,by omega,by omega,by omega,by omega,a5',q3,fun R h1 h2=>a7 R (Sort.permIn_trans E E3 R a' b' p3 (q4 R h1 h2).1) (q4 R h1 h2).2,rfl⟩
   ·simp(maxSteps:=9^9)(disch:=first|omega|(simp only[H'];try omega))only[go_sem,P'k,C',D',E']
    exact⟨b'-mid,by omega,mid,b',lim1,d4,wb,wp,rfl,by omega,by omega,by omega,by omega,a5',r4,fun R h1 h2=>a7 R (Sort.permIn_trans E E3 R a' b' p3 (r5 R h1 h2).1) (r5 R h1 h2).2,rfl⟩
  ·simp(maxSteps:=9^9)(disch:=first|omega|(simp only[H'];try omega))only[go_sem,P'k,C',D',E']
   exact⟨E3,rfl,a7 E3 p3 sr⟩
theorem wjf(ms:List (List Int))(vs:List PV)(t:TypeId)(hx:∀x∈ms,x.length<2^40)(h0:0<ms.length)(hs:ms.length<65536) :
  Lw (C wb1 [.ref 0 1 0 ms.length,.clo w9c [.ptr 1 0]] [.row t true 1 ((L'1 ms.length).map fun i=>I (i:Nat)),.box wla [.sl false 1 (ms.map ints),.sl true 3 vs]]) fun r=>∃O:List Nat,r=(.tup [],[.row t true 1 (O.map fun i=>I (i:Nat)),.box wla [.sl false 1 (ms.map ints),.sl true 3 vs]])/\O.Perm (L'1 ms.length)/\(O.map fun i=>ms.getD i []).Pairwise leL:=by
 have:Inhabited (Fin ms.length):=⟨⟨0,h0⟩⟩
 obtain⟨d,hd⟩:∃d:Array (Fin ms.length),d.toList=R'r ms.length:=⟨(R'r ms.length).toArray,by simp⟩
 have hl:d.size=ms.length:=by rw[<-Array.length_toList,hd];simp
 have hdv:d.toList.map (fun x=>x.val)=L'1 ms.length:=by
  rw[hd]
  apply List.ext_getElem
  ·simp
  ·intro i h1 h2;simp
 have H:∀x y:Fin ms.length,C w9c [I (x.val:Nat),I (y.val:Nat),.pv (.agg [.sl false 1 (ms.map ints),.sl true 3 vs]) 0] []=some (I (cmpL (ms.getD x.val []) (ms.getD y.val [])),[]):=fun x y=>wdh ms vs x.val y.val x.isLt y.isLt hx
 obtain⟨_,e1,E,rfl,p1,p2⟩:=wjr (fun x:Fin ms.length=>((x.val:Nat):Int)) (fun x y=>cmpL (ms.getD x.val []) (ms.getD y.val [])) (ms.map ints) vs H (z1ew (g:=fun x:Fin ms.length=>ms.getD x.val []) fun _ _=>rfl) t d.size d 0 d.size (Sort.bitsLen d.size) (by omega) (by omega) (by omega) (by omega) ⟨by omega,by have:=(Sort.bitsLen_le_iff d.size 16).2 (by omega);omega⟩ (.inl rfl)
 have e2:=wit ms.length (by omega)
 have e3:IntKind.u64.wrap (ms.length:Int)=ms.length:=by rw[IntKind.wrap_u64];omega
 have hm:(L'1 ms.length).map (fun i=>I (i:Nat))=d.toList.map (fun x=>I ((x.val:Nat):Int)):=by rw[<-hdv,R'g];rfl
 rw[hm]
 rw[hl,show((0:Nat):Int)=0 from rfl]at e1
 generalize Sort.bitsLen ms.length=z at *
 refine w3g ?_
 simp(maxSteps:=9^9)(disch:=first|omega|(simp only[H'];try omega))only[wgw,go_sem,P'k,C',D',E']
 simp(maxSteps:=9^9)(disch:=first|omega|(simp only[H'];try omega))only[go_sem,P'k,C',D',E',e2,e3,e1]
 refine⟨E.toList.map (·.val),by rw[R'g];rfl,?_,?_⟩
 ·rw[<-hdv];exact(z11l p1).map _
 ·rw[R'g,List.pairwise_map]
  have p3:=z11k p1
  rw[<-p3]at p2
  refine(z112 p2).imp fun {x y} h=>?_
  exact zpu (by simpa [ltC]using h)
theorem wdi(f:Fl)(ms:List (List Int))(ar:List Arc3)(S R:List Int)(hg:zji f=true)(hm:ms.length<65536)(h0:0<ms.length)(hn:ms.Nodup)(hr:ar.length<2^35)(hin:z44 ar ms.length)(hxs:∀x∈ms,x.length=f.net.pl.toNat)(hz:0<=findM ms (oneM f.net.pl.toNat f.dst))
  (hS:isFar (dirA false ar) 0 ms.length S) (hR:isFar ar (findM ms (oneM f.net.pl.toNat f.dst)) ms.length R) :
  C w9b [encF f,.agg [rows ms,.sl true 3 (ar.map encA)]] []=some (.agg [.un wle false 1 ((sortT ms).map ints),.un t_int true 1 ((vals ms S).map I),.un t_int true 1 ((vals ms R).map I)],[]):=by
 obtain⟨g1,g2,g3,_⟩:=zjm hg
 have hgn:=zjy g1
 have he:=wds f hg
 have hEl:(oneM f.net.pl.toNat f.dst).length=f.net.pl.toNat:=by simp[oneM]
 have hfd:=wd9 ms (ar.map encA) (oneM f.net.pl.toNat f.dst) (by omega) (fun x hx=>by have:=hxs x hx;omega)
 have hlt:=(zgl hz).1
 obtain⟨z,hzz⟩:∃z:Nat,findM ms (oneM f.net.pl.toNat f.dst)=z:=⟨(findM ms (oneM f.net.pl.toNat f.dst)).toNat,by omega⟩
 rw[hzz]at hfd hR hlt
 obtain⟨_,d1,S',rfl,hS'⟩:=wdq ms ar 0 false (by omega) hr hin h0
 obtain⟨_,d2,R',rfl,hR'⟩:=wdq ms ar z true (by omega) hr hin (by omega)
 obtain rfl:=znq hS hS'
 obtain rfl:=znq hR hR'
 have hSl:=hS.len
 have hRl:=hR.len
 obtain⟨_,e1,O,rfl,o1,o2⟩:=wjf ms (ar.map encA) t_int (fun x h=>by have:=hxs x h;omega) h0 hm
 obtain⟨c1,c2⟩:=z8z hn o1 o2
 have hOl:O.length=ms.length:=by rw[o1.length_eq];simp
 have hOlt:∀i∈O,i<ms.length:=fun i h=>by have:=o1.mem_iff.1 h;simpa using this
 rw[<-c1,<-c2 S,<-c2 R]
 rw[show((0:Nat):Int)=0 from rfl]at d1
 generalize oneM f.net.pl.toNat f.dst=E at *
 refine w0s ?_
 simp(maxSteps:=9^9)(disch:=first|omega|(simp only[H'];try omega))only[wf8,go_sem,P'k,C',D',E']
 simp(maxSteps:=9^9)(disch:=first|omega|(simp only[H'];try omega))only[go_sem,P'k,C',D',E',he,hfd,d1,d2]
 refine W_for ms.length (fun k s=>s=⟨[.any,.any,.any,.ptr 0 0,.ptr 1 0,.ref 2 1 0 ms.length,.ref 3 1 0 ms.length,.ref 4 1 0 ms.length,.any,.any,.any,I ms.length,I k,.any,.any,.any,.any,.any],[.box wla [rows ms,.sl true 3 (ar.map encA)],.box wl7 [.nil false 1,.nil true 1,.nil true 1],.row t_int true 1 (S.map I),.row t_int true 1 (R.map I),.row t_int true 1 (((L'1 k).map fun i=>I (i:Nat))++L'0 (ms.length-k) (I 0))]⟩) ?_ ?_ ?_
 ·simp(maxSteps:=9^9)(disch:=first|omega|(simp only[H'];try omega))only[go_sem,P'k,C',D',E',hSl,hRl]
  simp
 ·rintro k s hk rfl
  have q1:(((L'1 k).map fun i=>I (i:Nat))++L'0 (ms.length-k) (I 0)).length=ms.length:=by simp;omega
  have q2:(((L'1 k).map fun i=>I (i:Nat))++L'0 (ms.length-k) (I 0)).set k (I (k:Nat))=((L'1 (k+1)).map fun i=>I (i:Nat))++L'0 (ms.length-(k+1)) (I 0):=by
   rw[R'k,if_neg (by simp),Q'1,R's,R'h,show ms.length-k=(ms.length-(k+1))+1 by omega,R'l,R'm,List.range_succ,M'r]
   simp
  have q3:∃v:Int,(((L'1 k).map fun i=>I (i:Nat))++L'0 (ms.length-k) (I 0))[k]?=some (I v):=⟨0,by rw[List.getElem?_append_right (by simp),Q'1,R's,R'h,List.getElem?_replicate,if_pos (by omega)]⟩
  obtain⟨v,q3⟩:=q3
  rw[<-q2]
  generalize((L'1 k).map fun i=>I (i:Nat))++L'0 (ms.length-k) (I 0)=W0 at *
  simp(maxSteps:=9^9)(disch:=first|omega|(simp only[H'];try omega))only[go_sem,P'k,C',D',E',q1,q3]
  first| done| rfl
 ·rintro s rfl
  rw[R'h,R'n,M'e]
  have q1:((L'1 ms.length).map fun i=>I (i:Nat)).length=ms.length:=by simp
  generalize((L'1 ms.length).map fun i=>I (i:Nat))=W0 at *
  simp(maxSteps:=9^9)(disch:=first|omega|(simp only[H'];try omega))only[go_sem,P'k,C',D',E',q1,e1]
  refine W_for O.length (fun k s=>∃(V1 V2 V3:PV) (K:List Blk),((k=0/\V1=.nil false 1/\V2=.nil true 1/\V3=.nil true 1/\K=[])\/(0<k/\V1=.ref 6 1 0 k/\V2=.ref 7 1 0 k/\V3=.ref 8 1 0 k/\K=[.row wle false 1 ((O.take k).map fun i=>ints (ms.getD i [])),.row t_int true 1 ((O.take k).map fun i=>I (S.getD i 0)),.row t_int true 1 ((O.take k).map fun i=>I (R.getD i 0))]))/\s=⟨[.any,.any,.any,.ptr 0 0,.ptr 1 0,.ref 2 1 0 ms.length,.ref 3 1 0 ms.length,.any,.any,.ptr 4 0,.any,.any,.any,.any,.ref 5 1 0 ms.length,I ms.length,I k,.any],[.box wla [rows ms,.sl true 3 (ar.map encA)],.box wl7 [.nil false 1,.nil true 1,.nil true 1],.row t_int true 1 (S.map I),.row t_int true 1 (R.map I),.box wl7 [V1,V2,V3],.row t_int true 1 (O.map fun i=>I (i:Nat))]++K⟩) ?_ ?_ ?_
  ·simp(maxSteps:=9^9)(disch:=first|omega|(simp only[H'];try omega))only[go_sem,P'k,C',D',E']
   exact⟨.nil false 1,.nil true 1,.nil true 1,[],by simp⟩
  ·rintro k s hk⟨V1,V2,V3,K,hV,rfl⟩
   have t1:O[k]?=some O[k]:=L'v hk
   have t2:=hOlt _ (P'l hk)
   have t3:(O.take (k+1)).map (fun i=>ints (ms.getD i []))=(O.take k).map (fun i=>ints (ms.getD i []))++[ints (ms.getD O[k] [])]:=by rw[P'z hk,M'r];rfl
   have t4:(O.take (k+1)).map (fun i=>I (S.getD i 0))=(O.take k).map (fun i=>I (S.getD i 0))++[I (S.getD O[k] 0)]:=by rw[P'z hk,M'r];rfl
   have t5:(O.take (k+1)).map (fun i=>I (R.getD i 0))=(O.take k).map (fun i=>I (R.getD i 0))++[I (R.getD O[k] 0)]:=by rw[P'z hk,M'r];rfl
   have t6:(O.take k).length=k:=by simp;omega
   have t7:(O.take 0)=[]:=rfl
   generalize O[k]=o at *
   have u1:ms[o]?=some (ms.getD o []):=by rw[L'v t2,zj9 t2]
   have u2:S[o]?=some (S.getD o 0):=by rw[L'v (by omega),N'u,L'v (by omega)];rfl
   have u3:R[o]?=some (R.getD o 0):=by rw[L'v (by omega),N'u,L'v (by omega)];rfl
   have u4:=hxs _ (zj8 t2)
   generalize ms.getD o []=x at *
   generalize S.getD o 0=y at *
   generalize R.getD o 0=w at *
   rcases hV with⟨rfl,rfl,rfl,rfl,rfl⟩|⟨hk0,rfl,rfl,rfl,rfl⟩
   ·simp(maxSteps:=9^9)(disch:=first|omega|(simp only[H'];try omega))only[go_sem,P'k,C',D',E',t1,u1,u2,u3,wiw,hSl,hRl]
    refine⟨.ref 6 1 0 1,.ref 7 1 0 1,.ref 8 1 0 1,_,⟨by omega,rfl,rfl,rfl,rfl⟩,?_⟩
    rw[t3,t4,t5];rfl
   ·simp(maxSteps:=9^9)(disch:=first|omega|(simp only[H'];try omega))only[go_sem,P'k,C',D',E',t1,t6,u1,u2,u3,wiw,hSl,hRl]
    refine⟨_,_,_,_,⟨rfl,rfl,rfl,rfl⟩,?_⟩
    rw[t3,t4,t5];rfl
  ·rintro s⟨V1,V2,V3,K,hV,rfl⟩
   rcases hV with⟨h,_⟩|⟨_,rfl,rfl,rfl,rfl⟩
   ·omega
   ·simp(maxSteps:=9^9)(disch:=first|omega|(simp only[H'];try omega))only[go_sem,P'k,C',D',E']
    rw[R'g,R'g,R'g];rfl
end Go.Proofs.YtbaclnecajkknaaGreat.Pi

