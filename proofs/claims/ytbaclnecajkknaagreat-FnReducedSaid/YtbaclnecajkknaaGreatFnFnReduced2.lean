/- The functions that the law reaches: what they answer. Conditions: those that each theorem names. -/
import Derived.Test.YtbaclnecajkknaaGreatIrFnReduced
import Derived.Test.YtbaclnecajkknaaGreatPlFnReduced
import Derived.Test.YtbaclnecajkknaaGreatFnFnReduced0
import Derived.Test.YtbaclnecajkknaaGreatFnFnReduced1
namespace Go.Proofs.YtbaclnecajkknaaGreat.Pi
open Go
set_option linter.all false
open Nat (reduceAdd reduceEqDiff reduceLeDiff reduceSub)
set_option maxHeartbeats 40000000
set_option maxRecDepth 20000
theorem wfj(f:Fl)(b:Int):(sndV f b).way.length≤60:=by
 unfold sndV
 split
 ·split
  ·assumption
  ·simp
 ·simp
theorem wa1(f:Fl)(b:Int)(hg:ziu f=true)(hb:inB 1 400 b=true)(hf:smN f.net):C w6t [encF f,I b] []=some (.tup [vdPV (sndV f b),.bool true],[]):=by
 have h0:=wb2 f b hf
 rw[hg,hb] at h0
 have h1:=wak f b hg hb
 have hw:=wfj f b
 have hgn:=zja (ziy hg).1
 obtain⟨f1,f2,f3,f4,f5,f6⟩:=w6q hg hb
 generalize sndV f b=V at *
 generalize exAll f.net (oneM f.net.pl.toNat f.src) b=R at *
 obtain⟨vo,vk,vw,vd⟩:=V
 unfold vdPV at h1 ⊢
 simp only at h1 hw ⊢
 by_cases hc:R.code=0
 ·by_cases har:R.sp.ar=[]
  ·simp only[exPV,arcPV,hc,har,if_true] at h1
   by_cases hk:vk=1∨vk=2
   ·simp only[hk,if_true] at h1 ⊢
    refine w00 ?_
    simp (maxSteps:=2000000) (disch:=first|omega|(simp only[lenS];try omega)) only[wbp,go_sem,reduceAdd,reduceEqDiff,reduceLeDiff,reduceSub]
    simp (maxSteps:=2000000) (disch:=first|omega|(simp only[lenS];try omega)) only[go_sem,reduceAdd,reduceEqDiff,reduceLeDiff,reduceSub,h0,h1]
    first | done | rfl
   ·simp only[hk,if_false] at h1 ⊢
    refine w00 ?_
    simp (maxSteps:=2000000) (disch:=first|omega|(simp only[lenS];try omega)) only[wbp,go_sem,reduceAdd,reduceEqDiff,reduceLeDiff,reduceSub]
    simp (maxSteps:=2000000) (disch:=first|omega|(simp only[lenS];try omega)) only[go_sem,reduceAdd,reduceEqDiff,reduceLeDiff,reduceSub,h0,h1]
    first | done | rfl
  ·simp only[exPV,arcPV,hc,har,if_true,if_false] at h1
   by_cases hk:vk=1∨vk=2
   ·simp only[hk,if_true] at h1 ⊢
    refine w00 ?_
    simp (maxSteps:=2000000) (disch:=first|omega|(simp only[lenS];try omega)) only[wbp,go_sem,reduceAdd,reduceEqDiff,reduceLeDiff,reduceSub]
    simp (maxSteps:=2000000) (disch:=first|omega|(simp only[lenS];try omega)) only[go_sem,reduceAdd,reduceEqDiff,reduceLeDiff,reduceSub,h0,h1]
    first | done | rfl
   ·simp only[hk,if_false] at h1 ⊢
    refine w00 ?_
    simp (maxSteps:=2000000) (disch:=first|omega|(simp only[lenS];try omega)) only[wbp,go_sem,reduceAdd,reduceEqDiff,reduceLeDiff,reduceSub]
    simp (maxSteps:=2000000) (disch:=first|omega|(simp only[lenS];try omega)) only[go_sem,reduceAdd,reduceEqDiff,reduceLeDiff,reduceSub,h0,h1]
    first | done | rfl
 ·simp only[exPV,hc,if_false] at h1
  by_cases hk:vk=1∨vk=2
  ·simp only[hk,if_true] at h1 ⊢
   refine w00 ?_
   simp (maxSteps:=2000000) (disch:=first|omega|(simp only[lenS];try omega)) only[wbp,go_sem,reduceAdd,reduceEqDiff,reduceLeDiff,reduceSub]
   simp (maxSteps:=2000000) (disch:=first|omega|(simp only[lenS];try omega)) only[go_sem,reduceAdd,reduceEqDiff,reduceLeDiff,reduceSub,h0,h1]
   first | done | rfl
  ·simp only[hk,if_false] at h1 ⊢
   refine w00 ?_
   simp (maxSteps:=2000000) (disch:=first|omega|(simp only[lenS];try omega)) only[wbp,go_sem,reduceAdd,reduceEqDiff,reduceLeDiff,reduceSub]
   simp (maxSteps:=2000000) (disch:=first|omega|(simp only[lenS];try omega)) only[go_sem,reduceAdd,reduceEqDiff,reduceLeDiff,reduceSub,h0,h1]
   first | done | rfl
theorem wh7(f:Fl)(b:Int) : ∃ (o k d:Int) (W:PV),vdPV (sndV f b)=.agg [I o,I k,W,I d]∧o=(sndV f b).ok∧((∃ w:List Int,W=.un t_int true 1 (w.map I))∨W=.nil true 1):=by
 unfold vdPV
 by_cases hk:(sndV f b).kind=1∨(sndV f b).kind=2
 ·rw[if_pos hk];exact⟨_,_,_,_,rfl,rfl,.inl ⟨_,rfl⟩⟩
 ·rw[if_neg hk];exact⟨_,_,_,_,rfl,rfl,.inr rfl⟩
theorem wew(f g:Fl)(hf:ziu f=true)(hg:ziu g=true)(nf:smN f.net)(ng:smN g.net)(h:(sndV f 400).ok=3∨(sndV g 400).ok=3∨(sndV f 400).ok=(sndV g 400).ok):C w8d [encF f,encF g] []=some (.bool true,[]):=by
 have e1:=wa1 f 400 hf (by decide) nf
 have e2:=wa1 g 400 hg (by decide) ng
 obtain⟨o1,k1,d1,W1,q1,r1,s1⟩:=wh7 f 400
 obtain⟨o2,k2,d2,W2,q2,r2,s2⟩:=wh7 g 400
 rw[q1] at e1
 rw[q2] at e2
 rw[←r1,←r2] at h
 clear q1 q2 r1 r2
 by_cases c1:o1=3
 ·rcases s1 with⟨w1,rfl⟩ | rfl<;>rcases s2 with⟨w2,rfl⟩ | rfl
  all_goals
   refine w1k ?_
   simp (maxSteps:=2000000) (disch:=first|omega|(simp only[lenS];try omega)) only[wd9,go_sem,reduceAdd,reduceEqDiff,reduceLeDiff,reduceSub]
   simp (maxSteps:=2000000) (disch:=first|omega|(simp only[lenS];try omega)) only[go_sem,reduceAdd,reduceEqDiff,reduceLeDiff,reduceSub,e1,e2,c1]
   first | done | rfl
 ·by_cases c2:o2=3
  ·rcases s1 with⟨w1,rfl⟩ | rfl<;>rcases s2 with⟨w2,rfl⟩ | rfl
   all_goals
    refine w1k ?_
    simp (maxSteps:=2000000) (disch:=first|omega|(simp only[lenS];try omega)) only[wd9,go_sem,reduceAdd,reduceEqDiff,reduceLeDiff,reduceSub]
    simp (maxSteps:=2000000) (disch:=first|omega|(simp only[lenS];try omega)) only[go_sem,reduceAdd,reduceEqDiff,reduceLeDiff,reduceSub,e1,e2,c1,c2]
    first | done | rfl
  ·have c3:o1=o2:=by omega
   subst c3
   rcases s1 with⟨w1,rfl⟩ | rfl<;>rcases s2 with⟨w2,rfl⟩ | rfl
   all_goals
    refine w1k ?_
    simp (maxSteps:=2000000) (disch:=first|omega|(simp only[lenS];try omega)) only[wd9,go_sem,reduceAdd,reduceEqDiff,reduceLeDiff,reduceSub]
    simp (maxSteps:=2000000) (disch:=first|omega|(simp only[lenS];try omega)) only[go_sem,reduceAdd,reduceEqDiff,reduceLeDiff,reduceSub,e1,e2,c1]
    first | done | rfl
theorem gf_sm{f:Fl}(h:Gf f):smN f.net:=by
 obtain⟨hp1,hp2,hn,hT⟩:=zja h.net
 refine⟨by omega,fun t ht=>?_⟩
 have:=zjg (hT t ht) ⟨by omega,hp2⟩
 exact⟨by omega,by omega,by omega⟩
theorem laws_FnReduced_ok(a b:List Int)(ha2 : ∀ x∈a,0≤x∧x<256)(hb2 : ∀ x∈b,0≤x∧x<256):C w8c [bys a,bys b] []=some (.bool true,[]):=by
 refine w1j ?_
 simp (maxSteps:=2000000) (disch:=first|omega|(simp only[lenS];try omega)) only[wd8,go_sem,reduceAdd,reduceEqDiff,reduceLeDiff,reduceSub]
 simp (maxSteps:=2000000) (disch:=first|omega|(simp only[lenS];try omega)) only[go_sem,reduceAdd,reduceEqDiff,reduceLeDiff,reduceSub,wex]
 intro hbig
 simp only[Bool.or_eq_false_iff,decide_eq_false_iff_not] at hbig
 obtain⟨_,e1,f,rfl,h1⟩:=wfm a (by omega) ha2
 obtain⟨_,e2,g,rfl,h2⟩:=wfk a (by omega) ha2
 obtain⟨_,e3,h,rfl,h3⟩:=wfl b (by omega) hb2
 have i1:=wa5 f h1
 have i2:=wa4 f h1
 have i3:=wa2 g h2
 have i4:=wa3 h h3
 have j1:=wfq f h1
 have j2:=wfp f h1
 have j3:=wfn g h2
 have j4:=wfo h h3
 have z:C w8f [.agg [I 0,.sl false 3 [],I 0,I 0],.agg [I 0,.sl false 3 [],I 0,I 0]] []=some (.bool true,[]):=wey ⟨⟨0,[]⟩,0,0⟩ ⟨by simp,by simp⟩
 have q1:=fun g=>zi3 (f:=f) (g:=g)
 have q2:=fun g=>zhz (f:=f) (g:=g)
 have q3:=fun x=>zcp (f:=g) (g:=x)
 have q4:=fun x=>zcv (f:=h) (g:=x)
 have al : ∀ x y:Fl,Rkp x y→smN x.net→C w8f [encF y,encF y] []=some (.bool true,[])∧C w8d [encF x,encF y] []=some (.bool true,[]):=fun x y hk hx=>⟨wey y (gf_sm hk.gg),wew x y (ziv.2 hk.gf) (ziv.2 hk.gg) hx (gf_sm hk.gg) (hk.alike (by omega))⟩
 unfold dtV at i4 j4
 generalize zi0 f=o1 at *
 generalize zhw f=o2 at *
 generalize dropV g=o3 at *
 generalize zct h=o4 at *
 rcases o1 with _ | x1<;>rcases o2 with _ | x2<;>rcases o3 with _ | x3<;>rcases o4 with _ | x4<;>dsimp only at i1 i2 i3 i4 j1 j2 j3 j4<;>(try simp only[Option.isSome_none,Option.isSome_some] at i1 i2 i3 i4 j1 j2 j3 j4)
 ·simp (maxSteps:=2000000) (disch:=first|omega|(simp only[lenS];try omega)) only[go_sem,reduceAdd,reduceEqDiff,reduceLeDiff,reduceSub,e1,e2,e3,i1,i2,i3,i4,j1,j2,j3,j4,z]
  try(first | done | rfl)
 ·obtain⟨u3,v3⟩:=al h x4 (q4 x4 rfl) h3
  simp (maxSteps:=2000000) (disch:=first|omega|(simp only[lenS];try omega)) only[go_sem,reduceAdd,reduceEqDiff,reduceLeDiff,reduceSub,e1,e2,e3,i1,i2,i3,i4,j1,j2,j3,j4,z,u3,v3]
  try(first | done | rfl)
 ·obtain⟨u2,v2⟩:=al g x3 (q3 x3 rfl) h2
  simp (maxSteps:=2000000) (disch:=first|omega|(simp only[lenS];try omega)) only[go_sem,reduceAdd,reduceEqDiff,reduceLeDiff,reduceSub,e1,e2,e3,i1,i2,i3,i4,j1,j2,j3,j4,z,u2,v2]
  try(first | done | rfl)
 ·obtain⟨u2,v2⟩:=al g x3 (q3 x3 rfl) h2
  obtain⟨u3,v3⟩:=al h x4 (q4 x4 rfl) h3
  simp (maxSteps:=2000000) (disch:=first|omega|(simp only[lenS];try omega)) only[go_sem,reduceAdd,reduceEqDiff,reduceLeDiff,reduceSub,e1,e2,e3,i1,i2,i3,i4,j1,j2,j3,j4,z,u2,v2,u3,v3]
  try(first | done | rfl)
 ·obtain⟨u1,v1⟩:=al f x2 (q2 x2 rfl) h1
  simp (maxSteps:=2000000) (disch:=first|omega|(simp only[lenS];try omega)) only[go_sem,reduceAdd,reduceEqDiff,reduceLeDiff,reduceSub,e1,e2,e3,i1,i2,i3,i4,j1,j2,j3,j4,z,u1,v1]
  try(first | done | rfl)
 ·obtain⟨u1,v1⟩:=al f x2 (q2 x2 rfl) h1
  obtain⟨u3,v3⟩:=al h x4 (q4 x4 rfl) h3
  simp (maxSteps:=2000000) (disch:=first|omega|(simp only[lenS];try omega)) only[go_sem,reduceAdd,reduceEqDiff,reduceLeDiff,reduceSub,e1,e2,e3,i1,i2,i3,i4,j1,j2,j3,j4,z,u1,v1,u3,v3]
  try(first | done | rfl)
 ·obtain⟨u1,v1⟩:=al f x2 (q2 x2 rfl) h1
  obtain⟨u2,v2⟩:=al g x3 (q3 x3 rfl) h2
  simp (maxSteps:=2000000) (disch:=first|omega|(simp only[lenS];try omega)) only[go_sem,reduceAdd,reduceEqDiff,reduceLeDiff,reduceSub,e1,e2,e3,i1,i2,i3,i4,j1,j2,j3,j4,z,u1,v1,u2,v2]
  try(first | done | rfl)
 ·obtain⟨u1,v1⟩:=al f x2 (q2 x2 rfl) h1
  obtain⟨u2,v2⟩:=al g x3 (q3 x3 rfl) h2
  obtain⟨u3,v3⟩:=al h x4 (q4 x4 rfl) h3
  simp (maxSteps:=2000000) (disch:=first|omega|(simp only[lenS];try omega)) only[go_sem,reduceAdd,reduceEqDiff,reduceLeDiff,reduceSub,e1,e2,e3,i1,i2,i3,i4,j1,j2,j3,j4,z,u1,v1,u2,v2,u3,v3]
  try(first | done | rfl)
 ·obtain⟨u0,v0⟩:=al f x1 (q1 x1 rfl) h1
  simp (maxSteps:=2000000) (disch:=first|omega|(simp only[lenS];try omega)) only[go_sem,reduceAdd,reduceEqDiff,reduceLeDiff,reduceSub,e1,e2,e3,i1,i2,i3,i4,j1,j2,j3,j4,z,u0,v0]
  try(first | done | rfl)
 ·obtain⟨u0,v0⟩:=al f x1 (q1 x1 rfl) h1
  obtain⟨u3,v3⟩:=al h x4 (q4 x4 rfl) h3
  simp (maxSteps:=2000000) (disch:=first|omega|(simp only[lenS];try omega)) only[go_sem,reduceAdd,reduceEqDiff,reduceLeDiff,reduceSub,e1,e2,e3,i1,i2,i3,i4,j1,j2,j3,j4,z,u0,v0,u3,v3]
  try(first | done | rfl)
 ·obtain⟨u0,v0⟩:=al f x1 (q1 x1 rfl) h1
  obtain⟨u2,v2⟩:=al g x3 (q3 x3 rfl) h2
  simp (maxSteps:=2000000) (disch:=first|omega|(simp only[lenS];try omega)) only[go_sem,reduceAdd,reduceEqDiff,reduceLeDiff,reduceSub,e1,e2,e3,i1,i2,i3,i4,j1,j2,j3,j4,z,u0,v0,u2,v2]
  try(first | done | rfl)
 ·obtain⟨u0,v0⟩:=al f x1 (q1 x1 rfl) h1
  obtain⟨u2,v2⟩:=al g x3 (q3 x3 rfl) h2
  obtain⟨u3,v3⟩:=al h x4 (q4 x4 rfl) h3
  simp (maxSteps:=2000000) (disch:=first|omega|(simp only[lenS];try omega)) only[go_sem,reduceAdd,reduceEqDiff,reduceLeDiff,reduceSub,e1,e2,e3,i1,i2,i3,i4,j1,j2,j3,j4,z,u0,v0,u2,v2,u3,v3]
  try(first | done | rfl)
 ·obtain⟨u0,v0⟩:=al f x1 (q1 x1 rfl) h1
  obtain⟨u1,v1⟩:=al f x2 (q2 x2 rfl) h1
  simp (maxSteps:=2000000) (disch:=first|omega|(simp only[lenS];try omega)) only[go_sem,reduceAdd,reduceEqDiff,reduceLeDiff,reduceSub,e1,e2,e3,i1,i2,i3,i4,j1,j2,j3,j4,z,u0,v0,u1,v1]
  try(first | done | rfl)
 ·obtain⟨u0,v0⟩:=al f x1 (q1 x1 rfl) h1
  obtain⟨u1,v1⟩:=al f x2 (q2 x2 rfl) h1
  obtain⟨u3,v3⟩:=al h x4 (q4 x4 rfl) h3
  simp (maxSteps:=2000000) (disch:=first|omega|(simp only[lenS];try omega)) only[go_sem,reduceAdd,reduceEqDiff,reduceLeDiff,reduceSub,e1,e2,e3,i1,i2,i3,i4,j1,j2,j3,j4,z,u0,v0,u1,v1,u3,v3]
  try(first | done | rfl)
 ·obtain⟨u0,v0⟩:=al f x1 (q1 x1 rfl) h1
  obtain⟨u1,v1⟩:=al f x2 (q2 x2 rfl) h1
  obtain⟨u2,v2⟩:=al g x3 (q3 x3 rfl) h2
  simp (maxSteps:=2000000) (disch:=first|omega|(simp only[lenS];try omega)) only[go_sem,reduceAdd,reduceEqDiff,reduceLeDiff,reduceSub,e1,e2,e3,i1,i2,i3,i4,j1,j2,j3,j4,z,u0,v0,u1,v1,u2,v2]
  try(first | done | rfl)
 ·obtain⟨u0,v0⟩:=al f x1 (q1 x1 rfl) h1
  obtain⟨u1,v1⟩:=al f x2 (q2 x2 rfl) h1
  obtain⟨u2,v2⟩:=al g x3 (q3 x3 rfl) h2
  obtain⟨u3,v3⟩:=al h x4 (q4 x4 rfl) h3
  simp (maxSteps:=2000000) (disch:=first|omega|(simp only[lenS];try omega)) only[go_sem,reduceAdd,reduceEqDiff,reduceLeDiff,reduceSub,e1,e2,e3,i1,i2,i3,i4,j1,j2,j3,j4,z,u0,v0,u1,v1,u2,v2,u3,v3]
  try(first | done | rfl)
end Go.Proofs.YtbaclnecajkknaaGreat.Pi

