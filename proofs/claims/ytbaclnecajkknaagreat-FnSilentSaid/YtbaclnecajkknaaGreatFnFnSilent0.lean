/- The functions that the law reaches: what they answer. Conditions: those that each theorem names. -/
import Derived.Test.YtbaclnecajkknaaGreatIrFnSilent
import Derived.Test.YtbaclnecajkknaaGreatPlFnSilent
namespace Go.Proofs.YtbaclnecajkknaaGreat.Pi
open Go
set_option linter.all false
open Nat (reduceAdd reduceEqDiff reduceLeDiff reduceSub)
set_option maxHeartbeats 4000000
set_option maxRecDepth 20000
/-- Lengths, all at once. -/
theorem lenS:(∀ {α:Type} (a b:List α),(a++b).length=a.length+b.length)∧(∀ {α:Type} (n:Nat) (l:List α),(l.take n).length=min n l.length)∧(∀ {α:Type} (n:Nat) (x:α),(List.replicate n x).length=n)∧(∀ {α β:Type} (f:α→β) (l:List α),(l.map f).length=l.length)∧(∀ {α:Type} (l:List α) (n:Nat) (x:α),(l.set n x).length=l.length)∧(∀ {α:Type} (x:α) (l:List α),(x :: l).length=l.length+1)∧(∀ {α:Type},([]:List α).length=0)∧(∀ {α β γ:Type} (f:α→β→γ) (a:List α) (b:List β),(List.zipWith f a b).length=min a.length b.length)∧(∀ {α:Type} (n:Nat) (l:List α),(l.drop n).length=l.length-n)∧(∀ (n:Nat),(List.range n).length=n):=
 ⟨fun _ _=>List.length_append,fun _ _=>List.length_take,fun _ _=>List.length_replicate,fun _ _=>List.length_map _,fun _ _ _=>List.length_set,fun _ _=>List.length_cons,List.length_nil,fun _ _ _=>List.length_zipWith,fun _ _=>List.length_drop,fun _=>List.length_range⟩
theorem wdp(a b:List Int):C w79 [bys a,bys b] []=some (.bool (decide (1048576<(a.length:Int))||decide (1048576-(a.length:Int)<b.length)),[]):=by
 refine w0r ?_
 simp (maxSteps:=2000000) (disch:=first|omega|(simp only[lenS];try omega)) only[wba,go_sem,reduceAdd,reduceEqDiff,reduceLeDiff,reduceSub]
 refine⟨fun h=>by simp [h],fun h=>?_⟩
 simp (maxSteps:=2000000) (disch:=first|omega|(simp only[lenS];try omega)) only[go_sem,reduceAdd,reduceEqDiff,reduceLeDiff,reduceSub]
 grind
theorem wfk(bs:List Int)(at_ sd:Int)(h0:0≤at_)(h1:at_<2^62)(hl:bs.length<2^62)(hb : ∀ x∈bs,0≤x∧x<256) :
  Lw (C w8z [.ptr 0 0] [.box wgn [bys bs,I at_,.int .u64 sd]]) fun r=>∃ x sd',r=(I x,[.box wgn [bys bs,I (at_+1),.int .u64 sd']])∧0≤x∧x<256:=by
 refine w2z ?_
 simp (maxSteps:=2000000) (disch:=first|omega|(simp only[lenS];try omega)) only[wcz,go_sem,reduceAdd,reduceEqDiff,reduceLeDiff,reduceSub]
 refine⟨fun h=>?_,fun h=>?_⟩
 ·have h2:at_.toNat<bs.length:=by omega
  have h3:=hb _ (List.getElem_mem h2)
  simp (maxSteps:=2000000) (disch:=first|omega|(simp only[lenS];try omega)) only[go_sem,reduceAdd,reduceEqDiff,reduceLeDiff,reduceSub]
  exact⟨_,_,rfl,h3⟩
 ·refine⟨fun _=>⟨_,_,rfl,by omega,by omega⟩,fun _=>?_⟩
  generalize hw:IntKind.u64.wrap (IntKind.u64.wrap (IntKind.u64.wrap (sd*6364136223846793005)+IntKind.u64.wrap 0)+1442695040888963407)=w
  have hb:=z1fp (IntKind.u64.wrap (IntKind.u64.wrap (sd*6364136223846793005)+IntKind.u64.wrap 0)+1442695040888963407)
  rw[hw] at hb
  have h3:=z31 (x:=w / 2 ^ min (Int.toNat 40) 64) (Int.ediv_nonneg hb.1 (by decide)) (Int.lt_of_le_of_lt (Int.ediv_le_self _ hb.1) hb.2)
  rw[wrap_i64 (by omega) (by omega)]
  exact⟨_,_,rfl,h3⟩
theorem wfm(n:Int)(bs:List Int)(at_ sd:Int)(h0:0≤at_)(h1:at_<2^61)(hl:bs.length<2^62)(hb : ∀ x∈bs,0≤x∧x<256) :
  Lw (C w91 [.ptr 0 0,I n] [.box wgn [bys bs,I at_,.int .u64 sd]]) fun r=>∃ x at' sd',r=(I x,[.box wgn [bys bs,I at',.int .u64 sd']])∧at_≤at'∧at'≤at_+2∧0≤x∧(x=0∨x<n):=by
 refine w31 ?_
 simp (maxSteps:=2000000) (disch:=first|omega|(simp only[lenS];try omega)) only[wd1,go_sem,reduceAdd,reduceEqDiff,reduceLeDiff,reduceSub]
 refine⟨fun h=>⟨_,_,_,rfl,by omega,by omega,by omega,by omega⟩,fun h=>?_⟩
 obtain⟨_,e1,x1,s1,rfl,h3,h4⟩:=wfk bs at_ sd h0 (by omega) hl hb
 obtain⟨_,e2,x2,s2,rfl,h5,h6⟩:=wfk bs (at_+1) s1 (by omega) (by omega) hl hb
 simp (maxSteps:=2000000) (disch:=first|omega|(simp only[lenS];try omega)) only[go_sem,reduceAdd,reduceEqDiff,reduceLeDiff,reduceSub,e1,e2]
 refine⟨fun _=>⟨_,_,_,rfl,by omega,by omega,Int.tmod_nonneg _ (by omega),.inr (Int.tmod_lt_of_pos _ (by omega))⟩,fun _=>⟨_,_,_,rfl,by omega,by omega,Int.tmod_nonneg _ (by omega),.inr (Int.tmod_lt_of_pos _ (by omega))⟩⟩
theorem wfl(n:Int)(bs:List Int)(at_ sd:Int)(h0:0≤at_)(h1:at_<2^61)(hl:bs.length<2^62)(hb : ∀ x∈bs,0≤x∧x<256) :
  Lw (C w90 [.ptr 0 0,I n] [.box wgn [bys bs,I at_,.int .u64 sd]]) fun r=>∃ x at' sd',r=(.bool x,[.box wgn [bys bs,I at',.int .u64 sd']])∧at_≤at'∧at'≤at_+2:=by
 refine w30 ?_
 simp (maxSteps:=2000000) (disch:=first|omega|(simp only[lenS];try omega)) only[wd0,go_sem,reduceAdd,reduceEqDiff,reduceLeDiff,reduceSub]
 obtain⟨_,e1,x1,a1,s1,rfl,h3,h4,h5⟩:=wfm n bs at_ sd h0 h1 hl hb
 simp (maxSteps:=2000000) (disch:=first|omega|(simp only[lenS];try omega)) only[go_sem,reduceAdd,reduceEqDiff,reduceLeDiff,reduceSub,e1]
 exact⟨fun _=>⟨_,_,_,rfl,h3,h4⟩,fun _=>⟨_,_,_,rfl,h3,h4⟩⟩
def brC:Nat→Int
 | 0=>4
 | d+1=>4+2*brC d
def brN:Nat→Nat
 | 0=>1
 | d+1=>2*brN d+1
theorem wfd(bs:List Int)(hl:bs.length<2^62)(hb : ∀ x∈bs,0≤x∧x<256) : ∀ (d:Nat) (at_ sd:Int),d≤5→0≤at_→at_+brC d<2^58 →
    Lw (C w8s [.ptr 0 0,I d] [.box wgn [bys bs,I at_,.int .u64 sd]]) fun r=>∃ (l:List Br) (at' sd':Int),r=(.un wgf true 2 (l.map encB),[.box wgn [bys bs,I at',.int .u64 sd']])∧at_≤at'∧at'≤at_+brC d∧0<l.length∧l.length≤brN d
  | 0, at_, sd, _, h0, h1 => by
    simp only[brC] at h1
    obtain⟨_,e1,x1,a1,s1,rfl,h3,h4,h5,h6⟩:=wfm 4 bs at_ sd h0 (by omega) hl hb
    refine w2s ?_
    simp (maxSteps:=2000000) (disch:=first|omega|(simp only[lenS];try omega)) only[wcs,go_sem,reduceAdd,reduceEqDiff,reduceLeDiff,reduceSub]
    simp (maxSteps:=2000000) (disch:=first|omega|(simp only[lenS];try omega)) only[go_sem,reduceAdd,reduceEqDiff,reduceLeDiff,reduceSub,e1]
    exact⟨[⟨1,1+x1⟩],a1,s1,by simp,by omega,by simp only[brC];omega,by simp,by simp [brN]⟩
  | d + 1, at_, sd, hd, h0, h1 => by
    simp only[brC] at h1
    have hc : ∀ d,d≤5→4≤brC d∧brC d≤300:=by
      intro d hd
      rcases d with _ | _ | _ | _ | _ | _ | d<;>simp [brC]<;>omega
    have hn : ∀ d,d≤5→brN d≤63:=by
      intro d hd
      rcases d with _ | _ | _ | _ | _ | _ | d<;>simp [brN]<;>omega
    have hcd:=hc d (by omega)
    have hnd:=hn d (by omega)
    obtain⟨_,e1,b1,a1,s1,rfl,h3,h4⟩:=wfl 5 bs at_ sd h0 (by omega) hl hb
    cases b1 with
    | true =>
      obtain⟨_,e2,x2,a2,s2,rfl,g3,g4,g5,g6⟩:=wfm 4 bs a1 s1 (by omega) (by omega) hl hb
      refine w2s ?_
      simp (maxSteps:=2000000) (disch:=first|omega|(simp only[lenS];try omega)) only[wcs,go_sem,reduceAdd,reduceEqDiff,reduceLeDiff,reduceSub]
      simp (maxSteps:=2000000) (disch:=first|omega|(simp only[lenS];try omega)) only[go_sem,reduceAdd,reduceEqDiff,reduceLeDiff,reduceSub,e1,e2]
      exact⟨[⟨1,1+x2⟩],a2,s2,by simp,by omega,by simp only[brC];omega,by simp,by simp [brN]⟩
    | false =>
      obtain⟨_,e2,l2,a2,s2,rfl,g1,g2,g3,g4⟩:=wfd bs hl hb d a1 s1 (by omega) (by omega) (by omega)
      obtain⟨_,e3,l3,a3,s3,rfl,k1,k2,k3,k4⟩:=wfd bs hl hb d a2 s2 (by omega) (by omega) (by omega)
      obtain⟨_,e4,x4,a4,s4,rfl,m1,m2,m3,m4⟩:=wfm 4 bs a3 s3 (by omega) (by omega) hl hb
      have hd1:((d+1:Nat):Int)-1=(d:Int):=by omega
      refine w2s ?_
      simp (maxSteps:=2000000) (disch:=first|omega|(simp only[lenS];try omega)) only[wcs,go_sem,reduceAdd,reduceEqDiff,reduceLeDiff,reduceSub]
      simp (maxSteps:=2000000) (disch:=first|omega|(simp only[lenS];try omega)) only[go_sem,reduceAdd,reduceEqDiff,reduceLeDiff,reduceSub,e1,hd1,e2,e3,e4]
      exact⟨l2++l3++[⟨2+x4,0⟩],a4,s4,by simp,by omega,by simp only[brC];omega,by simp;try omega,by simp only[brN,List.length_append,List.length_cons,List.length_nil];omega⟩
theorem wfc(l:List Int)(t:TypeId)(hne:0<l.length)(hln:l.length<2^30)(bs:List Int)(at_ sd:Int)(h0:0≤at_)(h1:at_<2^61)(hl:bs.length<2^62)(hb : ∀ x∈bs,0≤x∧x<256) :
  Lw (C w8r [.ptr 0 0,.ref 1 1 0 l.length] [.box wgn [bys bs,I at_,.int .u64 sd],.row t true 1 (l.map I)]) fun r=>∃ x at' sd',r=(I x,[.box wgn [bys bs,I at',.int .u64 sd'],.row t true 1 (l.map I)])∧at_≤at'∧at'≤at_+2∧x∈l:=by
 refine w2r ?_
 simp (maxSteps:=2000000) (disch:=first|omega|(simp only[lenS];try omega)) only[wcr,go_sem,reduceAdd,reduceEqDiff,reduceLeDiff,reduceSub]
 obtain⟨_,e1,x1,a1,s1,rfl,h3,h4,h5,h6⟩:=wfm l.length bs at_ sd h0 h1 hl hb
 have h7:x1.toNat<l.length:=by omega
 simp (maxSteps:=2000000) (disch:=first|omega|(simp only[lenS];try omega)) only[go_sem,reduceAdd,reduceEqDiff,reduceLeDiff,reduceSub,e1]
 exact⟨_,_,_,rfl,h3,h4,List.getElem_mem h7⟩
theorem set_n{l:List Br}{k:Nat}(hk:k<l.length)(x:Int):(l.map encB).set k (.agg [I l[k].op,I x])=(l.set k ⟨l[k].op,x⟩).map encB:=by rw[List.map_set]
theorem set_o{l:List Br}{k:Nat}(hk:k<l.length)(x:Int):(l.map encB).set k (.agg [I x,I l[k].n])=(l.set k ⟨x,l[k].n⟩).map encB:=by rw[List.map_set]
theorem wfo(bs:List Int)(at_ sd:Int)(h0:0≤at_)(h1:at_<2^57)(hl:bs.length<2^62)(hb : ∀ x∈bs,0≤x∧x<256) :
    Lw (C w93 [.ptr 0 0] [.box wgn [bys bs,I at_,.int .u64 sd]]) fun r=>∃ (l:List Br) (at' sd':Int),(r=(.un wgf true 2 (l.map encB),[.box wgn [bys bs,I at',.int .u64 sd']])∨r=(brs l,[.box wgn [bys bs,I at',.int .u64 sd']]))∧at_≤at'∧at'≤at_+200∧l.length≤15:=by
  obtain⟨_,e1,x1,a1,s1,rfl,h3,h4,h5,h6⟩:=wfm 3 bs at_ sd h0 (by omega) hl hb
  obtain⟨d,hd⟩ : ∃ d:Nat,1+x1=d:=⟨(1+x1).toNat,by omega⟩
  have hd3:d≤3:=by omega
  have hbr:brC d≤60∧brN d≤15:=by
    rcases d with _ | _ | _ | _ | d<;>simp [brC,brN]<;>omega
  obtain⟨_,e2,l,a2,s2,rfl,g1,g2,g3,g4⟩:=wfd bs hl hb d a1 s1 (by omega) (by omega) (by omega)
  obtain⟨_,e3,b3,a3,s3,rfl,k1,k2⟩:=wfl 4 bs a2 s2 (by omega) (by omega) hl hb
  have hb2:brC 2=28∧brN 2=7:=by simp [brC,brN]
  obtain⟨_,e4,l4,a4,s4,rfl,m1,m2,m3,m4⟩:=wfd bs hl hb 2 a3 s3 (by omega) (by omega) (by rw[hb2.1];omega)
  have e4:C w8s [.ptr 0 0,I 2] _=_:=e4
  have fin : ∀ (l:List Br) (a s:Int),at_≤a→a≤at_+120→0<l.length→l.length≤15→∃ (x5 a5 s5:Int),C w91 [.ptr 0 0,I 40] [.box wgn [bys bs,I a,.int .u64 s]]=some (I x5,[.box wgn [bys bs,I a5,.int .u64 s5]])∧a≤a5∧a5≤a+2:=by
    intro l a s q1 q2 q3 q4
    obtain⟨_,e5,x5,a5,s5,rfl,n1,n2,_⟩:=wfm 40 bs a s (by omega) (by omega) hl hb
    exact⟨x5,a5,s5,e5,n1,n2⟩
  cases b3 with
  | true =>
    obtain⟨x5,a5,s5,e5,n1,n2⟩:=fin l4 a4 s4 (by omega) (by omega) m3 (by omega)
    obtain⟨_,e6,x6,a6,s6,rfl,o1,o2,o3⟩:=wfc [0,9,10] t_int (by decide) (by decide) bs a5 s5 (by omega) (by omega) hl hb
    obtain⟨_,e7,x7,a7,s7,rfl,p1,p2,p3,p4⟩:=wfm 8 bs a5 s5 (by omega) (by omega) hl hb
    simp only[go_sem,Nat.reduceAdd] at e6
    have hpos:0<l4.length:=m3
    have t1:l4[0]? = some l4[0]:=List.getElem?_eq_getElem hpos
    obtain⟨K,hK⟩ : ∃ K:Nat,l4.length=K+1:=⟨l4.length-1,by omega⟩
    have hKi:((K+1:Nat):Int)-1=(K:Int):=by omega
    have t2:l4[K]? = some (l4[K]'(by omega)):=List.getElem?_eq_getElem (by omega)
    have u1:=set_n hpos x6
    have u2:=set_o (l:=l4) (k:=K) (by omega) x7
    refine w33 ?_
    simp (maxSteps:=2000000) (disch:=first|omega|(simp only[lenS];try omega)) only[wd3,go_sem,reduceAdd,reduceEqDiff,reduceLeDiff,reduceSub]
    simp (maxSteps:=2000000) (disch:=first|omega|(simp only[lenS];try omega)) only[go_sem,reduceAdd,reduceEqDiff,reduceLeDiff,reduceSub,e1,hd,e2,e3,e4,e5]
    refine⟨fun h=>?_,fun _=>⟨fun h=>?_,fun _=>⟨fun h=>?_,fun _=>?_⟩⟩⟩
    · simp (maxSteps:=2000000) (disch:=first|omega|(simp only[lenS];try omega)) only[go_sem,reduceAdd,reduceEqDiff,reduceLeDiff,reduceSub,e6,t1]
      first
        | exact⟨_,a6,s6,.inl (by rw[u1];rfl),by omega,by omega,by simp;omega⟩
        | exact⟨l4.set 0 ⟨l4[0].op,x6⟩,a6,s6,.inl (by rw[←u1];try rfl),by omega,by omega,by simp;omega⟩
    · refine⟨fun _=>?_,fun _=>?_⟩
      all_goals
        first
          | exact⟨[],a5,s5,.inr rfl,by omega,by omega,by simp⟩
          | exact⟨l4.drop 1,a5,s5,.inr (by rw[show brs (l4.drop 1)=PV.sl true 2 ((l4.map encB).drop 1) by simp [brs,List.map_drop]];rfl),by omega,by omega,by simp;omega⟩
    · rw[hK] at *
      simp (maxSteps:=2000000) (disch:=first|omega|(simp only[lenS];try omega)) only[go_sem,reduceAdd,reduceEqDiff,reduceLeDiff,reduceSub,e7,t2,hKi,hK]
      first
        | exact⟨_,a7,s7,.inl (by rw[u2];rfl),by omega,by omega,by simp;omega⟩
        | exact⟨l4.set K ⟨x7,(l4[K]'(by omega)).n⟩,a7,s7,.inl (by rw[←u2];try rfl),by omega,by omega,by simp;omega⟩
    · exact⟨l4,a5,s5,.inl rfl,by omega,by omega,by omega⟩
  | false =>
    obtain⟨x5,a5,s5,e5,n1,n2⟩:=fin l a3 s3 (by omega) (by omega) g3 (by omega)
    obtain⟨_,e6,x6,a6,s6,rfl,o1,o2,o3⟩:=wfc [0,9,10] t_int (by decide) (by decide) bs a5 s5 (by omega) (by omega) hl hb
    obtain⟨_,e7,x7,a7,s7,rfl,p1,p2,p3,p4⟩:=wfm 8 bs a5 s5 (by omega) (by omega) hl hb
    simp only[go_sem,Nat.reduceAdd] at e6
    have hpos:0<l.length:=g3
    have t1:l[0]? = some l[0]:=List.getElem?_eq_getElem hpos
    obtain⟨K,hK⟩ : ∃ K:Nat,l.length=K+1:=⟨l.length-1,by omega⟩
    have hKi:((K+1:Nat):Int)-1=(K:Int):=by omega
    have t2:l[K]? = some (l[K]'(by omega)):=List.getElem?_eq_getElem (by omega)
    have u1:=set_n hpos x6
    have u2:=set_o (l:=l) (k:=K) (by omega) x7
    refine w33 ?_
    simp (maxSteps:=2000000) (disch:=first|omega|(simp only[lenS];try omega)) only[wd3,go_sem,reduceAdd,reduceEqDiff,reduceLeDiff,reduceSub]
    simp (maxSteps:=2000000) (disch:=first|omega|(simp only[lenS];try omega)) only[go_sem,reduceAdd,reduceEqDiff,reduceLeDiff,reduceSub,e1,hd,e2,e3,e4,e5]
    refine⟨fun h=>?_,fun _=>⟨fun h=>?_,fun _=>⟨fun h=>?_,fun _=>?_⟩⟩⟩
    · simp (maxSteps:=2000000) (disch:=first|omega|(simp only[lenS];try omega)) only[go_sem,reduceAdd,reduceEqDiff,reduceLeDiff,reduceSub,e6,t1]
      first
        | exact⟨_,a6,s6,.inl (by rw[u1];rfl),by omega,by omega,by simp;omega⟩
        | exact⟨l.set 0 ⟨l[0].op,x6⟩,a6,s6,.inl (by rw[←u1];try rfl),by omega,by omega,by simp;omega⟩
    · refine⟨fun _=>?_,fun _=>?_⟩
      all_goals
        first
          | exact⟨[],a5,s5,.inr rfl,by omega,by omega,by simp⟩
          | exact⟨l.drop 1,a5,s5,.inr (by rw[show brs (l.drop 1)=PV.sl true 2 ((l.map encB).drop 1) by simp [brs,List.map_drop]];rfl),by omega,by omega,by simp;omega⟩
    · rw[hK] at *
      simp (maxSteps:=2000000) (disch:=first|omega|(simp only[lenS];try omega)) only[go_sem,reduceAdd,reduceEqDiff,reduceLeDiff,reduceSub,e7,t2,hKi,hK]
      first
        | exact⟨_,a7,s7,.inl (by rw[u2];rfl),by omega,by omega,by simp;omega⟩
        | exact⟨l.set K ⟨x7,(l[K]'(by omega)).n⟩,a7,s7,.inl (by rw[←u2];try rfl),by omega,by omega,by simp;omega⟩
    · exact⟨l,a5,s5,.inl rfl,by omega,by omega,by omega⟩
theorem wfr(n lo hi:Int):C w95 [I n,I lo,I hi] []=some (.bool (inB lo hi n),[]):=by
 refine w1x ?_
 simp (maxSteps:=2000000) (disch:=first|omega|(simp only[lenS];try omega)) only[wd5,go_sem,reduceAdd,reduceEqDiff,reduceLeDiff,reduceSub]
 unfold inB;grind
theorem wf8(l:List Br)(hl:l.length<2^40):C w8n [brs l] []=some (.bool (zjn l),[]):=by
 refine w1s ?_
 simp (maxSteps:=2000000) (disch:=first|omega|(simp only[lenS];try omega)) only[wcn,go_sem,reduceAdd,reduceEqDiff,reduceLeDiff,reduceSub]
 simp (maxSteps:=2000000) (disch:=first|omega|(simp only[lenS];try omega)) only[go_sem,reduceAdd,reduceEqDiff,reduceLeDiff,reduceSub,wfr]
 refine⟨fun hn=>?_,fun hn=>?_⟩
 rotate_left
 ·simp only[inB,Bool.and_eq_false_iff,decide_eq_false_iff_not,Int.not_le] at hn
  rcases hn with hn | hn
  ·have:l=[]:=by cases l with
    | nil=>rfl
    | cons _ _=>simp at hn;omega
   subst this;rfl
  ·simp [zjn];omega
 refine W_for l.length (fun i st=>∃ p:Nat,st=⟨[.any,.any,I p,.any,.any,brs l,I l.length,I i,.any,.any,.any],[]⟩∧pileB (l.drop i) p=pileB l 0∧p≤i) ?_ ?_ ?_
 ·simp (maxSteps:=2000000) (disch:=first|omega|(simp only[lenS];try omega)) only[go_sem,reduceAdd,reduceEqDiff,reduceLeDiff,reduceSub]
  exact⟨0,rfl,by simp,by omega⟩
 ·rintro i st hi ⟨p,rfl,hp,hpi⟩
  rw[z10y hi] at hp
  have hlk:l[i]? = some l[i]:=List.getElem?_eq_getElem hi
  generalize l[i]=b at *
  obtain⟨bo,bn⟩:=b
  simp (maxSteps:=2000000) (disch:=first|omega|(simp only[lenS];try omega)) only[go_sem,reduceAdd,reduceEqDiff,reduceLeDiff,reduceSub,hlk,wfr]
  simp only at hp
  have fin:pileB l 0=none→some (PV.bool false,([]:List Blk))=some (PV.bool (zjn l),[]):=by
   intro h;simp [zjn,h]
  simp only[inB,Bool.and_eq_true,Bool.and_eq_false_iff,decide_eq_true_eq,decide_eq_false_iff_not,Int.not_le]
  have leaf:bo=1∧1≤bn∧bn≤9→pileB (l.drop (i+1)) (p+1)=pileB l 0:=fun h=>by rw[if_pos h] at hp;exact hp
  have fork:2≤bo∧bo≤5∧bn=0∧2≤p→pileB (l.drop (i+1)) (p-1)=pileB l 0:=fun h=>by rw[if_neg (by omega),if_pos h] at hp;exact hp
  have none_:¬(bo=1∧1≤bn∧bn≤9)→¬(2≤bo∧bo≤5∧bn=0∧2≤p)→some (PV.bool false,([]:List Blk))=some (PV.bool (zjn l),[]):=fun h1 h2=>fin (by rw[if_neg h1,if_neg h2] at hp;exact hp.symm)
  refine⟨fun h1=>⟨fun h2=>⟨p+1,by rw[show((p+1:Nat):Int)=(p:Int)+1 by omega];rfl,leaf ⟨h1,h2⟩,by omega⟩,fun h2=>⟨fun h3=>by omega,fun h3=>none_ (by omega) (by omega)⟩⟩,
   fun h1=>⟨fun h3=>⟨fun h4=>⟨fun h5=>⟨p-1,by rw[show((p-1:Nat):Int)=(p:Int)-1 by omega];rfl,fork (by omega),by omega⟩,fun h5=>none_ (by omega) (by omega)⟩,fun h4=>none_ (by omega) (by omega)⟩,fun h3=>none_ (by omega) (by omega)⟩⟩
 ·rintro st ⟨p,rfl,hp,hpi⟩
  simp only[List.drop_length,pileB] at hp
  simp (maxSteps:=2000000) (disch:=first|omega|(simp only[lenS];try omega)) only[go_sem,reduceAdd,reduceEqDiff,reduceLeDiff,reduceSub]
  simp only[inB,Bool.and_eq_true,decide_eq_true_eq] at hn
  refine⟨fun h=>?_,fun h=>?_⟩
  ·rw[show p=1 by omega] at hp
   simp [zjn,←hp];omega
  ·simp [zjn,←hp];omega
theorem wf6(pl:Int)(tr:List Tr)(lt:List Int)(l:Int)(x y:List Int)(h0:tr.length≤2^30)(h1:lt.length≤2^30)(hx:x.length≤2^30)(hy:y.length≤2^30) :
  C w8l [.ptr 0 0,.ref 1 1 0 x.length,.ref 2 1 0 y.length,I l] [.box wgm [I pl,.ref 3 3 0 tr.length,.ref 4 1 0 lt.length],.row t_int true 1 (x.map I),.row t_int true 1 (y.map I),.row wgj false 3 (tr.map encT),.row t_int true 1 (lt.map I)]
   = some (.tup [],[.box wgm [I pl,.ref 5 3 0 (tr.length+1),.ref 6 1 0 (lt.length+1)],.fro true 1 (x.map I),.fro true 1 (y.map I),.dead,.dead,.row wgj false 3 ((tr++[(⟨x,y,[]⟩:Tr)]).map encT),.row t_int true 1 ((lt++[l]).map I)]):=by
 refine w1q ?_
 simp (maxSteps:=2000000) (disch:=first|omega|(simp only[lenS];try omega)) only[wcl,go_sem,reduceAdd,reduceEqDiff,reduceLeDiff,reduceSub]
 simp
theorem wf5(pl:Int)(l:Int)(x y:List Int)(hx:x.length≤2^30)(hy:y.length≤2^30) :
  C w8l [.ptr 0 0,.ref 1 1 0 x.length,.ref 2 1 0 y.length,I l] [.box wgm [I pl,.nil false 3,.nil true 1],.row t_int true 1 (x.map I),.row t_int true 1 (y.map I)]
   = some (.tup [],[.box wgm [I pl,.ref 3 3 0 1,.ref 4 1 0 1],.fro true 1 (x.map I),.fro true 1 (y.map I),.row wgj false 3 ([(⟨x,y,[]⟩:Tr)].map encT),.row t_int true 1 ([l].map I)]):=by
 refine w1q ?_
 simp (maxSteps:=2000000) (disch:=first|omega|(simp only[lenS];try omega)) only[wcl,go_sem,reduceAdd,reduceEqDiff,reduceLeDiff,reduceSub]
 rfl
theorem wf7(pre:List Br)(y:PT)(suf:List Br)(hy:y.wf)(hl:(pre++y.post++suf).length<2^40):C w8m [brs (pre++y.post++suf),I (pre.length+y.post.length)] []=some (I (pre.length-1),[]):=by
 simp only[List.length_append] at hl
 refine w1r ?_
 simp (maxSteps:=2000000) (disch:=first|omega|(simp only[lenS];try omega)) only[wcm,go_sem,reduceAdd,reduceEqDiff,reduceLeDiff,reduceSub]
 refine W_for y.post.length (fun i st=>st=⟨[brs (pre++y.post++suf),.any,.any,I (needB y.post i),I (pre.length+y.post.length-1-i),.any,.any],[]⟩) ?_ ?_ ?_
 ·simp (maxSteps:=2000000) (disch:=first|omega|(simp only[lenS];try omega)) only[go_sem,reduceAdd,reduceEqDiff,reduceLeDiff,reduceSub,zus]
  simp
 ·rintro i st hi rfl
  have h1:=zuq hy hi
  have h2:=zup y.post i (by omega)
  have h3:=zur hi
  have hj:y.post.length-1-i<y.post.length:=by omega
  have e:(pre++y.post++suf)[pre.length+(y.post.length-1-i)]? = some y.post[y.post.length-1-i]:=by
   rw[List.append_assoc,List.getElem?_append_right (by omega),Nat.add_sub_cancel_left,List.getElem?_append_left hj,List.getElem?_eq_getElem hj]
  have ei:(pre.length+y.post.length-1-i:Int)=((pre.length+(y.post.length-1-i):Nat):Int):=by omega
  rw[ei,h3]
  have e2:(pre.length+y.post.length-1-(i+1:Nat):Int)=((pre.length+(y.post.length-1-i):Nat):Int)-1:=by omega
  rw[e2]
  have hL:(pre++y.post++suf).length=pre.length+y.post.length+suf.length:=by simp;omega
  have hX:pre.length+(y.post.length-1-i)<pre.length+y.post.length:=by omega
  generalize y.post[y.post.length-1-i]=b at *
  generalize pre.length+(y.post.length-1-i)=X at *
  generalize pre++y.post++suf=L at *
  generalize needB y.post i=n at *
  obtain⟨bo,bn⟩:=b
  simp (maxSteps:=2000000) (disch:=first|omega|(simp only[lenS];try omega)) only[go_sem,reduceAdd,reduceEqDiff,reduceLeDiff,reduceSub,hL,e]
  unfold wB
  refine⟨fun h=>?_,fun h=>?_⟩
  ·rw[if_neg h,show n-1+2=n+1 by omega]
  ·rw[if_pos h,show n + -1=n-1 by omega]
 ·rintro st rfl
  have h1:=zuo hy
  simp (maxSteps:=2000000) (disch:=first|omega|(simp only[lenS];try omega)) only[go_sem,reduceAdd,reduceEqDiff,reduceLeDiff,reduceSub,h1]
  congr 3
  omega
/-- The builder's blocks. -/
def sbF(b:TB):List Blk:=[.box wgm [I b.pl,.ref 1 3 0 b.tr.length,.ref 2 1 0 b.lt.length],.row wgj false 3 (b.tr.map encT),.row t_int true 1 (b.lt.map I)]
def sbG(b:TB):List Blk:=[.box wgm [I b.pl,.ref 3 3 0 b.tr.length,.ref 4 1 0 b.lt.length],.dead,.dead,.row wgj false 3 (b.tr.map encT),.row t_int true 1 (b.lt.map I)]
/-- The builder's blocks before anything is built. -/
def sb0(pl:Int):List Blk:=[.box wgm [I pl,.nil false 3,.nil true 1]]
theorem wf4 : ∀ (T:PT) (pre suf:List Br) (x y:Int) (b:TB),T.wf→(pre++T.post++suf).length≤15→b.tr.length=b.lt.length→b.tr.length+3*T.post.length≤2^30→0≤b.pl→b.pl+4*T.post.length≤2^40 →
    C w8k [.ptr 0 0,brs (pre++T.post++suf),I (pre.length+T.post.length-1),I x,I y] (sbF b)=some (.tup [],sbG (T.bld x y b))
  | .leaf n, pre, suf, x, y, b, h, hl, h1, h2, h3, h4 => by
    simp only[PT.post,List.length_append,List.length_cons,List.length_nil] at hl h2 h4 ⊢
    have e:(pre++[(⟨1,n⟩:Br)]++suf)[pre.length]? = some ⟨1,n⟩:=by simp
    have hL:(pre++[(⟨1,n⟩:Br)]++suf).length=pre.length+1+suf.length:=by simp;omega
    generalize pre++[(⟨1,n⟩:Br)]++suf=L at *
    rw[show(pre.length+(0+1:Nat)-1:Int)=(pre.length:Nat) by omega]
    have e3:L[pre.length]'(by omega)=⟨1,n⟩:=by rw[List.getElem?_eq_getElem (by omega)] at e;exact Option.some.inj e
    obtain⟨pl,tr,lt⟩:=b
    simp only at h1 h2 h3 h4
    have ht:=wf6 pl tr lt n [x] [y] (by omega) (by omega) (by simp) (by simp)
    simp only[List.map_cons,List.map_nil,List.length_cons,List.length_nil,Nat.zero_add] at ht
    simp only[sbF,sbG,PT.bld,addB,List.length_append,List.length_cons,List.length_nil]
    refine w1p ?_
    simp (maxSteps:=2000000) (disch:=first|omega|(simp only[lenS];try omega)) only[wck,go_sem,reduceAdd,reduceEqDiff,reduceLeDiff,reduceSub]
    simp (maxSteps:=2000000) (disch:=first|omega|(simp only[lenS];try omega)) only[go_sem,reduceAdd,reduceEqDiff,reduceLeDiff,reduceSub,e,e3,ht]
  | .node o p q, pre, suf, x, y, b, h, hl, h1, h2, h3, h4 => by
    obtain⟨ho,ha,hb⟩:=h
    have pb:=q.post_pos
    have pa:=p.post_pos
    have hlN:pre.length+p.post.length+q.post.length+1+suf.length≤15:=by
      simp only[PT.post,List.length_append,List.length_cons,List.length_nil] at hl;omega
    have hpo:(PT.node o p q).post.length=p.post.length+q.post.length+1:=by simp [PT.post];omega
    have hf:=wf7 (pre++p.post) q ([⟨o,0⟩]++suf) hb (by simp;omega)
    have e1:pre++p.post++(q.post++[⟨o,0⟩]++suf)=pre++(PT.node o p q).post++suf:=by simp [PT.post]
    have e2:pre++p.post++q.post++([⟨o,0⟩]++suf)=pre++(PT.node o p q).post++suf:=by simp [PT.post]
    rw[e2] at hf
    have e:(pre++(PT.node o p q).post++suf)[pre.length+p.post.length+q.post.length]? = some ⟨o,0⟩:=by
      rw[←e2,List.getElem?_append_right (by simp only[List.length_append];omega)]
      simp only[List.length_append]
      rw[Nat.sub_self]
      rfl
    have hL:(pre++(PT.node o p q).post++suf).length=pre.length+p.post.length+q.post.length+1+suf.length:=by simp [PT.post];omega
    have hk:(pre.length+(PT.node o p q).post.length-1:Int)=((pre.length+p.post.length+q.post.length:Nat):Int):=by omega
    rw[hk]
    rw[show(((pre++p.post).length:Nat)+(q.post.length:Nat):Int)=((pre.length+p.post.length+q.post.length:Nat):Int) by simp] at hf
    rw[show(((pre++p.post).length:Nat)-1:Int)=(pre.length+p.post.length-1:Int) by simp] at hf
    have IH1 : ∀ (x y:Int) (c:TB),c.tr.length=c.lt.length→c.tr.length+3*p.post.length≤2^30→0≤c.pl→c.pl+4*p.post.length≤2^40→C w8k [.ptr 0 0,brs (pre++(PT.node o p q).post++suf),I (pre.length+p.post.length-1),I x,I y] (sbF c)=some (.tup [],sbG (p.bld x y c)):=by
      intro x y c k1 k2 k3 k4
      have:=wf4 p pre (q.post++[⟨o,0⟩]++suf) x y c ha (by rw[e1,hL];omega) k1 k2 k3 k4
      rw[e1] at this
      exact this
    have IH2 : ∀ (x y:Int) (c:TB),c.tr.length=c.lt.length→c.tr.length+3*q.post.length≤2^30→0≤c.pl→c.pl+4*q.post.length≤2^40→C w8k [.ptr 0 0,brs (pre++(PT.node o p q).post++suf),I (((pre.length+p.post.length+q.post.length:Nat):Int)-1),I x,I y] (sbF c)=some (.tup [],sbG (q.bld x y c)):=by
      intro x y c k1 k2 k3 k4
      have:=wf4 q (pre++p.post) ([⟨o,0⟩]++suf) x y c hb (by rw[e2,hL];omega) k1 k2 k3 k4
      rw[e2,show(((pre++p.post).length:Nat)+(q.post.length:Nat)-1:Int)=((pre.length+p.post.length+q.post.length:Nat):Int)-1 by simp] at this
      exact this
    generalize pre++(PT.node o p q).post++suf=L at *
    generalize hK:pre.length+p.post.length+q.post.length=K at *
    have e3:L[K]'(by omega)=⟨o,0⟩:=by rw[List.getElem?_eq_getElem (by omega)] at e;exact Option.some.inj e
    generalize hR:(pre.length+p.post.length-1:Int)=R at *
    rw[hpo] at h2 h4
    obtain⟨pl,tr,lt⟩:=b
    simp only at h1 h2 h3 h4
    rcases zxc ho with rfl | rfl | rfl | rfl
    · have i1:=IH1 x pl ⟨pl+1,tr,lt⟩ h1 (by simp only[List.length_append,List.length_cons,List.length_nil];omega) (by simp only;omega) (by simp only;omega)
      have b1:=p.bld_ok x pl ⟨pl+1,tr,lt⟩ h1
      rw[show PT.bld (.node 2 p q) x y ⟨pl,tr,lt⟩=q.bld pl y (p.bld x pl ⟨pl+1,tr,lt⟩) from rfl]
      generalize p.bld x pl ⟨pl+1,tr,lt⟩=B1 at *
      have a1:=b1.lo;have a2:=b1.hi;have a3:=b1.len;have a4:=b1.most
      simp only[List.length_append,List.length_cons,List.length_nil] at a4
      have i2:=IH2 pl y B1 a3 (by omega) (by simp only at a1;omega) (by simp only at a2;omega)
      generalize q.bld pl y B1=B2 at *
      obtain⟨p1,t1,l1⟩:=B1
      obtain⟨p2,t2,l2⟩:=B2
      simp only[sb0,sbF,sbG,List.length_append,List.cons_append,List.nil_append,Nat.reduceAdd,List.length_cons,List.length_nil,List.map_cons,List.map_nil,List.map_append,Nat.zero_add] at i1 i2  ⊢
      refine w1p ?_
      simp (maxSteps:=2000000) (disch:=first|omega|(simp only[lenS];try omega)) only[wck,go_sem,reduceAdd,reduceEqDiff,reduceLeDiff,reduceSub]
      simp (maxSteps:=2000000) (disch:=first|omega|(simp only[lenS];try omega)) only[go_sem,reduceAdd,reduceEqDiff,reduceLeDiff,reduceSub,e,e3,hf,i1,i2,Int.reduceEq,false_implies,true_implies,not_false_eq_true,not_true_eq_false,true_and]
    · have i1:=IH1 x y ⟨pl,tr,lt⟩ h1 (by simp only[List.length_append,List.length_cons,List.length_nil];omega) (by simp only;omega) (by simp only;omega)
      have b1:=p.bld_ok x y ⟨pl,tr,lt⟩ h1
      rw[show PT.bld (.node 3 p q) x y ⟨pl,tr,lt⟩=q.bld x y (p.bld x y ⟨pl,tr,lt⟩) from rfl]
      generalize p.bld x y ⟨pl,tr,lt⟩=B1 at *
      have a1:=b1.lo;have a2:=b1.hi;have a3:=b1.len;have a4:=b1.most
      simp only[List.length_append,List.length_cons,List.length_nil] at a4
      have i2:=IH2 x y B1 a3 (by omega) (by simp only at a1;omega) (by simp only at a2;omega)
      generalize q.bld x y B1=B2 at *
      obtain⟨p1,t1,l1⟩:=B1
      obtain⟨p2,t2,l2⟩:=B2
      simp only[sb0,sbF,sbG,List.length_append,List.cons_append,List.nil_append,Nat.reduceAdd,List.length_cons,List.length_nil,List.map_cons,List.map_nil,List.map_append,Nat.zero_add] at i1 i2  ⊢
      refine w1p ?_
      simp (maxSteps:=2000000) (disch:=first|omega|(simp only[lenS];try omega)) only[wck,go_sem,reduceAdd,reduceEqDiff,reduceLeDiff,reduceSub]
      simp (maxSteps:=2000000) (disch:=first|omega|(simp only[lenS];try omega)) only[go_sem,reduceAdd,reduceEqDiff,reduceLeDiff,reduceSub,e,e3,hf,i1,i2,Int.reduceEq,false_implies,true_implies,not_false_eq_true,not_true_eq_false,true_and]
    · have ht1:=wf6 (pl+4) tr lt 0 [x] [pl,pl+1] (by omega) (by omega) (by simp) (by simp)
      have ht2:=wf6 (pl+4) (tr++[⟨[x],[pl,pl+1],[]⟩]) (lt++[0]) 0 [pl+2,pl+3] [y] (by simp;omega) (by simp;omega) (by simp) (by simp)
      have i1:=IH1 pl (pl+2) ⟨pl+4,tr++[⟨[x],[pl,pl+1],[]⟩]++[⟨[pl+2,pl+3],[y],[]⟩],lt++[0]++[0]⟩ (by simp;omega) (by simp only[List.length_append,List.length_cons,List.length_nil];omega) (by simp only;omega) (by simp only;omega)
      have b1:=p.bld_ok pl (pl+2) ⟨pl+4,tr++[⟨[x],[pl,pl+1],[]⟩]++[⟨[pl+2,pl+3],[y],[]⟩],lt++[0]++[0]⟩ (by simp;omega)
      rw[show PT.bld (.node 4 p q) x y ⟨pl,tr,lt⟩=q.bld (pl+1) (pl+3) (p.bld pl (pl+2) ⟨pl+4,tr++[⟨[x],[pl,pl+1],[]⟩]++[⟨[pl+2,pl+3],[y],[]⟩],lt++[0]++[0]⟩) from rfl]
      generalize p.bld pl (pl+2) ⟨pl+4,tr++[⟨[x],[pl,pl+1],[]⟩]++[⟨[pl+2,pl+3],[y],[]⟩],lt++[0]++[0]⟩=B1 at *
      have a1:=b1.lo;have a2:=b1.hi;have a3:=b1.len;have a4:=b1.most
      simp only[List.length_append,List.length_cons,List.length_nil] at a4
      have i2:=IH2 (pl+1) (pl+3) B1 a3 (by omega) (by simp only at a1;omega) (by simp only at a2;omega)
      generalize q.bld (pl+1) (pl+3) B1=B2 at *
      obtain⟨p1,t1,l1⟩:=B1
      obtain⟨p2,t2,l2⟩:=B2
      simp only[sb0,sbF,sbG,List.length_append,List.cons_append,List.nil_append,Nat.reduceAdd,List.length_cons,List.length_nil,List.map_cons,List.map_nil,List.map_append,Nat.zero_add] at i1 i2 ht1 ht2 ⊢
      refine w1p ?_
      simp (maxSteps:=2000000) (disch:=first|omega|(simp only[lenS];try omega)) only[wck,go_sem,reduceAdd,reduceEqDiff,reduceLeDiff,reduceSub]
      simp (maxSteps:=2000000) (disch:=first|omega|(simp only[lenS];try omega)) only[go_sem,reduceAdd,reduceEqDiff,reduceLeDiff,reduceSub,e,e3,hf,i1,i2,ht1,ht2,Int.reduceEq,false_implies,true_implies,not_false_eq_true,not_true_eq_false,true_and]
    · have ht1:=wf6 (pl+2) tr lt 0 [x] [pl] (by omega) (by omega) (by simp) (by simp)
      have ht2:=wf6 (pl+2) (tr++[⟨[x],[pl],[]⟩]) (lt++[0]) 0 [pl+1] [y] (by simp;omega) (by simp;omega) (by simp) (by simp)
      have i1:=IH1 pl (pl+1) ⟨pl+2,tr++[⟨[x],[pl],[]⟩]++[⟨[pl+1],[y],[]⟩],lt++[0]++[0]⟩ (by simp;omega) (by simp only[List.length_append,List.length_cons,List.length_nil];omega) (by simp only;omega) (by simp only;omega)
      have b1:=p.bld_ok pl (pl+1) ⟨pl+2,tr++[⟨[x],[pl],[]⟩]++[⟨[pl+1],[y],[]⟩],lt++[0]++[0]⟩ (by simp;omega)
      rw[show PT.bld (.node 5 p q) x y ⟨pl,tr,lt⟩=q.bld (pl+1) pl (p.bld pl (pl+1) ⟨pl+2,tr++[⟨[x],[pl],[]⟩]++[⟨[pl+1],[y],[]⟩],lt++[0]++[0]⟩) from rfl]
      generalize p.bld pl (pl+1) ⟨pl+2,tr++[⟨[x],[pl],[]⟩]++[⟨[pl+1],[y],[]⟩],lt++[0]++[0]⟩=B1 at *
      have a1:=b1.lo;have a2:=b1.hi;have a3:=b1.len;have a4:=b1.most
      simp only[List.length_append,List.length_cons,List.length_nil] at a4
      have i2:=IH2 (pl+1) pl B1 a3 (by omega) (by simp only at a1;omega) (by simp only at a2;omega)
      generalize q.bld (pl+1) pl B1=B2 at *
      obtain⟨p1,t1,l1⟩:=B1
      obtain⟨p2,t2,l2⟩:=B2
      simp only[sb0,sbF,sbG,List.length_append,List.cons_append,List.nil_append,Nat.reduceAdd,List.length_cons,List.length_nil,List.map_cons,List.map_nil,List.map_append,Nat.zero_add] at i1 i2 ht1 ht2 ⊢
      refine w1p ?_
      simp (maxSteps:=2000000) (disch:=first|omega|(simp only[lenS];try omega)) only[wck,go_sem,reduceAdd,reduceEqDiff,reduceLeDiff,reduceSub]
      simp (maxSteps:=2000000) (disch:=first|omega|(simp only[lenS];try omega)) only[go_sem,reduceAdd,reduceEqDiff,reduceLeDiff,reduceSub,e,e3,hf,i1,i2,ht1,ht2,Int.reduceEq,false_implies,true_implies,not_false_eq_true,not_true_eq_false,true_and]
theorem wf3 : ∀ (T:PT) (pre suf:List Br) (x y pl:Int),T.wf→(pre++T.post++suf).length≤15→0≤pl→pl+4*T.post.length≤2^40 →
    C w8k [.ptr 0 0,brs (pre++T.post++suf),I (pre.length+T.post.length-1),I x,I y] (sb0 pl)=some (.tup [],sbF (T.bld x y ⟨pl,[],[]⟩))
  | .leaf n, pre, suf, x, y, pl, h, hl, h3, h4 => by
    simp only[PT.post,List.length_append,List.length_cons,List.length_nil] at hl h4 ⊢
    have e:(pre++[(⟨1,n⟩:Br)]++suf)[pre.length]? = some ⟨1,n⟩:=by simp
    have hL:(pre++[(⟨1,n⟩:Br)]++suf).length=pre.length+1+suf.length:=by simp;omega
    generalize pre++[(⟨1,n⟩:Br)]++suf=L at *
    rw[show(pre.length+(0+1:Nat)-1:Int)=(pre.length:Nat) by omega]
    have e3:L[pre.length]'(by omega)=⟨1,n⟩:=by rw[List.getElem?_eq_getElem (by omega)] at e;exact Option.some.inj e
    have ht:=wf5 pl n [x] [y] (by simp) (by simp)
    simp only[List.map_cons,List.map_nil,List.length_cons,List.length_nil,Nat.zero_add] at ht
    simp only[sb0,sbF,PT.bld,addB,List.length_append,List.length_cons,List.length_nil]
    refine w1p ?_
    simp (maxSteps:=2000000) (disch:=first|omega|(simp only[lenS];try omega)) only[wck,go_sem,reduceAdd,reduceEqDiff,reduceLeDiff,reduceSub]
    simp (maxSteps:=2000000) (disch:=first|omega|(simp only[lenS];try omega)) only[go_sem,reduceAdd,reduceEqDiff,reduceLeDiff,reduceSub,e,e3,ht]
  | .node o p q, pre, suf, x, y, pl, h, hl, h3, h4 => by
    obtain⟨ho,ha,hb⟩:=h
    have pb:=q.post_pos
    have pa:=p.post_pos
    have hlN:pre.length+p.post.length+q.post.length+1+suf.length≤15:=by
      simp only[PT.post,List.length_append,List.length_cons,List.length_nil] at hl;omega
    have hpo:(PT.node o p q).post.length=p.post.length+q.post.length+1:=by simp [PT.post];omega
    have hf:=wf7 (pre++p.post) q ([⟨o,0⟩]++suf) hb (by simp;omega)
    have e1:pre++p.post++(q.post++[⟨o,0⟩]++suf)=pre++(PT.node o p q).post++suf:=by simp [PT.post]
    have e2:pre++p.post++q.post++([⟨o,0⟩]++suf)=pre++(PT.node o p q).post++suf:=by simp [PT.post]
    rw[e2] at hf
    have e:(pre++(PT.node o p q).post++suf)[pre.length+p.post.length+q.post.length]? = some ⟨o,0⟩:=by
      rw[←e2,List.getElem?_append_right (by simp only[List.length_append];omega)]
      simp only[List.length_append]
      rw[Nat.sub_self]
      rfl
    have hL:(pre++(PT.node o p q).post++suf).length=pre.length+p.post.length+q.post.length+1+suf.length:=by simp [PT.post];omega
    have hk:(pre.length+(PT.node o p q).post.length-1:Int)=((pre.length+p.post.length+q.post.length:Nat):Int):=by omega
    rw[hk]
    rw[show(((pre++p.post).length:Nat)+(q.post.length:Nat):Int)=((pre.length+p.post.length+q.post.length:Nat):Int) by simp] at hf
    rw[show(((pre++p.post).length:Nat)-1:Int)=(pre.length+p.post.length-1:Int) by simp] at hf
    have IH0 : ∀ (x y pl:Int),0≤pl→pl+4*p.post.length≤2^40→C w8k [.ptr 0 0,brs (pre++(PT.node o p q).post++suf),I (pre.length+p.post.length-1),I x,I y] (sb0 pl)=some (.tup [],sbF (p.bld x y ⟨pl,[],[]⟩)):=by
      intro x y pl k3 k4
      have:=wf3 p pre (q.post++[⟨o,0⟩]++suf) x y pl ha (by rw[e1,hL];omega) k3 k4
      rw[e1] at this
      exact this
    have IH1 : ∀ (x y:Int) (c:TB),c.tr.length=c.lt.length→c.tr.length+3*p.post.length≤2^30→0≤c.pl→c.pl+4*p.post.length≤2^40→C w8k [.ptr 0 0,brs (pre++(PT.node o p q).post++suf),I (pre.length+p.post.length-1),I x,I y] (sbF c)=some (.tup [],sbG (p.bld x y c)):=by
      intro x y c k1 k2 k3 k4
      have:=wf4 p pre (q.post++[⟨o,0⟩]++suf) x y c ha (by rw[e1,hL];omega) k1 k2 k3 k4
      rw[e1] at this
      exact this
    have IH2 : ∀ (x y:Int) (c:TB),c.tr.length=c.lt.length→c.tr.length+3*q.post.length≤2^30→0≤c.pl→c.pl+4*q.post.length≤2^40→C w8k [.ptr 0 0,brs (pre++(PT.node o p q).post++suf),I (((pre.length+p.post.length+q.post.length:Nat):Int)-1),I x,I y] (sbF c)=some (.tup [],sbG (q.bld x y c)):=by
      intro x y c k1 k2 k3 k4
      have:=wf4 q (pre++p.post) ([⟨o,0⟩]++suf) x y c hb (by rw[e2,hL];omega) k1 k2 k3 k4
      rw[e2,show(((pre++p.post).length:Nat)+(q.post.length:Nat)-1:Int)=((pre.length+p.post.length+q.post.length:Nat):Int)-1 by simp] at this
      exact this
    generalize pre++(PT.node o p q).post++suf=L at *
    generalize hK:pre.length+p.post.length+q.post.length=K at *
    have e3:L[K]'(by omega)=⟨o,0⟩:=by rw[List.getElem?_eq_getElem (by omega)] at e;exact Option.some.inj e
    generalize hR:(pre.length+p.post.length-1:Int)=R at *
    rw[hpo] at h4
    rcases zxc ho with rfl | rfl | rfl | rfl
    · have i1:=IH0 x pl (pl+1) (by omega) (by omega)
      have b1:=p.bld_ok x pl ⟨pl+1,[],[]⟩ rfl
      rw[show PT.bld (.node 2 p q) x y ⟨pl,[],[]⟩=q.bld pl y (p.bld x pl ⟨pl+1,[],[]⟩) from rfl]
      generalize p.bld x pl ⟨pl+1,[],[]⟩=B1 at *
      have a1:=b1.lo;have a2:=b1.hi;have a3:=b1.len;have a4:=b1.most
      simp only[List.length_append,List.length_cons,List.length_nil] at a4
      have i2:=IH2 pl y B1 a3 (by omega) (by simp only at a1;omega) (by simp only at a2;omega)
      generalize q.bld pl y B1=B2 at *
      obtain⟨p1,t1,l1⟩:=B1
      obtain⟨p2,t2,l2⟩:=B2
      simp only[sb0,sbF,sbG,List.length_append,List.cons_append,List.nil_append,Nat.reduceAdd,List.length_cons,List.length_nil,List.map_cons,List.map_nil,List.map_append,Nat.zero_add] at i1 i2  ⊢
      refine w1p ?_
      simp (maxSteps:=2000000) (disch:=first|omega|(simp only[lenS];try omega)) only[wck,go_sem,reduceAdd,reduceEqDiff,reduceLeDiff,reduceSub]
      simp (maxSteps:=2000000) (disch:=first|omega|(simp only[lenS];try omega)) only[go_sem,reduceAdd,reduceEqDiff,reduceLeDiff,reduceSub,e,e3,hf,i1,i2,Int.reduceEq,false_implies,true_implies,not_false_eq_true,not_true_eq_false,true_and]
    · have i1:=IH0 x y (pl) (by omega) (by omega)
      have b1:=p.bld_ok x y ⟨pl,[],[]⟩ rfl
      rw[show PT.bld (.node 3 p q) x y ⟨pl,[],[]⟩=q.bld x y (p.bld x y ⟨pl,[],[]⟩) from rfl]
      generalize p.bld x y ⟨pl,[],[]⟩=B1 at *
      have a1:=b1.lo;have a2:=b1.hi;have a3:=b1.len;have a4:=b1.most
      simp only[List.length_append,List.length_cons,List.length_nil] at a4
      have i2:=IH2 x y B1 a3 (by omega) (by simp only at a1;omega) (by simp only at a2;omega)
      generalize q.bld x y B1=B2 at *
      obtain⟨p1,t1,l1⟩:=B1
      obtain⟨p2,t2,l2⟩:=B2
      simp only[sb0,sbF,sbG,List.length_append,List.cons_append,List.nil_append,Nat.reduceAdd,List.length_cons,List.length_nil,List.map_cons,List.map_nil,List.map_append,Nat.zero_add] at i1 i2  ⊢
      refine w1p ?_
      simp (maxSteps:=2000000) (disch:=first|omega|(simp only[lenS];try omega)) only[wck,go_sem,reduceAdd,reduceEqDiff,reduceLeDiff,reduceSub]
      simp (maxSteps:=2000000) (disch:=first|omega|(simp only[lenS];try omega)) only[go_sem,reduceAdd,reduceEqDiff,reduceLeDiff,reduceSub,e,e3,hf,i1,i2,Int.reduceEq,false_implies,true_implies,not_false_eq_true,not_true_eq_false,true_and]
    · have ht1:=wf5 (pl+4) 0 [x] [pl,pl+1] (by simp) (by simp)
      have ht2:=wf6 (pl+4) [⟨[x],[pl,pl+1],[]⟩] [0] 0 [pl+2,pl+3] [y] (by simp) (by simp) (by simp) (by simp)
      have i1:=IH1 pl (pl+2) ⟨pl+4,[⟨[x],[pl,pl+1],[]⟩]++[⟨[pl+2,pl+3],[y],[]⟩],[0]++[0]⟩ (by simp) (by simp only[List.length_append,List.length_cons,List.length_nil];omega) (by simp only;omega) (by simp only;omega)
      have b1:=p.bld_ok pl (pl+2) ⟨pl+4,[⟨[x],[pl,pl+1],[]⟩]++[⟨[pl+2,pl+3],[y],[]⟩],[0]++[0]⟩ (by simp)
      rw[show PT.bld (.node 4 p q) x y ⟨pl,[],[]⟩=q.bld (pl+1) (pl+3) (p.bld pl (pl+2) ⟨pl+4,[⟨[x],[pl,pl+1],[]⟩]++[⟨[pl+2,pl+3],[y],[]⟩],[0]++[0]⟩) from rfl]
      generalize p.bld pl (pl+2) ⟨pl+4,[⟨[x],[pl,pl+1],[]⟩]++[⟨[pl+2,pl+3],[y],[]⟩],[0]++[0]⟩=B1 at *
      have a1:=b1.lo;have a2:=b1.hi;have a3:=b1.len;have a4:=b1.most
      simp only[List.length_append,List.length_cons,List.length_nil] at a4
      have i2:=IH2 (pl+1) (pl+3) B1 a3 (by omega) (by simp only at a1;omega) (by simp only at a2;omega)
      generalize q.bld (pl+1) (pl+3) B1=B2 at *
      obtain⟨p1,t1,l1⟩:=B1
      obtain⟨p2,t2,l2⟩:=B2
      simp only[sb0,sbF,sbG,List.length_append,List.cons_append,List.nil_append,Nat.reduceAdd,List.length_cons,List.length_nil,List.map_cons,List.map_nil,List.map_append,Nat.zero_add] at i1 i2 ht1 ht2 ⊢
      refine w1p ?_
      simp (maxSteps:=2000000) (disch:=first|omega|(simp only[lenS];try omega)) only[wck,go_sem,reduceAdd,reduceEqDiff,reduceLeDiff,reduceSub]
      simp (maxSteps:=2000000) (disch:=first|omega|(simp only[lenS];try omega)) only[go_sem,reduceAdd,reduceEqDiff,reduceLeDiff,reduceSub,e,e3,hf,i1,i2,ht1,ht2,Int.reduceEq,false_implies,true_implies,not_false_eq_true,not_true_eq_false,true_and]
    · have ht1:=wf5 (pl+2) 0 [x] [pl] (by simp) (by simp)
      have ht2:=wf6 (pl+2) [⟨[x],[pl],[]⟩] [0] 0 [pl+1] [y] (by simp) (by simp) (by simp) (by simp)
      have i1:=IH1 pl (pl+1) ⟨pl+2,[⟨[x],[pl],[]⟩]++[⟨[pl+1],[y],[]⟩],[0]++[0]⟩ (by simp) (by simp only[List.length_append,List.length_cons,List.length_nil];omega) (by simp only;omega) (by simp only;omega)
      have b1:=p.bld_ok pl (pl+1) ⟨pl+2,[⟨[x],[pl],[]⟩]++[⟨[pl+1],[y],[]⟩],[0]++[0]⟩ (by simp)
      rw[show PT.bld (.node 5 p q) x y ⟨pl,[],[]⟩=q.bld (pl+1) pl (p.bld pl (pl+1) ⟨pl+2,[⟨[x],[pl],[]⟩]++[⟨[pl+1],[y],[]⟩],[0]++[0]⟩) from rfl]
      generalize p.bld pl (pl+1) ⟨pl+2,[⟨[x],[pl],[]⟩]++[⟨[pl+1],[y],[]⟩],[0]++[0]⟩=B1 at *
      have a1:=b1.lo;have a2:=b1.hi;have a3:=b1.len;have a4:=b1.most
      simp only[List.length_append,List.length_cons,List.length_nil] at a4
      have i2:=IH2 (pl+1) pl B1 a3 (by omega) (by simp only at a1;omega) (by simp only at a2;omega)
      generalize q.bld (pl+1) pl B1=B2 at *
      obtain⟨p1,t1,l1⟩:=B1
      obtain⟨p2,t2,l2⟩:=B2
      simp only[sb0,sbF,sbG,List.length_append,List.cons_append,List.nil_append,Nat.reduceAdd,List.length_cons,List.length_nil,List.map_cons,List.map_nil,List.map_append,Nat.zero_add] at i1 i2 ht1 ht2 ⊢
      refine w1p ?_
      simp (maxSteps:=2000000) (disch:=first|omega|(simp only[lenS];try omega)) only[wck,go_sem,reduceAdd,reduceEqDiff,reduceLeDiff,reduceSub]
      simp (maxSteps:=2000000) (disch:=first|omega|(simp only[lenS];try omega)) only[go_sem,reduceAdd,reduceEqDiff,reduceLeDiff,reduceSub,e,e3,hf,i1,i2,ht1,ht2,Int.reduceEq,false_implies,true_implies,not_false_eq_true,not_true_eq_false,true_and]
theorem wfv(n:Int):C w99 [I n] []=some (.bool (inB 1 16 n),[]):=by
 refine w20 ?_
 simp (maxSteps:=2000000) (disch:=first|omega|(simp only[lenS];try omega)) only[wd9,go_sem,reduceAdd,reduceEqDiff,reduceLeDiff,reduceSub]
 simp (maxSteps:=2000000) (disch:=first|omega|(simp only[lenS];try omega)) only[go_sem,reduceAdd,reduceEqDiff,reduceLeDiff,reduceSub,wfr]
 grind
theorem wfz(l:List Int)(lo hi:Int)(hl:l.length<2^62):C w9b [ints l,I lo,I hi] []=some (.bool (incr l&&l.all (inB lo hi)),[]):=by
 refine w22 ?_
 simp (maxSteps:=2000000) (disch:=first|omega|(simp only[lenS];try omega)) only[wdb,go_sem,reduceAdd,reduceEqDiff,reduceLeDiff,reduceSub]
 refine W_for l.length (fun k s=>s=⟨[ints l,I lo,I hi,.any,.any,.any,ints l,I l.length,I k,.any,.any],[]⟩∧(l.take k).Pairwise (· < ·)∧(l.take k).all (inB lo hi)=true) ?_ ?_ ?_
 ·simp (maxSteps:=2000000) (disch:=first|omega|(simp only[lenS];try omega)) only[go_sem,reduceAdd,reduceEqDiff,reduceLeDiff,reduceSub]
  exact⟨rfl,List.Pairwise.nil⟩
 ·rintro k s hk ⟨rfl,hp,hall⟩
  simp (maxSteps:=2000000) (disch:=first|omega|(simp only[lenS];try omega)) only[go_sem,reduceAdd,reduceEqDiff,reduceLeDiff,reduceSub,wfr]
  refine⟨fun h=>⟨fun h2=>?_,fun h2=>?_⟩,fun h=>by rw[z2y hk h];simp⟩
  ·simp (maxSteps:=2000000) (disch:=first|omega|(simp only[lenS];try omega)) only[go_sem,reduceAdd,reduceEqDiff,reduceLeDiff,reduceSub]
   obtain⟨j,rfl⟩ : ∃ j,k=j+1:=⟨k-1,by omega⟩
   have e:(((j+1:Nat):Int)-1).toNat=j:=by omega
   refine⟨fun h3=>?_,fun h3=>⟨rfl,?_,z2z hk hall h⟩⟩
   ·rw[zmk hk (by simp only[e] at h3;omega)];rfl
   ·exact zmn hk hp (by simp only[e] at h3;omega)
  ·obtain rfl:k=0:=by omega
   exact⟨rfl,zml,z2z hk hall h⟩
 ·rintro s ⟨rfl,hp,hall⟩
  simp (maxSteps:=2000000) (disch:=first|omega|(simp only[lenS];try omega)) only[go_sem,reduceAdd,reduceEqDiff,reduceLeDiff,reduceSub]
  rw[List.take_length] at hp hall
  rw[hall,show incr l=true by simpa [incr] using hp]
  rfl
theorem wev(n:Net)(hn:smN n):C w8e [encN n] []=some (.bool (goodN n),[]):=by
 have h0:=hn.1
 refine w1j ?_
 simp (maxSteps:=2000000) (disch:=first|omega|(simp only[lenS];try omega)) only[wce,go_sem,reduceAdd,reduceEqDiff,reduceLeDiff,reduceSub]
 simp (maxSteps:=2000000) (disch:=first|omega|(simp only[lenS];try omega)) only[go_sem,reduceAdd,reduceEqDiff,reduceLeDiff,reduceSub,wfv]
 refine⟨fun h=>⟨fun h2=>?_,fun h2=>?_⟩,fun h=>by simp [goodN,h]⟩
 ·have:¬n.tr.length≤24:=by omega
  simp [goodN,this]
 have hb:1≤n.pl∧n.pl≤16:=by simpa [inB] using h
 refine W_for n.tr.length (fun k s=>s=⟨[.any,.ptr 0 0,.any,.any,.any,trs n.tr,I n.tr.length,I k,.any,.any],[.box wgh [I n.pl,trs n.tr]]⟩∧(n.tr.take k).all (goodT n.pl)=true) ?_ ?_ ?_
 ·simp (maxSteps:=2000000) (disch:=first|omega|(simp only[lenS];try omega)) only[go_sem,reduceAdd,reduceEqDiff,reduceLeDiff,reduceSub]
  rfl
 ·rintro k s hk ⟨rfl,hall⟩
  obtain⟨h3,h4,h5⟩:=hn.2 _ (List.getElem_mem hk)
  simp (maxSteps:=2000000) (disch:=first|omega|(simp only[lenS];try omega)) only[go_sem,reduceAdd,reduceEqDiff,reduceLeDiff,reduceSub,wfz]
  simp only[z110]
  refine⟨fun h6=>by rw[zj8 hk (zjj (by omega))],fun h6=>⟨fun h7=>⟨fun h8=>⟨fun h9=>⟨rfl,z2z hk hall (zjd (by omega) h7 h8 h9)⟩,fun h9=>by rw[zj8 hk (by simp [goodT,h9])]⟩,fun h8=>by rw[zj8 hk (by simp [goodT,h8])]⟩,fun h7=>by rw[zj8 hk (by simp [goodT,h7])]⟩⟩
 ·rintro s ⟨rfl,hall⟩
  simp (maxSteps:=2000000) (disch:=first|omega|(simp only[lenS];try omega)) only[go_sem,reduceAdd,reduceEqDiff,reduceLeDiff,reduceSub]
  rw[List.take_length] at hall
  simp [goodN,hall,h,show n.tr.length≤24 by omega]
theorem wg7(n:Net)(p:Int)(hg:goodN n=true)(hp:0≤p∧p<n.pl):C w9j [encN n,I p] []=some (.tup [.un wgd true 1 ((z132 n false p).pl.map PV.bool),.un wgd true 1 ((z132 n false p).tr.map PV.bool)],[]):=by
  have hb:=zja hg
  have hlen:=z135 n false p
  rw[z133] at hlen ⊢
  refine w2a ?_
  simp (maxSteps:=2000000) (disch:=first|omega|(simp only[lenS];try omega)) only[wdj,go_sem,reduceAdd,reduceEqDiff,reduceLeDiff,reduceSub]
  simp (maxSteps:=2000000) (disch:=first|omega|(simp only[lenS];try omega)) only[go_sem,reduceAdd,reduceEqDiff,reduceLeDiff,reduceSub,List.getElem_replicate]
  generalize hR:clRun n false (cntF (List.replicate n.tr.length false)+1) ⟨(List.replicate n.pl.toNat false).set p.toNat true,List.replicate n.tr.length false,true⟩=R at *
  refine z1a (fun k s=>∃ c:Cl,c.pl.length=n.pl.toNat∧c.tr.length=n.tr.length∧((k=cntF c.tr+1∧s=⟨[.any,.any,.ptr 0 0,.any,.any,.ref 1 1 0 n.pl.toNat,.ref 2 1 0 n.tr.length,.bool true,.any,.any,.any,.any,.any,.any,.any,.any,.any,.any,.any,.any,.any,.any,.any,.any,.any,.any,.any],[.box wgh [I n.pl,trs n.tr],.row wgd true 1 (c.pl.map PV.bool),.row wgd true 1 (c.tr.map PV.bool)]⟩∧clRun n false (cntF c.tr+1) c=R)∨(k=0∧s=⟨[.any,.any,.ptr 0 0,.any,.any,.ref 1 1 0 n.pl.toNat,.ref 2 1 0 n.tr.length,.bool false,.any,.any,.any,.any,.any,.any,.any,.any,.any,.any,.any,.any,.any,.any,.any,.any,.any,.any,.any],[.box wgh [I n.pl,trs n.tr],.row wgd true 1 (c.pl.map PV.bool),.row wgd true 1 (c.tr.map PV.bool)]⟩∧c=R))) (cntF (List.replicate n.tr.length false)+1) ?_ ?_
  · refine⟨⟨(List.replicate n.pl.toNat false).set p.toNat true,List.replicate n.tr.length false,true⟩,by simp,by simp,.inl ⟨rfl,?_,hR⟩⟩
    simp (maxSteps:=2000000) (disch:=first|omega|(simp only[lenS];try omega)) only[go_sem,reduceAdd,reduceEqDiff,reduceLeDiff,reduceSub]
    simp
  · rintro k0 s ⟨c,hc1,hc2,⟨rfl,rfl,hc⟩ | ⟨rfl,rfl,rfl⟩⟩
    · have hcl:=fun k=>z9k n false c k
      simp (maxSteps:=2000000) (disch:=first|omega|(simp only[lenS];try omega)) only[go_sem,reduceAdd,reduceEqDiff,reduceLeDiff,reduceSub]
      refine W_for n.tr.length (fun k s=>s=⟨[.any,.any,.ptr 0 0,.any,.any,.ref 1 1 0 n.pl.toNat,.ref 2 1 0 n.tr.length,.bool (clK n false c k).ch,.any,.any,.any,.any,.any,.any,trs n.tr,I n.tr.length,I k,.any,.any,.any,.any,.any,.any,.any,.any,.any,.any],[.box wgh [I n.pl,trs n.tr],.row wgd true 1 ((clK n false c k).pl.map PV.bool),.row wgd true 1 ((clK n false c k).tr.map PV.bool)]⟩) ?_ ?_ ?_
      · simp (maxSteps:=2000000) (disch:=first|omega|(simp only[lenS];try omega)) only[go_sem,reduceAdd,reduceEqDiff,reduceLeDiff,reduceSub]
        rfl
      · rintro k s hk rfl
        have hT:=hb.2.2.2 _ (List.getElem_mem hk)
        have hLs:=zjg hT (by omega)
        obtain⟨_,g1,g2,g3⟩:=zjk hT
        have p1:=z111 g1
        have p2:=z111 g2
        have hd:=hcl k
        have hstep:=z9m n false c k
        have htr:n.tr[k]=trN n k:=(z1f3 hk).symm
        rw[htr] at hLs p1 p2
        have s1:(clK n false c k).tr.getD k false=true→clK n false c (k+1)=clK n false c k:=fun h=>hstep.trans (z9w (.inl h))
        have s2:hitB (clK n false c k).pl (sideI false (trN n k))=false→clK n false c (k+1)=clK n false c k:=fun h=>hstep.trans (z9w (.inr h))
        have s3:(clK n false c k).tr.getD k false=false→hitB (clK n false c k).pl (sideI false (trN n k))=true→clK n false c (k+1)=⟨markB (clK n false c k).pl (sideO false (trN n k)),(clK n false c k).tr.set k true,true⟩:=fun h h2=>hstep.trans (z9x h h2)
        simp only[sideI,sideO,Bool.false_eq_true,if_false,if_true] at s2 s3
        clear hstep
        generalize clK n false c k=d at *
        generalize clK n false c (k+1)=d' at *
        simp (maxSteps:=2000000) (disch:=first|omega|(simp only[lenS];try omega)) only[go_sem,reduceAdd,reduceEqDiff,reduceLeDiff,reduceSub]
        simp only[htr]
        generalize trN n k=tr at *
        refine W_for tr.inn.length (fun j s=>s=⟨[.any,.any,.ptr 0 0,.any,.any,.ref 1 1 0 n.pl.toNat,.ref 2 1 0 n.tr.length,.bool d.ch,I k,.ptr 3 0,.bool ((tr.inn.take j).any fun p=>d.pl.getD p.toNat false),.any,.any,.any,trs n.tr,I n.tr.length,I k,.any,ints tr.inn,I tr.inn.length,I j,.any,.any,.any,.any,.any,.any],[.box wgh [I n.pl,trs n.tr],.row wgd true 1 (d.pl.map PV.bool),.row wgd true 1 (d.tr.map PV.bool),.box wgj [ints tr.inn,ints tr.out,ints tr.rst]]⟩) ?_ ?_ ?_
        · simp (maxSteps:=2000000) (disch:=first|omega|(simp only[lenS];try omega)) only[go_sem,reduceAdd,reduceEqDiff,reduceLeDiff,reduceSub]
          rfl
        · rintro j s hj rfl
          have h1:=p1 _ (List.getElem_mem hj)
          have h2:tr.inn[j].toNat<d.pl.length:=by omega
          simp (maxSteps:=2000000) (disch:=first|omega|(simp only[lenS];try omega)) only[go_sem,reduceAdd,reduceEqDiff,reduceLeDiff,reduceSub]
          refine⟨fun h=>?_,fun h=>⟨fun h3=>?_,fun h3=>?_⟩⟩
          · rw[z3b hj h];rfl
          · rw[z39 hj (by rw[←zig h2];exact h3)];rfl
          · rw[z3e hj h (by rw[←zig h2];exact h3)];rfl
        · rintro s rfl
          have hkd:k<d.tr.length:=by omega
          simp (maxSteps:=2000000) (disch:=first|omega|(simp only[lenS];try omega)) only[go_sem,reduceAdd,reduceEqDiff,reduceLeDiff,reduceSub,List.take_length]
          refine⟨fun h=>⟨fun h3=>?_,fun h3=>?_⟩,fun h=>?_⟩
          · rw[s1 (by rw[←zig hkd];exact h3)];rfl
          · have e:=s3 (by rw[←zig hkd];exact h3) h
            subst e
            refine W_for tr.out.length (fun j s=>s=⟨[.any,.any,.ptr 0 0,.any,.any,.ref 1 1 0 n.pl.toNat,.ref 2 1 0 n.tr.length,.bool true,.any,.any,.any,.any,.any,.any,trs n.tr,I n.tr.length,I k,.any,.any,.any,.any,.any,.any,ints tr.out,I tr.out.length,I j,.any],[.box wgh [I n.pl,trs n.tr],.row wgd true 1 ((markB d.pl (tr.out.take j)).map PV.bool),.row wgd true 1 ((d.tr.set k true).map PV.bool)]⟩) ?_ ?_ ?_
            · simp (maxSteps:=2000000) (disch:=first|omega|(simp only[lenS];try omega)) only[go_sem,reduceAdd,reduceEqDiff,reduceLeDiff,reduceSub]
              rfl
            · rintro j s hj rfl
              have h1:=p2 _ (List.getElem_mem hj)
              have h2:tr.out[j].toNat<d.pl.length:=by omega
              have h4:=zrx d.pl (tr.out.take j)
              simp (maxSteps:=2000000) (disch:=first|omega|(simp only[lenS];try omega)) only[go_sem,reduceAdd,reduceEqDiff,reduceLeDiff,reduceSub]
              rw[zry hj];rfl
            · rintro s rfl
              simp (maxSteps:=2000000) (disch:=first|omega|(simp only[lenS];try omega)) only[go_sem,reduceAdd,reduceEqDiff,reduceLeDiff,reduceSub,List.take_length]
              rfl
          · rw[s2 h];rfl
      · rintro s rfl
        simp (maxSteps:=2000000) (disch:=first|omega|(simp only[lenS];try omega)) only[go_sem,reduceAdd,reduceEqDiff,reduceLeDiff,reduceSub]
        have hn:=z9s (n:=n) (bk:=false) hc2
        rw[hc] at hn
        cases e:(z9n n false c).ch with
        | true =>
          have h1:=(z9j (n:=n) (bk:=false) (s:=c) (k:=n.tr.length) (by omega)).2 e
          simp only[e,if_true] at hn
          refine⟨cntF (z9n n false c).tr+1,by unfold z9n;omega,z9n n false c,by unfold z9n;have:=hcl n.tr.length;omega,by unfold z9n;have:=hcl n.tr.length;omega,.inl ⟨rfl,?_,hn.symm⟩⟩
          unfold z9n at e ⊢
          rw[e]
        | false =>
          simp only[e,Bool.false_eq_true,if_false] at hn
          refine⟨0,by omega,z9n n false c,by unfold z9n;have:=hcl n.tr.length;omega,by unfold z9n;have:=hcl n.tr.length;omega,.inr ⟨rfl,?_,hn.symm⟩⟩
          unfold z9n at e ⊢
          rw[e]
    · simp (maxSteps:=2000000) (disch:=first|omega|(simp only[lenS];try omega)) only[go_sem,reduceAdd,reduceEqDiff,reduceLeDiff,reduceSub]
theorem wg5(n:Net)(p:Int)(hg:goodN n=true)(hp:0≤p∧p<n.pl):C w9h [encN n,I p] []=some (.tup [.un wgd true 1 ((z132 n true p).pl.map PV.bool),.un wgd true 1 ((z132 n true p).tr.map PV.bool)],[]):=by
  have hb:=zja hg
  have hlen:=z135 n true p
  rw[z133] at hlen ⊢
  refine w28 ?_
  simp (maxSteps:=2000000) (disch:=first|omega|(simp only[lenS];try omega)) only[wdh,go_sem,reduceAdd,reduceEqDiff,reduceLeDiff,reduceSub]
  simp (maxSteps:=2000000) (disch:=first|omega|(simp only[lenS];try omega)) only[go_sem,reduceAdd,reduceEqDiff,reduceLeDiff,reduceSub,List.getElem_replicate]
  generalize hR:clRun n true (cntF (List.replicate n.tr.length false)+1) ⟨(List.replicate n.pl.toNat false).set p.toNat true,List.replicate n.tr.length false,true⟩=R at *
  refine z1a (fun k s=>∃ c:Cl,c.pl.length=n.pl.toNat∧c.tr.length=n.tr.length∧((k=cntF c.tr+1∧s=⟨[.any,.any,.ptr 0 0,.any,.any,.ref 1 1 0 n.pl.toNat,.ref 2 1 0 n.tr.length,.bool true,.any,.any,.any,.any,.any,.any,.any,.any,.any,.any,.any,.any,.any,.any,.any,.any,.any,.any,.any],[.box wgh [I n.pl,trs n.tr],.row wgd true 1 (c.pl.map PV.bool),.row wgd true 1 (c.tr.map PV.bool)]⟩∧clRun n true (cntF c.tr+1) c=R)∨(k=0∧s=⟨[.any,.any,.ptr 0 0,.any,.any,.ref 1 1 0 n.pl.toNat,.ref 2 1 0 n.tr.length,.bool false,.any,.any,.any,.any,.any,.any,.any,.any,.any,.any,.any,.any,.any,.any,.any,.any,.any,.any,.any],[.box wgh [I n.pl,trs n.tr],.row wgd true 1 (c.pl.map PV.bool),.row wgd true 1 (c.tr.map PV.bool)]⟩∧c=R))) (cntF (List.replicate n.tr.length false)+1) ?_ ?_
  · refine⟨⟨(List.replicate n.pl.toNat false).set p.toNat true,List.replicate n.tr.length false,true⟩,by simp,by simp,.inl ⟨rfl,?_,hR⟩⟩
    simp (maxSteps:=2000000) (disch:=first|omega|(simp only[lenS];try omega)) only[go_sem,reduceAdd,reduceEqDiff,reduceLeDiff,reduceSub]
    simp
  · rintro k0 s ⟨c,hc1,hc2,⟨rfl,rfl,hc⟩ | ⟨rfl,rfl,rfl⟩⟩
    · have hcl:=fun k=>z9k n true c k
      simp (maxSteps:=2000000) (disch:=first|omega|(simp only[lenS];try omega)) only[go_sem,reduceAdd,reduceEqDiff,reduceLeDiff,reduceSub]
      refine W_for n.tr.length (fun k s=>s=⟨[.any,.any,.ptr 0 0,.any,.any,.ref 1 1 0 n.pl.toNat,.ref 2 1 0 n.tr.length,.bool (clK n true c k).ch,.any,.any,.any,.any,.any,.any,trs n.tr,I n.tr.length,I k,.any,.any,.any,.any,.any,.any,.any,.any,.any,.any],[.box wgh [I n.pl,trs n.tr],.row wgd true 1 ((clK n true c k).pl.map PV.bool),.row wgd true 1 ((clK n true c k).tr.map PV.bool)]⟩) ?_ ?_ ?_
      · simp (maxSteps:=2000000) (disch:=first|omega|(simp only[lenS];try omega)) only[go_sem,reduceAdd,reduceEqDiff,reduceLeDiff,reduceSub]
        rfl
      · rintro k s hk rfl
        have hT:=hb.2.2.2 _ (List.getElem_mem hk)
        have hLs:=zjg hT (by omega)
        obtain⟨_,g1,g2,g3⟩:=zjk hT
        have p1:=z111 g2
        have p2:=z111 g1
        have hd:=hcl k
        have hstep:=z9m n true c k
        have htr:n.tr[k]=trN n k:=(z1f3 hk).symm
        rw[htr] at hLs p1 p2
        have s1:(clK n true c k).tr.getD k false=true→clK n true c (k+1)=clK n true c k:=fun h=>hstep.trans (z9w (.inl h))
        have s2:hitB (clK n true c k).pl (sideI true (trN n k))=false→clK n true c (k+1)=clK n true c k:=fun h=>hstep.trans (z9w (.inr h))
        have s3:(clK n true c k).tr.getD k false=false→hitB (clK n true c k).pl (sideI true (trN n k))=true→clK n true c (k+1)=⟨markB (clK n true c k).pl (sideO true (trN n k)),(clK n true c k).tr.set k true,true⟩:=fun h h2=>hstep.trans (z9x h h2)
        simp only[sideI,sideO,Bool.false_eq_true,if_false,if_true] at s2 s3
        clear hstep
        generalize clK n true c k=d at *
        generalize clK n true c (k+1)=d' at *
        simp (maxSteps:=2000000) (disch:=first|omega|(simp only[lenS];try omega)) only[go_sem,reduceAdd,reduceEqDiff,reduceLeDiff,reduceSub]
        simp only[htr]
        generalize trN n k=tr at *
        refine W_for tr.out.length (fun j s=>s=⟨[.any,.any,.ptr 0 0,.any,.any,.ref 1 1 0 n.pl.toNat,.ref 2 1 0 n.tr.length,.bool d.ch,I k,.ptr 3 0,.bool ((tr.out.take j).any fun p=>d.pl.getD p.toNat false),.any,.any,.any,trs n.tr,I n.tr.length,I k,.any,ints tr.out,I tr.out.length,I j,.any,.any,.any,.any,.any,.any],[.box wgh [I n.pl,trs n.tr],.row wgd true 1 (d.pl.map PV.bool),.row wgd true 1 (d.tr.map PV.bool),.box wgj [ints tr.inn,ints tr.out,ints tr.rst]]⟩) ?_ ?_ ?_
        · simp (maxSteps:=2000000) (disch:=first|omega|(simp only[lenS];try omega)) only[go_sem,reduceAdd,reduceEqDiff,reduceLeDiff,reduceSub]
          rfl
        · rintro j s hj rfl
          have h1:=p1 _ (List.getElem_mem hj)
          have h2:tr.out[j].toNat<d.pl.length:=by omega
          simp (maxSteps:=2000000) (disch:=first|omega|(simp only[lenS];try omega)) only[go_sem,reduceAdd,reduceEqDiff,reduceLeDiff,reduceSub]
          refine⟨fun h=>?_,fun h=>⟨fun h3=>?_,fun h3=>?_⟩⟩
          · rw[z3b hj h];rfl
          · rw[z39 hj (by rw[←zig h2];exact h3)];rfl
          · rw[z3e hj h (by rw[←zig h2];exact h3)];rfl
        · rintro s rfl
          have hkd:k<d.tr.length:=by omega
          simp (maxSteps:=2000000) (disch:=first|omega|(simp only[lenS];try omega)) only[go_sem,reduceAdd,reduceEqDiff,reduceLeDiff,reduceSub,List.take_length]
          refine⟨fun h=>⟨fun h3=>?_,fun h3=>?_⟩,fun h=>?_⟩
          · rw[s1 (by rw[←zig hkd];exact h3)];rfl
          · have e:=s3 (by rw[←zig hkd];exact h3) h
            subst e
            refine W_for tr.inn.length (fun j s=>s=⟨[.any,.any,.ptr 0 0,.any,.any,.ref 1 1 0 n.pl.toNat,.ref 2 1 0 n.tr.length,.bool true,.any,.any,.any,.any,.any,.any,trs n.tr,I n.tr.length,I k,.any,.any,.any,.any,.any,.any,ints tr.inn,I tr.inn.length,I j,.any],[.box wgh [I n.pl,trs n.tr],.row wgd true 1 ((markB d.pl (tr.inn.take j)).map PV.bool),.row wgd true 1 ((d.tr.set k true).map PV.bool)]⟩) ?_ ?_ ?_
            · simp (maxSteps:=2000000) (disch:=first|omega|(simp only[lenS];try omega)) only[go_sem,reduceAdd,reduceEqDiff,reduceLeDiff,reduceSub]
              rfl
            · rintro j s hj rfl
              have h1:=p2 _ (List.getElem_mem hj)
              have h2:tr.inn[j].toNat<d.pl.length:=by omega
              have h4:=zrx d.pl (tr.inn.take j)
              simp (maxSteps:=2000000) (disch:=first|omega|(simp only[lenS];try omega)) only[go_sem,reduceAdd,reduceEqDiff,reduceLeDiff,reduceSub]
              rw[zry hj];rfl
            · rintro s rfl
              simp (maxSteps:=2000000) (disch:=first|omega|(simp only[lenS];try omega)) only[go_sem,reduceAdd,reduceEqDiff,reduceLeDiff,reduceSub,List.take_length]
              rfl
          · rw[s2 h];rfl
      · rintro s rfl
        simp (maxSteps:=2000000) (disch:=first|omega|(simp only[lenS];try omega)) only[go_sem,reduceAdd,reduceEqDiff,reduceLeDiff,reduceSub]
        have hn:=z9s (n:=n) (bk:=true) hc2
        rw[hc] at hn
        cases e:(z9n n true c).ch with
        | true =>
          have h1:=(z9j (n:=n) (bk:=true) (s:=c) (k:=n.tr.length) (by omega)).2 e
          simp only[e,if_true] at hn
          refine⟨cntF (z9n n true c).tr+1,by unfold z9n;omega,z9n n true c,by unfold z9n;have:=hcl n.tr.length;omega,by unfold z9n;have:=hcl n.tr.length;omega,.inl ⟨rfl,?_,hn.symm⟩⟩
          unfold z9n at e ⊢
          rw[e]
        | false =>
          simp only[e,Bool.false_eq_true,if_false] at hn
          refine⟨0,by omega,z9n n true c,by unfold z9n;have:=hcl n.tr.length;omega,by unfold z9n;have:=hcl n.tr.length;omega,.inr ⟨rfl,?_,hn.symm⟩⟩
          unfold z9n at e ⊢
          rw[e]
    · simp (maxSteps:=2000000) (disch:=first|omega|(simp only[lenS];try omega)) only[go_sem,reduceAdd,reduceEqDiff,reduceLeDiff,reduceSub]
theorem wg6(a b:List Bool)(ha:a.length<2^30)(hab:a.length≤b.length):C w9i [bls a,bls b] []=some (.un t_int true 1 ((bothL a b).map I),[]):=by
 refine w29 ?_
 simp (maxSteps:=2000000) (disch:=first|omega|(simp only[lenS];try omega)) only[wdi,go_sem,reduceAdd,reduceEqDiff,reduceLeDiff,reduceSub]
 refine W_for a.length (fun k s=>s=⟨[bls a,bls b,.any,.ref 0 1 0 (bothK a b k).length,.any,I a.length,I k,.any,.any],[.row t_int true 1 ((bothK a b k).map I)]⟩) ?_ ?_ ?_
 ·simp (maxSteps:=2000000) (disch:=first|omega|(simp only[lenS];try omega)) only[go_sem,reduceAdd,reduceEqDiff,reduceLeDiff,reduceSub]
  rfl
 ·rintro k s hk rfl
  have h2:=z72 a b k
  have hkb:k<b.length:=by omega
  have e1:=zig hk
  have e2:=zig hkb
  simp (maxSteps:=2000000) (disch:=first|omega|(simp only[lenS];try omega)) only[go_sem,reduceAdd,reduceEqDiff,reduceLeDiff,reduceSub]
  rw[e1,e2]
  refine⟨fun h=>⟨fun h3=>?_,fun h3=>?_⟩,fun h=>?_⟩
  ·rw[z73 h h3,List.map_append];simp
  ·rw[z71 (by rw[h,h3];rfl)];rfl
  ·rw[z71 (by rw[h];rfl)];rfl
 ·rintro s rfl
  simp (maxSteps:=2000000) (disch:=first|omega|(simp only[lenS];try omega)) only[go_sem,reduceAdd,reduceEqDiff,reduceLeDiff,reduceSub]
  rfl
theorem wew(n:Net)(a b:Int)(hn:smN n):C w8f [encN n,I a,I b] []=some (.tup [.un t_int true 1 ((if okWay n a b then wayP n a b else []).map I),.un t_int true 1 ((if okWay n a b then wayT n a b else []).map I),.bool (okWay n a b)],[]):=by
  refine w1k ?_
  simp (maxSteps:=2000000) (disch:=first|omega|(simp only[lenS];try omega)) only[wcf,go_sem,reduceAdd,reduceEqDiff,reduceLeDiff,reduceSub]
  simp (maxSteps:=2000000) (disch:=first|omega|(simp only[lenS];try omega)) only[go_sem,reduceAdd,reduceEqDiff,reduceLeDiff,reduceSub,wev n hn,wfr]
  cases hg:goodN n with
  | false=>simp [okWay,hg]
  | true =>
    have hb:=zja hg
    cases h1:inB 0 (n.pl-1) a with
    | false=>simp (maxSteps:=2000000) (disch:=first|omega|(simp only[lenS];try omega)) only[go_sem,reduceAdd,reduceEqDiff,reduceLeDiff,reduceSub,h1];simp [okWay,hg,h1]
    | true =>
      cases h2:inB 0 (n.pl-1) b with
      | false=>simp (maxSteps:=2000000) (disch:=first|omega|(simp only[lenS];try omega)) only[go_sem,reduceAdd,reduceEqDiff,reduceLeDiff,reduceSub,h1,h2];simp [okWay,hg,h1,h2]
      | true =>
        have hok:okWay n a b=true:=by simp [okWay,hg,h1,h2]
        have ha:0≤a∧a<n.pl:=by simp [inB] at h1;omega
        have hb2:0≤b∧b<n.pl:=by simp [inB] at h2;omega
        have l1:=z135 n false a
        have l2:=z135 n true b
        simp (maxSteps:=2000000) (disch:=first|omega|(simp only[lenS];try omega)) only[go_sem,reduceAdd,reduceEqDiff,reduceLeDiff,reduceSub,h1,h2,wg7 n a hg ha,wg5 n b hg hb2,hok]
        simp (maxSteps:=2000000) (disch:=first|omega|(simp only[lenS];try omega)) only[go_sem,reduceAdd,reduceEqDiff,reduceLeDiff,reduceSub,wg6 (z132 n false a).pl (z132 n true b).pl (by omega) (by omega),wg6 (z132 n false a).tr (z132 n true b).tr (by omega) (by omega)]
        rfl
theorem wfp(l:List Int)(x:Int)(hl:l.length<2^62):C w94 [ints l,I x] []=some (.bool (hasB l x),[]):=by
 refine w1w ?_
 simp (maxSteps:=2000000) (disch:=first|omega|(simp only[lenS];try omega)) only[wd4,go_sem,reduceAdd,reduceEqDiff,reduceLeDiff,reduceSub]
 refine W_for l.length (fun k s=>s=⟨[.any,I x,.any,.any,ints l,I l.length,I k,.any,.any],[]⟩∧(l.take k).any (fun y=>y == x)=false) ?_ ?_ ?_
 ·simp (maxSteps:=2000000) (disch:=first|omega|(simp only[lenS];try omega)) only[go_sem,reduceAdd,reduceEqDiff,reduceLeDiff,reduceSub]
  rfl
 ·rintro k s hk ⟨rfl,hall⟩
  simp (maxSteps:=2000000) (disch:=first|omega|(simp only[lenS];try omega)) only[go_sem,reduceAdd,reduceEqDiff,reduceLeDiff,reduceSub]
  refine⟨fun h=>?_,fun h=>⟨rfl,z3e hk hall (by simpa using h)⟩⟩
  rw[zk1 hk h]
 ·rintro s ⟨rfl,hall⟩
  simp (maxSteps:=2000000) (disch:=first|omega|(simp only[lenS];try omega)) only[go_sem,reduceAdd,reduceEqDiff,reduceLeDiff,reduceSub]
  rw[List.take_length] at hall
  rw[zk0 hall]
theorem wes(f:Fl)(hf:smN f.net):C w8b [encF f] []=some (.bool (ziu f),[]):=by
  have hl:=hf.1
  have hw:=wew f.net f.src f.dst hf
  have hP:(wayP f.net f.src f.dst).length<2^62∨goodN f.net=false:=by
    cases hg:goodN f.net with
    | false=>exact .inr rfl
    | true =>
      have:=zja hg
      have h1:=z72 (z132 f.net false f.src).pl (z132 f.net true f.dst).pl (z132 f.net false f.src).pl.length
      have h2:=z135 f.net false f.src
      exact .inl (by unfold wayP bothL;omega)
  have hT:(wayT f.net f.src f.dst).length<2^62:=by
    have h1:=z72 (z132 f.net false f.src).tr (z132 f.net true f.dst).tr (z132 f.net false f.src).tr.length
    have h2:=z135 f.net false f.src
    unfold wayT bothL;omega
  refine w1g ?_
  simp (maxSteps:=2000000) (disch:=first|omega|(simp only[lenS];try omega)) only[wcb,go_sem,reduceAdd,reduceEqDiff,reduceLeDiff,reduceSub]
  cases hok:okWay f.net f.src f.dst with
  | false =>
    simp only[hok] at hw
    simp (maxSteps:=2000000) (disch:=first|omega|(simp only[lenS];try omega)) only[go_sem,reduceAdd,reduceEqDiff,reduceLeDiff,reduceSub,hw]
    simp [ziu,hok]
  | true =>
    have hg:goodN f.net=true:=by simp only[okWay,Bool.and_eq_true] at hok;exact hok.1.1
    have hb:=zja hg
    have hP:(wayP f.net f.src f.dst).length<2^62:=by
      rcases hP with h | h
      · exact h
      · rw[hg] at h;cases h
    simp only[hok,if_true] at hw
    simp (maxSteps:=2000000) (disch:=first|omega|(simp only[lenS];try omega)) only[go_sem,reduceAdd,reduceEqDiff,reduceLeDiff,reduceSub,hw]
    refine⟨fun h=>by simp [ziu,h],fun h=>⟨fun h2=>by simp [ziu,h2],fun h2=>⟨fun h3=>?_,fun h3=>?_⟩⟩⟩
    · have:¬(wayT f.net f.src f.dst).length=f.net.tr.length:=by omega
      simp [ziu,this]
    refine W_for f.net.tr.length (fun k s=>s=⟨[.any,.ptr 0 0,.any,.any,.any,.any,.any,.any,trs f.net.tr,I f.net.tr.length,I k,.any,.any],[.box wgg [I f.net.pl,trs f.net.tr,I f.src,I f.dst]]⟩∧(f.net.tr.take k).all (fun t=>!z1bp f t)=true) ?_ ?_ ?_
    · simp (maxSteps:=2000000) (disch:=first|omega|(simp only[lenS];try omega)) only[go_sem,reduceAdd,reduceEqDiff,reduceLeDiff,reduceSub]
      rfl
    · rintro k s hk ⟨rfl,hall⟩
      have hT:=hb.2.2.2 _ (List.getElem_mem hk)
      have hLs:=zjg hT (by omega)
      simp (maxSteps:=2000000) (disch:=first|omega|(simp only[lenS];try omega)) only[go_sem,reduceAdd,reduceEqDiff,reduceLeDiff,reduceSub,wfp]
      have gs:z1bp f f.net.tr[k]=true→ziu f=false:=fun hs=>by
        have:(f.net.tr.all fun t=>!z1bp f t)=false:=z2y hk (by simp [hs])
        simp [ziu,this]
      exact⟨fun a=>by rw[gs (by simp [z1bp,a])],fun a=>⟨fun b=>by rw[gs (by simp [z1bp,b])],fun b=>⟨fun c=>by rw[gs (by simp [z1bp,c])],fun c=>⟨fun d=>by rw[gs (by simp [z1bp,d])],fun d=>⟨rfl,z2z hk hall (by simp [z1bp,a,b,c,d])⟩⟩⟩⟩⟩
    · rintro s ⟨rfl,hall⟩
      simp (maxSteps:=2000000) (disch:=first|omega|(simp only[lenS];try omega)) only[go_sem,reduceAdd,reduceEqDiff,reduceLeDiff,reduceSub]
      rw[List.take_length] at hall
      have h4:(wayT f.net f.src f.dst).length=f.net.tr.length:=by omega
      simp [ziu,hok,h,h2,h4]
      simpa using hall
theorem wez(l:List Br)(hl:l.length<2^36):C w8i [brs l] []=some (match tfV l with | some r=>.tup [.agg [I r.1.net.pl,.un wgj false 3 (r.1.net.tr.map encT),I 0,I 1],.un t_int true 1 (r.2.map I),.bool true] | none=>.tup [.agg [I 0,.nil false 3,I 0,I 0],.un t_int true 1 [],.bool false],[]):=by
  have hg:=wf8 l (by omega)
  refine w1n ?_
  simp (maxSteps:=2000000) (disch:=first|omega|(simp only[lenS];try omega)) only[wci,go_sem,reduceAdd,reduceEqDiff,reduceLeDiff,reduceSub]
  cases g:zjn l with
  | false =>
    rw[g] at hg
    rw[z1ep g]
    simp (maxSteps:=2000000) (disch:=first|omega|(simp only[lenS];try omega)) only[go_sem,reduceAdd,reduceEqDiff,reduceLeDiff,reduceSub,hg]
  | true =>
    rw[g] at hg
    obtain⟨h15,T,hw,hp,hT⟩:=zjo g
    rw[z1eq g hT]
    have hb:=wf3 T [] [] 0 1 2 hw (by simpa [hp] using h15) (by omega) (by rw[hp];omega)
    rw[show T.bld 0 1 ⟨2,[],[]⟩=T.all from rfl] at hb
    have hgf:=wes T.flow (T.flow_sm (by rw[hp];omega))
    have ok:=T.all_ok
    rw[hp] at ok
    simp only[List.nil_append,List.append_nil,hp,List.length_nil,sb0,sbF] at hb
    rw[show(((0:Nat):Int)+(l.length:Int)-1)=(l.length:Int)-1 by omega] at hb
    have hl1:1≤l.length:=by rw[←hp];exact T.post_pos
    unfold encF trs PT.flow at hgf
    unfold PT.flow
    generalize ziu _=gf at *
    simp only at hgf ⊢
    generalize T.all=B at *
    obtain⟨p1,t1,l1⟩:=B
    simp only at ok hb hgf ⊢
    cases gf with
    | true =>
      simp (maxSteps:=2000000) (disch:=first|omega|(simp only[lenS];try omega)) only[go_sem,reduceAdd,reduceEqDiff,reduceLeDiff,reduceSub,hg,hb,hgf]
      rfl
    | false =>
      simp (maxSteps:=2000000) (disch:=first|omega|(simp only[lenS];try omega)) only[go_sem,reduceAdd,reduceEqDiff,reduceLeDiff,reduceSub,hg,hb,hgf]
theorem wfx(l:List Int)(x:Int)(hl:l.length<2^30):Lw (C w9a [.ref 0 1 0 l.length,I x] [.row t_int true 1 (l.map I)]) fun r=>r=(.un t_int true 1 ((putI l x).map I),[.row t_int true 1 (l.map I)])∨(r=(.ref 0 1 0 l.length,[.row t_int true 1 (l.map I)])∧putI l x=l):=by
 refine w35 ?_
 simp (maxSteps:=2000000) (disch:=first|omega|(simp only[lenS];try omega)) only[wda,go_sem,reduceAdd,reduceEqDiff,reduceLeDiff,reduceSub]
 refine W_for l.length (fun k s=>s=⟨[.ref 0 1 0 l.length,I x,.any,I k,.any,.any,.any],[.row t_int true 1 (l.map I)]⟩∧(l.take k).all (fun y=>decide (y<x))=true) ?_ ?_ ?_
 ·simp (maxSteps:=2000000) (disch:=first|omega|(simp only[lenS];try omega)) only[go_sem,reduceAdd,reduceEqDiff,reduceLeDiff,reduceSub]
  rfl
 ·rintro k s hk ⟨rfl,hall⟩
  simp (maxSteps:=2000000) (disch:=first|omega|(simp only[lenS];try omega)) only[go_sem,reduceAdd,reduceEqDiff,reduceLeDiff,reduceSub]
  refine⟨fun h=>⟨rfl,z2z hk hall (by simpa using h)⟩,fun h=>⟨fun h2=>.inr (z129 hk hall h2),fun h2=>.inl ?_⟩⟩
  rw[z12a hall (fun _=>by omega) (by omega)]
  simp
 ·rintro s ⟨rfl,hall⟩
  simp (maxSteps:=2000000) (disch:=first|omega|(simp only[lenS];try omega)) only[go_sem,reduceAdd,reduceEqDiff,reduceLeDiff,reduceSub]
  have e:=z12a hall (fun h=>by omega) (by omega)
  refine⟨fun h=>.inl ?_,fun h=>.inl ?_⟩
  ·rw[e];simp
  ·have:l=[]:=List.eq_nil_of_length_eq_zero (by omega)
   subst this;rfl
theorem wfw(x:Int):C w9a [.nil true 1,I x] []=some (.un t_int true 1 [I x],[]):=by
 refine w21 ?_
 simp (maxSteps:=2000000) (disch:=first|omega|(simp only[lenS];try omega)) only[wda,go_sem,reduceAdd,reduceEqDiff,reduceLeDiff,reduceSub]
 refine W_for 0 (fun k s=>s=⟨[.nil true 1,I x,.any,I 0,.any,.any,.any],[]⟩) ?_ ?_ ?_
 ·simp (maxSteps:=2000000) (disch:=first|omega|(simp only[lenS];try omega)) only[go_sem,reduceAdd,reduceEqDiff,reduceLeDiff,reduceSub]
 ·intro k s hk;omega
 ·rintro s rfl
  simp (maxSteps:=2000000) (disch:=first|omega|(simp only[lenS];try omega)) only[go_sem,reduceAdd,reduceEqDiff,reduceLeDiff,reduceSub]
theorem wfy(l:List Int)(x:Int)(hl:l.length<2^30):Lw (C w9a [ints l,I x] []) fun r=>r=(.un t_int true 1 ((putI l x).map I),[])∨(r=(ints l,[])∧putI l x=l):=by
 refine w35 ?_
 simp (maxSteps:=2000000) (disch:=first|omega|(simp only[lenS];try omega)) only[wda,go_sem,reduceAdd,reduceEqDiff,reduceLeDiff,reduceSub]
 refine W_for l.length (fun k s=>s=⟨[ints l,I x,.any,I k,.any,.any,.any],[]⟩∧(l.take k).all (fun y=>decide (y<x))=true) ?_ ?_ ?_
 ·simp (maxSteps:=2000000) (disch:=first|omega|(simp only[lenS];try omega)) only[go_sem,reduceAdd,reduceEqDiff,reduceLeDiff,reduceSub]
  rfl
 ·rintro k s hk ⟨rfl,hall⟩
  simp (maxSteps:=2000000) (disch:=first|omega|(simp only[lenS];try omega)) only[go_sem,reduceAdd,reduceEqDiff,reduceLeDiff,reduceSub]
  refine⟨fun h=>⟨rfl,z2z hk hall (by simpa using h)⟩,fun h=>⟨fun h2=>.inr (z129 hk hall h2),fun h2=>.inl ?_⟩⟩
  rw[z12a hall (fun _=>by omega) (by omega)]
  simp
 ·rintro s ⟨rfl,hall⟩
  simp (maxSteps:=2000000) (disch:=first|omega|(simp only[lenS];try omega)) only[go_sem,reduceAdd,reduceEqDiff,reduceLeDiff,reduceSub]
  have e:=z12a hall (fun h=>by omega) (by omega)
  refine .inl ?_
  rw[e];simp
theorem wfg(bs:List Int)(hl:bs.length<2^62)(hb : ∀ x∈bs,0≤x∧x<256) : ∀ d:Nat,
    (∀ (D a b pl at_ sd:Int),D=d→0≤pl→pl≤13→0≤at_→at_+growC d<2^60→growT d≤1000 →
      Lw (C w8v [.ptr 0 0,.ptr 1 0,I a,I b,I D] [.box wgn [bys bs,I at_,.int .u64 sd],.box wgh [I pl,.nil false 3]]) fun r=>∃ (pl':Int) (tr':List Tr) (at' sd':Int),r=(.tup [],[.box wgn [bys bs,I at',.int .u64 sd'],.box wgh [I pl',.ref 2 3 0 tr'.length],.row wgj false 3 (tr'.map encT)])∧pl≤pl'∧pl'≤13∧0<tr'.length∧tr'.length≤growT d∧smq 10 tr'∧at_≤at'∧at'≤at_+growC d) ∧
    (∀ (D a b pl at_ sd:Int) (tr:List Tr),D=d→0≤pl→pl≤13→0≤at_→at_+growC d<2^60→tr.length+growT d≤1000→smq 10 tr →
      Lw (C w8v [.ptr 0 0,.ptr 1 0,I a,I b,I D] [.box wgn [bys bs,I at_,.int .u64 sd],.box wgh [I pl,.ref 2 3 0 tr.length],.row wgj false 3 (tr.map encT)]) fun r=>∃ (pl':Int) (tr':List Tr) (at' sd':Int),r=(.tup [],[.box wgn [bys bs,I at',.int .u64 sd'],.box wgh [I pl',.ref 3 3 0 tr'.length],.dead,.row wgj false 3 (tr'.map encT)])∧pl≤pl'∧pl'≤13∧tr.length<tr'.length∧tr'.length≤tr.length+growT d∧smq 10 tr'∧at_≤at'∧at'≤at_+growC d):=by
  intro d
  induction d with
  | zero =>
    have c0:growT 0=1:=rfl
    refine⟨fun D a b pl at_ sd hD h1 h2 h3 h4 h5=>?_,fun D a b pl at_ sd tr hD h1 h2 h3 h4 h5 h6=>?_⟩
    · obtain rfl:D=0:=by omega
      refine w2v ?_
      simp (maxSteps:=2000000) (disch:=first|omega|(simp only[lenS];try omega)) only[wcv,go_sem,reduceAdd,reduceEqDiff,reduceLeDiff,reduceSub]
      exact⟨pl,[⟨[a],[b],[]⟩],at_,sd,by simp,by omega,by omega,by simp,by simp only[List.length_append,List.length_cons,List.length_nil];omega,z1b9 z1b7 (by simp),by omega,by omega⟩
    · obtain rfl:D=0:=by omega
      refine w2v ?_
      simp (maxSteps:=2000000) (disch:=first|omega|(simp only[lenS];try omega)) only[wcv,go_sem,reduceAdd,reduceEqDiff,reduceLeDiff,reduceSub]
      exact⟨pl,tr++[⟨[a],[b],[]⟩],at_,sd,by rw[List.map_append];simp,by omega,by omega,by simp,by simp only[List.length_append,List.length_cons,List.length_nil];omega,z1b9 h6 (by simp),by omega,by omega⟩
  | succ d ih =>
    obtain⟨ih1,ih2⟩:=ih
    have c1:growC (d+1)=2+2*growC d:=rfl
    have c0:growT (d+1)=2+2*growT d:=rfl
    refine⟨fun D a b pl at_ sd hD h1 h2 h3 h4 h5=>?_,fun D a b pl at_ sd tr hD h1 h2 h3 h4 h5 h6=>?_⟩
    · have hD0:¬D=0:=by omega
      have hDT:=zjq d
      have hD1:D≤1000:=by omega
      refine w2v ?_
      simp (maxSteps:=2000000) (disch:=first|omega|(simp only[lenS];try omega)) only[wcv,go_sem,reduceAdd,reduceEqDiff,reduceLeDiff,reduceSub]
      refine⟨fun h=>⟨pl,[⟨[a],[b],[]⟩],at_,sd,by simp,by omega,by omega,by simp,by simp only[List.length_append,List.length_cons,List.length_nil];omega,z1b9 z1b7 (by simp),by omega,by omega⟩,fun hp9=>?_⟩
      obtain⟨_,e1,x1,a1,s1,rfl,h7,h8,h9,h10⟩:=wfm 5 bs at_ sd (by omega) (by omega) hl hb
      obtain⟨_,fA,pA,tA,aA,sA,rfl,kA1,kA2,kA3,kA4,kA5,kA6,kA7⟩:=ih1 (D-1) a pl (pl+1) a1 s1 (by omega) (by omega) (by omega) (by omega) (by omega) (by omega)
      obtain⟨_,gA,pA',tA',aA',sA',rfl,lA1,lA2,lA3,lA4,lA5,lA6,lA7⟩:=ih2 (D-1) pl b pA aA sA tA (by omega) (by omega) (by omega) (by omega) (by omega) (by omega) kA5
      obtain⟨_,fB,pB,tB,aB,sB,rfl,kB1,kB2,kB3,kB4,kB5,kB6,kB7⟩:=ih1 (D-1) a b pl a1 s1 (by omega) (by omega) (by omega) (by omega) (by omega) (by omega)
      obtain⟨_,gB,pB',tB',aB',sB',rfl,lB1,lB2,lB3,lB4,lB5,lB6,lB7⟩:=ih2 (D-1) a b pB aB sB tB (by omega) (by omega) (by omega) (by omega) (by omega) (by omega) kB5
      obtain⟨_,fC,pC,tC,aC,sC,rfl,kC1,kC2,kC3,kC4,kC5,kC6,kC7⟩:=ih2 (D-1) pl (pl+2) (pl+4) a1 s1 ([]++[⟨[a],[pl,pl+1],[]⟩,⟨[pl+2,pl+3],[b],[]⟩]) (by omega) (by omega) (by omega) (by omega) (by omega) (by simp only[List.length_append,List.length_cons,List.length_nil];omega) (by have:=z1b9 (q:=10) (z1b9 (q:=10) z1b7 (t:=⟨[a],[pl,pl+1],[]⟩) (by simp)) (t:=⟨[pl+2,pl+3],[b],[]⟩) (by simp);simpa using this)
      obtain⟨_,gC,pC',tC',aC',sC',rfl,lC1,lC2,lC3,lC4,lC5,lC6,lC7⟩:=ih2 (D-1) (pl+1) (pl+3) pC aC sC tC (by omega) (by omega) (by omega) (by omega) (by omega) (by simp only[List.length_append,List.length_cons,List.length_nil] at kC4;omega) kC5
      obtain⟨_,fE,pE,tE,aE,sE,rfl,kE1,kE2,kE3,kE4,kE5,kE6,kE7⟩:=ih2 (D-1) pl (pl+1) (pl+2) a1 s1 ([]++[⟨[a],[pl],[]⟩,⟨[pl+1],[b],[]⟩]) (by omega) (by omega) (by omega) (by omega) (by omega) (by simp only[List.length_append,List.length_cons,List.length_nil];omega) (by have:=z1b9 (q:=10) (z1b9 (q:=10) z1b7 (t:=⟨[a],[pl],[]⟩) (by simp)) (t:=⟨[pl+1],[b],[]⟩) (by simp);simpa using this)
      obtain⟨_,gE,pE',tE',aE',sE',rfl,lE1,lE2,lE3,lE4,lE5,lE6,lE7⟩:=ih2 (D-1) (pl+1) pl pE aE sE tE (by omega) (by omega) (by omega) (by omega) (by omega) (by simp only[List.length_append,List.length_cons,List.length_nil] at kE4;omega) kE5
      simp only[List.length_append,List.length_cons,List.length_nil] at kC3 kC4 kE3 kE4
      simp only[encT,ints,List.map_append,List.map_cons,List.map_nil,List.length_append,List.length_cons,List.length_nil,List.nil_append,Nat.reduceAdd,Nat.zero_add] at fC fE
      simp (maxSteps:=2000000) (disch:=first|omega|(simp only[lenS];try omega)) only[go_sem,reduceAdd,reduceEqDiff,reduceLeDiff,reduceSub,e1,fA,gA,fB,gB,fC,gC,fE,gE,wfw]
      exact⟨fun _=>⟨pA',tA',aA',sA',rfl,by omega,by omega,by omega,by omega,lA5,by omega,by omega⟩,fun _=>⟨fun _=>⟨pA',tA',aA',sA',rfl,by omega,by omega,by omega,by omega,lA5,by omega,by omega⟩,fun _=>⟨fun _=>⟨pB',tB',aB',sB',rfl,by omega,by omega,by omega,by omega,lB5,by omega,by omega⟩,fun _=>⟨fun _=>⟨rfl,⟨pC',tC',aC',sC',rfl,by omega,by omega,by omega,by omega,lC5,by omega,by omega⟩⟩,fun _=>⟨pE',tE',aE',sE',rfl,by omega,by omega,by omega,by omega,lE5,by omega,by omega⟩⟩⟩⟩⟩

    · have hD0:¬D=0:=by omega
      have hDT:=zjq d
      have hD1:D≤1000:=by omega
      refine w2v ?_
      simp (maxSteps:=2000000) (disch:=first|omega|(simp only[lenS];try omega)) only[wcv,go_sem,reduceAdd,reduceEqDiff,reduceLeDiff,reduceSub]
      refine⟨fun h=>⟨pl,tr++[⟨[a],[b],[]⟩],at_,sd,by rw[List.map_append];simp,by omega,by omega,by simp,by simp only[List.length_append,List.length_cons,List.length_nil];omega,z1b9 h6 (by simp),by omega,by omega⟩,fun hp9=>⟨fun h=>⟨pl,tr++[⟨[a],[b],[]⟩],at_,sd,by rw[List.map_append];simp,by omega,by omega,by simp,by simp only[List.length_append,List.length_cons,List.length_nil];omega,z1b9 h6 (by simp),by omega,by omega⟩,fun hp12=>?_⟩⟩
      obtain⟨_,e1,x1,a1,s1,rfl,h7,h8,h9,h10⟩:=wfm 5 bs at_ sd (by omega) (by omega) hl hb
      obtain⟨_,fA,pA,tA,aA,sA,rfl,kA1,kA2,kA3,kA4,kA5,kA6,kA7⟩:=ih2 (D-1) a pl (pl+1) a1 s1 tr (by omega) (by omega) (by omega) (by omega) (by omega) (by omega) h6
      obtain⟨_,gA,pA',tA',aA',sA',rfl,lA1,lA2,lA3,lA4,lA5,lA6,lA7⟩:=ih2 (D-1) pl b pA aA sA tA (by omega) (by omega) (by omega) (by omega) (by omega) (by omega) kA5
      obtain⟨_,fB,pB,tB,aB,sB,rfl,kB1,kB2,kB3,kB4,kB5,kB6,kB7⟩:=ih2 (D-1) a b pl a1 s1 tr (by omega) (by omega) (by omega) (by omega) (by omega) (by omega) h6
      obtain⟨_,gB,pB',tB',aB',sB',rfl,lB1,lB2,lB3,lB4,lB5,lB6,lB7⟩:=ih2 (D-1) a b pB aB sB tB (by omega) (by omega) (by omega) (by omega) (by omega) (by omega) kB5
      obtain⟨_,fC,pC,tC,aC,sC,rfl,kC1,kC2,kC3,kC4,kC5,kC6,kC7⟩:=ih2 (D-1) pl (pl+2) (pl+4) a1 s1 (tr++[⟨[a],[pl,pl+1],[]⟩,⟨[pl+2,pl+3],[b],[]⟩]) (by omega) (by omega) (by omega) (by omega) (by omega) (by simp only[List.length_append,List.length_cons,List.length_nil];omega) (by have:=z1b9 (q:=10) (z1b9 (q:=10) h6 (t:=⟨[a],[pl,pl+1],[]⟩) (by simp)) (t:=⟨[pl+2,pl+3],[b],[]⟩) (by simp);simpa using this)
      obtain⟨_,gC,pC',tC',aC',sC',rfl,lC1,lC2,lC3,lC4,lC5,lC6,lC7⟩:=ih2 (D-1) (pl+1) (pl+3) pC aC sC tC (by omega) (by omega) (by omega) (by omega) (by omega) (by simp only[List.length_append,List.length_cons,List.length_nil] at kC4;omega) kC5
      obtain⟨_,fE,pE,tE,aE,sE,rfl,kE1,kE2,kE3,kE4,kE5,kE6,kE7⟩:=ih2 (D-1) pl (pl+1) (pl+2) a1 s1 (tr++[⟨[a],[pl],[]⟩,⟨[pl+1],[b],[]⟩]) (by omega) (by omega) (by omega) (by omega) (by omega) (by simp only[List.length_append,List.length_cons,List.length_nil];omega) (by have:=z1b9 (q:=10) (z1b9 (q:=10) h6 (t:=⟨[a],[pl],[]⟩) (by simp)) (t:=⟨[pl+1],[b],[]⟩) (by simp);simpa using this)
      obtain⟨_,gE,pE',tE',aE',sE',rfl,lE1,lE2,lE3,lE4,lE5,lE6,lE7⟩:=ih2 (D-1) (pl+1) pl pE aE sE tE (by omega) (by omega) (by omega) (by omega) (by omega) (by simp only[List.length_append,List.length_cons,List.length_nil] at kE4;omega) kE5
      simp only[List.length_append,List.length_cons,List.length_nil] at kC3 kC4 kE3 kE4
      simp only[encT,ints,List.map_append,List.map_cons,List.map_nil,List.length_append,List.length_cons,List.length_nil,List.nil_append,Nat.reduceAdd,Nat.zero_add] at fC fE
      simp (maxSteps:=2000000) (disch:=first|omega|(simp only[lenS];try omega)) only[go_sem,reduceAdd,reduceEqDiff,reduceLeDiff,reduceSub,e1,fA,gA,fB,gB,fC,gC,fE,gE,wfw]
      exact⟨fun _=>⟨pA',tA',aA',sA',rfl,by omega,by omega,by omega,by omega,lA5,by omega,by omega⟩,fun _=>⟨fun _=>⟨pA',tA',aA',sA',rfl,by omega,by omega,by omega,by omega,lA5,by omega,by omega⟩,fun _=>⟨fun _=>⟨pB',tB',aB',sB',rfl,by omega,by omega,by omega,by omega,lB5,by omega,by omega⟩,fun _=>⟨fun _=>⟨rfl,⟨pC',tC',aC',sC',rfl,by omega,by omega,by omega,by omega,lC5,by omega,by omega⟩⟩,fun _=>⟨pE',tE',aE',sE',rfl,by omega,by omega,by omega,by omega,lE5,by omega,by omega⟩⟩⟩⟩⟩
theorem wfn(n least most:Int)(hlm:0≤least∧least≤most∧most≤20)(bs:List Int)(at_ sd:Int)(h0:0≤at_)(h1:at_<2^60)(hl:bs.length<2^62)(hb : ∀ x∈bs,0≤x∧x<256) :
  Lw (C w92 [.ptr 0 0,I n,I least,I most] [.box wgn [bys bs,I at_,.int .u64 sd]]) fun r=>∃ (l:List Int) (at' sd':Int),r=(.un t_int true 1 (l.map I),[.box wgn [bys bs,I at',.int .u64 sd']])∧at_≤at'∧at'≤at_+50∧l.length≤20∧∀ x∈l,0≤x∧(x=0∨x<n):=by
 refine w32 ?_
 simp (maxSteps:=2000000) (disch:=first|omega|(simp only[lenS];try omega)) only[wd2,go_sem,reduceAdd,reduceEqDiff,reduceLeDiff,reduceSub]
 obtain⟨_,e1,x1,a1,s1,rfl,h3,h4,h5,h6⟩:=wfm (most-least+1) bs at_ sd h0 (by omega) hl hb
 simp (maxSteps:=2000000) (disch:=first|omega|(simp only[lenS];try omega)) only[go_sem,reduceAdd,reduceEqDiff,reduceLeDiff,reduceSub,e1]
 refine W_for (least+x1).toNat (fun k s=>∃ (l:List Int) (at' sd':Int),s=⟨[.ptr 0 0,I n,.any,.any,.any,.ref 1 1 0 l.length,I (least+x1-k),.any],[.box wgn [bys bs,I at',.int .u64 sd'],.row t_int true 1 (l.map I)]⟩∧l.length≤k∧at_≤at'∧at'≤at_+2+2*k∧∀ x∈l,0≤x∧(x=0∨x<n)) ?_ ?_ ?_
 ·refine⟨[],a1,s1,?_,by simp,by omega,by omega,by simp⟩
  simp (maxSteps:=2000000) (disch:=first|omega|(simp only[lenS];try omega)) only[go_sem,reduceAdd,reduceEqDiff,reduceLeDiff,reduceSub]
  rw[show least+x1-((0:Nat):Int)=least+x1 by omega]
 ·rintro k s hk ⟨l,a,sd,rfl,h7,h8,h9,h10⟩
  obtain⟨_,e2,x2,a2,s2,rfl,h11,h12,h13,h14⟩:=wfm n bs a sd (by omega) (by omega) hl hb
  have e:least+x1-((k+1:Nat):Int)=least+x1-k-1:=by omega
  obtain⟨_,e3,rfl | ⟨rfl,e4⟩⟩:=wfx l x2 (by omega)
  ·simp (maxSteps:=2000000) (disch:=first|omega|(simp only[lenS];try omega)) only[go_sem,reduceAdd,reduceEqDiff,reduceLeDiff,reduceSub,e2,e3]
   have:=z12b l x2
   refine⟨putI l x2,a2,s2,by rw[e],by omega,by omega,by omega,fun y hy=>?_⟩
   rcases z12c hy with hy | rfl
   ·exact h10 y hy
   ·exact⟨h13,h14⟩
  ·simp (maxSteps:=2000000) (disch:=first|omega|(simp only[lenS];try omega)) only[go_sem,reduceAdd,reduceEqDiff,reduceLeDiff,reduceSub,e2,e3]
   exact⟨l,a2,s2,by rw[e],by omega,by omega,by omega,h10⟩
 ·rintro s ⟨l,a,sd,rfl,h7,h8,h9,h10⟩
  simp (maxSteps:=2000000) (disch:=first|omega|(simp only[lenS];try omega)) only[go_sem,reduceAdd,reduceEqDiff,reduceLeDiff,reduceSub]
  exact⟨l,a,sd,rfl,by omega,by omega,by omega,h10⟩
theorem wff(rs:Bool)(bs:List Int)(at_ sd:Int)(h0:0≤at_)(h1:at_<2^59)(hl:bs.length<2^62)(hb : ∀ x∈bs,0≤x∧x<256) :
  Lw (C w8u [.ptr 0 0,.bool rs] [.box wgn [bys bs,I at_,.int .u64 sd]]) fun r=>∃ (f:Fl) (at' sd':Int),r=(.agg [I f.net.pl,.un wgj false 3 (f.net.tr.map encT),I f.src,I f.dst],[.box wgn [bys bs,I at',.int .u64 sd']])∧at_≤at'∧at'≤at_+200∧smNet f.net:=by
 obtain⟨_,e1,x1,a1,s1,rfl,h3,h4,h5,h6⟩:=wfm 3 bs at_ sd h0 (by omega) hl hb
 obtain⟨d,hd⟩ : ∃ d:Nat,1+x1=d:=⟨(1+x1).toNat,by omega⟩
 have hd3:=zjr (d:=d) (by omega)
 obtain⟨_,e2,pl,tr,a2,s2,rfl,g1,g2,g3,g4,g5,g6,g7⟩:=(wfg bs hl hb d).1 (1+x1) 0 1 2 a1 s1 hd (by omega) (by omega) (by omega) (by omega) (by omega)
 obtain⟨_,e3,x3,a3,s3,rfl,k1,k2,k3,k4⟩:=wfm tr.length bs a2 s2 (by omega) (by omega) hl hb
 obtain⟨_,e4,x4,a4,s4,rfl,k5,k6,k7,k8⟩:=wfm 9 bs a3 s3 (by omega) (by omega) hl hb
 have hx3:x3.toNat<tr.length:=by omega
 have hk:=g5 _ (List.getElem_mem hx3)
 have g8:smq 20 tr:=z1b6 (by decide) g5
 have fin : ∀ (a sd:Int),a4≤a→a≤a4+150→∃ (b:Bool) (y z:Int) (a' s' a'' s'':Int),C w90 [.ptr 0 0,I 30] [.box wgn [bys bs,I a,.int .u64 sd]]=some (.bool b,[.box wgn [bys bs,I a',.int .u64 s']])∧C w8r [.ptr 0 0,.ref 1 1 0 4] [.box wgn [bys bs,I a',.int .u64 s'],.row t_int true 1 [I 0,I (-1),I 2,I 17]]=some (I z,[.box wgn [bys bs,I a'',.int .u64 s''],.row t_int true 1 [I 0,I (-1),I 2,I 17]])∧a≤a'∧a'≤a+2∧a'≤a''∧a''≤a'+2:=by
  intro a sd ha1 ha2
  obtain⟨_,f1,b,a',s',rfl,j1,j2⟩:=wfl 30 bs a sd (by omega) (by omega) hl hb
  obtain⟨_,f2,z,a'',s'',rfl,j3,j4,j5⟩:=wfc [0,-1,2,17] t_int (by decide) (by decide) bs a' s' (by omega) (by omega) hl hb
  exact⟨b,0,z,a',s',a'',s'',f1,f2,j1,j2,j3,j4⟩
 refine w2u ?_
 simp (maxSteps:=2000000) (disch:=first|omega|(simp only[lenS];try omega)) only[wcu,go_sem,reduceAdd,reduceEqDiff,reduceLeDiff,reduceSub]
 simp (maxSteps:=2000000) (disch:=first|omega|(simp only[lenS];try omega)) only[go_sem,reduceAdd,reduceEqDiff,reduceLeDiff,reduceSub,e1,e2,e3,e4]
 refine⟨fun hx=>?_,fun hx0=>⟨fun hx=>?_,fun hx1=>⟨fun hx=>?_,fun hx2=>⟨fun hx=>⟨fun hr=>?_,fun hr=>?_⟩,fun hx3'=>?_⟩⟩⟩⟩
 ·obtain⟨_,f5,x5,a5,s5,rfl,j1,j2,j3,j4⟩:=wfm pl bs a4 s4 (by omega) (by omega) hl hb
  obtain⟨_,f6,x6,a6,s6,rfl,j5,j6,j7,j8⟩:=wfm pl bs a5 s5 (by omega) (by omega) hl hb
  obtain⟨b,y,z,a',s',a'',s'',t1,t2,t3,t4,t5,t6⟩:=fin a6 s6 (by omega) (by omega)
  simp (maxSteps:=2000000) (disch:=first|omega|(simp only[lenS];try omega)) only[go_sem,reduceAdd,reduceEqDiff,reduceLeDiff,reduceSub,f5,f6,t1,t2]
  refine⟨rfl,?_⟩
  exact⟨fun _=>⟨⟨⟨pl,tr++[⟨[x5],[x6],[]⟩]⟩,0,z⟩,a'',s'',by simp [List.map_set];try rfl,by omega,by omega,⟨by simp;try omega,by simp only;omega,z1b9 g8 (by simp)⟩⟩,fun _=>⟨⟨⟨pl,tr++[⟨[x5],[x6],[]⟩]⟩,0,1⟩,a',s',by simp [List.map_set];try rfl,by omega,by omega,⟨by simp;try omega,by simp only;omega,z1b9 g8 (by simp)⟩⟩⟩
 ·obtain⟨_,f5,x5,a5,s5,rfl,j1,j2,j3,j4⟩:=wfm pl bs a4 s4 (by omega) (by omega) hl hb
  obtain⟨b,y,z,a',s',a'',s'',t1,t2,t3,t4,t5,t6⟩:=fin a5 s5 (by omega) (by omega)
  have hpl:=z12b tr[x3.toNat].out x5
  obtain⟨_,f6,rfl | ⟨rfl,f7⟩⟩:=wfy tr[x3.toNat].out x5 (by omega)
  ·simp (maxSteps:=2000000) (disch:=first|omega|(simp only[lenS];try omega)) only[go_sem,reduceAdd,reduceEqDiff,reduceLeDiff,reduceSub,f5,f6,t1,t2]
   refine⟨rfl,?_⟩
   exact⟨fun _=>⟨⟨⟨pl,tr.set x3.toNat ⟨tr[x3.toNat].inn,putI tr[x3.toNat].out x5,tr[x3.toNat].rst⟩⟩,0,z⟩,a'',s'',by simp [List.map_set];try rfl,by omega,by omega,⟨by simp;try omega,by simp only;omega,z1b8 g8 (by simp only;omega)⟩⟩,fun _=>⟨⟨⟨pl,tr.set x3.toNat ⟨tr[x3.toNat].inn,putI tr[x3.toNat].out x5,tr[x3.toNat].rst⟩⟩,0,1⟩,a',s',by simp [List.map_set];try rfl,by omega,by omega,⟨by simp;try omega,by simp only;omega,z1b8 g8 (by simp only;omega)⟩⟩⟩
  ·simp (maxSteps:=2000000) (disch:=first|omega|(simp only[lenS];try omega)) only[go_sem,reduceAdd,reduceEqDiff,reduceLeDiff,reduceSub,f5,f6,t1,t2]
   refine⟨rfl,?_⟩
   exact⟨fun _=>⟨⟨⟨pl,tr.set x3.toNat ⟨tr[x3.toNat].inn,tr[x3.toNat].out,tr[x3.toNat].rst⟩⟩,0,z⟩,a'',s'',by simp [List.map_set];try rfl,by omega,by omega,⟨by simp;try omega,by simp only;omega,z1b8 g8 (by simp only;omega)⟩⟩,fun _=>⟨⟨⟨pl,tr.set x3.toNat ⟨tr[x3.toNat].inn,tr[x3.toNat].out,tr[x3.toNat].rst⟩⟩,0,1⟩,a',s',by simp [List.map_set];try rfl,by omega,by omega,⟨by simp;try omega,by simp only;omega,z1b8 g8 (by simp only;omega)⟩⟩⟩
 ·obtain⟨_,f5,x5,a5,s5,rfl,j1,j2,j3,j4⟩:=wfm pl bs a4 s4 (by omega) (by omega) hl hb
  obtain⟨b,y,z,a',s',a'',s'',t1,t2,t3,t4,t5,t6⟩:=fin a5 s5 (by omega) (by omega)
  have hpl:=z12b tr[x3.toNat].inn x5
  obtain⟨_,f6,rfl | ⟨rfl,f7⟩⟩:=wfy tr[x3.toNat].inn x5 (by omega)
  ·simp (maxSteps:=2000000) (disch:=first|omega|(simp only[lenS];try omega)) only[go_sem,reduceAdd,reduceEqDiff,reduceLeDiff,reduceSub,f5,f6,t1,t2]
   refine⟨rfl,?_⟩
   exact⟨fun _=>⟨⟨⟨pl,tr.set x3.toNat ⟨putI tr[x3.toNat].inn x5,tr[x3.toNat].out,tr[x3.toNat].rst⟩⟩,0,z⟩,a'',s'',by simp [List.map_set];try rfl,by omega,by omega,⟨by simp;try omega,by simp only;omega,z1b8 g8 (by simp only;omega)⟩⟩,fun _=>⟨⟨⟨pl,tr.set x3.toNat ⟨putI tr[x3.toNat].inn x5,tr[x3.toNat].out,tr[x3.toNat].rst⟩⟩,0,1⟩,a',s',by simp [List.map_set];try rfl,by omega,by omega,⟨by simp;try omega,by simp only;omega,z1b8 g8 (by simp only;omega)⟩⟩⟩
  ·simp (maxSteps:=2000000) (disch:=first|omega|(simp only[lenS];try omega)) only[go_sem,reduceAdd,reduceEqDiff,reduceLeDiff,reduceSub,f5,f6,t1,t2]
   refine⟨rfl,?_⟩
   exact⟨fun _=>⟨⟨⟨pl,tr.set x3.toNat ⟨tr[x3.toNat].inn,tr[x3.toNat].out,tr[x3.toNat].rst⟩⟩,0,z⟩,a'',s'',by simp [List.map_set];try rfl,by omega,by omega,⟨by simp;try omega,by simp only;omega,z1b8 g8 (by simp only;omega)⟩⟩,fun _=>⟨⟨⟨pl,tr.set x3.toNat ⟨tr[x3.toNat].inn,tr[x3.toNat].out,tr[x3.toNat].rst⟩⟩,0,1⟩,a',s',by simp [List.map_set];try rfl,by omega,by omega,⟨by simp;try omega,by simp only;omega,z1b8 g8 (by simp only;omega)⟩⟩⟩
 ·obtain⟨_,f5,l5,a5,s5,rfl,j1,j2,j3,j4⟩:=wfn pl 1 2 (by omega) bs a4 s4 (by omega) (by omega) hl hb
  obtain⟨b,y,z,a',s',a'',s'',t1,t2,t3,t4,t5,t6⟩:=fin a5 s5 (by omega) (by omega)
  simp (maxSteps:=2000000) (disch:=first|omega|(simp only[lenS];try omega)) only[go_sem,reduceAdd,reduceEqDiff,reduceLeDiff,reduceSub,f5,t1,t2]
  exact⟨fun _=>⟨⟨⟨pl,tr.set x3.toNat ⟨tr[x3.toNat].inn,tr[x3.toNat].out,l5⟩⟩,0,z⟩,a'',s'',by simp [List.map_set];try rfl,by omega,by omega,⟨by simp;try omega,by simp only;omega,z1b8 g8 (by simp only;omega)⟩⟩,fun _=>⟨⟨⟨pl,tr.set x3.toNat ⟨tr[x3.toNat].inn,tr[x3.toNat].out,l5⟩⟩,0,1⟩,a',s',by simp [List.map_set];try rfl,by omega,by omega,⟨by simp;try omega,by simp only;omega,z1b8 g8 (by simp only;omega)⟩⟩⟩
 ·obtain⟨b,y,z,a',s',a'',s'',t1,t2,t3,t4,t5,t6⟩:=fin a4 s4 (by omega) (by omega)
  simp (maxSteps:=2000000) (disch:=first|omega|(simp only[lenS];try omega)) only[go_sem,reduceAdd,reduceEqDiff,reduceLeDiff,reduceSub,t1,t2]
  exact⟨fun _=>⟨⟨⟨pl,tr⟩,0,z⟩,a'',s'',by simp [List.map_set];try rfl,by omega,by omega,⟨by simp;try omega,by simp only;omega,g8⟩⟩,fun _=>⟨⟨⟨pl,tr⟩,0,1⟩,a',s',by simp [List.map_set];try rfl,by omega,by omega,⟨by simp;try omega,by simp only;omega,g8⟩⟩⟩
 ·obtain⟨b,y,z,a',s',a'',s'',t1,t2,t3,t4,t5,t6⟩:=fin a4 s4 (by omega) (by omega)
  simp (maxSteps:=2000000) (disch:=first|omega|(simp only[lenS];try omega)) only[go_sem,reduceAdd,reduceEqDiff,reduceLeDiff,reduceSub,t1,t2]
  exact⟨fun _=>⟨⟨⟨pl,tr⟩,0,z⟩,a'',s'',by simp [List.map_set];try rfl,by omega,by omega,⟨by simp;try omega,by simp only;omega,g8⟩⟩,fun _=>⟨⟨⟨pl,tr⟩,0,1⟩,a',s',by simp [List.map_set];try rfl,by omega,by omega,⟨by simp;try omega,by simp only;omega,g8⟩⟩⟩
theorem w9p{f:Fl}(h:ziu f=true)(h0:0<f.net.tr.length):smNet f.net:=by
 have hg:=zja (ziy h).1
 refine⟨⟨h0,by omega⟩,by omega,fun t ht=>?_⟩
 have:=zjg (hg.2.2.2 t ht) ⟨by omega,hg.2.1⟩
 omega
theorem wgo{l:List Br}{f:Fl}{ls:List Int}(h:tfV l=some (f,ls)):smNet f.net∧ls.length≤45∧ziu f=true∧f.src=0∧f.dst=1:=by
 unfold tfV at h
 split at h
 ·rename_i T _
  split at h
  ·rename_i hc
   cases h
   have ok:=T.all_ok
   have hs:=w9p hc.2 ok.2.2.2.1
   exact⟨hs,by have:=hs.1.2;show T.all.lt.length≤45;rw[←ok.2.2.1];have:T.flow.net.tr.length=T.all.tr.length:=rfl;omega,hc.2,rfl,rfl⟩
  ·cases h
 ·cases h
theorem wfh(bs:List Int)(at_ sd:Int)(h0:0≤at_)(h1:at_<2^56)(hl:bs.length<2^62)(hb : ∀ x∈bs,0≤x∧x<256) :
    Lw (C w8w [.ptr 0 0] [.box wgn [bys bs,I at_,.int .u64 sd]]) fun r=>∃ (f:Fl) (ls:List Int) (t:List Br) (T:PV) (at' sd':Int),r=(.tup [.agg [I f.net.pl,.un wgj false 3 (f.net.tr.map encT),I f.src,I f.dst],.un t_int true 1 (ls.map I),T],[.box wgn [bys bs,I at',.int .u64 sd']])∧(T=.un wgf true 2 (t.map encB)∨T=brs t)∧at_≤at'∧at'≤at_+600∧smNet f.net∧ls.length≤45∧t.length≤15:=by
  obtain⟨_,e1,l,a1,s1,hr,g1,g2,g3⟩:=wfo bs at_ sd h0 (by omega) hl hb
  have e2:=wez l (by omega)
  have flo : ∀ a s:Int,at_≤a→a≤at_+210→∃ (f:Fl) (a' s':Int),C w8u [.ptr 0 0,.bool true] [.box wgn [bys bs,I a,.int .u64 s]]=some (.agg [I f.net.pl,.un wgj false 3 (f.net.tr.map encT),I f.src,I f.dst],[.box wgn [bys bs,I a',.int .u64 s']])∧a≤a'∧a'≤a+200∧smNet f.net:=by
    intro a s q1 q2
    obtain⟨_,f1,f,a',s',rfl,k1,k2,k3⟩:=wff true bs a s (by omega) (by omega) hl hb
    exact⟨f,a',s',f1,k1,k2,k3⟩
  have main : ∀ (a s:Int),at_≤a→a≤at_+210→True:=fun _ _ _ _=>trivial
  cases ht:tfV l with
  | none =>
    rw[ht] at e2
    obtain⟨f,a3,s3,e3,k1,k2,k3⟩:=flo a1 s1 (by omega) (by omega)
    have hk3:=k3.1
    rcases hr with rfl | rfl
    all_goals
      refine w2w ?_
      simp (maxSteps:=2000000) (disch:=first|omega|(simp only[lenS];try omega)) only[wcw,go_sem,reduceAdd,reduceEqDiff,reduceLeDiff,reduceSub]
      simp (maxSteps:=2000000) (disch:=first|omega|(simp only[lenS];try omega)) only[go_sem,reduceAdd,reduceEqDiff,reduceLeDiff,reduceSub,e1,e2,e3]
    · refine W_for f.net.tr.length (fun j s=>∃ (ls:List Int) (a sd:Int),s=⟨[.ptr 0 0,.ptr 1 0,.any,.any,.ref 2 2 0 l.length,.any,.any,.any,.ptr 3 0,.ref 4 1 0 ls.length,.any,I f.net.tr.length,I j,.any],[.box wgn [bys bs,I a,.int .u64 sd],.box wgg [I 0,.nil false 3,I 0,I 0],.row wgf true 2 (l.map encB),.box wgg [I f.net.pl,.ref 5 3 0 f.net.tr.length,I f.src,I f.dst],.row t_int true 1 (ls.map I),.row wgj false 3 (f.net.tr.map encT)]⟩∧ls.length=j∧a3≤a∧a≤a3+2*j) ?_ ?_ ?_
      · refine⟨[],a3,s3,?_,rfl,by omega,by omega⟩
        simp (maxSteps:=2000000) (disch:=first|omega|(simp only[lenS];try omega)) only[go_sem,reduceAdd,reduceEqDiff,reduceLeDiff,reduceSub]
        first | done | rfl
      · rintro j s hj ⟨ls,a,sd,rfl,hls,ha1,ha2⟩
        obtain⟨_,e4,x4,a4,s4,rfl,m1,m2,m3,m4⟩:=wfm 4 bs a sd (by omega) (by omega) hl hb
        simp (maxSteps:=2000000) (disch:=first|omega|(simp only[lenS];try omega)) only[go_sem,reduceAdd,reduceEqDiff,reduceLeDiff,reduceSub,e4]
        exact⟨ls++[x4],a4,s4,by simp,by simp;omega,by omega,by omega⟩
      · rintro s ⟨ls,a,sd,rfl,hls,ha1,ha2⟩
        simp (maxSteps:=2000000) (disch:=first|omega|(simp only[lenS];try omega)) only[go_sem,reduceAdd,reduceEqDiff,reduceLeDiff,reduceSub]
        first
          | exact⟨f,ls,l,_,a,sd,rfl,.inl rfl,by omega,by omega,k3,by omega,g3⟩
          | exact⟨f,ls,l,_,a,sd,rfl,.inr rfl,by omega,by omega,k3,by omega,g3⟩
          | exact⟨fun _=>⟨f,ls,l,_,a,sd,rfl,.inr rfl,by omega,by omega,k3,by omega,g3⟩,fun _=>⟨f,ls,l,_,a,sd,rfl,.inr rfl,by omega,by omega,k3,by omega,g3⟩⟩
    · refine W_for f.net.tr.length (fun j s=>∃ (ls:List Int) (a sd:Int),s=⟨[.ptr 0 0,.ptr 1 0,.any,.any,brs l,.any,.any,.any,.ptr 2 0,.ref 3 1 0 ls.length,.any,I f.net.tr.length,I j,.any],[.box wgn [bys bs,I a,.int .u64 sd],.box wgg [I 0,.nil false 3,I 0,I 0],.box wgg [I f.net.pl,.ref 4 3 0 f.net.tr.length,I f.src,I f.dst],.row t_int true 1 (ls.map I),.row wgj false 3 (f.net.tr.map encT)]⟩∧ls.length=j∧a3≤a∧a≤a3+2*j) ?_ ?_ ?_
      · refine⟨[],a3,s3,?_,rfl,by omega,by omega⟩
        simp (maxSteps:=2000000) (disch:=first|omega|(simp only[lenS];try omega)) only[go_sem,reduceAdd,reduceEqDiff,reduceLeDiff,reduceSub]
        first | done | rfl
      · rintro j s hj ⟨ls,a,sd,rfl,hls,ha1,ha2⟩
        obtain⟨_,e4,x4,a4,s4,rfl,m1,m2,m3,m4⟩:=wfm 4 bs a sd (by omega) (by omega) hl hb
        simp (maxSteps:=2000000) (disch:=first|omega|(simp only[lenS];try omega)) only[go_sem,reduceAdd,reduceEqDiff,reduceLeDiff,reduceSub,e4]
        exact⟨ls++[x4],a4,s4,by simp,by simp;omega,by omega,by omega⟩
      · rintro s ⟨ls,a,sd,rfl,hls,ha1,ha2⟩
        simp (maxSteps:=2000000) (disch:=first|omega|(simp only[lenS];try omega)) only[go_sem,reduceAdd,reduceEqDiff,reduceLeDiff,reduceSub]
        first
          | exact⟨f,ls,l,_,a,sd,rfl,.inl rfl,by omega,by omega,k3,by omega,g3⟩
          | exact⟨f,ls,l,_,a,sd,rfl,.inr rfl,by omega,by omega,k3,by omega,g3⟩
          | exact⟨fun _=>⟨f,ls,l,_,a,sd,rfl,.inr rfl,by omega,by omega,k3,by omega,g3⟩,fun _=>⟨f,ls,l,_,a,sd,rfl,.inr rfl,by omega,by omega,k3,by omega,g3⟩⟩
  | some r =>
    obtain⟨f0,l0⟩:=r
    obtain⟨q1,q2,q3,q4,q5⟩:=wgo ht
    rw[ht] at e2
    rw[show(I 0)=I f0.src by rw[q4],show(I 1)=I f0.dst by rw[q5]] at e2
    obtain⟨_,e5,b5,a5,s5,rfl,n1,n2⟩:=wfl 4 bs a1 s1 (by omega) (by omega) hl hb
    cases b5 with
    | false =>
      rcases hr with rfl | rfl
      all_goals
        refine w2w ?_
        simp (maxSteps:=2000000) (disch:=first|omega|(simp only[lenS];try omega)) only[wcw,go_sem,reduceAdd,reduceEqDiff,reduceLeDiff,reduceSub]
        simp (maxSteps:=2000000) (disch:=first|omega|(simp only[lenS];try omega)) only[go_sem,reduceAdd,reduceEqDiff,reduceLeDiff,reduceSub,e1,e2,e5]
        first
          | exact⟨f0,l0,l,_,a5,s5,rfl,.inl rfl,by omega,by omega,q1,q2,g3⟩
          | exact⟨f0,l0,l,_,a5,s5,rfl,.inr rfl,by omega,by omega,q1,q2,g3⟩
    | true =>
    obtain⟨f,a3,s3,e3,k1,k2,k3⟩:=flo a5 s5 (by omega) (by omega)
    have hk3:=k3.1
    rcases hr with rfl | rfl
    all_goals
      refine w2w ?_
      simp (maxSteps:=2000000) (disch:=first|omega|(simp only[lenS];try omega)) only[wcw,go_sem,reduceAdd,reduceEqDiff,reduceLeDiff,reduceSub]
      simp (maxSteps:=2000000) (disch:=first|omega|(simp only[lenS];try omega)) only[go_sem,reduceAdd,reduceEqDiff,reduceLeDiff,reduceSub,e1,e2,e3,e5]
    · refine W_for f.net.tr.length (fun j s=>∃ (ls:List Int) (a sd:Int),s=⟨[.ptr 0 0,.ptr 1 0,.any,.any,.ref 2 2 0 l.length,.any,.any,.any,.ptr 3 0,.ref 4 1 0 ls.length,.any,I f.net.tr.length,I j,.any],[.box wgn [bys bs,I a,.int .u64 sd],.box wgg [I 0,.nil false 3,I 0,I 0],.fro true 2 (l.map encB),.box wgg [I f.net.pl,.ref 5 3 0 f.net.tr.length,I f.src,I f.dst],.row t_int true 1 (ls.map I),.row wgj false 3 (f.net.tr.map encT)]⟩∧ls.length=j∧a3≤a∧a≤a3+2*j) ?_ ?_ ?_
      · refine⟨[],a3,s3,?_,rfl,by omega,by omega⟩
        simp (maxSteps:=2000000) (disch:=first|omega|(simp only[lenS];try omega)) only[go_sem,reduceAdd,reduceEqDiff,reduceLeDiff,reduceSub]
        first | done | rfl
      · rintro j s hj ⟨ls,a,sd,rfl,hls,ha1,ha2⟩
        obtain⟨_,e4,x4,a4,s4,rfl,m1,m2,m3,m4⟩:=wfm 4 bs a sd (by omega) (by omega) hl hb
        simp (maxSteps:=2000000) (disch:=first|omega|(simp only[lenS];try omega)) only[go_sem,reduceAdd,reduceEqDiff,reduceLeDiff,reduceSub,e4]
        exact⟨ls++[x4],a4,s4,by simp,by simp;omega,by omega,by omega⟩
      · rintro s ⟨ls,a,sd,rfl,hls,ha1,ha2⟩
        simp (maxSteps:=2000000) (disch:=first|omega|(simp only[lenS];try omega)) only[go_sem,reduceAdd,reduceEqDiff,reduceLeDiff,reduceSub]
        first
          | exact⟨f,ls,l,_,a,sd,rfl,.inl rfl,by omega,by omega,k3,by omega,g3⟩
          | exact⟨f,ls,l,_,a,sd,rfl,.inr rfl,by omega,by omega,k3,by omega,g3⟩
          | exact⟨fun _=>⟨f,ls,l,_,a,sd,rfl,.inr rfl,by omega,by omega,k3,by omega,g3⟩,fun _=>⟨f,ls,l,_,a,sd,rfl,.inr rfl,by omega,by omega,k3,by omega,g3⟩⟩
    · refine W_for f.net.tr.length (fun j s=>∃ (ls:List Int) (a sd:Int),s=⟨[.ptr 0 0,.ptr 1 0,.any,.any,brs l,.any,.any,.any,.ptr 2 0,.ref 3 1 0 ls.length,.any,I f.net.tr.length,I j,.any],[.box wgn [bys bs,I a,.int .u64 sd],.box wgg [I 0,.nil false 3,I 0,I 0],.box wgg [I f.net.pl,.ref 4 3 0 f.net.tr.length,I f.src,I f.dst],.row t_int true 1 (ls.map I),.row wgj false 3 (f.net.tr.map encT)]⟩∧ls.length=j∧a3≤a∧a≤a3+2*j) ?_ ?_ ?_
      · refine⟨[],a3,s3,?_,rfl,by omega,by omega⟩
        simp (maxSteps:=2000000) (disch:=first|omega|(simp only[lenS];try omega)) only[go_sem,reduceAdd,reduceEqDiff,reduceLeDiff,reduceSub]
        first | done | rfl
      · rintro j s hj ⟨ls,a,sd,rfl,hls,ha1,ha2⟩
        obtain⟨_,e4,x4,a4,s4,rfl,m1,m2,m3,m4⟩:=wfm 4 bs a sd (by omega) (by omega) hl hb
        simp (maxSteps:=2000000) (disch:=first|omega|(simp only[lenS];try omega)) only[go_sem,reduceAdd,reduceEqDiff,reduceLeDiff,reduceSub,e4]
        exact⟨ls++[x4],a4,s4,by simp,by simp;omega,by omega,by omega⟩
      · rintro s ⟨ls,a,sd,rfl,hls,ha1,ha2⟩
        simp (maxSteps:=2000000) (disch:=first|omega|(simp only[lenS];try omega)) only[go_sem,reduceAdd,reduceEqDiff,reduceLeDiff,reduceSub]
        first
          | exact⟨f,ls,l,_,a,sd,rfl,.inl rfl,by omega,by omega,k3,by omega,g3⟩
          | exact⟨f,ls,l,_,a,sd,rfl,.inr rfl,by omega,by omega,k3,by omega,g3⟩
          | exact⟨fun _=>⟨f,ls,l,_,a,sd,rfl,.inr rfl,by omega,by omega,k3,by omega,g3⟩,fun _=>⟨f,ls,l,_,a,sd,rfl,.inr rfl,by omega,by omega,k3,by omega,g3⟩⟩
theorem wg8(n p:Int)(hn:0≤n∧n<2^30)(hp:0≤p∧p<n):C w9k [I n,I p] []=some (.un t_int true 1 ((oneM n.toNat p).map I),[]):=by
 refine w2b ?_
 simp (maxSteps:=2000000) (disch:=first|omega|(simp only[lenS];try omega)) only[wdk,go_sem,reduceAdd,reduceEqDiff,reduceLeDiff,reduceSub]
 simp (maxSteps:=2000000) (disch:=first|omega|(simp only[lenS];try omega)) only[go_sem,reduceAdd,reduceEqDiff,reduceLeDiff,reduceSub,List.getElem_replicate]
 simp [oneM,List.map_set]
theorem wey(f:Fl)(hf:smN f.net):C w8h [encF f] []=some (.tup [.un t_int true 1 ((if ziu f then oneM f.net.pl.toNat f.src else []).map I),.bool (ziu f)],[]):=by
  refine w1m ?_
  simp (maxSteps:=2000000) (disch:=first|omega|(simp only[lenS];try omega)) only[wch,go_sem,reduceAdd,reduceEqDiff,reduceLeDiff,reduceSub]
  simp (maxSteps:=2000000) (disch:=first|omega|(simp only[lenS];try omega)) only[go_sem,reduceAdd,reduceEqDiff,reduceLeDiff,reduceSub,wes f hf]
  cases h:ziu f with
  | false=>simp
  | true =>
    obtain⟨h1,h2,h3,_⟩:=ziy h
    have hb:=zja h1
    simp (maxSteps:=2000000) (disch:=first|omega|(simp only[lenS];try omega)) only[go_sem,reduceAdd,reduceEqDiff,reduceLeDiff,reduceSub,wg8 f.net.pl f.src (by omega) (by omega)]
theorem wfe(bs:List Int)(at_ sd:Int)(h0:0≤at_)(h1:at_<2^60)(hl:bs.length<2^62)(hb : ∀ x∈bs,0≤x∧x<256) :
  Lw (C w8t [.ptr 0 0] [.box wgn [bys bs,I at_,.int .u64 sd]]) fun r=>∃ (x at' sd':Int),r=(I x,[.box wgn [bys bs,I at',.int .u64 sd']])∧at_≤at'∧at'≤at_+2∧0≤x∧x≤401:=by
 obtain⟨_,e3,x3,a3,s3,rfl,h11,h12,h13⟩:=wfc [1,5,20,100,100,400,401,0] t_int (by decide) (by decide) bs at_ sd h0 (by omega) hl hb
 simp only[go_sem,Nat.reduceAdd] at e3
 refine w2t ?_
 simp (maxSteps:=2000000) (disch:=first|omega|(simp only[lenS];try omega)) only[wct,go_sem,reduceAdd,reduceEqDiff,reduceLeDiff,reduceSub]
 simp (maxSteps:=2000000) (disch:=first|omega|(simp only[lenS];try omega)) only[go_sem,reduceAdd,reduceEqDiff,reduceLeDiff,reduceSub,e3]
 simp only[List.mem_cons,List.not_mem_nil,or_false] at h13
 exact⟨_,_,_,rfl,h11,h12,by omega,by omega⟩
theorem wfu(l:List Int)(h:l.length<2^36):C w98 [ints l] []=some (.un t_int true 1 (l.map I),[]):=by
 refine w1z ?_
 simp (maxSteps:=2000000) (disch:=first|omega|(simp only[lenS];try omega)) only[wd8,go_sem,reduceAdd,reduceEqDiff,reduceLeDiff,reduceSub]
theorem wfa(l:List Int)(lo hi:Int)(hl:l.length<2^62):C w8p [ints l,I lo,I hi] []=some (.bool (l.all (inB lo hi)),[]):=by
 refine w1u ?_
 simp (maxSteps:=2000000) (disch:=first|omega|(simp only[lenS];try omega)) only[wcp,go_sem,reduceAdd,reduceEqDiff,reduceLeDiff,reduceSub]
 refine W_for l.length (fun k s=>s=⟨[.any,I lo,I hi,.any,.any,ints l,I l.length,I k,.any,.any],[]⟩∧(l.take k).all (inB lo hi)=true) ?_ ?_ ?_
 ·simp (maxSteps:=2000000) (disch:=first|omega|(simp only[lenS];try omega)) only[go_sem,reduceAdd,reduceEqDiff,reduceLeDiff,reduceSub]
  rfl
 ·rintro k s hk ⟨rfl,hall⟩
  simp (maxSteps:=2000000) (disch:=first|omega|(simp only[lenS];try omega)) only[go_sem,reduceAdd,reduceEqDiff,reduceLeDiff,reduceSub,wfr]
  exact⟨fun h=>⟨rfl,z2z hk hall h⟩,fun h=>by rw[z2y hk h]⟩
 ·rintro s ⟨rfl,hall⟩
  simp (maxSteps:=2000000) (disch:=first|omega|(simp only[lenS];try omega)) only[go_sem,reduceAdd,reduceEqDiff,reduceLeDiff,reduceSub]
  rw[List.take_length] at hall
  rw[hall]
theorem weu(p:Int)(m:List Int)(hl:m.length<2^62):C w8d [I p,ints m] []=some (.bool (goodM p m),[]):=by
 refine w1i ?_
 simp (maxSteps:=2000000) (disch:=first|omega|(simp only[lenS];try omega)) only[wcd,go_sem,reduceAdd,reduceEqDiff,reduceLeDiff,reduceSub]
 simp (maxSteps:=2000000) (disch:=first|omega|(simp only[lenS];try omega)) only[go_sem,reduceAdd,reduceEqDiff,reduceLeDiff,reduceSub,wfv,wfa m _ _ hl]
 unfold goodM;grind
theorem wg4(n:Net)(m:List Int)(hn:smN n)(hm:m.length<2^62):C w9g [encN n,ints m] []=some (.bool (zs4 n m),[]):=by
 refine w27 ?_
 simp (maxSteps:=2000000) (disch:=first|omega|(simp only[lenS];try omega)) only[wdg,go_sem,reduceAdd,reduceEqDiff,reduceLeDiff,reduceSub]
 simp (maxSteps:=2000000) (disch:=first|omega|(simp only[lenS];try omega)) only[go_sem,reduceAdd,reduceEqDiff,reduceLeDiff,reduceSub,wev n hn,weu n.pl m hm]
 unfold zs4;grind
theorem wg1(t:Tr)(m:List Int)(ht : ∀ q∈t.inn,0≤q∧q.toNat<m.length)(hl:t.inn.length<2^62):C w9d [encT t,ints m] []=some (.bool (canT t m),[]):=by
 refine w24 ?_
 simp (maxSteps:=2000000) (disch:=first|omega|(simp only[lenS];try omega)) only[wdd,go_sem,reduceAdd,reduceEqDiff,reduceLeDiff,reduceSub]
 refine W_for t.inn.length (fun k s=>s=⟨[.any,ints m,.any,.any,.any,ints t.inn,I t.inn.length,I k,.any,.any],[]⟩∧(t.inn.take k).all (fun p=>!(at_ m p == 0))=true) ?_ ?_ ?_
 ·simp (maxSteps:=2000000) (disch:=first|omega|(simp only[lenS];try omega)) only[go_sem,reduceAdd,reduceEqDiff,reduceLeDiff,reduceSub]
  rfl
 ·rintro k s hk ⟨rfl,hall⟩
  obtain⟨h1,h2⟩:=ht _ (List.getElem_mem hk)
  simp (maxSteps:=2000000) (disch:=first|omega|(simp only[lenS];try omega)) only[go_sem,reduceAdd,reduceEqDiff,reduceLeDiff,reduceSub]
  refine⟨fun h=>?_,fun h=>⟨rfl,z2z hk hall ?_⟩⟩
  ·have:canT t m=false:=z2y hk (by rw[at_eq h2] at h;simp [h])
   rw[this]
  ·rw[at_eq h2] at h;simp [h]
 ·rintro s ⟨rfl,hall⟩
  simp (maxSteps:=2000000) (disch:=first|omega|(simp only[lenS];try omega)) only[go_sem,reduceAdd,reduceEqDiff,reduceLeDiff,reduceSub]
  rw[List.take_length] at hall
  unfold canT;rw[hall]
theorem wg2(n:Net)(m:List Int)(hg:goodN n=true)(hm:(m.length:Int)=n.pl):C w9e [encN n,ints m] []=some (.un t_int true 1 ((enabL n m).map I),[]):=by
 have hb:=zja hg
 refine w25 ?_
 simp (maxSteps:=2000000) (disch:=first|omega|(simp only[lenS];try omega)) only[wde,go_sem,reduceAdd,reduceEqDiff,reduceLeDiff,reduceSub]
 refine W_for n.tr.length (fun k s=>s=⟨[.any,ints m,.any,.any,.ref 0 1 0 (enabK n m k).length,.any,.any,trs n.tr,I n.tr.length,I k,.any,.any],[.row t_int true 1 ((enabK n m k).map I)]⟩) ?_ ?_ ?_
 ·simp (maxSteps:=2000000) (disch:=first|omega|(simp only[lenS];try omega)) only[go_sem,reduceAdd,reduceEqDiff,reduceLeDiff,reduceSub]
  rfl
 ·rintro k s hk rfl
  have hT:=hb.2.2.2 _ (List.getElem_mem hk)
  have h2:=zd2 n m k
  simp (maxSteps:=2000000) (disch:=first|omega|(simp only[lenS];try omega)) only[go_sem,reduceAdd,reduceEqDiff,reduceLeDiff,reduceSub,wg1 _ m (zjh hT hm).1 (by have:=(zjg hT (by omega)).1;omega)]
  refine⟨fun h=>?_,fun h=>?_⟩
  ·rw[zd3 hk h,List.map_append];simp
  ·rw[zd1 hk h];rfl
 ·rintro s rfl
  simp (maxSteps:=2000000) (disch:=first|omega|(simp only[lenS];try omega)) only[go_sem,reduceAdd,reduceEqDiff,reduceLeDiff,reduceSub]
  rfl
theorem wep(n:Net)(m:List Int)(hn:smN n)(hm:m.length<2^62):C w88 [encN n,ints m] []=some (.tup [.un t_int true 1 ((if zs4 n m then enabL n m else []).map I),.bool (zs4 n m)],[]):=by
 refine w1d ?_
 simp (maxSteps:=2000000) (disch:=first|omega|(simp only[lenS];try omega)) only[wc8,go_sem,reduceAdd,reduceEqDiff,reduceLeDiff,reduceSub]
 simp (maxSteps:=2000000) (disch:=first|omega|(simp only[lenS];try omega)) only[go_sem,reduceAdd,reduceEqDiff,reduceLeDiff,reduceSub,wg4 n m hn hm]
 refine⟨fun h=>?_,fun h=>by simp [h]⟩
 obtain⟨h1,h2⟩:=zs5 h
 simp (maxSteps:=2000000) (disch:=first|omega|(simp only[lenS];try omega)) only[go_sem,reduceAdd,reduceEqDiff,reduceLeDiff,reduceSub,wg2 n m h1 (zj2 h2).2.2.1,h]
theorem wg3(t:Tr)(m:List Int)(h1 : ∀ q∈t.inn,0≤q∧q.toNat<m.length)(h2 : ∀ q∈t.out,0≤q∧q.toNat<m.length)(h3 : ∀ q∈t.rst,0≤q∧q.toNat<m.length)(hl:smT t)(hm:m.length<2^30)(hb : ∀ x∈m,0≤x∧x≤50) :
  C w9f [encT t,ints m] []=some (.un t_int true 1 ((zgc t m).map I),[]):=by
 obtain⟨g1,g2,g3⟩:=hl
 refine w26 ?_
 simp (maxSteps:=2000000) (disch:=first|omega|(simp only[lenS];try omega)) only[wdf,go_sem,reduceAdd,reduceEqDiff,reduceLeDiff,reduceSub]
 simp (maxSteps:=2000000) (disch:=first|omega|(simp only[lenS];try omega)) only[go_sem,reduceAdd,reduceEqDiff,reduceLeDiff,reduceSub,wfu m (by omega)]
 refine W_for t.inn.length (fun k s=>s=⟨[.any,.any,.ptr 0 0,.any,.ref 1 1 0 m.length,.any,.any,.any,ints t.inn,I t.inn.length,I k,.any,.any,.any,.any,.any,.any,.any,.any,.any],[.box wgj [ints t.inn,ints t.out,ints t.rst],.row t_int true 1 ((decL m (t.inn.take k)).map I)]⟩) ?_ ?_ ?_
 ·simp (maxSteps:=2000000) (disch:=first|omega|(simp only[lenS];try omega)) only[go_sem,reduceAdd,reduceEqDiff,reduceLeDiff,reduceSub]
  rfl
 ·rintro k s hk rfl
  obtain⟨h4,h5⟩:=h1 _ (List.getElem_mem hk)
  have h6:=zbv m (t.inn.take k)
  have h7:=z4k (p:=t.inn[k]) (zbu (l:=t.inn.take k) hb (fun p hp=>(h1 p (List.mem_of_mem_take hp)).2)) (by omega)
  have h8:(t.inn.take k).length=k:=by simp;omega
  simp (maxSteps:=2000000) (disch:=first|omega|(simp only[lenS];try omega)) only[go_sem,reduceAdd,reduceEqDiff,reduceLeDiff,reduceSub,at_eq]
  rw[zbw hk];rfl
 ·rintro s rfl
  simp (maxSteps:=2000000) (disch:=first|omega|(simp only[lenS];try omega)) only[go_sem,reduceAdd,reduceEqDiff,reduceLeDiff,reduceSub,List.take_length]
  have b1:=zbu (l:=t.inn) hb (fun p hp=>(h1 p hp).2)
  have l1:=zbv m t.inn
  generalize e1:decL m t.inn=m1 at b1 l1 ⊢
  refine W_for t.rst.length (fun k s=>s=⟨[.any,.any,.ptr 0 0,.any,.ref 1 1 0 m.length,.any,.any,.any,.any,.any,.any,.any,ints t.rst,I t.rst.length,I k,.any,.any,.any,.any,.any],[.box wgj [ints t.inn,ints t.out,ints t.rst],.row t_int true 1 ((zerL m1 (t.rst.take k)).map I)]⟩) ?_ ?_ ?_
  ·simp (maxSteps:=2000000) (disch:=first|omega|(simp only[lenS];try omega)) only[go_sem,reduceAdd,reduceEqDiff,reduceLeDiff,reduceSub]
   rfl
  ·rintro k s hk rfl
   obtain⟨h4,h5⟩:=h3 _ (List.getElem_mem hk)
   have h6:=z1h7 m1 (t.rst.take k)
   simp (maxSteps:=2000000) (disch:=first|omega|(simp only[lenS];try omega)) only[go_sem,reduceAdd,reduceEqDiff,reduceLeDiff,reduceSub]
   rw[z1h8 hk];rfl
  ·rintro s rfl
   simp (maxSteps:=2000000) (disch:=first|omega|(simp only[lenS];try omega)) only[go_sem,reduceAdd,reduceEqDiff,reduceLeDiff,reduceSub,List.take_length]
   have b2:=z1h6 (l:=t.rst) b1 (by omega)
   have l2:=z1h7 m1 t.rst
   generalize e2:zerL m1 t.rst=m2 at b2 l2 ⊢
   refine W_for t.out.length (fun k s=>s=⟨[.any,.any,.any,.any,.ref 0 1 0 m.length,.any,.any,.any,.any,.any,.any,.any,.any,.any,.any,.any,ints t.out,I t.out.length,I k,.any],[.row t_int true 1 ((incL m2 (t.out.take k)).map I)]⟩) ?_ ?_ ?_
   ·simp (maxSteps:=2000000) (disch:=first|omega|(simp only[lenS];try omega)) only[go_sem,reduceAdd,reduceEqDiff,reduceLeDiff,reduceSub]
    rfl
   ·rintro k s hk rfl
    obtain⟨h4,h5⟩:=h2 _ (List.getElem_mem hk)
    have h6:=zmf m2 (t.out.take k)
    have h7:=z4k (p:=t.out[k]) (zme (l:=t.out.take k) b2 (fun p hp=>by have:=(h2 p (List.mem_of_mem_take hp)).2;omega)) (by omega)
    have h8:(t.out.take k).length=k:=by simp;omega
    simp (maxSteps:=2000000) (disch:=first|omega|(simp only[lenS];try omega)) only[go_sem,reduceAdd,reduceEqDiff,reduceLeDiff,reduceSub,at_eq]
    rw[zmg hk];rfl
   ·rintro s rfl
    have h6:=zmf m2 t.out
    simp (maxSteps:=2000000) (disch:=first|omega|(simp only[lenS];try omega)) only[go_sem,reduceAdd,reduceEqDiff,reduceLeDiff,reduceSub,List.take_length]
    subst e2 e1;rfl
theorem wer(n:Net)(m:List Int)(t:Int)(hn:smN n)(hm:m.length<2^62):C w8a [encN n,ints m,I t] []=some (.tup [.un t_int true 1 ((if zvy n m t then zgc (trAt n t) m else []).map I),.bool (zvy n m t)],[]):=by
 have h0:=hn.1
 refine w1f ?_
 simp (maxSteps:=2000000) (disch:=first|omega|(simp only[lenS];try omega)) only[wca,go_sem,reduceAdd,reduceEqDiff,reduceLeDiff,reduceSub]
 simp (maxSteps:=2000000) (disch:=first|omega|(simp only[lenS];try omega)) only[go_sem,reduceAdd,reduceEqDiff,reduceLeDiff,reduceSub,wg4 n m hn hm,wfr]
 refine⟨fun h1=>⟨fun h2=>?_,fun h2=>by simp [zvy,canN,h2]⟩,fun h1=>by simp [zvy,canN,h1]⟩
 obtain⟨h3,h4⟩:=zs5 h1
 have h6:0≤t∧t.toNat<n.tr.length:=by simp [inB] at h2;omega
 have h8:=(zja h3).2.2.2 _ (List.getElem_mem h6.2)
 rw[z1ex h6.2] at h8
 have hx:=zjh h8 (zj2 h4).2.2.1
 have hy:=zjg h8 (by have:=zja h3;omega)
 have hm:=(zj2 h4).2.2
 have hz:=zge (trAt n t) m
 simp (maxSteps:=2000000) (disch:=first|omega|(simp only[lenS];try omega)) only[go_sem,reduceAdd,reduceEqDiff,reduceLeDiff,reduceSub,z1ex,wg1 (trAt n t) m hx.1 (by omega)]
 refine⟨fun h7=>?_,fun h7=>by simp [zvy,canN,h7]⟩
 have hg:goodM n.pl (zgc (trAt n t) m)=zvy n m t:=by
  have h9:inB 1 16 n.pl=true:=by have:=zja h3;simp [inB];omega
  have h10:(((zgc (trAt n t) m).length:Int) == n.pl)=true:=by simp [hz];omega
  simp only[goodM,zvy,canN,h1,h2,h7,h9,h10,Bool.true_and,Bool.and_self]
 simp (maxSteps:=2000000) (disch:=first|omega|(simp only[lenS];try omega)) only[go_sem,reduceAdd,reduceEqDiff,reduceLeDiff,reduceSub,z1ex,wg3 (trAt n t) m hx.1 hx.2.1 hx.2.2 ⟨by omega,by omega,by omega⟩ (by omega) hm.2.2,weu n.pl (zgc (trAt n t) m) (by omega),hg]
 refine⟨fun h=>by simp [h],fun h=>by simp [h]⟩
theorem wft(a b:Int):C w97 [I a,I b] []=some (I (max a b),[]):=by
 refine w1y ?_
 simp (maxSteps:=2000000) (disch:=first|omega|(simp only[lenS];try omega)) only[wd7,go_sem,reduceAdd,reduceEqDiff,reduceLeDiff,reduceSub]
 exact⟨fun h=>by rw[Int.max_eq_left (by omega)],fun h=>by rw[Int.max_eq_right (by omega)]⟩
theorem wfi(n:Net)(hn:n.pl≤20)(bs:List Int)(at_ sd:Int)(h0:0≤at_)(h1:at_<2^59)(hl:bs.length<2^62)(hb : ∀ x∈bs,0≤x∧x<256) :
  Lw (C w8x [.ptr 0 0,.agg [I n.pl,.ref 1 3 0 n.tr.length]] [.box wgn [bys bs,I at_,.int .u64 sd],.row wgj false 3 (n.tr.map encT)]) fun r=>∃ (l:List Int) (at' sd':Int),r=(.un t_int true 1 (l.map I),[.box wgn [bys bs,I at',.int .u64 sd'],.row wgj false 3 (n.tr.map encT)])∧at_≤at'∧at'≤at_+100∧l.length≤20∧∀ x∈l,-1≤x∧x≤51:=by
 refine w2x ?_
 simp (maxSteps:=2000000) (disch:=first|omega|(simp only[lenS];try omega)) only[wcx,go_sem,reduceAdd,reduceEqDiff,reduceLeDiff,reduceSub]
 refine W_for n.pl.toNat (fun k s=>∃ (l:List Int) (at' sd':Int),s=⟨[.ptr 0 0,.any,.ptr 2 0,.any,.ref 3 1 0 l.length,I k,.any,.any],[.box wgn [bys bs,I at',.int .u64 sd'],.row wgj false 3 (n.tr.map encT),.box wgh [I n.pl,.ref 1 3 0 n.tr.length],.row t_int true 1 (l.map I)]⟩∧l.length=k∧at_≤at'∧at'≤at_+2*k∧∀ x∈l,0≤x∧x≤3) ?_ ?_ ?_
 ·refine⟨[],at_,sd,?_,rfl,by omega,by omega,by simp⟩
  simp (maxSteps:=2000000) (disch:=first|omega|(simp only[lenS];try omega)) only[go_sem,reduceAdd,reduceEqDiff,reduceLeDiff,reduceSub]
  rfl
 ·rintro k s hk ⟨l,a,sd,rfl,rfl,h8,h9,h10⟩
  obtain⟨_,e2,x2,a2,s2,rfl,h11,h12,h13,h14⟩:=wfm 4 bs a sd (by omega) (by omega) hl hb
  simp (maxSteps:=2000000) (disch:=first|omega|(simp only[lenS];try omega)) only[go_sem,reduceAdd,reduceEqDiff,reduceLeDiff,reduceSub,e2,wft]
  refine⟨l++[max 0 (x2-1)],a2,s2,by rw[List.map_append];simp,by simp,by omega,by omega,?_⟩
  intro x hx
  rcases List.mem_append.1 hx with hx | hx
  ·exact h10 x hx
  ·simp only[List.mem_cons,List.not_mem_nil,or_false] at hx;omega
 ·rintro s ⟨l,a,sd,rfl,h7,h8,h9,h10⟩
  obtain⟨_,e1,x1,a1,s1,rfl,h5,h6⟩:=wfl 30 bs a sd (by omega) (by omega) hl hb
  simp (maxSteps:=2000000) (disch:=first|omega|(simp only[lenS];try omega)) only[go_sem,reduceAdd,reduceEqDiff,reduceLeDiff,reduceSub,e1]
  obtain⟨_,e3,x3,a3,s3,rfl,h11,h12,h13⟩:=wfc [50,51,-1] t_int (by decide) (by decide) bs a1 s1 (by omega) (by omega) hl hb
  simp only[go_sem,Nat.reduceAdd] at e3
  simp (maxSteps:=2000000) (disch:=first|omega|(simp only[lenS];try omega)) only[go_sem,reduceAdd,reduceEqDiff,reduceLeDiff,reduceSub,e3]
  simp only[List.mem_cons,List.not_mem_nil,or_false] at h13
  refine⟨fun h=>⟨fun h2=>?_,fun h2=>?_⟩,fun h=>?_⟩
  ·simp (maxSteps:=2000000) (disch:=first|omega|(simp only[lenS];try omega)) only[go_sem,reduceAdd,reduceEqDiff,reduceLeDiff,reduceSub]
   refine⟨l.set 0 x3,a3,s3,rfl,by omega,by omega,by simp;omega,fun x hx=>?_⟩
   rcases List.mem_or_eq_of_mem_set hx with hx | rfl
   ·have:=h10 x hx;omega
   ·omega
  ·exact⟨l,a1,s1,rfl,by omega,by omega,by omega,fun x hx=>by have:=h10 x hx;omega⟩
  ·exact⟨l,a1,s1,rfl,by omega,by omega,by omega,fun x hx=>by have:=h10 x hx;omega⟩
theorem wfj(n:Net)(m:List Int)(hn:smNet n)(hm:m.length≤20)(bs:List Int)(at_ sd:Int)(h0:0≤at_)(h1:at_<2^58)(hl:bs.length<2^62)(hb : ∀ x∈bs,0≤x∧x<256) :
    Lw (C w8y [.ptr 0 0,.agg [I n.pl,.ref 1 3 0 n.tr.length],.ref 2 1 0 m.length] [.box wgn [bys bs,I at_,.int .u64 sd],.row wgj false 3 (n.tr.map encT),.row t_int true 1 (m.map I)]) fun r=>∃ (l:List Int) (at' sd':Int),r=(.un t_int true 1 (l.map I),[.box wgn [bys bs,I at',.int .u64 sd'],.row wgj false 3 (n.tr.map encT),.row t_int true 1 (m.map I)])∧at_≤at'∧at'≤at_+200∧l.length≤20:=by
  have hsn:=hn.smN
  have eo:=wfu m (by omega)
  obtain⟨_,e1,x1,a1,s1,rfl,h3,h4,h5,h6⟩:=wfm 6 bs at_ sd h0 (by omega) hl hb
  obtain⟨K,rfl⟩ : ∃ K:Nat,x1=K:=⟨x1.toNat,by omega⟩
  refine w2y ?_
  simp (maxSteps:=2000000) (disch:=first|omega|(simp only[lenS];try omega)) only[wcy,go_sem,reduceAdd,reduceEqDiff,reduceLeDiff,reduceSub]
  simp (maxSteps:=2000000) (disch:=first|omega|(simp only[lenS];try omega)) only[go_sem,reduceAdd,reduceEqDiff,reduceLeDiff,reduceSub,eo,e1]
  refine z1a (fun k s=>∃ (M:List Int) (a sd:Int),s=⟨[.ptr 0 0,.any,.any,.ptr 3 0,.any,.ref 4 1 0 M.length,I k,.any,.any,.any,.any,.any,.any,.any,.any],[.box wgn [bys bs,I a,.int .u64 sd],.row wgj false 3 (n.tr.map encT),.row t_int true 1 (m.map I),.box wgh [I n.pl,.ref 1 3 0 n.tr.length],.row t_int true 1 (M.map I)]⟩∧M.length≤20∧a1≤a∧a+2*k≤a1+12) K ?_ ?_
  · refine⟨m,a1,s1,?_,hm,by omega,by omega⟩
    simp (maxSteps:=2000000) (disch:=first|omega|(simp only[lenS];try omega)) only[go_sem,reduceAdd,reduceEqDiff,reduceLeDiff,reduceSub]
    first | done | rfl
  · rintro k s ⟨M,a,sd,rfl,hM,ha1,ha2⟩
    by_cases h0:0<k
    · have en:=wep n M hsn (by omega)
      have hEl:(enabL n M).length≤n.tr.length:=zd2 ..
      have hn30:=hn.1
      cases hmk:zs4 n M with
      | false =>
        simp only[hmk,Bool.false_eq_true,if_false] at en
        simp (maxSteps:=2000000) (disch:=first|omega|(simp only[lenS];try omega)) only[go_sem,reduceAdd,reduceEqDiff,reduceLeDiff,reduceSub,en]
        exact⟨k-1,by omega,M,a,sd,by rw[show((k-1:Nat):Int)=k-1 by omega],hM,by omega,by omega⟩
      | true =>
        simp only[hmk,if_true] at en
        have fr:=fun t=>wer n M t hsn (by omega)
        generalize enabL n M=E at *
        obtain⟨_,e2,x2,a2,s2,rfl,g3,g4,g5,g6⟩:=wfm E.length bs a sd (by omega) (by omega) hl hb
        by_cases hE:0<E.length
        · have hx2:x2.toNat<E.length:=by omega
          obtain⟨q,rfl⟩ : ∃ q:Nat,x2=q:=⟨x2.toNat,by omega⟩
          rw[Int.toNat_natCast] at hx2
          have fr2:=fr E[q]
          have hfl:=zge (trAt n E[q]) M
          have e3:E[q]? = some E[q]:=List.getElem?_eq_getElem hx2
          generalize E[q]=t at *
          cases hfo:zvy n M t with
          | true =>
            simp only[hfo,if_true] at fr2
            simp (maxSteps:=2000000) (disch:=first|omega|(simp only[lenS];try omega)) only[go_sem,reduceAdd,reduceEqDiff,reduceLeDiff,reduceSub,en,e2,e3,fr2]
            exact⟨k-1,by omega,zgc (trAt n t) M,a2,s2,by rw[show((k-1:Nat):Int)=k-1 by omega],by omega,by omega,by omega⟩
          | false =>
            simp only[hfo,Bool.false_eq_true,if_false] at fr2
            simp (maxSteps:=2000000) (disch:=first|omega|(simp only[lenS];try omega)) only[go_sem,reduceAdd,reduceEqDiff,reduceLeDiff,reduceSub,en,e2,e3,fr2]
            exact⟨k-1,by omega,M,a2,s2,by rw[show((k-1:Nat):Int)=k-1 by omega],hM,by omega,by omega⟩
        · simp (maxSteps:=2000000) (disch:=first|omega|(simp only[lenS];try omega)) only[go_sem,reduceAdd,reduceEqDiff,reduceLeDiff,reduceSub,en,e2,hE]
          exact⟨k-1,by omega,M,a,sd,by rw[show((k-1:Nat):Int)=k-1 by omega],hM,by omega,by omega⟩
    · have:k=0:=by omega
      subst this
      obtain⟨_,e2,x2,a2,s2,rfl,g3,g4⟩:=wfl 4 bs a sd (by omega) (by omega) hl hb
      obtain⟨_,e3,l3,a3,s3,rfl,g5,g6,g7,g8⟩:=wfi n hn.2.1 bs a2 s2 (by omega) (by omega) hl hb
      simp (maxSteps:=2000000) (disch:=first|omega|(simp only[lenS];try omega)) only[go_sem,reduceAdd,reduceEqDiff,reduceLeDiff,reduceSub,e2,e3]
      exact⟨fun _=>⟨l3,a3,s3,rfl,by omega,by omega,g7⟩,fun _=>⟨M,a2,s2,rfl,by omega,by omega,hM⟩⟩
theorem wen(bs:List Int)(hl:bs.length<2^62)(hb : ∀ x∈bs,0≤x∧x<256) :
  Lw (C w86 [bys bs] []) fun r=>∃ (n:Net) (ls m:List Int) (b:Int),r=(.tup [.agg [I n.pl,.un wgj false 3 (n.tr.map encT)],.un t_int true 1 (ls.map I),.un t_int true 1 (m.map I),I b],[])∧smNet n∧ls.length≤45∧m.length≤20:=by
 obtain⟨_,e1,f,ls,t,T,a1,s1,rfl,hT,g1,g2,g3,g4,g5⟩:=wfh bs 0 0 (by omega) (by omega) hl hb
 have e2:=wey f g3.smN
 obtain⟨_,e3,x2,a2,s2,rfl,h1,h2,h3,h4⟩:=wfe bs a1 s1 (by omega) (by omega) hl hb
 have hpl:=g3.2.1
 have hm20:((if ziu f then oneM f.net.pl.toNat f.src else []):List Int).length≤20:=by
  split
  ·simp [oneM];omega
  ·simp
 generalize ((if ziu f then oneM f.net.pl.toNat f.src else []):List Int)=m at *
 obtain⟨_,e4,k,a3,s3,rfl,k1,k2,k3⟩:=wfj f.net m g3 hm20 bs a2 s2 (by omega) (by omega) hl hb
 generalize ziu f=gg at e2
 cases gg<;>rcases hT with rfl | rfl
 all_goals
  refine w2p ?_
  simp (maxSteps:=2000000) (disch:=first|omega|(simp only[lenS];try omega)) only[wc6,go_sem,reduceAdd,reduceEqDiff,reduceLeDiff,reduceSub]
  simp (maxSteps:=2000000) (disch:=first|omega|(simp only[lenS];try omega)) only[go_sem,reduceAdd,reduceEqDiff,reduceLeDiff,reduceSub,e1,e2,e3,e4]
  first
   | exact⟨f.net,ls,k,x2,rfl,g3,g4,k3⟩
   | exact⟨rfl,f.net,ls,k,x2,rfl,g3,g4,k3⟩
theorem wag(n lo hi:Int):C w77 [I n,I lo,I hi] []=some (.bool (inB lo hi n),[]):=by
 refine w0p ?_
 simp (maxSteps:=2000000) (disch:=first|omega|(simp only[lenS];try omega)) only[wb8,go_sem,reduceAdd,reduceEqDiff,reduceLeDiff,reduceSub]
 unfold inB;grind
theorem waa(l:List Int)(hl:l.length<2^62):C w71 [ints l] []=some (.bool (incr l),[]):=by
 refine w0j ?_
 simp (maxSteps:=2000000) (disch:=first|omega|(simp only[lenS];try omega)) only[wb2,go_sem,reduceAdd,reduceEqDiff,reduceLeDiff,reduceSub]
 refine W_for (l.length-1) (fun k s=>s=⟨[ints l,.any,I (k+1:Int),.any,.any],[]⟩∧(l.take (k+1)).Pairwise (· < ·)) ?_ ?_ ?_
 ·simp (maxSteps:=2000000) (disch:=first|omega|(simp only[lenS];try omega)) only[go_sem,reduceAdd,reduceEqDiff,reduceLeDiff,reduceSub]
  exact⟨rfl,zml⟩
 ·rintro k s hk ⟨rfl,hp⟩
  simp (maxSteps:=2000000) (disch:=first|omega|(simp only[lenS];try omega)) only[go_sem,reduceAdd,reduceEqDiff,reduceLeDiff,reduceSub]
  have e1:((k:Int)+1).toNat=k+1:=by omega
  have e2:((k:Int)+1-1).toNat=k:=by omega
  simp only[e1,e2]
  refine⟨fun h=>by rw[zmk (k:=k) (by omega) (by omega)],fun h=>⟨rfl,zmn (by omega) hp h⟩⟩
 ·rintro s ⟨rfl,hp⟩
  simp (maxSteps:=2000000) (disch:=first|omega|(simp only[lenS];try omega)) only[go_sem,reduceAdd,reduceEqDiff,reduceLeDiff,reduceSub]
  rw[z1eg (by omega)] at hp
  rw[show incr l=true by simpa [incr] using hp]
theorem wa2(l:List Int)(lo hi:Int)(hl:l.length<2^62):C w6u [ints l,I lo,I hi] []=some (.bool (l.all (inB lo hi)),[]):=by
 refine w0c ?_
 simp (maxSteps:=2000000) (disch:=first|omega|(simp only[lenS];try omega)) only[wau,go_sem,reduceAdd,reduceEqDiff,reduceLeDiff,reduceSub]
 refine W_for l.length (fun k s=>s=⟨[.any,I lo,I hi,.any,.any,ints l,I l.length,I k,.any,.any],[]⟩∧(l.take k).all (inB lo hi)=true) ?_ ?_ ?_
 ·simp (maxSteps:=2000000) (disch:=first|omega|(simp only[lenS];try omega)) only[go_sem,reduceAdd,reduceEqDiff,reduceLeDiff,reduceSub]
  rfl
 ·rintro k s hk ⟨rfl,hall⟩
  simp (maxSteps:=2000000) (disch:=first|omega|(simp only[lenS];try omega)) only[go_sem,reduceAdd,reduceEqDiff,reduceLeDiff,reduceSub,wag]
  exact⟨fun h=>⟨rfl,z2z hk hall h⟩,fun h=>by rw[z2y hk h]⟩
 ·rintro s ⟨rfl,hall⟩
  simp (maxSteps:=2000000) (disch:=first|omega|(simp only[lenS];try omega)) only[go_sem,reduceAdd,reduceEqDiff,reduceLeDiff,reduceSub]
  rw[List.take_length] at hall
  rw[hall]
theorem wa3(n:Net)(l:List Int)(h:1≤n.pl∧n.pl≤16)(hl:l.length<2^62):C w6v [encN n,ints l] []=some (.bool (z10z n.pl l),[]):=by
 refine w0d ?_
 simp (maxSteps:=2000000) (disch:=first|omega|(simp only[lenS];try omega)) only[wav,go_sem,reduceAdd,reduceEqDiff,reduceLeDiff,reduceSub]
 simp (maxSteps:=2000000) (disch:=first|omega|(simp only[lenS];try omega)) only[go_sem,reduceAdd,reduceEqDiff,reduceLeDiff,reduceSub,waa l hl,wa2 l _ _ hl]
 unfold z10z;grind
theorem w9w(n:Net)(t:Tr)(h:1≤n.pl∧n.pl≤16)(ht:smT t):C w6p [encT t,.pv (encN n) 0] []=some (.bool (!goodT n.pl t),[]):=by
 obtain⟨h1,h2,h3⟩:=ht
 refine w07 ?_
 simp (maxSteps:=2000000) (disch:=first|omega|(simp only[lenS];try omega)) only[wao,go_sem,reduceAdd,reduceEqDiff,reduceLeDiff,reduceSub]
 simp (maxSteps:=2000000) (disch:=first|omega|(simp only[lenS];try omega)) only[go_sem,reduceAdd,reduceEqDiff,reduceLeDiff,reduceSub,wa3 n _ h]
 refine⟨fun h6=>by rw[zjj (by omega)];rfl,fun h6=>⟨fun h7=>⟨fun h8=>⟨fun h9=>by rw[zjd (by omega) h7 h8 h9];rfl,fun h9=>by simp [goodT,h9]⟩,fun h8=>by simp [goodT,h8]⟩,fun h7=>by simp [goodT,h7]⟩⟩
theorem we3(l:List Tr)(g:FuncId)(caps:List PV)(hc:refsL caps=[])(hcv : ∀ m h,z1g1 [] m h caps=some caps)(p:Tr→Bool)(hp : ∀ x∈l,C g (encT x :: caps) []=some (.bool (p x),[]))(hl:l.length<2^62) :
  C w7m [trs l,.clo g caps] []=some (I (idxI l p),[]):=by
 refine w12 ?_
 simp (maxSteps:=2000000) (disch:=first|omega|(simp only[lenS];try omega)) only[wbm,go_sem,reduceAdd,reduceEqDiff,reduceLeDiff,reduceSub]
 refine W_for l.length (fun k s=>s=⟨[trs l,.clo g caps,.any,.any,I l.length,I k,.any,.any],[]⟩∧(l.take k).any p=false) ?_ ?_ ?_
 ·simp (maxSteps:=2000000) (disch:=first|omega|(simp only[lenS];try omega)) only[go_sem,reduceAdd,reduceEqDiff,reduceLeDiff,reduceSub,hc]
  rfl
 ·rintro k s hk ⟨rfl,hall⟩
  simp (maxSteps:=2000000) (disch:=first|omega|(simp only[lenS];try omega)) only[go_sem,reduceAdd,reduceEqDiff,reduceLeDiff,reduceSub,hc,hcv,hp _ (List.getElem_mem hk)]
  exact⟨fun h=>by rw[zkg hk hall h],fun h=>⟨rfl,z3e hk hall h⟩⟩
 ·rintro s ⟨rfl,hall⟩
  simp (maxSteps:=2000000) (disch:=first|omega|(simp only[lenS];try omega)) only[go_sem,reduceAdd,reduceEqDiff,reduceLeDiff,reduceSub]
  rw[List.take_length] at hall
  rw[zkf hall]
theorem wdz(l:List Tr)(g:FuncId)(caps:List PV)(hc:refsL caps=[])(hcv : ∀ m h,z1g1 [] m h caps=some caps)(p:Tr→Bool)(hp : ∀ x∈l,C g (encT x :: caps) []=some (.bool (p x),[]))(hl:l.length<2^62) :
  C w7i [trs l,.clo g caps] []=some (.bool (l.any p),[]):=by
 refine w0y ?_
 simp (maxSteps:=2000000) (disch:=first|omega|(simp only[lenS];try omega)) only[wbi,go_sem,reduceAdd,reduceEqDiff,reduceLeDiff,reduceSub]
 simp (maxSteps:=2000000) (disch:=first|omega|(simp only[lenS];try omega)) only[go_sem,reduceAdd,reduceEqDiff,reduceLeDiff,reduceSub,hc,hcv,we3 l g caps hc hcv p hp hl]
 have:=zkc l p
 grind
theorem w9x(n:Net)(hn:smN n):C w6o [encN n] []=some (.bool (goodN n),[]):=by
 have h0:=hn.1
 refine w06 ?_
 simp (maxSteps:=2000000) (disch:=first|omega|(simp only[lenS];try omega)) only[wan,go_sem,reduceAdd,reduceEqDiff,reduceLeDiff,reduceSub]
 simp (maxSteps:=2000000) (disch:=first|omega|(simp only[lenS];try omega)) only[go_sem,reduceAdd,reduceEqDiff,reduceLeDiff,reduceSub,wag]
 refine⟨fun h=>⟨fun h2=>?_,fun h2=>?_⟩,fun h=>by simp [goodN,h]⟩
 ·have hb:1≤n.pl∧n.pl≤16:=by simpa [inB] using h
  have h3:=wdz n.tr w6p [.pv (encN n) 0] rfl (fun _ _=>rfl) (fun t=>!goodT n.pl t) (fun x hx=>w9w n x hb (hn.2 x hx)) (by omega)
  simp (maxSteps:=2000000) (disch:=first|omega|(simp only[lenS];try omega)) only[go_sem,reduceAdd,reduceEqDiff,reduceLeDiff,reduceSub,h3]
  have:(n.tr.any fun t=>!goodT n.pl t) = !n.tr.all (goodT n.pl):=by rw[List.any_eq_not_all_not];simp
  have h4:n.tr.length≤24:=by omega
  simp only[this]
  simp [goodN,h,h4]
 ·have:¬n.tr.length≤24:=by omega
  simp [goodN,this]
theorem w9v(p:Int)(m:List Int)(hl:m.length<2^62):C w6n [I p,ints m] []=some (.bool (goodM p m),[]):=by
 refine w05 ?_
 simp (maxSteps:=2000000) (disch:=first|omega|(simp only[lenS];try omega)) only[wam,go_sem,reduceAdd,reduceEqDiff,reduceLeDiff,reduceSub]
 simp (maxSteps:=2000000) (disch:=first|omega|(simp only[lenS];try omega)) only[go_sem,reduceAdd,reduceEqDiff,reduceLeDiff,reduceSub,wag,wa2 m _ _ hl]
 unfold goodM;grind
theorem wad(n:Net)(m:List Int)(hn:smN n)(hm:m.length<2^62):C w74 [encN n,ints m] []=some (.bool (zs4 n m),[]):=by
 refine w0m ?_
 simp (maxSteps:=2000000) (disch:=first|omega|(simp only[lenS];try omega)) only[wb5,go_sem,reduceAdd,reduceEqDiff,reduceLeDiff,reduceSub]
 simp (maxSteps:=2000000) (disch:=first|omega|(simp only[lenS];try omega)) only[go_sem,reduceAdd,reduceEqDiff,reduceLeDiff,reduceSub,w9x n hn,w9v n.pl m hm]
 unfold zs4;grind
theorem wab(m:List Int)(p:Int)(h:0≤p∧p.toNat<m.length):C w73 [I p,.pv (.agg [ints m]) 0] []=some (.bool (at_ m p == 0),[]):=by
 obtain⟨h1,h2⟩:=h
 refine w0l ?_
 simp (maxSteps:=2000000) (disch:=first|omega|(simp only[lenS];try omega)) only[wb4,go_sem,reduceAdd,reduceEqDiff,reduceLeDiff,reduceSub]
 simp only[at_eq h2]
 grind
theorem we4(l:List Int)(g:FuncId)(caps:List PV)(hc:refsL caps=[])(hcv : ∀ m h,z1g1 [] m h caps=some caps)(p:Int→Bool)(hp : ∀ x∈l,C g (I x :: caps) []=some (.bool (p x),[]))(hl:l.length<2^62) :
  C w7n [ints l,.clo g caps] []=some (I (idxI l p),[]):=by
 refine w13 ?_
 simp (maxSteps:=2000000) (disch:=first|omega|(simp only[lenS];try omega)) only[wbn,go_sem,reduceAdd,reduceEqDiff,reduceLeDiff,reduceSub]
 refine W_for l.length (fun k s=>s=⟨[ints l,.clo g caps,.any,.any,I l.length,I k,.any,.any],[]⟩∧(l.take k).any p=false) ?_ ?_ ?_
 ·simp (maxSteps:=2000000) (disch:=first|omega|(simp only[lenS];try omega)) only[go_sem,reduceAdd,reduceEqDiff,reduceLeDiff,reduceSub,hc]
  rfl
 ·rintro k s hk ⟨rfl,hall⟩
  simp (maxSteps:=2000000) (disch:=first|omega|(simp only[lenS];try omega)) only[go_sem,reduceAdd,reduceEqDiff,reduceLeDiff,reduceSub,hc,hcv,hp _ (List.getElem_mem hk)]
  exact⟨fun h=>by rw[zkg hk hall h],fun h=>⟨rfl,z3e hk hall h⟩⟩
 ·rintro s ⟨rfl,hall⟩
  simp (maxSteps:=2000000) (disch:=first|omega|(simp only[lenS];try omega)) only[go_sem,reduceAdd,reduceEqDiff,reduceLeDiff,reduceSub]
  rw[List.take_length] at hall
  rw[zkf hall]
theorem we0(l:List Int)(g:FuncId)(caps:List PV)(hc:refsL caps=[])(hcv : ∀ m h,z1g1 [] m h caps=some caps)(p:Int→Bool)(hp : ∀ x∈l,C g (I x :: caps) []=some (.bool (p x),[]))(hl:l.length<2^62) :
  C w7j [ints l,.clo g caps] []=some (.bool (l.any p),[]):=by
 refine w0z ?_
 simp (maxSteps:=2000000) (disch:=first|omega|(simp only[lenS];try omega)) only[wbj,go_sem,reduceAdd,reduceEqDiff,reduceLeDiff,reduceSub]
 simp (maxSteps:=2000000) (disch:=first|omega|(simp only[lenS];try omega)) only[go_sem,reduceAdd,reduceEqDiff,reduceLeDiff,reduceSub,hc,hcv,we4 l g caps hc hcv p hp hl]
 have:=zkc l p
 grind
theorem wac(t:Tr)(m:List Int)(ht : ∀ q∈t.inn,0≤q∧q.toNat<m.length)(hl:t.inn.length<2^62):C w72 [encT t,ints m] []=some (.bool (canT t m),[]):=by
 refine w0k ?_
 simp (maxSteps:=2000000) (disch:=first|omega|(simp only[lenS];try omega)) only[wb3,go_sem,reduceAdd,reduceEqDiff,reduceLeDiff,reduceSub]
 have h:=we0 t.inn w73 [.pv (.agg [ints m]) 0] rfl (fun _ _=>rfl) (fun p=>at_ m p == 0) (fun x hx=>wab m x (ht x hx)) hl
 simp (maxSteps:=2000000) (disch:=first|omega|(simp only[lenS];try omega)) only[go_sem,reduceAdd,reduceEqDiff,reduceLeDiff,reduceSub,h]
 have:(t.inn.any fun p=>at_ m p == 0) = !canT t m:=by rw[canT,List.any_eq_not_all_not]
 rw[this];simp
theorem wa7(n:Net)(m:List Int)(hg:goodN n=true)(hm:(m.length:Int)=n.pl):C w6y [encN n,ints m] []=some (.un t_int true 1 ((enabL n m).map I),[]):=by
 have hb:=zja hg
 refine w0g ?_
 simp (maxSteps:=2000000) (disch:=first|omega|(simp only[lenS];try omega)) only[waz,go_sem,reduceAdd,reduceEqDiff,reduceLeDiff,reduceSub]
 refine W_for n.tr.length (fun k s=>s=⟨[.any,ints m,.any,.any,.ref 0 1 0 (enabK n m k).length,.any,.any,trs n.tr,I n.tr.length,I k,.any,.any],[.row t_int true 1 ((enabK n m k).map I)]⟩) ?_ ?_ ?_
 ·simp (maxSteps:=2000000) (disch:=first|omega|(simp only[lenS];try omega)) only[go_sem,reduceAdd,reduceEqDiff,reduceLeDiff,reduceSub]
  rfl
 ·rintro k s hk rfl
  have hT:=hb.2.2.2 _ (List.getElem_mem hk)
  have h2:=zd2 n m k
  simp (maxSteps:=2000000) (disch:=first|omega|(simp only[lenS];try omega)) only[go_sem,reduceAdd,reduceEqDiff,reduceLeDiff,reduceSub,wac _ m (zjh hT hm).1 (by have:=(zjg hT (by omega)).1;omega)]
  refine⟨fun h=>?_,fun h=>?_⟩
  ·rw[zd3 hk h,List.map_append];simp
  ·rw[zd1 hk h];rfl
 ·rintro s rfl
  simp (maxSteps:=2000000) (disch:=first|omega|(simp only[lenS];try omega)) only[go_sem,reduceAdd,reduceEqDiff,reduceLeDiff,reduceSub]
  rfl
theorem wa9(t:Tr)(m:List Int)(h1 : ∀ q∈t.inn,0≤q∧q.toNat<m.length)(h2 : ∀ q∈t.out,0≤q∧q.toNat<m.length)(h3 : ∀ q∈t.rst,0≤q∧q.toNat<m.length)(hl:smT t)(hm:m.length<2^30)(hb : ∀ x∈m,0≤x∧x≤50) :
  C w70 [encT t,ints m] []=some (.un t_int true 1 ((zgc t m).map I),[]):=by
 obtain⟨g1,g2,g3⟩:=hl
 refine w0i ?_
 simp (maxSteps:=2000000) (disch:=first|omega|(simp only[lenS];try omega)) only[wb1,go_sem,reduceAdd,reduceEqDiff,reduceLeDiff,reduceSub]
 simp (maxSteps:=2000000) (disch:=first|omega|(simp only[lenS];try omega)) only[go_sem,reduceAdd,reduceEqDiff,reduceLeDiff,reduceSub,wdx]
 refine W_for t.inn.length (fun k s=>s=⟨[.any,.any,.ptr 0 0,.any,.ref 1 1 0 m.length,.any,.any,.any,ints t.inn,I t.inn.length,I k,.any,.any,.any,.any,.any,.any,.any,.any,.any],[.box wgj [ints t.inn,ints t.out,ints t.rst],.row t_int true 1 ((decL m (t.inn.take k)).map I)]⟩) ?_ ?_ ?_
 ·simp (maxSteps:=2000000) (disch:=first|omega|(simp only[lenS];try omega)) only[go_sem,reduceAdd,reduceEqDiff,reduceLeDiff,reduceSub]
  rfl
 ·rintro k s hk rfl
  obtain⟨h4,h5⟩:=h1 _ (List.getElem_mem hk)
  have h6:=zbv m (t.inn.take k)
  have h7:=z4k (p:=t.inn[k]) (zbu (l:=t.inn.take k) hb (fun p hp=>(h1 p (List.mem_of_mem_take hp)).2)) (by omega)
  have h8:(t.inn.take k).length=k:=by simp;omega
  simp (maxSteps:=2000000) (disch:=first|omega|(simp only[lenS];try omega)) only[go_sem,reduceAdd,reduceEqDiff,reduceLeDiff,reduceSub,at_eq]
  rw[zbw hk];rfl
 ·rintro s rfl
  simp (maxSteps:=2000000) (disch:=first|omega|(simp only[lenS];try omega)) only[go_sem,reduceAdd,reduceEqDiff,reduceLeDiff,reduceSub,List.take_length]
  have b1:=zbu (l:=t.inn) hb (fun p hp=>(h1 p hp).2)
  have l1:=zbv m t.inn
  generalize e1:decL m t.inn=m1 at b1 l1 ⊢
  refine W_for t.rst.length (fun k s=>s=⟨[.any,.any,.ptr 0 0,.any,.ref 1 1 0 m.length,.any,.any,.any,.any,.any,.any,.any,ints t.rst,I t.rst.length,I k,.any,.any,.any,.any,.any],[.box wgj [ints t.inn,ints t.out,ints t.rst],.row t_int true 1 ((zerL m1 (t.rst.take k)).map I)]⟩) ?_ ?_ ?_
  ·simp (maxSteps:=2000000) (disch:=first|omega|(simp only[lenS];try omega)) only[go_sem,reduceAdd,reduceEqDiff,reduceLeDiff,reduceSub]
   rfl
  ·rintro k s hk rfl
   obtain⟨h4,h5⟩:=h3 _ (List.getElem_mem hk)
   have h6:=z1h7 m1 (t.rst.take k)
   simp (maxSteps:=2000000) (disch:=first|omega|(simp only[lenS];try omega)) only[go_sem,reduceAdd,reduceEqDiff,reduceLeDiff,reduceSub]
   rw[z1h8 hk];rfl
  ·rintro s rfl
   simp (maxSteps:=2000000) (disch:=first|omega|(simp only[lenS];try omega)) only[go_sem,reduceAdd,reduceEqDiff,reduceLeDiff,reduceSub,List.take_length]
   have b2:=z1h6 (l:=t.rst) b1 (by omega)
   have l2:=z1h7 m1 t.rst
   generalize e2:zerL m1 t.rst=m2 at b2 l2 ⊢
   refine W_for t.out.length (fun k s=>s=⟨[.any,.any,.any,.any,.ref 0 1 0 m.length,.any,.any,.any,.any,.any,.any,.any,.any,.any,.any,.any,ints t.out,I t.out.length,I k,.any],[.row t_int true 1 ((incL m2 (t.out.take k)).map I)]⟩) ?_ ?_ ?_
   ·simp (maxSteps:=2000000) (disch:=first|omega|(simp only[lenS];try omega)) only[go_sem,reduceAdd,reduceEqDiff,reduceLeDiff,reduceSub]
    rfl
   ·rintro k s hk rfl
    obtain⟨h4,h5⟩:=h2 _ (List.getElem_mem hk)
    have h6:=zmf m2 (t.out.take k)
    have h7:=z4k (p:=t.out[k]) (zme (l:=t.out.take k) b2 (fun p hp=>by have:=(h2 p (List.mem_of_mem_take hp)).2;omega)) (by omega)
    have h8:(t.out.take k).length=k:=by simp;omega
    simp (maxSteps:=2000000) (disch:=first|omega|(simp only[lenS];try omega)) only[go_sem,reduceAdd,reduceEqDiff,reduceLeDiff,reduceSub,at_eq]
    rw[zmg hk];rfl
   ·rintro s rfl
    have h6:=zmf m2 t.out
    simp (maxSteps:=2000000) (disch:=first|omega|(simp only[lenS];try omega)) only[go_sem,reduceAdd,reduceEqDiff,reduceLeDiff,reduceSub,List.take_length]
    subst e2 e1;rfl
theorem we2(a b:List Int)(hl:a.length<2^62):C w7l [ints a,ints b] []=some (.bool (decide (a=b)),[]):=by
 refine w11 ?_
 simp (maxSteps:=2000000) (disch:=first|omega|(simp only[lenS];try omega)) only[wbl,go_sem,reduceAdd,reduceEqDiff,reduceLeDiff,reduceSub]
 refine⟨fun h=>?_,fun h=>?_⟩
 ·have:a≠b:=fun e=>h (by rw[e])
  simp [this]
 refine W_for a.length (fun k s=>s=⟨[ints a,ints b,.any,.any,.any,I a.length,I k,.any,.any],[]⟩∧a.take k=b.take k) ?_ ?_ ?_
 ·simp (maxSteps:=2000000) (disch:=first|omega|(simp only[lenS];try omega)) only[go_sem,reduceAdd,reduceEqDiff,reduceLeDiff,reduceSub]
  rfl
 ·rintro k s hk ⟨rfl,hall⟩
  simp (maxSteps:=2000000) (disch:=first|omega|(simp only[lenS];try omega)) only[go_sem,reduceAdd,reduceEqDiff,reduceLeDiff,reduceSub]
  refine⟨fun h=>?_,fun h=>⟨rfl,?_⟩⟩
  ·have:a≠b:=fun e=>h (by simp [e])
   simp [this]
  ·rw[z1ek hk,z1ek (show k<b.length by omega),hall,h]
 ·rintro s ⟨rfl,hall⟩
  simp (maxSteps:=2000000) (disch:=first|omega|(simp only[lenS];try omega)) only[go_sem,reduceAdd,reduceEqDiff,reduceLeDiff,reduceSub]
  rw[List.take_length,List.take_of_length_le (by omega)] at hall
  simp [hall]
abbrev encA(a:Arc3):PV:=.agg [I a.src,I a.by_,I a.dst]
def arcPV(l:List Arc3):PV:=if l=[] then .nil true 3 else .un wge true 3 (l.map encA)
def exPV(r:Ex):PV:=if r.code=0 then .agg [.un wgk false 1 (r.sp.ms.map ints),arcPV r.sp.ar] else .agg [.nil false 1,.nil true 3]
def w6e(r:Ex):Int:=if r.code=0 then 1 else r.code
theorem w6f{n:Net}{start:List Int}{b:Int}(hm:zs4 n start=true)(hb:1≤b):ExOk n start b ⟨⟨[start],[]⟩,0⟩:=by
 refine⟨rfl,fun m hm2=>?_,by simp;omega,by simp,fun a ha=>by simp at ha,fun j hj hl=>?_⟩
 ·simp only[List.mem_singleton] at hm2;subst hm2;exact hm
 ·simp only[List.length_cons,List.length_nil] at hl;omega
theorem w9z(x m:List Int)(hx:x.length<2^62):C w6s [ints x,.pv (.agg [ints m]) 0] []=some (.bool (decide (x=m)),[]):=by
 refine w0a ?_
 simp (maxSteps:=2000000) (disch:=first|omega|(simp only[lenS];try omega)) only[war,go_sem,reduceAdd,reduceEqDiff,reduceLeDiff,reduceSub]
 simp (maxSteps:=2000000) (disch:=first|omega|(simp only[lenS];try omega)) only[go_sem,reduceAdd,reduceEqDiff,reduceLeDiff,reduceSub,we2]
 grind
theorem we5(l:List (List Int))(g:FuncId)(caps:List PV)(hc:refsL caps=[])(hcv : ∀ m h,z1g1 [] m h caps=some caps)(p:List Int→Bool)(hp : ∀ x∈l,C g (ints x :: caps) []=some (.bool (p x),[]))(hl:l.length<2^62) :
  C w7o [rows l,.clo g caps] []=some (I (idxI l p),[]):=by
 refine w14 ?_
 simp (maxSteps:=2000000) (disch:=first|omega|(simp only[lenS];try omega)) only[wbo,go_sem,reduceAdd,reduceEqDiff,reduceLeDiff,reduceSub]
 refine W_for l.length (fun k s=>s=⟨[rows l,.clo g caps,.any,.any,I l.length,I k,.any,.any],[]⟩∧(l.take k).any p=false) ?_ ?_ ?_
 ·simp (maxSteps:=2000000) (disch:=first|omega|(simp only[lenS];try omega)) only[go_sem,reduceAdd,reduceEqDiff,reduceLeDiff,reduceSub,hc]
  rfl
 ·rintro k s hk ⟨rfl,hall⟩
  simp (maxSteps:=2000000) (disch:=first|omega|(simp only[lenS];try omega)) only[go_sem,reduceAdd,reduceEqDiff,reduceLeDiff,reduceSub,hc,hcv,hp _ (List.getElem_mem hk)]
  exact⟨fun h=>by rw[zkg hk hall h],fun h=>⟨rfl,z3e hk hall h⟩⟩
 ·rintro s ⟨rfl,hall⟩
  simp (maxSteps:=2000000) (disch:=first|omega|(simp only[lenS];try omega)) only[go_sem,reduceAdd,reduceEqDiff,reduceLeDiff,reduceSub]
  rw[List.take_length] at hall
  rw[zkf hall]
theorem wa0(ms:List (List Int))(A:List PV)(m:List Int)(hl:ms.length<2^62)(hx : ∀ x∈ms,x.length<2^62):C w6r [.agg [rows ms,.sl true 3 A],ints m] []=some (I (findM ms m),[]):=by
 have h:=we5 ms w6s [.pv (.agg [ints m]) 0] rfl (fun _ _=>rfl) (fun x=>decide (x=m)) (fun x h=>w9z x m (hx x h)) hl
 refine w09 ?_
 simp (maxSteps:=2000000) (disch:=first|omega|(simp only[lenS];try omega)) only[waq,go_sem,reduceAdd,reduceEqDiff,reduceLeDiff,reduceSub]
 simp (maxSteps:=2000000) (disch:=first|omega|(simp only[lenS];try omega)) only[go_sem,reduceAdd,reduceEqDiff,reduceLeDiff,reduceSub,h]
 rfl
theorem wa8(n:Net)(start:List Int)(b:Int)(hm:zs4 n start=true)(hb:1≤b∧b≤400):C w6z [encN n,ints start,I b] []=some (.tup [exPV (exAll n start b),I (w6e (exAll n start b))],[]):=by
  obtain⟨hg,hmk⟩:=zs5 hm
  have hn:=zja hg
  have hs:=zj2 hmk
  refine w0h ?_
  simp (maxSteps:=2000000) (disch:=first|omega|(simp only[lenS];try omega)) only[wb0,go_sem,reduceAdd,reduceEqDiff,reduceLeDiff,reduceSub]
  simp (maxSteps:=2000000) (disch:=first|omega|(simp only[lenS];try omega)) only[go_sem,reduceAdd,reduceEqDiff,reduceLeDiff,reduceSub,wdx]
  generalize hR:exAll n start b=R
  refine z1a (fun d s=>∃ (k:Nat) (c:Ex),d+k=b.toNat+1∧ExOk n start b c∧c.code=0∧k≤c.sp.ms.length∧c.sp.ar.length≤24*k∧exRun n b (d+1) k c=R∧((s=⟨[.any,.any,I b,.ptr 0 0,.ptr 1 0,.any,.ptr 2 0,I k,.any,.any,.any,.any,.any,.any,.any,.any,.any,.any,.any],[.box wgh [I n.pl,trs n.tr],.box wgi [.nil false 1,.nil true 3],.box wgi [.ref 3 1 0 c.sp.ms.length,.nil true 3],.row wgk false 1 (c.sp.ms.map ints)]⟩∧c.sp.ar=[])∨(s=⟨[.any,.any,I b,.ptr 0 0,.ptr 1 0,.any,.ptr 2 0,I k,.any,.any,.any,.any,.any,.any,.any,.any,.any,.any,.any],[.box wgh [I n.pl,trs n.tr],.box wgi [.nil false 1,.nil true 3],.box wgi [.ref 3 1 0 c.sp.ms.length,.ref 4 3 0 c.sp.ar.length],.row wgk false 1 (c.sp.ms.map ints),.row wge true 3 (c.sp.ar.map encA)]⟩∧c.sp.ar≠[]))) (b.toNat+1) ?_ ?_
  · refine⟨0,⟨⟨[start],[]⟩,0⟩,by omega,w6f hm hb.1,rfl,by omega,by simp,hR,.inl ⟨?_,rfl⟩⟩
    simp (maxSteps:=2000000) (disch:=first|omega|(simp only[lenS];try omega)) only[go_sem,reduceAdd,reduceEqDiff,reduceLeDiff,reduceSub]
    rfl
  · rintro d s ⟨k,c,hd,hok,hc0,hk,hal,hrun,hcs⟩
    have hlb:=hok.lenb
    by_cases hkl:k<c.sp.ms.length
    · have hmem:=zij hkl
      have hmg:=zs5 (hok.good _ hmem)
      have hml:=zj2 hmg.2
      have en:=wa7 n (c.sp.ms.getD k []) hg hml.2.2.1
      have hLl:(enabL n (c.sp.ms.getD k [])).length≤n.tr.length:=zd2 ..
      have er:exRun n b (d+1) k c=exRun n b d (k+1) (exL n b k c (enabL n (c.sp.ms.getD k []))):=by
        show(if c.code≠0 then c else if k<c.sp.ms.length then _ else c)=_
        rw[if_neg (by omega),if_pos hkl]
      rw[er] at hrun
      have hen : ∀ t∈enabL n (c.sp.ms.getD k []),t∈enabL n (c.sp.ms.getD k []):=fun t h=>h
      generalize hL:enabL n (c.sp.ms.getD k [])=L at *
      rcases hcs with⟨rfl,har⟩ | ⟨rfl,har⟩
      all_goals
        simp (maxSteps:=2000000) (disch:=first|omega|(simp only[lenS];try omega)) only[go_sem,reduceAdd,reduceEqDiff,reduceLeDiff,reduceSub,zik,en]
        refine W_for L.length (fun j s=>∃ c':Ex,ExOk n start b c'∧c'.code=0∧k<c'.sp.ms.length∧enabL n (c'.sp.ms.getD k [])=L∧c'.sp.ar.length≤24*k+j∧exRun n b d (k+1) (exL n b k c' (L.drop j))=R∧((s=⟨[.any,.any,I b,.ptr 0 0,.ptr 1 0,.any,.ptr 2 0,I k,.any,.any,.any,.any,.ref 3 1 0 L.length,I L.length,I j,.any,.any,.any,.any],[.box wgh [I n.pl,trs n.tr],.box wgi [.nil false 1,.nil true 3],.box wgi [.ref 4 1 0 c'.sp.ms.length,.nil true 3],.row t_int true 1 (L.map I),.row wgk false 1 (c'.sp.ms.map ints)]⟩∧c'.sp.ar=[])∨(s=⟨[.any,.any,I b,.ptr 0 0,.ptr 1 0,.any,.ptr 2 0,I k,.any,.any,.any,.any,.ref 3 1 0 L.length,I L.length,I j,.any,.any,.any,.any],[.box wgh [I n.pl,trs n.tr],.box wgi [.nil false 1,.nil true 3],.box wgi [.ref 4 1 0 c'.sp.ms.length,.ref 5 3 0 c'.sp.ar.length],.row t_int true 1 (L.map I),.row wgk false 1 (c'.sp.ms.map ints),.row wge true 3 (c'.sp.ar.map encA)]⟩∧c'.sp.ar≠[]))) ?_ ?_ ?_
        · refine⟨c,hok,hc0,hkl,hL,by omega,hrun,?_⟩
          first
          | refine .inl ⟨?_, har⟩
            simp (maxSteps:=2000000) (disch:=first|omega|(simp only[lenS];try omega)) only[go_sem,reduceAdd,reduceEqDiff,reduceLeDiff,reduceSub]
            done
          | refine .inl ⟨?_, har⟩
            simp (maxSteps:=2000000) (disch:=first|omega|(simp only[lenS];try omega)) only[go_sem,reduceAdd,reduceEqDiff,reduceLeDiff,reduceSub]
            rfl
          | refine .inr ⟨?_, har⟩
            simp (maxSteps:=2000000) (disch:=first|omega|(simp only[lenS];try omega)) only[go_sem,reduceAdd,reduceEqDiff,reduceLeDiff,reduceSub]
            done
          | refine .inr ⟨?_, har⟩
            simp (maxSteps:=2000000) (disch:=first|omega|(simp only[lenS];try omega)) only[go_sem,reduceAdd,reduceEqDiff,reduceLeDiff,reduceSub]
            rfl
        · rintro j s hj ⟨c',hok',hc0',hkl',hL',hal',hrun',hcs'⟩
          have hlb':=hok'.lenb
          have ht:L[j]∈enabL n (c'.sp.ms.getD k []):=by rw[hL'];exact List.getElem_mem hj
          obtain⟨t1,t2,t3⟩:=zd4.1 ht
          have hT:=hn.2.2.2 (trAt n L[j]) (by rw[←z1ex t2];exact List.getElem_mem _)
          have hm2:=zj2 (zs5 (hok'.good _ (zij hkl'))).2
          have hx:=zjh hT hm2.2.2.1
          have hy:=zjg hT (by omega)
          have hfire:=wa9 (trAt n L[j]) (c'.sp.ms.getD k []) hx.1 hx.2.1 hx.2.2 ⟨by omega,by omega,by omega⟩ (by omega) hm2.2.2.2.2
          have hMl:=zge (trAt n L[j]) (c'.sp.ms.getD k [])
          have hok2:=zef hok' hkl' ht
          have hxs : ∀ x∈c'.sp.ms,x.length<2^62:=fun x hx=>by have:=zj2 (zs5 (hok'.good x hx)).2;omega
          rw[zdw hj] at hrun'
          have f1:=zek (n:=n) (b:=b) (k:=k) (s:=c') (t:=L[j]) hc0'
          have f2:=zeg (n:=n) (b:=b) (k:=k) (s:=c') (t:=L[j]) hc0'
          have f3:=zec (n:=n) (b:=b) (k:=k) (s:=c') (t:=L[j]) hc0'
          have f4:=zee (n:=n) (b:=b) (k:=k) (s:=c') (t:=L[j]) hc0'
          generalize hM:zgc (trAt n L[j]) (c'.sp.ms.getD k [])=M at *
          have ck:C w6u [ints M,I 0,I 50] []=some (.bool (M.all (inB 0 50)),[]):=wa2 M 0 50 (by omega)
          have fd:=fun A=>wa0 c'.sp.ms A M (by omega) hxs
          have hsl : ∀ c2:Ex,c2.code≠0→exRun n b d (k+1) (exL n b k c2 (L.drop (j+1)))=c2:=fun c2 h=>by rw[zdy h,ze5 h]
          cases ha:M.all (inB 0 50) with
          | false =>
            rw[f1 ha,hsl _ (by simp)] at hrun'
            subst hrun'
            rw[ha] at ck
            rcases hcs' with⟨rfl,har'⟩ | ⟨rfl,har'⟩<;>simp (maxSteps:=2000000) (disch:=first|omega|(simp only[lenS];try omega)) only[go_sem,reduceAdd,reduceEqDiff,reduceLeDiff,reduceSub,zik,z1ex,hfire,ck,exPV,w6e]
          | true =>
            rw[ha] at ck
            by_cases h2:0≤findM c'.sp.ms M
            · rw[f2 ha h2] at hrun' hok2
              rcases hcs' with⟨rfl,har'⟩ | ⟨rfl,har'⟩
              · simp (maxSteps:=2000000) (disch:=first|omega|(simp only[lenS];try omega)) only[go_sem,reduceAdd,reduceEqDiff,reduceLeDiff,reduceSub,zik,z1ex,hfire,ck,fd]
                refine⟨_,hok2,rfl,hkl',hL',by simp only[List.length_append,List.length_cons,List.length_nil];omega,hrun',.inr ⟨?_,by simp⟩⟩
                simp [har']
              · simp (maxSteps:=2000000) (disch:=first|omega|(simp only[lenS];try omega)) only[go_sem,reduceAdd,reduceEqDiff,reduceLeDiff,reduceSub,zik,z1ex,hfire,ck,fd]
                refine⟨_,hok2,rfl,hkl',hL',by simp only[List.length_append,List.length_cons,List.length_nil];omega,hrun',.inr ⟨?_,by simp⟩⟩
                simp
            · by_cases h3:b≤c'.sp.ms.length
              · rw[f3 ha h2 h3,hsl _ (by simp)] at hrun'
                subst hrun'
                rcases hcs' with⟨rfl,har'⟩ | ⟨rfl,har'⟩<;>simp (maxSteps:=2000000) (disch:=first|omega|(simp only[lenS];try omega)) only[go_sem,reduceAdd,reduceEqDiff,reduceLeDiff,reduceSub,zik,z1ex,hfire,ck,fd,exPV,w6e]
              · rw[f4 ha h2 h3] at hrun' hok2
                rcases hcs' with⟨rfl,har'⟩ | ⟨rfl,har'⟩
                · simp (maxSteps:=2000000) (disch:=first|omega|(simp only[lenS];try omega)) only[go_sem,reduceAdd,reduceEqDiff,reduceLeDiff,reduceSub,zik,z1ex,hfire,ck,fd]
                  refine⟨_,hok2,rfl,by simp only[List.length_append];omega,by simp only;rw[zif hkl'];exact hL',by simp only[List.length_append,List.length_cons,List.length_nil];omega,hrun',.inr ⟨?_,by simp⟩⟩
                  simp [har']
                · simp (maxSteps:=2000000) (disch:=first|omega|(simp only[lenS];try omega)) only[go_sem,reduceAdd,reduceEqDiff,reduceLeDiff,reduceSub,zik,z1ex,hfire,ck,fd]
                  refine⟨_,hok2,rfl,by simp only[List.length_append];omega,by simp only;rw[zif hkl'];exact hL',by simp only[List.length_append,List.length_cons,List.length_nil];omega,hrun',.inr ⟨?_,by simp⟩⟩
                  simp
        · rintro s ⟨c',hok',hc0',hkl',hL',hal',hrun',hcs'⟩
          rw[List.drop_length] at hrun'
          have hlb':=hok'.lenb
          rcases hcs' with⟨rfl,har'⟩ | ⟨rfl,har'⟩
          · simp (maxSteps:=2000000) (disch:=first|omega|(simp only[lenS];try omega)) only[go_sem,reduceAdd,reduceEqDiff,reduceLeDiff,reduceSub]
            refine⟨d-1,by omega,k+1,c',by omega,hok',hc0',by omega,by omega,by rw[show d-1+1=d by omega];exact hrun',.inl ⟨rfl,har'⟩⟩
          · simp (maxSteps:=2000000) (disch:=first|omega|(simp only[lenS];try omega)) only[go_sem,reduceAdd,reduceEqDiff,reduceLeDiff,reduceSub]
            refine⟨d-1,by omega,k+1,c',by omega,hok',hc0',by omega,by omega,by rw[show d-1+1=d by omega];exact hrun',.inr ⟨rfl,har'⟩⟩
    · have er:exRun n b (d+1) k c=c:=by
        show(if c.code≠0 then c else if k<c.sp.ms.length then _ else c)=_
        rw[if_neg (by omega),if_neg hkl]
      rw[er] at hrun
      subst hrun
      rcases hcs with⟨rfl,har⟩ | ⟨rfl,har⟩
      · simp (maxSteps:=2000000) (disch:=first|omega|(simp only[lenS];try omega)) only[go_sem,reduceAdd,reduceEqDiff,reduceLeDiff,reduceSub]
        simp [exPV,w6e,hc0,arcPV,har]
      · simp (maxSteps:=2000000) (disch:=first|omega|(simp only[lenS];try omega)) only[go_sem,reduceAdd,reduceEqDiff,reduceLeDiff,reduceSub]
        simp [exPV,w6e,hc0,arcPV,har]
theorem w9r(n:Net)(start:List Int)(b:Int)(hn:smN n)(hs:start.length<2^62):C w6k [encN n,ints start,I b] []=some (.tup [if okEx n start b then exPV (exAll n start b) else .agg [.nil false 1,.nil true 3],I (if okEx n start b then w6e (exAll n start b) else 0),.bool (okEx n start b)],[]):=by
  refine w02 ?_
  simp (maxSteps:=2000000) (disch:=first|omega|(simp only[lenS];try omega)) only[waj,go_sem,reduceAdd,reduceEqDiff,reduceLeDiff,reduceSub]
  simp (maxSteps:=2000000) (disch:=first|omega|(simp only[lenS];try omega)) only[go_sem,reduceAdd,reduceEqDiff,reduceLeDiff,reduceSub,wad n start hn hs,wag]
  cases h1:zs4 n start with
  | false=>simp [okEx,h1]
  | true =>
    cases h2:inB 1 400 b with
    | false=>simp [okEx,h1,h2]
    | true =>
      have hok:okEx n start b=true:=by simp [okEx,h1,h2]
      obtain⟨_,hb⟩:=zvp hok
      have hx:=wa8 n start b h1 hb
      generalize exAll n start b=R at *
      by_cases hc:R.code=0
      · by_cases ha:R.sp.ar=[]
        · simp only[exPV,w6e,arcPV,hc,ha,if_true] at hx ⊢
          simp (maxSteps:=2000000) (disch:=first|omega|(simp only[lenS];try omega)) only[go_sem,reduceAdd,reduceEqDiff,reduceLeDiff,reduceSub,hx,hok]
        · simp only[exPV,w6e,arcPV,hc,ha,if_true,if_false] at hx ⊢
          simp (maxSteps:=2000000) (disch:=first|omega|(simp only[lenS];try omega)) only[go_sem,reduceAdd,reduceEqDiff,reduceLeDiff,reduceSub,hx,hok]
      · simp only[exPV,w6e,hc,if_false] at hx ⊢
        simp (maxSteps:=2000000) (disch:=first|omega|(simp only[lenS];try omega)) only[go_sem,reduceAdd,reduceEqDiff,reduceLeDiff,reduceSub,hx,hok]
theorem w9u(n:Net)(l:List Int)(hn:smN n)(hl:l.length<2^40):C w6m [encN n,ints l] []=some (.bool (zj0 n l),[]):=by
  have hG:=w9x n hn
  have hn':=hn.1
  refine w04 ?_
  simp (maxSteps:=2000000) (disch:=first|omega|(simp only[lenS];try omega)) only[wal,go_sem,reduceAdd,reduceEqDiff,reduceLeDiff,reduceSub]
  cases hg:goodN n with
  | false =>
    simp (maxSteps:=2000000) (disch:=first|omega|(simp only[lenS];try omega)) only[go_sem,reduceAdd,reduceEqDiff,reduceLeDiff,reduceSub,hG,hg]
    simp [zj0,hg]
  | true =>
    simp (maxSteps:=2000000) (disch:=first|omega|(simp only[lenS];try omega)) only[go_sem,reduceAdd,reduceEqDiff,reduceLeDiff,reduceSub,hG,hg,wa2]
    by_cases h':l.length=n.tr.length<;>cases ha:l.all (inB 0 9)<;>simp [zj0,hg,h',ha]<;>omega
theorem we6(l:List Int)(x:Int)(hl:l.length<2^62):C w7p [ints l,I x] []=some (I (idxI l (fun y=>y == x)),[]):=by
 refine w15 ?_
 simp (maxSteps:=2000000) (disch:=first|omega|(simp only[lenS];try omega)) only[wbp,go_sem,reduceAdd,reduceEqDiff,reduceLeDiff,reduceSub]
 refine W_for l.length (fun k s=>s=⟨[ints l,I x,.any,.any,I l.length,I k,.any,.any],[]⟩∧(l.take k).any (fun y=>y == x)=false) ?_ ?_ ?_
 ·simp (maxSteps:=2000000) (disch:=first|omega|(simp only[lenS];try omega)) only[go_sem,reduceAdd,reduceEqDiff,reduceLeDiff,reduceSub]
  rfl
 ·rintro k s hk ⟨rfl,hall⟩
  simp (maxSteps:=2000000) (disch:=first|omega|(simp only[lenS];try omega)) only[go_sem,reduceAdd,reduceEqDiff,reduceLeDiff,reduceSub]
  refine⟨fun h=>?_,fun h=>⟨rfl,z3e hk hall (by simpa using fun e=>h e.symm)⟩⟩
  rw[zkg hk hall (by simpa using h.symm)]
 ·rintro s ⟨rfl,hall⟩
  simp (maxSteps:=2000000) (disch:=first|omega|(simp only[lenS];try omega)) only[go_sem,reduceAdd,reduceEqDiff,reduceLeDiff,reduceSub]
  rw[List.take_length] at hall
  rw[zkf hall]
theorem we1(l:List Int)(x:Int)(hl:l.length<2^62):C w7k [ints l,I x] []=some (.bool (hasB l x),[]):=by
 refine w10 ?_
 simp (maxSteps:=2000000) (disch:=first|omega|(simp only[lenS];try omega)) only[wbk,go_sem,reduceAdd,reduceEqDiff,reduceLeDiff,reduceSub]
 simp (maxSteps:=2000000) (disch:=first|omega|(simp only[lenS];try omega)) only[go_sem,reduceAdd,reduceEqDiff,reduceLeDiff,reduceSub,we6 l x hl]
 have:=zkc l (fun y=>y == x)
 rw[zjy,this]
 exact⟨fun h=>by simp [h],fun h=>by rw[decide_eq_false (by omega)]⟩
theorem wdt : ∀ k:Fin 256,(⟨#[0,1,2,2,3,3,3,3,4,4,4,4,4,4,4,4,5,5,5,5,5,5,5,5,5,5,5,5,5,5,5,5,6,6,6,6,6,6,6,6,6,6,6,6,6,6,6,6,6,6,6,6,6,6,6,6,6,6,6,6,6,6,6,6,7,7,7,7,7,7,7,7,7,7,7,7,7,7,7,7,7,7,7,7,7,7,7,7,7,7,7,7,7,7,7,7,7,7,7,7,7,7,7,7,7,7,7,7,7,7,7,7,7,7,7,7,7,7,7,7,7,7,7,7,7,7,7,7,8,8,8,8,8,8,8,8,8,8,8,8,8,8,8,8,8,8,8,8,8,8,8,8,8,8,8,8,8,8,8,8,8,8,8,8,8,8,8,8,8,8,8,8,8,8,8,8,8,8,8,8,8,8,8,8,8,8,8,8,8,8,8,8,8,8,8,8,8,8,8,8,8,8,8,8,8,8,8,8,8,8,8,8,8,8,8,8,8,8,8,8,8,8,8,8,8,8,8,8,8,8,8,8,8,8,8,8,8,8,8,8,8,8,8,8,8,8,8,8,8,8,8,8,8,8,8,8]⟩:ByteArray)[k.val]? = some (UInt8.ofNat (Sort.bitsLen k.val)):=by decide +kernel
theorem wdu : ∀ k:Fin 256,(UInt8.ofNat (Sort.bitsLen k.val)).toNat=Sort.bitsLen k.val∧Sort.bitsLen k.val≤8:=by decide +kernel
theorem wdv(n:Nat)(hn:n<65536):C w7f [.int .u64 n] []=some (I (Sort.bitsLen n),[]):=by
 refine w0w ?_
 simp (maxSteps:=2000000) (disch:=first|omega|(simp only[lenS];try omega)) only[wbg,go_sem,reduceAdd,reduceEqDiff,reduceLeDiff,reduceSub]
 by_cases h:(256:Int)≤n
 ·have e1:=wdt ⟨n / 256,by omega⟩
  have e2:=wdu ⟨n / 256,by omega⟩
  have e3:=z6r (n:=n) (by omega)
  simp only at e1 e2
  have hd:(n:Int) / 2 ^ min (Int.toNat 8) 64=((n / 256:Nat):Int):=by show(n:Int) / 256=_;omega
  have e4:(IntKind.u8.wrap ((n / 256:Nat):Int)).toNat=n / 256:=by rw[IntKind.wrap_u8];omega
  have h2:¬(n:Int)<256:=by omega
  rw[e3]
  generalize Sort.bitsLen (n / 256)=z at *
  simp (maxSteps:=2000000) (disch:=first|omega|(simp only[lenS];try omega)) only[go_sem,reduceAdd,reduceEqDiff,reduceLeDiff,reduceSub,h,h2,e1,hd,e4,e2.1,false_implies,and_true]
  rw[show((8+z:Nat):Int)=0+8+(z:Int) by omega]
 ·have e1:=wdt ⟨n,by omega⟩
  have e2:=wdu ⟨n,by omega⟩
  simp only at e1 e2
  have e4:(IntKind.u8.wrap (n:Int)).toNat=n:=by rw[IntKind.wrap_u8];omega
  have h2:(n:Int)<256:=by omega
  generalize Sort.bitsLen n=z at *
  simp (maxSteps:=2000000) (disch:=first|omega|(simp only[lenS];try omega)) only[go_sem,reduceAdd,reduceEqDiff,reduceLeDiff,reduceSub,h,h2,e1,e4,e2.1,false_implies,true_and,forall_const]
  rw[show(0:Int)+(z:Int)=z by omega]
theorem wdw(n:Nat)(hn:n<65536):C w7d [.int .u64 n] []=some (I (Sort.bitsLen n),[]):=by
 have h:=wdv n hn
 refine w0v ?_
 simp (maxSteps:=2000000) (disch:=first|omega|(simp only[lenS];try omega)) only[wbe,go_sem,reduceAdd,reduceEqDiff,reduceLeDiff,reduceSub]
 simp (maxSteps:=2000000) (disch:=first|omega|(simp only[lenS];try omega)) only[go_sem,reduceAdd,reduceEqDiff,reduceLeDiff,reduceSub,h]
theorem web{α:Type}[Inhabited α](g:α→List Int)(cm:α→α→Int)(H : ∀ x y,C w7h [ints (g x),ints (g y)] []=some (I (cm x y),[]))(t:TypeId)(d:Array α)(a b:Nat)(hab:a≤b)(hb:b≤d.size)(hs:d.size<2^40) :
  C w7u [.ref 0 1 0 d.size,I a,I b,.clo w7h []] (.row t false 1 (d.toList.map fun x=>ints (g x)) :: [])=some (.tup [],.row t false 1 ((Sort.insertionSort (ltC cm) d a b).toList.map fun x=>ints (g x)) :: []):=by
 unfold Sort.insertionSort
 refine w17 ?_
 simp (maxSteps:=2000000) (disch:=first|omega|(simp only[lenS];try omega)) only[wbu,go_sem,reduceAdd,reduceEqDiff,reduceLeDiff,reduceSub]
 refine z1a (fun k s=>∃ (i:Nat) (D:Array α),a<i∧k=b+1-i∧i≤b+1∧D.size=d.size∧Sort.insOuter (ltC cm) a b i D=Sort.insOuter (ltC cm) a b (a+1) d∧s=⟨[.ref 0 1 0 d.size,I a,I b,.clo w7h [],I i,.any,.any,.any],.row t false 1 (D.toList.map fun x=>ints (g x)) :: []⟩) (b-a) ?_ ?_
 ·simp (maxSteps:=2000000) (disch:=first|omega|(simp only[lenS];try omega)) only[go_sem,reduceAdd,reduceEqDiff,reduceLeDiff,reduceSub]
  exact⟨a+1,d,by omega,by omega,by omega,rfl,rfl,by simp⟩
 ·rintro k s ⟨i,D,h1,rfl,h2,h3,h4,rfl⟩
  simp (maxSteps:=2000000) (disch:=first|omega|(simp only[lenS];try omega)) only[go_sem,reduceAdd,reduceEqDiff,reduceLeDiff,reduceSub]
  refine⟨fun hi=>?_,fun hi=>?_⟩
  ·refine z1a (fun k s=>∃ (E:Array α),a≤k∧k≤i∧E.size=d.size∧Sort.insInner (ltC cm) a k E=Sort.insInner (ltC cm) a i D∧s=⟨[.ref 0 1 0 d.size,I a,I b,.clo w7h [],I i,I k,.any,.any],.row t false 1 (E.toList.map fun x=>ints (g x)) :: []⟩) i ?_ ?_
   ·simp (maxSteps:=2000000) (disch:=first|omega|(simp only[lenS];try omega)) only[go_sem,reduceAdd,reduceEqDiff,reduceLeDiff,reduceSub]
    exact⟨D,by omega,h3,rfl,rfl⟩
   ·rintro k s ⟨E,k1,k2,k3,k4,rfl⟩
    have e0:=zms (ltC cm) (a:=a) (j:=k) E
    have e1:=zmt (ltC cm) (a:=a) (j:=k) E
    have e2:=z17q E (i:=k) (by omega)
    have e3:=z17q E (i:=k-1) (by omega)
    have e4:=z17u (fun x=>ints (g x)) E k (k-1)
    have e5:((k:Int)-1).toNat=k-1:=by omega
    have e6:(E.toList.map fun x=>ints (g x)).length=d.size:=by simp [k3]
    have e7:E.toList.length=d.size:=by simp [k3]
    simp only[ltC] at e0 e1
    generalize E[k]! = x at *
    generalize E[k-1]! = y at *
    have hout:=zmy (ltC cm) (a:=a) D (show i<b by omega)
    by_cases hak:(a:Int)<k
    ·by_cases hlt:cm x y<0
     ·simp (maxSteps:=2000000) (disch:=first|omega|(simp only[lenS];try omega)) only[go_sem,reduceAdd,reduceEqDiff,reduceLeDiff,reduceSub,H,e2,e3,e5,e7,hlt,List.getElem?_set_ne,List.getElem_set_ne,List.getElem_map]
      refine⟨k-1,by omega,Sort.swp E k (k-1),by omega,by omega,?_,?_,?_⟩
      ·rw[Sort.size_swp];exact k3
      ·rw[←k4,e1 (by omega) (by simp [hlt])]
      ·rw[e4,show((k:Int)-1)=((k-1:Nat):Int) by omega]
     ·simp (maxSteps:=2000000) (disch:=first|omega|(simp only[lenS];try omega)) only[go_sem,reduceAdd,reduceEqDiff,reduceLeDiff,reduceSub,H,e2,e3,e5,e7,hlt,List.getElem?_set_ne,List.getElem_set_ne,List.getElem_map]
      refine⟨b+1-(i+1),by omega,i+1,E,by omega,rfl,by omega,k3,?_,?_⟩
      ·rw[←h4,hout,←k4,e0 (.inr (by simp [hlt]))]
      ·rfl
    ·simp (maxSteps:=2000000) (disch:=first|omega|(simp only[lenS];try omega)) only[go_sem,reduceAdd,reduceEqDiff,reduceLeDiff,reduceSub]
     refine⟨b+1-(i+1),by omega,i+1,E,by omega,rfl,by omega,k3,?_,?_⟩
     ·rw[←h4,hout,←k4,e0 (.inl (by omega))]
     ·rfl
  ·rw[←h4,zmx _ _ (by omega)]
end Go.Proofs.YtbaclnecajkknaaGreat.Pi

