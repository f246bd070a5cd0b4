/- The functions that the law reaches: what they answer. Conditions: those that each theorem names. -/
import Derived.Test.YtbaclnecajkknaaIrFnChained
import Derived.Test.YtbaclnecajkknaaPlFnChained
namespace Go.Proofs.Ytbaclnecajkknaa.Pi
open Go
set_option linter.all false
open Nat (reduceAdd reduceEqDiff reduceLeDiff reduceSub)
set_option maxHeartbeats 4000000
set_option maxRecDepth 20000
/-- Lengths, all at once. -/
theorem lenS:(∀ {α:Type} (a b:List α),(a++b).length=a.length+b.length)∧(∀ {α:Type} (n:Nat) (l:List α),(l.take n).length=min n l.length)∧(∀ {α:Type} (n:Nat) (x:α),(List.replicate n x).length=n)∧(∀ {α β:Type} (f:α→β) (l:List α),(l.map f).length=l.length)∧(∀ {α:Type} (l:List α) (n:Nat) (x:α),(l.set n x).length=l.length)∧(∀ {α:Type} (x:α) (l:List α),(x :: l).length=l.length+1)∧(∀ {α:Type},([]:List α).length=0)∧(∀ {α β γ:Type} (f:α→β→γ) (a:List α) (b:List β),(List.zipWith f a b).length=min a.length b.length)∧(∀ {α:Type} (n:Nat) (l:List α),(l.drop n).length=l.length-n)∧(∀ (n:Nat),(List.range n).length=n):=
 ⟨fun _ _=>List.length_append,fun _ _=>List.length_take,fun _ _=>List.length_replicate,fun _ _=>List.length_map _,fun _ _ _=>List.length_set,fun _ _=>List.length_cons,List.length_nil,fun _ _ _=>List.length_zipWith,fun _ _=>List.length_drop,fun _=>List.length_range⟩
theorem wc7(a b:List Int):C w6r [bys a,bys b] []=some (.bool (decide (1048576<(a.length:Int))||decide (1048576-(a.length:Int)<b.length)),[]):=by
 refine w13 ?_
 simp (maxSteps:=2000000) (disch:=first|omega|(simp only[lenS];try omega)) only[waj,go_sem,reduceAdd,reduceEqDiff,reduceLeDiff,reduceSub]
 refine⟨fun h=>by simp [h],fun h=>?_⟩
 simp (maxSteps:=2000000) (disch:=first|omega|(simp only[lenS];try omega)) only[go_sem,reduceAdd,reduceEqDiff,reduceLeDiff,reduceSub]
 grind
theorem wdi(bs:List Int)(at_ sd:Int)(h0:0≤at_)(h1:at_<2^62)(hl:bs.length<2^62)(hb : ∀ x∈bs,0≤x∧x<256) :
  Lw (C w7z [.ptr 0 0] [.box we9 [bys bs,I at_,.int .u64 sd]]) fun r=>∃ x sd',r=(I x,[.box we9 [bys bs,I (at_+1),.int .u64 sd']])∧0≤x∧x<256:=by
 refine w2k ?_
 simp (maxSteps:=2000000) (disch:=first|omega|(simp only[lenS];try omega)) only[wbs,go_sem,reduceAdd,reduceEqDiff,reduceLeDiff,reduceSub]
 refine⟨fun h=>?_,fun h=>?_⟩
 ·have h2:at_.toNat<bs.length:=by omega
  have h3:=hb _ (List.getElem_mem h2)
  simp (maxSteps:=2000000) (disch:=first|omega|(simp only[lenS];try omega)) only[go_sem,reduceAdd,reduceEqDiff,reduceLeDiff,reduceSub]
  exact⟨_,_,rfl,h3⟩
 ·refine⟨fun _=>⟨_,_,rfl,by omega,by omega⟩,fun _=>?_⟩
  generalize hw:IntKind.u64.wrap (IntKind.u64.wrap (IntKind.u64.wrap (sd*6364136223846793005)+IntKind.u64.wrap 0)+1442695040888963407)=w
  have hb:=z1gj (IntKind.u64.wrap (IntKind.u64.wrap (sd*6364136223846793005)+IntKind.u64.wrap 0)+1442695040888963407)
  rw[hw] at hb
  have h3:=z31 (x:=w / 2 ^ min (Int.toNat 40) 64) (Int.ediv_nonneg hb.1 (by decide)) (Int.lt_of_le_of_lt (Int.ediv_le_self _ hb.1) hb.2)
  rw[wrap_i64 (by omega) (by omega)]
  exact⟨_,_,rfl,h3⟩
theorem wdk(n:Int)(bs:List Int)(at_ sd:Int)(h0:0≤at_)(h1:at_<2^61)(hl:bs.length<2^62)(hb : ∀ x∈bs,0≤x∧x<256) :
  Lw (C w81 [.ptr 0 0,I n] [.box we9 [bys bs,I at_,.int .u64 sd]]) fun r=>∃ x at' sd',r=(I x,[.box we9 [bys bs,I at',.int .u64 sd']])∧at_≤at'∧at'≤at_+2∧0≤x∧(x=0∨x<n):=by
 refine w2m ?_
 simp (maxSteps:=2000000) (disch:=first|omega|(simp only[lenS];try omega)) only[wbu,go_sem,reduceAdd,reduceEqDiff,reduceLeDiff,reduceSub]
 refine⟨fun h=>⟨_,_,_,rfl,by omega,by omega,by omega,by omega⟩,fun h=>?_⟩
 obtain⟨_,e1,x1,s1,rfl,h3,h4⟩:=wdi bs at_ sd h0 (by omega) hl hb
 obtain⟨_,e2,x2,s2,rfl,h5,h6⟩:=wdi bs (at_+1) s1 (by omega) (by omega) hl hb
 simp (maxSteps:=2000000) (disch:=first|omega|(simp only[lenS];try omega)) only[go_sem,reduceAdd,reduceEqDiff,reduceLeDiff,reduceSub,e1,e2]
 refine⟨fun _=>⟨_,_,_,rfl,by omega,by omega,Int.tmod_nonneg _ (by omega),.inr (Int.tmod_lt_of_pos _ (by omega))⟩,fun _=>⟨_,_,_,rfl,by omega,by omega,Int.tmod_nonneg _ (by omega),.inr (Int.tmod_lt_of_pos _ (by omega))⟩⟩
theorem wdr(l:List Int)(x:Int)(hl:l.length<2^30):Lw (C w87 [.ref 0 1 0 l.length,I x] [.row t_int true 1 (l.map I)]) fun r=>r=(.un t_int true 1 ((putI l x).map I),[.row t_int true 1 (l.map I)])∨(r=(.ref 0 1 0 l.length,[.row t_int true 1 (l.map I)])∧putI l x=l):=by
 refine w2o ?_
 simp (maxSteps:=2000000) (disch:=first|omega|(simp only[lenS];try omega)) only[wc0,go_sem,reduceAdd,reduceEqDiff,reduceLeDiff,reduceSub]
 refine W_for l.length (fun k s=>s=⟨[.ref 0 1 0 l.length,I x,.any,I k,.any,.any,.any],[.row t_int true 1 (l.map I)]⟩∧(l.take k).all (fun y=>decide (y<x))=true) ?_ ?_ ?_
 ·simp (maxSteps:=2000000) (disch:=first|omega|(simp only[lenS];try omega)) only[go_sem,reduceAdd,reduceEqDiff,reduceLeDiff,reduceSub]
  rfl
 ·rintro k s hk ⟨rfl,hall⟩
  simp (maxSteps:=2000000) (disch:=first|omega|(simp only[lenS];try omega)) only[go_sem,reduceAdd,reduceEqDiff,reduceLeDiff,reduceSub]
  refine⟨fun h=>⟨rfl,z2z hk hall (by simpa using h)⟩,fun h=>⟨fun h2=>.inr (z12x hk hall h2),fun h2=>.inl ?_⟩⟩
  rw[z12y hall (fun _=>by omega) (by omega)]
  simp
 ·rintro s ⟨rfl,hall⟩
  simp (maxSteps:=2000000) (disch:=first|omega|(simp only[lenS];try omega)) only[go_sem,reduceAdd,reduceEqDiff,reduceLeDiff,reduceSub]
  have e:=z12y hall (fun h=>by omega) (by omega)
  refine⟨fun h=>.inl ?_,fun h=>.inl ?_⟩
  ·rw[e];simp
  ·have:l=[]:=List.eq_nil_of_length_eq_zero (by omega)
   subst this;rfl
theorem wdq(x:Int):C w87 [.nil true 1,I x] []=some (.un t_int true 1 [I x],[]):=by
 refine w20 ?_
 simp (maxSteps:=2000000) (disch:=first|omega|(simp only[lenS];try omega)) only[wc0,go_sem,reduceAdd,reduceEqDiff,reduceLeDiff,reduceSub]
 refine W_for 0 (fun k s=>s=⟨[.nil true 1,I x,.any,I 0,.any,.any,.any],[]⟩) ?_ ?_ ?_
 ·simp (maxSteps:=2000000) (disch:=first|omega|(simp only[lenS];try omega)) only[go_sem,reduceAdd,reduceEqDiff,reduceLeDiff,reduceSub]
 ·intro k s hk;omega
 ·rintro s rfl
  simp (maxSteps:=2000000) (disch:=first|omega|(simp only[lenS];try omega)) only[go_sem,reduceAdd,reduceEqDiff,reduceLeDiff,reduceSub]
theorem wds(l:List Int)(x:Int)(hl:l.length<2^30):Lw (C w87 [ints l,I x] []) fun r=>r=(.un t_int true 1 ((putI l x).map I),[])∨(r=(ints l,[])∧putI l x=l):=by
 refine w2o ?_
 simp (maxSteps:=2000000) (disch:=first|omega|(simp only[lenS];try omega)) only[wc0,go_sem,reduceAdd,reduceEqDiff,reduceLeDiff,reduceSub]
 refine W_for l.length (fun k s=>s=⟨[ints l,I x,.any,I k,.any,.any,.any],[]⟩∧(l.take k).all (fun y=>decide (y<x))=true) ?_ ?_ ?_
 ·simp (maxSteps:=2000000) (disch:=first|omega|(simp only[lenS];try omega)) only[go_sem,reduceAdd,reduceEqDiff,reduceLeDiff,reduceSub]
  rfl
 ·rintro k s hk ⟨rfl,hall⟩
  simp (maxSteps:=2000000) (disch:=first|omega|(simp only[lenS];try omega)) only[go_sem,reduceAdd,reduceEqDiff,reduceLeDiff,reduceSub]
  refine⟨fun h=>⟨rfl,z2z hk hall (by simpa using h)⟩,fun h=>⟨fun h2=>.inr (z12x hk hall h2),fun h2=>.inl ?_⟩⟩
  rw[z12y hall (fun _=>by omega) (by omega)]
  simp
 ·rintro s ⟨rfl,hall⟩
  simp (maxSteps:=2000000) (disch:=first|omega|(simp only[lenS];try omega)) only[go_sem,reduceAdd,reduceEqDiff,reduceLeDiff,reduceSub]
  have e:=z12y hall (fun h=>by omega) (by omega)
  refine .inl ?_
  rw[e];simp
theorem wdh(bs:List Int)(hl:bs.length<2^62)(hb : ∀ x∈bs,0≤x∧x<256) : ∀ d:Nat,
    (∀ (D a b pl at_ sd:Int),D=d→0≤pl→pl≤13→0≤at_→at_+growC d<2^60→growT d≤1000 →
      Lw (C w7y [.ptr 0 0,.ptr 1 0,I a,I b,I D] [.box we9 [bys bs,I at_,.int .u64 sd],.box we2 [I pl,.nil false 3]]) fun r=>∃ (pl':Int) (tr':List Tr) (at' sd':Int),r=(.tup [],[.box we9 [bys bs,I at',.int .u64 sd'],.box we2 [I pl',.ref 2 3 0 tr'.length],.row we4 false 3 (tr'.map encT)])∧pl≤pl'∧pl'≤13∧0<tr'.length∧tr'.length≤growT d∧smq 10 tr'∧at_≤at'∧at'≤at_+growC d) ∧
    (∀ (D a b pl at_ sd:Int) (tr:List Tr),D=d→0≤pl→pl≤13→0≤at_→at_+growC d<2^60→tr.length+growT d≤1000→smq 10 tr →
      Lw (C w7y [.ptr 0 0,.ptr 1 0,I a,I b,I D] [.box we9 [bys bs,I at_,.int .u64 sd],.box we2 [I pl,.ref 2 3 0 tr.length],.row we4 false 3 (tr.map encT)]) fun r=>∃ (pl':Int) (tr':List Tr) (at' sd':Int),r=(.tup [],[.box we9 [bys bs,I at',.int .u64 sd'],.box we2 [I pl',.ref 3 3 0 tr'.length],.dead,.row we4 false 3 (tr'.map encT)])∧pl≤pl'∧pl'≤13∧tr.length<tr'.length∧tr'.length≤tr.length+growT d∧smq 10 tr'∧at_≤at'∧at'≤at_+growC d):=by
  intro d
  induction d with
  | zero =>
    have c0:growT 0=1:=rfl
    refine⟨fun D a b pl at_ sd hD h1 h2 h3 h4 h5=>?_,fun D a b pl at_ sd tr hD h1 h2 h3 h4 h5 h6=>?_⟩
    · obtain rfl:D=0:=by omega
      refine w2j ?_
      simp (maxSteps:=2000000) (disch:=first|omega|(simp only[lenS];try omega)) only[wbr,go_sem,reduceAdd,reduceEqDiff,reduceLeDiff,reduceSub]
      exact⟨pl,[⟨[a],[b],[]⟩],at_,sd,by simp,by omega,by omega,by simp,by simp only[List.length_append,List.length_cons,List.length_nil];omega,z1c3 z1c1 (by simp),by omega,by omega⟩
    · obtain rfl:D=0:=by omega
      refine w2j ?_
      simp (maxSteps:=2000000) (disch:=first|omega|(simp only[lenS];try omega)) only[wbr,go_sem,reduceAdd,reduceEqDiff,reduceLeDiff,reduceSub]
      exact⟨pl,tr++[⟨[a],[b],[]⟩],at_,sd,by rw[List.map_append];simp,by omega,by omega,by simp,by simp only[List.length_append,List.length_cons,List.length_nil];omega,z1c3 h6 (by simp),by omega,by omega⟩
  | succ d ih =>
    obtain⟨ih1,ih2⟩:=ih
    have c1:growC (d+1)=2+2*growC d:=rfl
    have c0:growT (d+1)=2+2*growT d:=rfl
    refine⟨fun D a b pl at_ sd hD h1 h2 h3 h4 h5=>?_,fun D a b pl at_ sd tr hD h1 h2 h3 h4 h5 h6=>?_⟩
    · have hD0:¬D=0:=by omega
      have hDT:=zke d
      have hD1:D≤1000:=by omega
      refine w2j ?_
      simp (maxSteps:=2000000) (disch:=first|omega|(simp only[lenS];try omega)) only[wbr,go_sem,reduceAdd,reduceEqDiff,reduceLeDiff,reduceSub]
      refine⟨fun h=>⟨pl,[⟨[a],[b],[]⟩],at_,sd,by simp,by omega,by omega,by simp,by simp only[List.length_append,List.length_cons,List.length_nil];omega,z1c3 z1c1 (by simp),by omega,by omega⟩,fun hp9=>?_⟩
      obtain⟨_,e1,x1,a1,s1,rfl,h7,h8,h9,h10⟩:=wdk 5 bs at_ sd (by omega) (by omega) hl hb
      obtain⟨_,fA,pA,tA,aA,sA,rfl,kA1,kA2,kA3,kA4,kA5,kA6,kA7⟩:=ih1 (D-1) a pl (pl+1) a1 s1 (by omega) (by omega) (by omega) (by omega) (by omega) (by omega)
      obtain⟨_,gA,pA',tA',aA',sA',rfl,lA1,lA2,lA3,lA4,lA5,lA6,lA7⟩:=ih2 (D-1) pl b pA aA sA tA (by omega) (by omega) (by omega) (by omega) (by omega) (by omega) kA5
      obtain⟨_,fB,pB,tB,aB,sB,rfl,kB1,kB2,kB3,kB4,kB5,kB6,kB7⟩:=ih1 (D-1) a b pl a1 s1 (by omega) (by omega) (by omega) (by omega) (by omega) (by omega)
      obtain⟨_,gB,pB',tB',aB',sB',rfl,lB1,lB2,lB3,lB4,lB5,lB6,lB7⟩:=ih2 (D-1) a b pB aB sB tB (by omega) (by omega) (by omega) (by omega) (by omega) (by omega) kB5
      obtain⟨_,fC,pC,tC,aC,sC,rfl,kC1,kC2,kC3,kC4,kC5,kC6,kC7⟩:=ih2 (D-1) pl (pl+2) (pl+4) a1 s1 ([]++[⟨[a],[pl,pl+1],[]⟩,⟨[pl+2,pl+3],[b],[]⟩]) (by omega) (by omega) (by omega) (by omega) (by omega) (by simp only[List.length_append,List.length_cons,List.length_nil];omega) (by have:=z1c3 (q:=10) (z1c3 (q:=10) z1c1 (t:=⟨[a],[pl,pl+1],[]⟩) (by simp)) (t:=⟨[pl+2,pl+3],[b],[]⟩) (by simp);simpa using this)
      obtain⟨_,gC,pC',tC',aC',sC',rfl,lC1,lC2,lC3,lC4,lC5,lC6,lC7⟩:=ih2 (D-1) (pl+1) (pl+3) pC aC sC tC (by omega) (by omega) (by omega) (by omega) (by omega) (by simp only[List.length_append,List.length_cons,List.length_nil] at kC4;omega) kC5
      obtain⟨_,fE,pE,tE,aE,sE,rfl,kE1,kE2,kE3,kE4,kE5,kE6,kE7⟩:=ih2 (D-1) pl (pl+1) (pl+2) a1 s1 ([]++[⟨[a],[pl],[]⟩,⟨[pl+1],[b],[]⟩]) (by omega) (by omega) (by omega) (by omega) (by omega) (by simp only[List.length_append,List.length_cons,List.length_nil];omega) (by have:=z1c3 (q:=10) (z1c3 (q:=10) z1c1 (t:=⟨[a],[pl],[]⟩) (by simp)) (t:=⟨[pl+1],[b],[]⟩) (by simp);simpa using this)
      obtain⟨_,gE,pE',tE',aE',sE',rfl,lE1,lE2,lE3,lE4,lE5,lE6,lE7⟩:=ih2 (D-1) (pl+1) pl pE aE sE tE (by omega) (by omega) (by omega) (by omega) (by omega) (by simp only[List.length_append,List.length_cons,List.length_nil] at kE4;omega) kE5
      simp only[List.length_append,List.length_cons,List.length_nil] at kC3 kC4 kE3 kE4
      simp only[encT,ints,List.map_append,List.map_cons,List.map_nil,List.length_append,List.length_cons,List.length_nil,List.nil_append,Nat.reduceAdd,Nat.zero_add] at fC fE
      simp (maxSteps:=2000000) (disch:=first|omega|(simp only[lenS];try omega)) only[go_sem,reduceAdd,reduceEqDiff,reduceLeDiff,reduceSub,e1,fA,gA,fB,gB,fC,gC,fE,gE,wdq]
      exact⟨fun _=>⟨pA',tA',aA',sA',rfl,by omega,by omega,by omega,by omega,lA5,by omega,by omega⟩,fun _=>⟨fun _=>⟨pA',tA',aA',sA',rfl,by omega,by omega,by omega,by omega,lA5,by omega,by omega⟩,fun _=>⟨fun _=>⟨pB',tB',aB',sB',rfl,by omega,by omega,by omega,by omega,lB5,by omega,by omega⟩,fun _=>⟨fun _=>⟨rfl,⟨pC',tC',aC',sC',rfl,by omega,by omega,by omega,by omega,lC5,by omega,by omega⟩⟩,fun _=>⟨pE',tE',aE',sE',rfl,by omega,by omega,by omega,by omega,lE5,by omega,by omega⟩⟩⟩⟩⟩

    · have hD0:¬D=0:=by omega
      have hDT:=zke d
      have hD1:D≤1000:=by omega
      refine w2j ?_
      simp (maxSteps:=2000000) (disch:=first|omega|(simp only[lenS];try omega)) only[wbr,go_sem,reduceAdd,reduceEqDiff,reduceLeDiff,reduceSub]
      refine⟨fun h=>⟨pl,tr++[⟨[a],[b],[]⟩],at_,sd,by rw[List.map_append];simp,by omega,by omega,by simp,by simp only[List.length_append,List.length_cons,List.length_nil];omega,z1c3 h6 (by simp),by omega,by omega⟩,fun hp9=>⟨fun h=>⟨pl,tr++[⟨[a],[b],[]⟩],at_,sd,by rw[List.map_append];simp,by omega,by omega,by simp,by simp only[List.length_append,List.length_cons,List.length_nil];omega,z1c3 h6 (by simp),by omega,by omega⟩,fun hp12=>?_⟩⟩
      obtain⟨_,e1,x1,a1,s1,rfl,h7,h8,h9,h10⟩:=wdk 5 bs at_ sd (by omega) (by omega) hl hb
      obtain⟨_,fA,pA,tA,aA,sA,rfl,kA1,kA2,kA3,kA4,kA5,kA6,kA7⟩:=ih2 (D-1) a pl (pl+1) a1 s1 tr (by omega) (by omega) (by omega) (by omega) (by omega) (by omega) h6
      obtain⟨_,gA,pA',tA',aA',sA',rfl,lA1,lA2,lA3,lA4,lA5,lA6,lA7⟩:=ih2 (D-1) pl b pA aA sA tA (by omega) (by omega) (by omega) (by omega) (by omega) (by omega) kA5
      obtain⟨_,fB,pB,tB,aB,sB,rfl,kB1,kB2,kB3,kB4,kB5,kB6,kB7⟩:=ih2 (D-1) a b pl a1 s1 tr (by omega) (by omega) (by omega) (by omega) (by omega) (by omega) h6
      obtain⟨_,gB,pB',tB',aB',sB',rfl,lB1,lB2,lB3,lB4,lB5,lB6,lB7⟩:=ih2 (D-1) a b pB aB sB tB (by omega) (by omega) (by omega) (by omega) (by omega) (by omega) kB5
      obtain⟨_,fC,pC,tC,aC,sC,rfl,kC1,kC2,kC3,kC4,kC5,kC6,kC7⟩:=ih2 (D-1) pl (pl+2) (pl+4) a1 s1 (tr++[⟨[a],[pl,pl+1],[]⟩,⟨[pl+2,pl+3],[b],[]⟩]) (by omega) (by omega) (by omega) (by omega) (by omega) (by simp only[List.length_append,List.length_cons,List.length_nil];omega) (by have:=z1c3 (q:=10) (z1c3 (q:=10) h6 (t:=⟨[a],[pl,pl+1],[]⟩) (by simp)) (t:=⟨[pl+2,pl+3],[b],[]⟩) (by simp);simpa using this)
      obtain⟨_,gC,pC',tC',aC',sC',rfl,lC1,lC2,lC3,lC4,lC5,lC6,lC7⟩:=ih2 (D-1) (pl+1) (pl+3) pC aC sC tC (by omega) (by omega) (by omega) (by omega) (by omega) (by simp only[List.length_append,List.length_cons,List.length_nil] at kC4;omega) kC5
      obtain⟨_,fE,pE,tE,aE,sE,rfl,kE1,kE2,kE3,kE4,kE5,kE6,kE7⟩:=ih2 (D-1) pl (pl+1) (pl+2) a1 s1 (tr++[⟨[a],[pl],[]⟩,⟨[pl+1],[b],[]⟩]) (by omega) (by omega) (by omega) (by omega) (by omega) (by simp only[List.length_append,List.length_cons,List.length_nil];omega) (by have:=z1c3 (q:=10) (z1c3 (q:=10) h6 (t:=⟨[a],[pl],[]⟩) (by simp)) (t:=⟨[pl+1],[b],[]⟩) (by simp);simpa using this)
      obtain⟨_,gE,pE',tE',aE',sE',rfl,lE1,lE2,lE3,lE4,lE5,lE6,lE7⟩:=ih2 (D-1) (pl+1) pl pE aE sE tE (by omega) (by omega) (by omega) (by omega) (by omega) (by simp only[List.length_append,List.length_cons,List.length_nil] at kE4;omega) kE5
      simp only[List.length_append,List.length_cons,List.length_nil] at kC3 kC4 kE3 kE4
      simp only[encT,ints,List.map_append,List.map_cons,List.map_nil,List.length_append,List.length_cons,List.length_nil,List.nil_append,Nat.reduceAdd,Nat.zero_add] at fC fE
      simp (maxSteps:=2000000) (disch:=first|omega|(simp only[lenS];try omega)) only[go_sem,reduceAdd,reduceEqDiff,reduceLeDiff,reduceSub,e1,fA,gA,fB,gB,fC,gC,fE,gE,wdq]
      exact⟨fun _=>⟨pA',tA',aA',sA',rfl,by omega,by omega,by omega,by omega,lA5,by omega,by omega⟩,fun _=>⟨fun _=>⟨pA',tA',aA',sA',rfl,by omega,by omega,by omega,by omega,lA5,by omega,by omega⟩,fun _=>⟨fun _=>⟨pB',tB',aB',sB',rfl,by omega,by omega,by omega,by omega,lB5,by omega,by omega⟩,fun _=>⟨fun _=>⟨rfl,⟨pC',tC',aC',sC',rfl,by omega,by omega,by omega,by omega,lC5,by omega,by omega⟩⟩,fun _=>⟨pE',tE',aE',sE',rfl,by omega,by omega,by omega,by omega,lE5,by omega,by omega⟩⟩⟩⟩⟩
theorem wdl(n least most:Int)(hlm:0≤least∧least≤most∧most≤20)(bs:List Int)(at_ sd:Int)(h0:0≤at_)(h1:at_<2^60)(hl:bs.length<2^62)(hb : ∀ x∈bs,0≤x∧x<256) :
  Lw (C w82 [.ptr 0 0,I n,I least,I most] [.box we9 [bys bs,I at_,.int .u64 sd]]) fun r=>∃ (l:List Int) (at' sd':Int),r=(.un t_int true 1 (l.map I),[.box we9 [bys bs,I at',.int .u64 sd']])∧at_≤at'∧at'≤at_+50∧l.length≤20∧∀ x∈l,0≤x∧(x=0∨x<n):=by
 refine w2n ?_
 simp (maxSteps:=2000000) (disch:=first|omega|(simp only[lenS];try omega)) only[wbv,go_sem,reduceAdd,reduceEqDiff,reduceLeDiff,reduceSub]
 obtain⟨_,e1,x1,a1,s1,rfl,h3,h4,h5,h6⟩:=wdk (most-least+1) bs at_ sd h0 (by omega) hl hb
 simp (maxSteps:=2000000) (disch:=first|omega|(simp only[lenS];try omega)) only[go_sem,reduceAdd,reduceEqDiff,reduceLeDiff,reduceSub,e1]
 refine W_for (least+x1).toNat (fun k s=>∃ (l:List Int) (at' sd':Int),s=⟨[.ptr 0 0,I n,.any,.any,.any,.ref 1 1 0 l.length,I (least+x1-k),.any],[.box we9 [bys bs,I at',.int .u64 sd'],.row t_int true 1 (l.map I)]⟩∧l.length≤k∧at_≤at'∧at'≤at_+2+2*k∧∀ x∈l,0≤x∧(x=0∨x<n)) ?_ ?_ ?_
 ·refine⟨[],a1,s1,?_,by simp,by omega,by omega,by simp⟩
  simp (maxSteps:=2000000) (disch:=first|omega|(simp only[lenS];try omega)) only[go_sem,reduceAdd,reduceEqDiff,reduceLeDiff,reduceSub]
  rw[show least+x1-((0:Nat):Int)=least+x1 by omega]
 ·rintro k s hk ⟨l,a,sd,rfl,h7,h8,h9,h10⟩
  obtain⟨_,e2,x2,a2,s2,rfl,h11,h12,h13,h14⟩:=wdk n bs a sd (by omega) (by omega) hl hb
  have e:least+x1-((k+1:Nat):Int)=least+x1-k-1:=by omega
  obtain⟨_,e3,rfl | ⟨rfl,e4⟩⟩:=wdr l x2 (by omega)
  ·simp (maxSteps:=2000000) (disch:=first|omega|(simp only[lenS];try omega)) only[go_sem,reduceAdd,reduceEqDiff,reduceLeDiff,reduceSub,e2,e3]
   have:=z12z l x2
   refine⟨putI l x2,a2,s2,by rw[e],by omega,by omega,by omega,fun y hy=>?_⟩
   rcases z130 hy with hy | rfl
   ·exact h10 y hy
   ·exact⟨h13,h14⟩
  ·simp (maxSteps:=2000000) (disch:=first|omega|(simp only[lenS];try omega)) only[go_sem,reduceAdd,reduceEqDiff,reduceLeDiff,reduceSub,e2,e3]
   exact⟨l,a2,s2,by rw[e],by omega,by omega,by omega,h10⟩
 ·rintro s ⟨l,a,sd,rfl,h7,h8,h9,h10⟩
  simp (maxSteps:=2000000) (disch:=first|omega|(simp only[lenS];try omega)) only[go_sem,reduceAdd,reduceEqDiff,reduceLeDiff,reduceSub]
  exact⟨l,a,sd,rfl,by omega,by omega,by omega,h10⟩
theorem wdj(n:Int)(bs:List Int)(at_ sd:Int)(h0:0≤at_)(h1:at_<2^61)(hl:bs.length<2^62)(hb : ∀ x∈bs,0≤x∧x<256) :
  Lw (C w80 [.ptr 0 0,I n] [.box we9 [bys bs,I at_,.int .u64 sd]]) fun r=>∃ x at' sd',r=(.bool x,[.box we9 [bys bs,I at',.int .u64 sd']])∧at_≤at'∧at'≤at_+2:=by
 refine w2l ?_
 simp (maxSteps:=2000000) (disch:=first|omega|(simp only[lenS];try omega)) only[wbt,go_sem,reduceAdd,reduceEqDiff,reduceLeDiff,reduceSub]
 obtain⟨_,e1,x1,a1,s1,rfl,h3,h4,h5⟩:=wdk n bs at_ sd h0 h1 hl hb
 simp (maxSteps:=2000000) (disch:=first|omega|(simp only[lenS];try omega)) only[go_sem,reduceAdd,reduceEqDiff,reduceLeDiff,reduceSub,e1]
 exact⟨fun _=>⟨_,_,_,rfl,h3,h4⟩,fun _=>⟨_,_,_,rfl,h3,h4⟩⟩
theorem wdf(l:List Int)(t:TypeId)(hne:0<l.length)(hln:l.length<2^30)(bs:List Int)(at_ sd:Int)(h0:0≤at_)(h1:at_<2^61)(hl:bs.length<2^62)(hb : ∀ x∈bs,0≤x∧x<256) :
  Lw (C w7w [.ptr 0 0,.ref 1 1 0 l.length] [.box we9 [bys bs,I at_,.int .u64 sd],.row t true 1 (l.map I)]) fun r=>∃ x at' sd',r=(I x,[.box we9 [bys bs,I at',.int .u64 sd'],.row t true 1 (l.map I)])∧at_≤at'∧at'≤at_+2∧x∈l:=by
 refine w2h ?_
 simp (maxSteps:=2000000) (disch:=first|omega|(simp only[lenS];try omega)) only[wbp,go_sem,reduceAdd,reduceEqDiff,reduceLeDiff,reduceSub]
 obtain⟨_,e1,x1,a1,s1,rfl,h3,h4,h5,h6⟩:=wdk l.length bs at_ sd h0 h1 hl hb
 have h7:x1.toNat<l.length:=by omega
 simp (maxSteps:=2000000) (disch:=first|omega|(simp only[lenS];try omega)) only[go_sem,reduceAdd,reduceEqDiff,reduceLeDiff,reduceSub,e1]
 exact⟨_,_,_,rfl,h3,h4,List.getElem_mem h7⟩
theorem wdg(rs:Bool)(bs:List Int)(at_ sd:Int)(h0:0≤at_)(h1:at_<2^59)(hl:bs.length<2^62)(hb : ∀ x∈bs,0≤x∧x<256) :
  Lw (C w7x [.ptr 0 0,.bool rs] [.box we9 [bys bs,I at_,.int .u64 sd]]) fun r=>∃ (f:Fl) (at' sd':Int),r=(.agg [I f.net.pl,.un we4 false 3 (f.net.tr.map encT),I f.src,I f.dst],[.box we9 [bys bs,I at',.int .u64 sd']])∧at_≤at'∧at'≤at_+200∧smNet f.net:=by
 obtain⟨_,e1,x1,a1,s1,rfl,h3,h4,h5,h6⟩:=wdk 3 bs at_ sd h0 (by omega) hl hb
 obtain⟨d,hd⟩ : ∃ d:Nat,1+x1=d:=⟨(1+x1).toNat,by omega⟩
 have hd3:=zkf (d:=d) (by omega)
 obtain⟨_,e2,pl,tr,a2,s2,rfl,g1,g2,g3,g4,g5,g6,g7⟩:=(wdh bs hl hb d).1 (1+x1) 0 1 2 a1 s1 hd (by omega) (by omega) (by omega) (by omega) (by omega)
 obtain⟨_,e3,x3,a3,s3,rfl,k1,k2,k3,k4⟩:=wdk tr.length bs a2 s2 (by omega) (by omega) hl hb
 obtain⟨_,e4,x4,a4,s4,rfl,k5,k6,k7,k8⟩:=wdk 9 bs a3 s3 (by omega) (by omega) hl hb
 have hx3:x3.toNat<tr.length:=by omega
 have hk:=g5 _ (List.getElem_mem hx3)
 have g8:smq 20 tr:=z1c0 (by decide) g5
 have fin : ∀ (a sd:Int),a4≤a→a≤a4+150→∃ (b:Bool) (y z:Int) (a' s' a'' s'':Int),C w80 [.ptr 0 0,I 30] [.box we9 [bys bs,I a,.int .u64 sd]]=some (.bool b,[.box we9 [bys bs,I a',.int .u64 s']])∧C w7w [.ptr 0 0,.ref 1 1 0 4] [.box we9 [bys bs,I a',.int .u64 s'],.row t_int true 1 [I 0,I (-1),I 2,I 17]]=some (I z,[.box we9 [bys bs,I a'',.int .u64 s''],.row t_int true 1 [I 0,I (-1),I 2,I 17]])∧a≤a'∧a'≤a+2∧a'≤a''∧a''≤a'+2:=by
  intro a sd ha1 ha2
  obtain⟨_,f1,b,a',s',rfl,j1,j2⟩:=wdj 30 bs a sd (by omega) (by omega) hl hb
  obtain⟨_,f2,z,a'',s'',rfl,j3,j4,j5⟩:=wdf [0,-1,2,17] t_int (by decide) (by decide) bs a' s' (by omega) (by omega) hl hb
  exact⟨b,0,z,a',s',a'',s'',f1,f2,j1,j2,j3,j4⟩
 refine w2i ?_
 simp (maxSteps:=2000000) (disch:=first|omega|(simp only[lenS];try omega)) only[wbq,go_sem,reduceAdd,reduceEqDiff,reduceLeDiff,reduceSub]
 simp (maxSteps:=2000000) (disch:=first|omega|(simp only[lenS];try omega)) only[go_sem,reduceAdd,reduceEqDiff,reduceLeDiff,reduceSub,e1,e2,e3,e4]
 refine⟨fun hx=>?_,fun hx0=>⟨fun hx=>?_,fun hx1=>⟨fun hx=>?_,fun hx2=>⟨fun hx=>⟨fun hr=>?_,fun hr=>?_⟩,fun hx3'=>?_⟩⟩⟩⟩
 ·obtain⟨_,f5,x5,a5,s5,rfl,j1,j2,j3,j4⟩:=wdk pl bs a4 s4 (by omega) (by omega) hl hb
  obtain⟨_,f6,x6,a6,s6,rfl,j5,j6,j7,j8⟩:=wdk pl bs a5 s5 (by omega) (by omega) hl hb
  obtain⟨b,y,z,a',s',a'',s'',t1,t2,t3,t4,t5,t6⟩:=fin a6 s6 (by omega) (by omega)
  simp (maxSteps:=2000000) (disch:=first|omega|(simp only[lenS];try omega)) only[go_sem,reduceAdd,reduceEqDiff,reduceLeDiff,reduceSub,f5,f6,t1,t2]
  refine⟨rfl,?_⟩
  exact⟨fun _=>⟨⟨⟨pl,tr++[⟨[x5],[x6],[]⟩]⟩,0,z⟩,a'',s'',by simp [List.map_set];try rfl,by omega,by omega,⟨by simp;try omega,by simp only;omega,z1c3 g8 (by simp)⟩⟩,fun _=>⟨⟨⟨pl,tr++[⟨[x5],[x6],[]⟩]⟩,0,1⟩,a',s',by simp [List.map_set];try rfl,by omega,by omega,⟨by simp;try omega,by simp only;omega,z1c3 g8 (by simp)⟩⟩⟩
 ·obtain⟨_,f5,x5,a5,s5,rfl,j1,j2,j3,j4⟩:=wdk pl bs a4 s4 (by omega) (by omega) hl hb
  obtain⟨b,y,z,a',s',a'',s'',t1,t2,t3,t4,t5,t6⟩:=fin a5 s5 (by omega) (by omega)
  have hpl:=z12z tr[x3.toNat].out x5
  obtain⟨_,f6,rfl | ⟨rfl,f7⟩⟩:=wds tr[x3.toNat].out x5 (by omega)
  ·simp (maxSteps:=2000000) (disch:=first|omega|(simp only[lenS];try omega)) only[go_sem,reduceAdd,reduceEqDiff,reduceLeDiff,reduceSub,f5,f6,t1,t2]
   refine⟨rfl,?_⟩
   exact⟨fun _=>⟨⟨⟨pl,tr.set x3.toNat ⟨tr[x3.toNat].inn,putI tr[x3.toNat].out x5,tr[x3.toNat].rst⟩⟩,0,z⟩,a'',s'',by simp [List.map_set];try rfl,by omega,by omega,⟨by simp;try omega,by simp only;omega,z1c2 g8 (by simp only;omega)⟩⟩,fun _=>⟨⟨⟨pl,tr.set x3.toNat ⟨tr[x3.toNat].inn,putI tr[x3.toNat].out x5,tr[x3.toNat].rst⟩⟩,0,1⟩,a',s',by simp [List.map_set];try rfl,by omega,by omega,⟨by simp;try omega,by simp only;omega,z1c2 g8 (by simp only;omega)⟩⟩⟩
  ·simp (maxSteps:=2000000) (disch:=first|omega|(simp only[lenS];try omega)) only[go_sem,reduceAdd,reduceEqDiff,reduceLeDiff,reduceSub,f5,f6,t1,t2]
   refine⟨rfl,?_⟩
   exact⟨fun _=>⟨⟨⟨pl,tr.set x3.toNat ⟨tr[x3.toNat].inn,tr[x3.toNat].out,tr[x3.toNat].rst⟩⟩,0,z⟩,a'',s'',by simp [List.map_set];try rfl,by omega,by omega,⟨by simp;try omega,by simp only;omega,z1c2 g8 (by simp only;omega)⟩⟩,fun _=>⟨⟨⟨pl,tr.set x3.toNat ⟨tr[x3.toNat].inn,tr[x3.toNat].out,tr[x3.toNat].rst⟩⟩,0,1⟩,a',s',by simp [List.map_set];try rfl,by omega,by omega,⟨by simp;try omega,by simp only;omega,z1c2 g8 (by simp only;omega)⟩⟩⟩
 ·obtain⟨_,f5,x5,a5,s5,rfl,j1,j2,j3,j4⟩:=wdk pl bs a4 s4 (by omega) (by omega) hl hb
  obtain⟨b,y,z,a',s',a'',s'',t1,t2,t3,t4,t5,t6⟩:=fin a5 s5 (by omega) (by omega)
  have hpl:=z12z tr[x3.toNat].inn x5
  obtain⟨_,f6,rfl | ⟨rfl,f7⟩⟩:=wds tr[x3.toNat].inn x5 (by omega)
  ·simp (maxSteps:=2000000) (disch:=first|omega|(simp only[lenS];try omega)) only[go_sem,reduceAdd,reduceEqDiff,reduceLeDiff,reduceSub,f5,f6,t1,t2]
   refine⟨rfl,?_⟩
   exact⟨fun _=>⟨⟨⟨pl,tr.set x3.toNat ⟨putI tr[x3.toNat].inn x5,tr[x3.toNat].out,tr[x3.toNat].rst⟩⟩,0,z⟩,a'',s'',by simp [List.map_set];try rfl,by omega,by omega,⟨by simp;try omega,by simp only;omega,z1c2 g8 (by simp only;omega)⟩⟩,fun _=>⟨⟨⟨pl,tr.set x3.toNat ⟨putI tr[x3.toNat].inn x5,tr[x3.toNat].out,tr[x3.toNat].rst⟩⟩,0,1⟩,a',s',by simp [List.map_set];try rfl,by omega,by omega,⟨by simp;try omega,by simp only;omega,z1c2 g8 (by simp only;omega)⟩⟩⟩
  ·simp (maxSteps:=2000000) (disch:=first|omega|(simp only[lenS];try omega)) only[go_sem,reduceAdd,reduceEqDiff,reduceLeDiff,reduceSub,f5,f6,t1,t2]
   refine⟨rfl,?_⟩
   exact⟨fun _=>⟨⟨⟨pl,tr.set x3.toNat ⟨tr[x3.toNat].inn,tr[x3.toNat].out,tr[x3.toNat].rst⟩⟩,0,z⟩,a'',s'',by simp [List.map_set];try rfl,by omega,by omega,⟨by simp;try omega,by simp only;omega,z1c2 g8 (by simp only;omega)⟩⟩,fun _=>⟨⟨⟨pl,tr.set x3.toNat ⟨tr[x3.toNat].inn,tr[x3.toNat].out,tr[x3.toNat].rst⟩⟩,0,1⟩,a',s',by simp [List.map_set];try rfl,by omega,by omega,⟨by simp;try omega,by simp only;omega,z1c2 g8 (by simp only;omega)⟩⟩⟩
 ·obtain⟨_,f5,l5,a5,s5,rfl,j1,j2,j3,j4⟩:=wdl pl 1 2 (by omega) bs a4 s4 (by omega) (by omega) hl hb
  obtain⟨b,y,z,a',s',a'',s'',t1,t2,t3,t4,t5,t6⟩:=fin a5 s5 (by omega) (by omega)
  simp (maxSteps:=2000000) (disch:=first|omega|(simp only[lenS];try omega)) only[go_sem,reduceAdd,reduceEqDiff,reduceLeDiff,reduceSub,f5,t1,t2]
  exact⟨fun _=>⟨⟨⟨pl,tr.set x3.toNat ⟨tr[x3.toNat].inn,tr[x3.toNat].out,l5⟩⟩,0,z⟩,a'',s'',by simp [List.map_set];try rfl,by omega,by omega,⟨by simp;try omega,by simp only;omega,z1c2 g8 (by simp only;omega)⟩⟩,fun _=>⟨⟨⟨pl,tr.set x3.toNat ⟨tr[x3.toNat].inn,tr[x3.toNat].out,l5⟩⟩,0,1⟩,a',s',by simp [List.map_set];try rfl,by omega,by omega,⟨by simp;try omega,by simp only;omega,z1c2 g8 (by simp only;omega)⟩⟩⟩
 ·obtain⟨b,y,z,a',s',a'',s'',t1,t2,t3,t4,t5,t6⟩:=fin a4 s4 (by omega) (by omega)
  simp (maxSteps:=2000000) (disch:=first|omega|(simp only[lenS];try omega)) only[go_sem,reduceAdd,reduceEqDiff,reduceLeDiff,reduceSub,t1,t2]
  exact⟨fun _=>⟨⟨⟨pl,tr⟩,0,z⟩,a'',s'',by simp [List.map_set];try rfl,by omega,by omega,⟨by simp;try omega,by simp only;omega,g8⟩⟩,fun _=>⟨⟨⟨pl,tr⟩,0,1⟩,a',s',by simp [List.map_set];try rfl,by omega,by omega,⟨by simp;try omega,by simp only;omega,g8⟩⟩⟩
 ·obtain⟨b,y,z,a',s',a'',s'',t1,t2,t3,t4,t5,t6⟩:=fin a4 s4 (by omega) (by omega)
  simp (maxSteps:=2000000) (disch:=first|omega|(simp only[lenS];try omega)) only[go_sem,reduceAdd,reduceEqDiff,reduceLeDiff,reduceSub,t1,t2]
  exact⟨fun _=>⟨⟨⟨pl,tr⟩,0,z⟩,a'',s'',by simp [List.map_set];try rfl,by omega,by omega,⟨by simp;try omega,by simp only;omega,g8⟩⟩,fun _=>⟨⟨⟨pl,tr⟩,0,1⟩,a',s',by simp [List.map_set];try rfl,by omega,by omega,⟨by simp;try omega,by simp only;omega,g8⟩⟩⟩
theorem wdb(bs:List Int)(hl:bs.length<2^62)(hb : ∀ x∈bs,0≤x∧x<256) :
  Lw (C w7s [bys bs] []) fun r=>∃ f g:Fl,r=(.tup [.agg [I f.net.pl,.un we4 false 3 (f.net.tr.map encT),I f.src,I f.dst],.agg [I g.net.pl,.un we4 false 3 (g.net.tr.map encT),I g.src,I g.dst]],[])∧smN f.net∧smN g.net:=by
 obtain⟨_,e1,f,a1,s1,rfl,h3,h4,h5⟩:=wdg true bs 0 0 (by omega) (by omega) hl hb
 obtain⟨_,e2,g,a2,s2,rfl,g1,g2,g3⟩:=wdg true bs a1 s1 (by omega) (by omega) hl hb
 refine w2g ?_
 simp (maxSteps:=2000000) (disch:=first|omega|(simp only[lenS];try omega)) only[wbl,go_sem,reduceAdd,reduceEqDiff,reduceLeDiff,reduceSub]
 simp (maxSteps:=2000000) (disch:=first|omega|(simp only[lenS];try omega)) only[go_sem,reduceAdd,reduceEqDiff,reduceLeDiff,reduceSub,e1,e2]
 first | exact⟨f,g,rfl,h5.smN,g3.smN⟩ | exact⟨rfl,f,g,rfl,h5.smN,g3.smN⟩
theorem w9f(n lo hi:Int):C w6p [I n,I lo,I hi] []=some (.bool (inB lo hi n),[]):=by
 refine w11 ?_
 simp (maxSteps:=2000000) (disch:=first|omega|(simp only[lenS];try omega)) only[wah,go_sem,reduceAdd,reduceEqDiff,reduceLeDiff,reduceSub]
 unfold inB;grind
theorem w94(l:List Int)(hl:l.length<2^62):C w6f [ints l] []=some (.bool (incr l),[]):=by
 refine w0r ?_
 simp (maxSteps:=2000000) (disch:=first|omega|(simp only[lenS];try omega)) only[wa7,go_sem,reduceAdd,reduceEqDiff,reduceLeDiff,reduceSub]
 refine W_for (l.length-1) (fun k s=>s=⟨[ints l,.any,I (k+1:Int),.any,.any],[]⟩∧(l.take (k+1)).Pairwise (· < ·)) ?_ ?_ ?_
 ·simp (maxSteps:=2000000) (disch:=first|omega|(simp only[lenS];try omega)) only[go_sem,reduceAdd,reduceEqDiff,reduceLeDiff,reduceSub]
  exact⟨rfl,zn9⟩
 ·rintro k s hk ⟨rfl,hp⟩
  simp (maxSteps:=2000000) (disch:=first|omega|(simp only[lenS];try omega)) only[go_sem,reduceAdd,reduceEqDiff,reduceLeDiff,reduceSub]
  have e1:((k:Int)+1).toNat=k+1:=by omega
  have e2:((k:Int)+1-1).toNat=k:=by omega
  simp only[e1,e2]
  refine⟨fun h=>by rw[zn8 (k:=k) (by omega) (by omega)],fun h=>⟨rfl,znb (by omega) hp h⟩⟩
 ·rintro s ⟨rfl,hp⟩
  simp (maxSteps:=2000000) (disch:=first|omega|(simp only[lenS];try omega)) only[go_sem,reduceAdd,reduceEqDiff,reduceLeDiff,reduceSub]
  rw[z1fa (by omega)] at hp
  rw[show incr l=true by simpa [incr] using hp]
theorem w8t(l:List Int)(lo hi:Int)(hl:l.length<2^62):C w64 [ints l,I lo,I hi] []=some (.bool (l.all (inB lo hi)),[]):=by
 refine w0g ?_
 simp (maxSteps:=2000000) (disch:=first|omega|(simp only[lenS];try omega)) only[w9w,go_sem,reduceAdd,reduceEqDiff,reduceLeDiff,reduceSub]
 refine W_for l.length (fun k s=>s=⟨[.any,I lo,I hi,.any,.any,ints l,I l.length,I k,.any,.any],[]⟩∧(l.take k).all (inB lo hi)=true) ?_ ?_ ?_
 ·simp (maxSteps:=2000000) (disch:=first|omega|(simp only[lenS];try omega)) only[go_sem,reduceAdd,reduceEqDiff,reduceLeDiff,reduceSub]
  rfl
 ·rintro k s hk ⟨rfl,hall⟩
  simp (maxSteps:=2000000) (disch:=first|omega|(simp only[lenS];try omega)) only[go_sem,reduceAdd,reduceEqDiff,reduceLeDiff,reduceSub,w9f]
  exact⟨fun h=>⟨rfl,z2z hk hall h⟩,fun h=>by rw[z2y hk h]⟩
 ·rintro s ⟨rfl,hall⟩
  simp (maxSteps:=2000000) (disch:=first|omega|(simp only[lenS];try omega)) only[go_sem,reduceAdd,reduceEqDiff,reduceLeDiff,reduceSub]
  rw[List.take_length] at hall
  rw[hall]
theorem w8u(n:Net)(l:List Int)(h:1≤n.pl∧n.pl≤16)(hl:l.length<2^62):C w65 [encN n,ints l] []=some (.bool (z11n n.pl l),[]):=by
 refine w0h ?_
 simp (maxSteps:=2000000) (disch:=first|omega|(simp only[lenS];try omega)) only[w9x,go_sem,reduceAdd,reduceEqDiff,reduceLeDiff,reduceSub]
 simp (maxSteps:=2000000) (disch:=first|omega|(simp only[lenS];try omega)) only[go_sem,reduceAdd,reduceEqDiff,reduceLeDiff,reduceSub,w94 l hl,w8t l _ _ hl]
 unfold z11n;grind
theorem w8k(n:Net)(t:Tr)(h:1≤n.pl∧n.pl≤16)(ht:smT t):C w5w [encT t,.pv (encN n) 0] []=some (.bool (!goodT n.pl t),[]):=by
 obtain⟨h1,h2,h3⟩:=ht
 refine w08 ?_
 simp (maxSteps:=2000000) (disch:=first|omega|(simp only[lenS];try omega)) only[w9o,go_sem,reduceAdd,reduceEqDiff,reduceLeDiff,reduceSub]
 simp (maxSteps:=2000000) (disch:=first|omega|(simp only[lenS];try omega)) only[go_sem,reduceAdd,reduceEqDiff,reduceLeDiff,reduceSub,w8u n _ h]
 refine⟨fun h6=>by rw[zk7 (by omega)];rfl,fun h6=>⟨fun h7=>⟨fun h8=>⟨fun h9=>by rw[zk1 (by omega) h7 h8 h9];rfl,fun h9=>by simp [goodT,h9]⟩,fun h8=>by simp [goodT,h8]⟩,fun h7=>by simp [goodT,h7]⟩⟩
theorem wcm(l:List Tr)(g:FuncId)(caps:List PV)(hc:refsL caps=[])(hcv : ∀ m h,z1gv [] m h caps=some caps)(p:Tr→Bool)(hp : ∀ x∈l,C g (encT x :: caps) []=some (.bool (p x),[]))(hl:l.length<2^62) :
  C w75 [trs l,.clo g caps] []=some (I (idxI l p),[]):=by
 refine w1f ?_
 simp (maxSteps:=2000000) (disch:=first|omega|(simp only[lenS];try omega)) only[wax,go_sem,reduceAdd,reduceEqDiff,reduceLeDiff,reduceSub]
 refine W_for l.length (fun k s=>s=⟨[trs l,.clo g caps,.any,.any,I l.length,I k,.any,.any],[]⟩∧(l.take k).any p=false) ?_ ?_ ?_
 ·simp (maxSteps:=2000000) (disch:=first|omega|(simp only[lenS];try omega)) only[go_sem,reduceAdd,reduceEqDiff,reduceLeDiff,reduceSub,hc]
  rfl
 ·rintro k s hk ⟨rfl,hall⟩
  simp (maxSteps:=2000000) (disch:=first|omega|(simp only[lenS];try omega)) only[go_sem,reduceAdd,reduceEqDiff,reduceLeDiff,reduceSub,hc,hcv,hp _ (List.getElem_mem hk)]
  exact⟨fun h=>by rw[zl4 hk hall h],fun h=>⟨rfl,z3e hk hall h⟩⟩
 ·rintro s ⟨rfl,hall⟩
  simp (maxSteps:=2000000) (disch:=first|omega|(simp only[lenS];try omega)) only[go_sem,reduceAdd,reduceEqDiff,reduceLeDiff,reduceSub]
  rw[List.take_length] at hall
  rw[zl3 hall]
theorem wch(l:List Tr)(g:FuncId)(caps:List PV)(hc:refsL caps=[])(hcv : ∀ m h,z1gv [] m h caps=some caps)(p:Tr→Bool)(hp : ∀ x∈l,C g (encT x :: caps) []=some (.bool (p x),[]))(hl:l.length<2^62) :
  C w70 [trs l,.clo g caps] []=some (.bool (l.any p),[]):=by
 refine w1a ?_
 simp (maxSteps:=2000000) (disch:=first|omega|(simp only[lenS];try omega)) only[war,go_sem,reduceAdd,reduceEqDiff,reduceLeDiff,reduceSub]
 simp (maxSteps:=2000000) (disch:=first|omega|(simp only[lenS];try omega)) only[go_sem,reduceAdd,reduceEqDiff,reduceLeDiff,reduceSub,hc,hcv,wcm l g caps hc hcv p hp hl]
 have:=zl0 l p
 grind
theorem w8l(n:Net)(hn:smN n):C w5v [encN n] []=some (.bool (goodN n),[]):=by
 have h0:=hn.1
 refine w07 ?_
 simp (maxSteps:=2000000) (disch:=first|omega|(simp only[lenS];try omega)) only[w9n,go_sem,reduceAdd,reduceEqDiff,reduceLeDiff,reduceSub]
 simp (maxSteps:=2000000) (disch:=first|omega|(simp only[lenS];try omega)) only[go_sem,reduceAdd,reduceEqDiff,reduceLeDiff,reduceSub,w9f]
 refine⟨fun h=>⟨fun h2=>?_,fun h2=>?_⟩,fun h=>by simp [goodN,h]⟩
 ·have hb:1≤n.pl∧n.pl≤16:=by simpa [inB] using h
  have h3:=wch n.tr w5w [.pv (encN n) 0] rfl (fun _ _=>rfl) (fun t=>!goodT n.pl t) (fun x hx=>w8k n x hb (hn.2 x hx)) (by omega)
  simp (maxSteps:=2000000) (disch:=first|omega|(simp only[lenS];try omega)) only[go_sem,reduceAdd,reduceEqDiff,reduceLeDiff,reduceSub,h3]
  have:(n.tr.any fun t=>!goodT n.pl t) = !n.tr.all (goodT n.pl):=by rw[List.any_eq_not_all_not];simp
  have h4:n.tr.length≤24:=by omega
  simp only[this]
  simp [goodN,h,h4]
 ·have:¬n.tr.length≤24:=by omega
  simp [goodN,this]
theorem wcq(l:List Int)(x:Int)(hl:l.length<2^62):C w79 [ints l,I x] []=some (I (idxI l (fun y=>y == x)),[]):=by
 refine w1j ?_
 simp (maxSteps:=2000000) (disch:=first|omega|(simp only[lenS];try omega)) only[wb2,go_sem,reduceAdd,reduceEqDiff,reduceLeDiff,reduceSub]
 refine W_for l.length (fun k s=>s=⟨[ints l,I x,.any,.any,I l.length,I k,.any,.any],[]⟩∧(l.take k).any (fun y=>y == x)=false) ?_ ?_ ?_
 ·simp (maxSteps:=2000000) (disch:=first|omega|(simp only[lenS];try omega)) only[go_sem,reduceAdd,reduceEqDiff,reduceLeDiff,reduceSub]
  rfl
 ·rintro k s hk ⟨rfl,hall⟩
  simp (maxSteps:=2000000) (disch:=first|omega|(simp only[lenS];try omega)) only[go_sem,reduceAdd,reduceEqDiff,reduceLeDiff,reduceSub]
  refine⟨fun h=>?_,fun h=>⟨rfl,z3e hk hall (by simpa using fun e=>h e.symm)⟩⟩
  rw[zl4 hk hall (by simpa using h.symm)]
 ·rintro s ⟨rfl,hall⟩
  simp (maxSteps:=2000000) (disch:=first|omega|(simp only[lenS];try omega)) only[go_sem,reduceAdd,reduceEqDiff,reduceLeDiff,reduceSub]
  rw[List.take_length] at hall
  rw[zl3 hall]
theorem wcj(l:List Int)(x:Int)(hl:l.length<2^62):C w72 [ints l,I x] []=some (.bool (hasB l x),[]):=by
 refine w1c ?_
 simp (maxSteps:=2000000) (disch:=first|omega|(simp only[lenS];try omega)) only[wau,go_sem,reduceAdd,reduceEqDiff,reduceLeDiff,reduceSub]
 simp (maxSteps:=2000000) (disch:=first|omega|(simp only[lenS];try omega)) only[go_sem,reduceAdd,reduceEqDiff,reduceLeDiff,reduceSub,wcq l x hl]
 have:=zl0 l (fun y=>y == x)
 rw[zkm,this]
 exact⟨fun h=>by simp [h],fun h=>by rw[decide_eq_false (by omega)]⟩
theorem w9a(x:Int)(P:List Bool)(h:0≤x∧x.toNat<P.length):C w6m [I x,.pv (.agg [bls P]) 0] []=some (.bool (P.getD x.toNat false),[]):=by
 obtain⟨h1,h2⟩:=h
 refine w0y ?_
 simp (maxSteps:=2000000) (disch:=first|omega|(simp only[lenS];try omega)) only[wae,go_sem,reduceAdd,reduceEqDiff,reduceLeDiff,reduceSub]
 rw[zj5 h2]
 grind
theorem wcn(l:List Int)(g:FuncId)(caps:List PV)(hc:refsL caps=[])(hcv : ∀ m h,z1gv [] m h caps=some caps)(p:Int→Bool)(hp : ∀ x∈l,C g (I x :: caps) []=some (.bool (p x),[]))(hl:l.length<2^62) :
  C w76 [ints l,.clo g caps] []=some (I (idxI l p),[]):=by
 refine w1g ?_
 simp (maxSteps:=2000000) (disch:=first|omega|(simp only[lenS];try omega)) only[waz,go_sem,reduceAdd,reduceEqDiff,reduceLeDiff,reduceSub]
 refine W_for l.length (fun k s=>s=⟨[ints l,.clo g caps,.any,.any,I l.length,I k,.any,.any],[]⟩∧(l.take k).any p=false) ?_ ?_ ?_
 ·simp (maxSteps:=2000000) (disch:=first|omega|(simp only[lenS];try omega)) only[go_sem,reduceAdd,reduceEqDiff,reduceLeDiff,reduceSub,hc]
  rfl
 ·rintro k s hk ⟨rfl,hall⟩
  simp (maxSteps:=2000000) (disch:=first|omega|(simp only[lenS];try omega)) only[go_sem,reduceAdd,reduceEqDiff,reduceLeDiff,reduceSub,hc,hcv,hp _ (List.getElem_mem hk)]
  exact⟨fun h=>by rw[zl4 hk hall h],fun h=>⟨rfl,z3e hk hall h⟩⟩
 ·rintro s ⟨rfl,hall⟩
  simp (maxSteps:=2000000) (disch:=first|omega|(simp only[lenS];try omega)) only[go_sem,reduceAdd,reduceEqDiff,reduceLeDiff,reduceSub]
  rw[List.take_length] at hall
  rw[zl3 hall]
theorem wci(l:List Int)(g:FuncId)(caps:List PV)(hc:refsL caps=[])(hcv : ∀ m h,z1gv [] m h caps=some caps)(p:Int→Bool)(hp : ∀ x∈l,C g (I x :: caps) []=some (.bool (p x),[]))(hl:l.length<2^62) :
  C w71 [ints l,.clo g caps] []=some (.bool (l.any p),[]):=by
 refine w1b ?_
 simp (maxSteps:=2000000) (disch:=first|omega|(simp only[lenS];try omega)) only[wat,go_sem,reduceAdd,reduceEqDiff,reduceLeDiff,reduceSub]
 simp (maxSteps:=2000000) (disch:=first|omega|(simp only[lenS];try omega)) only[go_sem,reduceAdd,reduceEqDiff,reduceLeDiff,reduceSub,hc,hcv,wcn l g caps hc hcv p hp hl]
 have:=zl0 l p
 grind
theorem w9b(n:Net)(p:Int)(hg:goodN n=true)(hp:0≤p∧p<n.pl):C w6l [encN n,I p,.bool false] []=some (.tup [.un wdz true 1 ((z13q n false p).pl.map PV.bool),.un wdz true 1 ((z13q n false p).tr.map PV.bool)],[]):=by
  have hb:=zjy hg
  have hlen:=z13t n false p
  rw[z13r] at hlen ⊢
  refine w0x ?_
  simp (maxSteps:=2000000) (disch:=first|omega|(simp only[lenS];try omega)) only[wad,go_sem,reduceAdd,reduceEqDiff,reduceLeDiff,reduceSub]
  simp (maxSteps:=2000000) (disch:=first|omega|(simp only[lenS];try omega)) only[go_sem,reduceAdd,reduceEqDiff,reduceLeDiff,reduceSub,List.getElem_replicate]
  generalize hR:clRun n false (cntF (List.replicate n.tr.length false)+1) ⟨(List.replicate n.pl.toNat false).set p.toNat true,List.replicate n.tr.length false,true⟩=R at *
  refine⟨rfl,?_⟩
  refine z1a (fun k s=>∃ c:Cl,c.pl.length=n.pl.toNat∧c.tr.length=n.tr.length∧((k=cntF c.tr+1∧s=⟨[.any,.any,.bool false,.ptr 0 0,.any,.any,.ptr 1 0,.ref 2 1 0 n.tr.length,.bool true,.any,.any,.any,.any,.any,.any,.any,.any,.any,.any,.any,.any,.any,.any,.any,.any],[.box we2 [I n.pl,trs n.tr],.box we6 [.ref 3 1 0 n.pl.toNat],.row wdz true 1 (c.tr.map PV.bool),.row wdz true 1 (c.pl.map PV.bool)]⟩∧clRun n false (cntF c.tr+1) c=R)∨(k=0∧s=⟨[.any,.any,.bool false,.ptr 0 0,.any,.any,.ptr 1 0,.ref 2 1 0 n.tr.length,.bool false,.any,.any,.any,.any,.any,.any,.any,.any,.any,.any,.any,.any,.any,.any,.any,.any],[.box we2 [I n.pl,trs n.tr],.box we6 [.ref 3 1 0 n.pl.toNat],.row wdz true 1 (c.tr.map PV.bool),.row wdz true 1 (c.pl.map PV.bool)]⟩∧c=R))) (cntF (List.replicate n.tr.length false)+1) ?_ ?_
  · refine⟨⟨(List.replicate n.pl.toNat false).set p.toNat true,List.replicate n.tr.length false,true⟩,by simp,by simp,.inl ⟨rfl,?_,hR⟩⟩
    simp (maxSteps:=2000000) (disch:=first|omega|(simp only[lenS];try omega)) only[go_sem,reduceAdd,reduceEqDiff,reduceLeDiff,reduceSub]
    simp
  · rintro k0 s ⟨c,hc1,hc2,⟨rfl,rfl,hc⟩ | ⟨rfl,rfl,rfl⟩⟩
    · have hcl:=fun k=>z9z n false c k
      simp (maxSteps:=2000000) (disch:=first|omega|(simp only[lenS];try omega)) only[go_sem,reduceAdd,reduceEqDiff,reduceLeDiff,reduceSub]
      refine W_for n.tr.length (fun k s=>s=⟨[.any,.any,.bool false,.ptr 0 0,.any,.any,.ptr 1 0,.ref 2 1 0 n.tr.length,.bool (clK n false c k).ch,.any,.any,.any,.any,.any,.any,trs n.tr,I n.tr.length,I k,.any,.any,.any,.any,.any,.any,.any],[.box we2 [I n.pl,trs n.tr],.box we6 [.ref 3 1 0 n.pl.toNat],.row wdz true 1 ((clK n false c k).tr.map PV.bool),.row wdz true 1 ((clK n false c k).pl.map PV.bool)]⟩) ?_ ?_ ?_
      · simp (maxSteps:=2000000) (disch:=first|omega|(simp only[lenS];try omega)) only[go_sem,reduceAdd,reduceEqDiff,reduceLeDiff,reduceSub]
        rfl
      · rintro k s hk rfl
        have hT:=hb.2.2.2 _ (List.getElem_mem hk)
        have hLs:=zk4 hT (by omega)
        obtain⟨_,g1,g2,g3⟩:=zk8 hT
        have p1:=z11p g1
        have p2:=z11p g2
        have hd:=hcl k
        have hstep:=za1 n false c k
        have htr:n.tr[k]=trN n k:=(z1fx hk).symm
        rw[htr] at hLs p1 p2
        have s1:(clK n false c k).tr.getD k false=true→clK n false c (k+1)=clK n false c k:=fun h=>hstep.trans (zab (.inl h))
        have s2:hitB (clK n false c k).pl (sideI false (trN n k))=false→clK n false c (k+1)=clK n false c k:=fun h=>hstep.trans (zab (.inr h))
        have s3:(clK n false c k).tr.getD k false=false→hitB (clK n false c k).pl (sideI false (trN n k))=true→clK n false c (k+1)=⟨markB (clK n false c k).pl (sideO false (trN n k)),(clK n false c k).tr.set k true,true⟩:=fun h h2=>hstep.trans (zac h h2)
        simp only[sideI,sideO,Bool.false_eq_true,if_false,if_true] at s2 s3
        clear hstep
        generalize clK n false c k=d at *
        generalize clK n false c (k+1)=d' at *
        have hcont:=wci (trN n k).inn w6m [.pv (.agg [bls d.pl]) 0] rfl (fun _ _=>rfl) (fun q=>d.pl.getD q.toNat false) (fun x hx=>w9a x d.pl (by have:=p1 x hx;omega)) (by omega)
        rw[show((trN n k).inn.any fun q=>d.pl.getD q.toNat false)=hitB d.pl (trN n k).inn from rfl] at hcont
        have hkd:k<d.tr.length:=by omega
        simp (maxSteps:=2000000) (disch:=first|omega|(simp only[lenS];try omega)) only[go_sem,reduceAdd,reduceEqDiff,reduceLeDiff,reduceSub,htr,hcont]
        generalize trN n k=tr at *
        refine⟨fun h3=>?_,fun h3=>⟨fun h=>?_,fun h=>?_⟩⟩
        · rw[s1 (by rw[←zj5 hkd];exact h3)];rfl
        · have e:=s3 (by rw[←zj5 hkd];exact h3) h
          subst e
          refine W_for tr.out.length (fun j s=>s=⟨[.any,.any,.bool false,.ptr 0 0,.any,.any,.ptr 1 0,.ref 2 1 0 n.tr.length,.bool true,.any,.any,.any,.any,.any,.any,trs n.tr,I n.tr.length,I k,.any,.any,.any,ints tr.out,I tr.out.length,I j,.any],[.box we2 [I n.pl,trs n.tr],.box we6 [.ref 3 1 0 n.pl.toNat],.row wdz true 1 ((d.tr.set k true).map PV.bool),.row wdz true 1 ((markB d.pl (tr.out.take j)).map PV.bool)]⟩) ?_ ?_ ?_
          · simp (maxSteps:=2000000) (disch:=first|omega|(simp only[lenS];try omega)) only[go_sem,reduceAdd,reduceEqDiff,reduceLeDiff,reduceSub]
            rfl
          · rintro j s hj rfl
            have h1:=p2 _ (List.getElem_mem hj)
            have h2:tr.out[j].toNat<d.pl.length:=by omega
            have h4:=zsl d.pl (tr.out.take j)
            simp (maxSteps:=2000000) (disch:=first|omega|(simp only[lenS];try omega)) only[go_sem,reduceAdd,reduceEqDiff,reduceLeDiff,reduceSub]
            rw[zsm hj];rfl
          · rintro s rfl
            simp (maxSteps:=2000000) (disch:=first|omega|(simp only[lenS];try omega)) only[go_sem,reduceAdd,reduceEqDiff,reduceLeDiff,reduceSub,List.take_length]
            rfl
        · rw[s2 h];rfl
      · rintro s rfl
        simp (maxSteps:=2000000) (disch:=first|omega|(simp only[lenS];try omega)) only[go_sem,reduceAdd,reduceEqDiff,reduceLeDiff,reduceSub]
        have hn:=za7 (n:=n) (bk:=false) hc2
        rw[hc] at hn
        cases e:(za2 n false c).ch with
        | true =>
          have h1:=(z9y (n:=n) (bk:=false) (s:=c) (k:=n.tr.length) (by omega)).2 e
          simp only[e,if_true] at hn
          refine⟨cntF (za2 n false c).tr+1,by unfold za2;omega,za2 n false c,by unfold za2;have:=hcl n.tr.length;omega,by unfold za2;have:=hcl n.tr.length;omega,.inl ⟨rfl,?_,hn.symm⟩⟩
          unfold za2 at e ⊢
          rw[e]
        | false =>
          simp only[e,Bool.false_eq_true,if_false] at hn
          refine⟨0,by omega,za2 n false c,by unfold za2;have:=hcl n.tr.length;omega,by unfold za2;have:=hcl n.tr.length;omega,.inr ⟨rfl,?_,hn.symm⟩⟩
          unfold za2 at e ⊢
          rw[e]
    · simp (maxSteps:=2000000) (disch:=first|omega|(simp only[lenS];try omega)) only[go_sem,reduceAdd,reduceEqDiff,reduceLeDiff,reduceSub]
theorem w9c(n:Net)(p:Int)(hg:goodN n=true)(hp:0≤p∧p<n.pl):C w6l [encN n,I p,.bool true] []=some (.tup [.un wdz true 1 ((z13q n true p).pl.map PV.bool),.un wdz true 1 ((z13q n true p).tr.map PV.bool)],[]):=by
  have hb:=zjy hg
  have hlen:=z13t n true p
  rw[z13r] at hlen ⊢
  refine w0x ?_
  simp (maxSteps:=2000000) (disch:=first|omega|(simp only[lenS];try omega)) only[wad,go_sem,reduceAdd,reduceEqDiff,reduceLeDiff,reduceSub]
  simp (maxSteps:=2000000) (disch:=first|omega|(simp only[lenS];try omega)) only[go_sem,reduceAdd,reduceEqDiff,reduceLeDiff,reduceSub,List.getElem_replicate]
  generalize hR:clRun n true (cntF (List.replicate n.tr.length false)+1) ⟨(List.replicate n.pl.toNat false).set p.toNat true,List.replicate n.tr.length false,true⟩=R at *
  refine⟨rfl,?_⟩
  refine z1a (fun k s=>∃ c:Cl,c.pl.length=n.pl.toNat∧c.tr.length=n.tr.length∧((k=cntF c.tr+1∧s=⟨[.any,.any,.bool true,.ptr 0 0,.any,.any,.ptr 1 0,.ref 2 1 0 n.tr.length,.bool true,.any,.any,.any,.any,.any,.any,.any,.any,.any,.any,.any,.any,.any,.any,.any,.any],[.box we2 [I n.pl,trs n.tr],.box we6 [.ref 3 1 0 n.pl.toNat],.row wdz true 1 (c.tr.map PV.bool),.row wdz true 1 (c.pl.map PV.bool)]⟩∧clRun n true (cntF c.tr+1) c=R)∨(k=0∧s=⟨[.any,.any,.bool true,.ptr 0 0,.any,.any,.ptr 1 0,.ref 2 1 0 n.tr.length,.bool false,.any,.any,.any,.any,.any,.any,.any,.any,.any,.any,.any,.any,.any,.any,.any,.any],[.box we2 [I n.pl,trs n.tr],.box we6 [.ref 3 1 0 n.pl.toNat],.row wdz true 1 (c.tr.map PV.bool),.row wdz true 1 (c.pl.map PV.bool)]⟩∧c=R))) (cntF (List.replicate n.tr.length false)+1) ?_ ?_
  · refine⟨⟨(List.replicate n.pl.toNat false).set p.toNat true,List.replicate n.tr.length false,true⟩,by simp,by simp,.inl ⟨rfl,?_,hR⟩⟩
    simp (maxSteps:=2000000) (disch:=first|omega|(simp only[lenS];try omega)) only[go_sem,reduceAdd,reduceEqDiff,reduceLeDiff,reduceSub]
    simp
  · rintro k0 s ⟨c,hc1,hc2,⟨rfl,rfl,hc⟩ | ⟨rfl,rfl,rfl⟩⟩
    · have hcl:=fun k=>z9z n true c k
      simp (maxSteps:=2000000) (disch:=first|omega|(simp only[lenS];try omega)) only[go_sem,reduceAdd,reduceEqDiff,reduceLeDiff,reduceSub]
      refine W_for n.tr.length (fun k s=>s=⟨[.any,.any,.bool true,.ptr 0 0,.any,.any,.ptr 1 0,.ref 2 1 0 n.tr.length,.bool (clK n true c k).ch,.any,.any,.any,.any,.any,.any,trs n.tr,I n.tr.length,I k,.any,.any,.any,.any,.any,.any,.any],[.box we2 [I n.pl,trs n.tr],.box we6 [.ref 3 1 0 n.pl.toNat],.row wdz true 1 ((clK n true c k).tr.map PV.bool),.row wdz true 1 ((clK n true c k).pl.map PV.bool)]⟩) ?_ ?_ ?_
      · simp (maxSteps:=2000000) (disch:=first|omega|(simp only[lenS];try omega)) only[go_sem,reduceAdd,reduceEqDiff,reduceLeDiff,reduceSub]
        rfl
      · rintro k s hk rfl
        have hT:=hb.2.2.2 _ (List.getElem_mem hk)
        have hLs:=zk4 hT (by omega)
        obtain⟨_,g1,g2,g3⟩:=zk8 hT
        have p1:=z11p g2
        have p2:=z11p g1
        have hd:=hcl k
        have hstep:=za1 n true c k
        have htr:n.tr[k]=trN n k:=(z1fx hk).symm
        rw[htr] at hLs p1 p2
        have s1:(clK n true c k).tr.getD k false=true→clK n true c (k+1)=clK n true c k:=fun h=>hstep.trans (zab (.inl h))
        have s2:hitB (clK n true c k).pl (sideI true (trN n k))=false→clK n true c (k+1)=clK n true c k:=fun h=>hstep.trans (zab (.inr h))
        have s3:(clK n true c k).tr.getD k false=false→hitB (clK n true c k).pl (sideI true (trN n k))=true→clK n true c (k+1)=⟨markB (clK n true c k).pl (sideO true (trN n k)),(clK n true c k).tr.set k true,true⟩:=fun h h2=>hstep.trans (zac h h2)
        simp only[sideI,sideO,Bool.false_eq_true,if_false,if_true] at s2 s3
        clear hstep
        generalize clK n true c k=d at *
        generalize clK n true c (k+1)=d' at *
        have hcont:=wci (trN n k).out w6m [.pv (.agg [bls d.pl]) 0] rfl (fun _ _=>rfl) (fun q=>d.pl.getD q.toNat false) (fun x hx=>w9a x d.pl (by have:=p1 x hx;omega)) (by omega)
        rw[show((trN n k).out.any fun q=>d.pl.getD q.toNat false)=hitB d.pl (trN n k).out from rfl] at hcont
        have hkd:k<d.tr.length:=by omega
        simp (maxSteps:=2000000) (disch:=first|omega|(simp only[lenS];try omega)) only[go_sem,reduceAdd,reduceEqDiff,reduceLeDiff,reduceSub,htr,hcont]
        generalize trN n k=tr at *
        refine⟨fun h3=>?_,fun h3=>⟨fun h=>?_,fun h=>?_⟩⟩
        · rw[s1 (by rw[←zj5 hkd];exact h3)];rfl
        · have e:=s3 (by rw[←zj5 hkd];exact h3) h
          subst e
          refine W_for tr.inn.length (fun j s=>s=⟨[.any,.any,.bool true,.ptr 0 0,.any,.any,.ptr 1 0,.ref 2 1 0 n.tr.length,.bool true,.any,.any,.any,.any,.any,.any,trs n.tr,I n.tr.length,I k,.any,.any,.any,ints tr.inn,I tr.inn.length,I j,.any],[.box we2 [I n.pl,trs n.tr],.box we6 [.ref 3 1 0 n.pl.toNat],.row wdz true 1 ((d.tr.set k true).map PV.bool),.row wdz true 1 ((markB d.pl (tr.inn.take j)).map PV.bool)]⟩) ?_ ?_ ?_
          · simp (maxSteps:=2000000) (disch:=first|omega|(simp only[lenS];try omega)) only[go_sem,reduceAdd,reduceEqDiff,reduceLeDiff,reduceSub]
            rfl
          · rintro j s hj rfl
            have h1:=p2 _ (List.getElem_mem hj)
            have h2:tr.inn[j].toNat<d.pl.length:=by omega
            have h4:=zsl d.pl (tr.inn.take j)
            simp (maxSteps:=2000000) (disch:=first|omega|(simp only[lenS];try omega)) only[go_sem,reduceAdd,reduceEqDiff,reduceLeDiff,reduceSub]
            rw[zsm hj];rfl
          · rintro s rfl
            simp (maxSteps:=2000000) (disch:=first|omega|(simp only[lenS];try omega)) only[go_sem,reduceAdd,reduceEqDiff,reduceLeDiff,reduceSub,List.take_length]
            rfl
        · rw[s2 h];rfl
      · rintro s rfl
        simp (maxSteps:=2000000) (disch:=first|omega|(simp only[lenS];try omega)) only[go_sem,reduceAdd,reduceEqDiff,reduceLeDiff,reduceSub]
        have hn:=za7 (n:=n) (bk:=true) hc2
        rw[hc] at hn
        cases e:(za2 n true c).ch with
        | true =>
          have h1:=(z9y (n:=n) (bk:=true) (s:=c) (k:=n.tr.length) (by omega)).2 e
          simp only[e,if_true] at hn
          refine⟨cntF (za2 n true c).tr+1,by unfold za2;omega,za2 n true c,by unfold za2;have:=hcl n.tr.length;omega,by unfold za2;have:=hcl n.tr.length;omega,.inl ⟨rfl,?_,hn.symm⟩⟩
          unfold za2 at e ⊢
          rw[e]
        | false =>
          simp only[e,Bool.false_eq_true,if_false] at hn
          refine⟨0,by omega,za2 n true c,by unfold za2;have:=hcl n.tr.length;omega,by unfold za2;have:=hcl n.tr.length;omega,.inr ⟨rfl,?_,hn.symm⟩⟩
          unfold za2 at e ⊢
          rw[e]
    · simp (maxSteps:=2000000) (disch:=first|omega|(simp only[lenS];try omega)) only[go_sem,reduceAdd,reduceEqDiff,reduceLeDiff,reduceSub]
theorem w8v(a b:List Bool)(ha:a.length<2^30)(hab:a.length≤b.length):C w66 [bls a,bls b] []=some (.un t_int true 1 ((bothL a b).map I),[]):=by
 refine w0i ?_
 simp (maxSteps:=2000000) (disch:=first|omega|(simp only[lenS];try omega)) only[w9y,go_sem,reduceAdd,reduceEqDiff,reduceLeDiff,reduceSub]
 refine W_for a.length (fun k s=>s=⟨[.any,bls b,.any,.ref 0 1 0 (bothK a b k).length,.any,.any,bls a,I a.length,I k,.any,.any],[.row t_int true 1 ((bothK a b k).map I)]⟩) ?_ ?_ ?_
 ·simp (maxSteps:=2000000) (disch:=first|omega|(simp only[lenS];try omega)) only[go_sem,reduceAdd,reduceEqDiff,reduceLeDiff,reduceSub]
  rfl
 ·rintro k s hk rfl
  have h2:=z76 a b k
  have hkb:k<b.length:=by omega
  have e1:=zj5 hk
  have e2:=zj5 hkb
  simp (maxSteps:=2000000) (disch:=first|omega|(simp only[lenS];try omega)) only[go_sem,reduceAdd,reduceEqDiff,reduceLeDiff,reduceSub]
  rw[e1,e2]
  refine⟨fun h=>⟨fun h3=>?_,fun h3=>?_⟩,fun h=>?_⟩
  ·rw[z77 h h3,List.map_append];simp
  ·rw[z75 (by rw[h,h3];rfl)];rfl
  ·rw[z75 (by rw[h];rfl)];rfl
 ·rintro s rfl
  simp (maxSteps:=2000000) (disch:=first|omega|(simp only[lenS];try omega)) only[go_sem,reduceAdd,reduceEqDiff,reduceLeDiff,reduceSub]
  rfl
theorem w99(n:Net)(a b:Int)(hg:goodN n=true)(ha:0≤a∧a<n.pl)(hb2:0≤b∧b<n.pl):C w6k [encN n,I a,I b] []=some (.tup [.un t_int true 1 ((wayP n a b).map I),.un t_int true 1 ((wayT n a b).map I)],[]):=by
 have hb:=zjy hg
 have l1:=z13t n false a
 have l2:=z13t n true b
 refine w0w ?_
 simp (maxSteps:=2000000) (disch:=first|omega|(simp only[lenS];try omega)) only[wac,go_sem,reduceAdd,reduceEqDiff,reduceLeDiff,reduceSub]
 simp (maxSteps:=2000000) (disch:=first|omega|(simp only[lenS];try omega)) only[go_sem,reduceAdd,reduceEqDiff,reduceLeDiff,reduceSub,w9b n a hg ha,w9c n b hg hb2]
 simp (maxSteps:=2000000) (disch:=first|omega|(simp only[lenS];try omega)) only[go_sem,reduceAdd,reduceEqDiff,reduceLeDiff,reduceSub,w8v (z13q n false a).pl (z13q n true b).pl (by omega) (by omega),w8v (z13q n false a).tr (z13q n true b).tr (by omega) (by omega)]
 rfl
theorem w8j(f:Fl)(hf:smN f.net):C w5u [encF f] []=some (.bool (zji f),[]):=by
  have hl:=hf.1
  refine w06 ?_
  simp (maxSteps:=2000000) (disch:=first|omega|(simp only[lenS];try omega)) only[w9m,go_sem,reduceAdd,reduceEqDiff,reduceLeDiff,reduceSub]
  simp (maxSteps:=2000000) (disch:=first|omega|(simp only[lenS];try omega)) only[go_sem,reduceAdd,reduceEqDiff,reduceLeDiff,reduceSub,w8l f.net hf,w9f]
  cases hg:goodN f.net with
  | false=>simp [zji,okWay,hg]
  | true =>
    have hb:=zjy hg
    cases h1:inB 0 (f.net.pl-1) f.src with
    | false=>simp (maxSteps:=2000000) (disch:=first|omega|(simp only[lenS];try omega)) only[go_sem,reduceAdd,reduceEqDiff,reduceLeDiff,reduceSub,h1];simp [zji,okWay,hg,h1]
    | true =>
      cases h2:inB 0 (f.net.pl-1) f.dst with
      | false=>simp (maxSteps:=2000000) (disch:=first|omega|(simp only[lenS];try omega)) only[go_sem,reduceAdd,reduceEqDiff,reduceLeDiff,reduceSub,h1,h2];simp [zji,okWay,hg,h1,h2]
      | true =>
        have hok:okWay f.net f.src f.dst=true:=by simp [okWay,hg,h1,h2]
        have ha:0≤f.src∧f.src<f.net.pl:=by simp [inB] at h1;omega
        have hb2:0≤f.dst∧f.dst<f.net.pl:=by simp [inB] at h2;omega
        have hP:(wayP f.net f.src f.dst).length<2^62:=by
          have h1:=z76 (z13q f.net false f.src).pl (z13q f.net true f.dst).pl (z13q f.net false f.src).pl.length
          have h2:=z13t f.net false f.src
          unfold wayP bothL;omega
        have hT:(wayT f.net f.src f.dst).length<2^62:=by
          have h1:=z76 (z13q f.net false f.src).tr (z13q f.net true f.dst).tr (z13q f.net false f.src).tr.length
          have h2:=z13t f.net false f.src
          unfold wayT bothL;omega
        simp (maxSteps:=2000000) (disch:=first|omega|(simp only[lenS];try omega)) only[go_sem,reduceAdd,reduceEqDiff,reduceLeDiff,reduceSub,h1,h2]
        refine⟨fun h=>by simp [zji,h],fun hne=>?_⟩
        refine W_for f.net.tr.length (fun k s=>s=⟨[.any,.ptr 0 0,.any,.ptr 1 0,.any,.any,.any,.any,trs f.net.tr,I f.net.tr.length,I k,.any,.any],[.box we1 [I f.net.pl,trs f.net.tr,I f.src,I f.dst],.box we2 [I f.net.pl,trs f.net.tr]]⟩∧(f.net.tr.take k).all (fun t=>!z1cj f t)=true) ?_ ?_ ?_
        · simp (maxSteps:=2000000) (disch:=first|omega|(simp only[lenS];try omega)) only[go_sem,reduceAdd,reduceEqDiff,reduceLeDiff,reduceSub]
          rfl
        · rintro k s hk ⟨rfl,hall⟩
          have hT:=hb.2.2.2 _ (List.getElem_mem hk)
          have hLs:=zk4 hT (by omega)
          simp (maxSteps:=2000000) (disch:=first|omega|(simp only[lenS];try omega)) only[go_sem,reduceAdd,reduceEqDiff,reduceLeDiff,reduceSub,wcj]
          have gs:z1cj f f.net.tr[k]=true→zji f=false:=fun hs=>by
            have:(f.net.tr.all fun t=>!z1cj f t)=false:=z2y hk (by simp [hs])
            simp [zji,this]
          exact⟨fun a=>by rw[gs (by simp [z1cj,a])],fun a=>⟨fun b=>by rw[gs (by simp [z1cj,b])],fun b=>⟨fun c=>by rw[gs (by simp [z1cj,c])],fun c=>⟨fun d=>by rw[gs (by simp [z1cj,d])],fun d=>⟨rfl,z2z hk hall (by simp [z1cj,a,b,c,d])⟩⟩⟩⟩⟩
        · rintro s ⟨rfl,hall⟩
          rw[List.take_length] at hall
          simp (maxSteps:=2000000) (disch:=first|omega|(simp only[lenS];try omega)) only[go_sem,reduceAdd,reduceEqDiff,reduceLeDiff,reduceSub,w99 f.net f.src f.dst hg ha hb2]
          have e:zji f=(decide (((wayP f.net f.src f.dst).length:Int)=f.net.pl)&&decide ((wayT f.net f.src f.dst).length=f.net.tr.length)):=by
            simp only[zji,hok,hne,hall,decide_false,Bool.not_false,Bool.true_and]
          refine⟨fun q1=>⟨fun q2=>?_,fun q2=>?_⟩,fun q1=>?_⟩
          · rw[e,decide_eq_true q1,decide_eq_true (by omega)];rfl
          · rw[e,decide_eq_true q1,decide_eq_false (by omega)];rfl
          · rw[e,decide_eq_false q1];rfl
theorem w8e(a b:Fl)(p:Int)(ha:0≤a.net.pl∧a.net.pl≤100)(hp:0≤p∧p≤100)(hb:0≤b.src∧b.src≤100):C w5r [I p,.pv (.agg [I b.net.pl,trs b.net.tr,I b.src,I b.dst]) 0,.pv (.agg [I a.net.pl,trs a.net.tr,I a.src,I a.dst]) 0] []=some (I (chP a b p),[]):=by
 refine w03 ?_
 simp (maxSteps:=2000000) (disch:=first|omega|(simp only[lenS];try omega)) only[w9j,go_sem,reduceAdd,reduceEqDiff,reduceLeDiff,reduceSub]
 unfold chP
 grind
theorem wcb : ∀ k:Fin 256,(⟨#[0,1,2,2,3,3,3,3,4,4,4,4,4,4,4,4,5,5,5,5,5,5,5,5,5,5,5,5,5,5,5,5,6,6,6,6,6,6,6,6,6,6,6,6,6,6,6,6,6,6,6,6,6,6,6,6,6,6,6,6,6,6,6,6,7,7,7,7,7,7,7,7,7,7,7,7,7,7,7,7,7,7,7,7,7,7,7,7,7,7,7,7,7,7,7,7,7,7,7,7,7,7,7,7,7,7,7,7,7,7,7,7,7,7,7,7,7,7,7,7,7,7,7,7,7,7,7,7,8,8,8,8,8,8,8,8,8,8,8,8,8,8,8,8,8,8,8,8,8,8,8,8,8,8,8,8,8,8,8,8,8,8,8,8,8,8,8,8,8,8,8,8,8,8,8,8,8,8,8,8,8,8,8,8,8,8,8,8,8,8,8,8,8,8,8,8,8,8,8,8,8,8,8,8,8,8,8,8,8,8,8,8,8,8,8,8,8,8,8,8,8,8,8,8,8,8,8,8,8,8,8,8,8,8,8,8,8,8,8,8,8,8,8,8,8,8,8,8,8,8,8,8,8,8,8,8]⟩:ByteArray)[k.val]? = some (UInt8.ofNat (Sort.bitsLen k.val)):=by decide +kernel
theorem wcc : ∀ k:Fin 256,(UInt8.ofNat (Sort.bitsLen k.val)).toNat=Sort.bitsLen k.val∧Sort.bitsLen k.val≤8:=by decide +kernel
theorem wcd(n:Nat)(hn:n<65536):C w6x [.int .u64 n] []=some (I (Sort.bitsLen n),[]):=by
 refine w18 ?_
 simp (maxSteps:=2000000) (disch:=first|omega|(simp only[lenS];try omega)) only[wap,go_sem,reduceAdd,reduceEqDiff,reduceLeDiff,reduceSub]
 by_cases h:(256:Int)≤n
 ·have e1:=wcb ⟨n / 256,by omega⟩
  have e2:=wcc ⟨n / 256,by omega⟩
  have e3:=z6v (n:=n) (by omega)
  simp only at e1 e2
  have hd:(n:Int) / 2 ^ min (Int.toNat 8) 64=((n / 256:Nat):Int):=by show(n:Int) / 256=_;omega
  have e4:(IntKind.u8.wrap ((n / 256:Nat):Int)).toNat=n / 256:=by rw[IntKind.wrap_u8];omega
  have h2:¬(n:Int)<256:=by omega
  rw[e3]
  generalize Sort.bitsLen (n / 256)=z at *
  simp (maxSteps:=2000000) (disch:=first|omega|(simp only[lenS];try omega)) only[go_sem,reduceAdd,reduceEqDiff,reduceLeDiff,reduceSub,h,h2,e1,hd,e4,e2.1,false_implies,and_true]
  rw[show((8+z:Nat):Int)=0+8+(z:Int) by omega]
 ·have e1:=wcb ⟨n,by omega⟩
  have e2:=wcc ⟨n,by omega⟩
  simp only at e1 e2
  have e4:(IntKind.u8.wrap (n:Int)).toNat=n:=by rw[IntKind.wrap_u8];omega
  have h2:(n:Int)<256:=by omega
  generalize Sort.bitsLen n=z at *
  simp (maxSteps:=2000000) (disch:=first|omega|(simp only[lenS];try omega)) only[go_sem,reduceAdd,reduceEqDiff,reduceLeDiff,reduceSub,h,h2,e1,e4,e2.1,false_implies,true_and,forall_const]
  rw[show(0:Int)+(z:Int)=z by omega]
theorem wce(n:Nat)(hn:n<65536):C w6v [.int .u64 n] []=some (I (Sort.bitsLen n),[]):=by
 have h:=wcd n hn
 refine w17 ?_
 simp (maxSteps:=2000000) (disch:=first|omega|(simp only[lenS];try omega)) only[wan,go_sem,reduceAdd,reduceEqDiff,reduceLeDiff,reduceSub]
 simp (maxSteps:=2000000) (disch:=first|omega|(simp only[lenS];try omega)) only[go_sem,reduceAdd,reduceEqDiff,reduceLeDiff,reduceSub,h]
theorem w5i(x:Int):C w5p [I x] []=some (.bool false,[]):=by
 refine w01 ?_
 simp (maxSteps:=2000000) (disch:=first|omega|(simp only[lenS];try omega)) only[w9h,go_sem,reduceAdd,reduceEqDiff,reduceLeDiff,reduceSub]
theorem w5h(x y:Int):C w5o [I x,I y] []=some (.bool (decide (x<y)),[]):=by
 refine w00 ?_
 simp (maxSteps:=2000000) (disch:=first|omega|(simp only[lenS];try omega)) only[w9g,go_sem,reduceAdd,reduceEqDiff,reduceLeDiff,reduceSub]
 simp (maxSteps:=2000000) (disch:=first|omega|(simp only[lenS];try omega)) only[go_sem,reduceAdd,reduceEqDiff,reduceLeDiff,reduceSub,w5i]
 exact⟨fun h=>by simp [h],fun h=>by rw[decide_eq_false (by omega)]⟩
theorem wcw{α:Type}[Inhabited α](g:α→Int)(cm:α→α→Int)(H : ∀ x y,C w5o [I (g x),I (g y)] []=some (.bool (decide (cm x y<0)),[]))(t:TypeId)(d:Array α)(a b:Nat)(hab:a≤b)(hb:b≤d.size)(hs:d.size<2^40) :
  C w7f [.ref 0 1 0 d.size,I a,I b] (.row t true 1 (d.toList.map fun x=>I (g x)) :: [])=some (.tup [],.row t true 1 ((Sort.insertionSort (ltC cm) d a b).toList.map fun x=>I (g x)) :: []):=by
 unfold Sort.insertionSort
 refine w1m ?_
 simp (maxSteps:=2000000) (disch:=first|omega|(simp only[lenS];try omega)) only[wb8,go_sem,reduceAdd,reduceEqDiff,reduceLeDiff,reduceSub]
 refine z1a (fun k s=>∃ (i:Nat) (D:Array α),a<i∧k=b+1-i∧i≤b+1∧D.size=d.size∧Sort.insOuter (ltC cm) a b i D=Sort.insOuter (ltC cm) a b (a+1) d∧s=⟨[.ref 0 1 0 d.size,I a,I b,I i,.any,.any,.any],.row t true 1 (D.toList.map fun x=>I (g x)) :: []⟩) (b-a) ?_ ?_
 ·simp (maxSteps:=2000000) (disch:=first|omega|(simp only[lenS];try omega)) only[go_sem,reduceAdd,reduceEqDiff,reduceLeDiff,reduceSub]
  exact⟨a+1,d,by omega,by omega,by omega,rfl,rfl,by simp⟩
 ·rintro k s ⟨i,D,h1,rfl,h2,h3,h4,rfl⟩
  simp (maxSteps:=2000000) (disch:=first|omega|(simp only[lenS];try omega)) only[go_sem,reduceAdd,reduceEqDiff,reduceLeDiff,reduceSub]
  refine⟨fun hi=>?_,fun hi=>?_⟩
  ·refine z1a (fun k s=>∃ (E:Array α),a≤k∧k≤i∧E.size=d.size∧Sort.insInner (ltC cm) a k E=Sort.insInner (ltC cm) a i D∧s=⟨[.ref 0 1 0 d.size,I a,I b,I i,I k,.any,.any],.row t true 1 (E.toList.map fun x=>I (g x)) :: []⟩) i ?_ ?_
   ·simp (maxSteps:=2000000) (disch:=first|omega|(simp only[lenS];try omega)) only[go_sem,reduceAdd,reduceEqDiff,reduceLeDiff,reduceSub]
    exact⟨D,by omega,h3,rfl,rfl⟩
   ·rintro k s ⟨E,k1,k2,k3,k4,rfl⟩
    have e0:=zng (ltC cm) (a:=a) (j:=k) E
    have e1:=znh (ltC cm) (a:=a) (j:=k) E
    have e2:=z18k E (i:=k) (by omega)
    have e3:=z18k E (i:=k-1) (by omega)
    have e4:=z18o (fun x=>I (g x)) E k (k-1)
    have e5:((k:Int)-1).toNat=k-1:=by omega
    have e6:(E.toList.map fun x=>I (g x)).length=d.size:=by simp [k3]
    have e7:E.toList.length=d.size:=by simp [k3]
    simp only[ltC] at e0 e1
    generalize E[k]! = x at *
    generalize E[k-1]! = y at *
    have hout:=znm (ltC cm) (a:=a) D (show i<b by omega)
    by_cases hak:(a:Int)<k
    ·by_cases hlt:cm x y<0
     ·simp (maxSteps:=2000000) (disch:=first|omega|(simp only[lenS];try omega)) only[go_sem,reduceAdd,reduceEqDiff,reduceLeDiff,reduceSub,H,e2,e3,e5,e7,hlt,List.getElem?_set_ne,List.getElem_set_ne,List.getElem_map]
      refine⟨k-1,by omega,Sort.swp E k (k-1),by omega,by omega,?_,?_,?_⟩
      ·rw[Sort.size_swp];exact k3
      ·rw[←k4,e1 (by omega) (by simp [hlt])]
      ·rw[e4,show((k:Int)-1)=((k-1:Nat):Int) by omega]
     ·simp (maxSteps:=2000000) (disch:=first|omega|(simp only[lenS];try omega)) only[go_sem,reduceAdd,reduceEqDiff,reduceLeDiff,reduceSub,H,e2,e3,e5,e7,hlt,List.getElem?_set_ne,List.getElem_set_ne,List.getElem_map]
      refine⟨b+1-(i+1),by omega,i+1,E,by omega,rfl,by omega,k3,?_,?_⟩
      ·rw[←h4,hout,←k4,e0 (.inr (by simp [hlt]))]
      ·rfl
    ·simp (maxSteps:=2000000) (disch:=first|omega|(simp only[lenS];try omega)) only[go_sem,reduceAdd,reduceEqDiff,reduceLeDiff,reduceSub]
     refine⟨b+1-(i+1),by omega,i+1,E,by omega,rfl,by omega,k3,?_,?_⟩
     ·rw[←h4,hout,←k4,e0 (.inl (by omega))]
     ·rfl
  ·rw[←h4,znl _ _ (by omega)]
theorem wd6{α:Type}[Inhabited α](g:α→Int)(cm:α→α→Int)(H : ∀ x y,C w5o [I (g x),I (g y)] []=some (.bool (decide (cm x y<0)),[]))(t:TypeId)(d:Array α)(lo hi f:Nat)(hlo:lo≤d.size)(hb:f+hi≤d.size)(hs:d.size<2^40) :
  C w7p [.ref 0 1 0 d.size,I lo,I hi,I f] (.row t true 1 (d.toList.map fun x=>I (g x)) :: [])=some (.tup [],.row t true 1 ((Sort.siftDown (ltC cm) hi f lo d).toList.map fun x=>I (g x)) :: []):=by
 refine w1r ?_
 simp (maxSteps:=2000000) (disch:=first|omega|(simp only[lenS];try omega)) only[wbi,go_sem,reduceAdd,reduceEqDiff,reduceLeDiff,reduceSub]
 refine z1a (fun k s=>∃ (r:Nat) (E:Array α),k=hi-r∧r≤d.size∧E.size=d.size∧Sort.siftDown (ltC cm) hi f r E=Sort.siftDown (ltC cm) hi f lo d∧s=⟨[.ref 0 1 0 d.size,.any,I hi,I f,I r,.any,.any,.any,.any],.row t true 1 (E.toList.map fun x=>I (g x)) :: []⟩) (hi-lo) ?_ ?_
 ·simp (maxSteps:=2000000) (disch:=first|omega|(simp only[lenS];try omega)) only[go_sem,reduceAdd,reduceEqDiff,reduceLeDiff,reduceSub]
  exact⟨lo,d,rfl,by omega,rfl,rfl,rfl⟩
 ·rintro k s ⟨r,E,rfl,k1,k3,k4,rfl⟩
  have e7:E.toList.length=d.size:=by simp [k3]
  obtain⟨c1,hc1⟩ : ∃ c:Nat,2*(r:Int)+1=c:=⟨2*r+1,by omega⟩
  obtain⟨c2,hc2⟩ : ∃ c:Nat,(c1:Int)+1=c:=⟨2*r+2,by omega⟩
  by_cases h1:(c1:Int)<hi
  ·obtain⟨p1,hp1⟩ : ∃ p:Nat,(f:Int)+(c1:Int)=p:=⟨f+c1,by omega⟩
   have z1:f+(2*r+1)=p1:=by omega
   have e2:=z18k E (i:=p1) (by omega)
   by_cases h2:(c2:Int)<hi
   ·obtain⟨p2,hp2⟩ : ∃ p:Nat,(f:Int)+(c2:Int)=p:=⟨f+c2,by omega⟩
    have hp3:(p1:Int)+1=p2:=by omega
    have z2:f+(2*r+2)=p2:=by omega
    have e3:=z18k E (i:=p2) (by omega)
    by_cases hlt:cm E[p1]! E[p2]! < 0
    ·have hcc:(c2=2*r+2∧2*r+2<hi∧ltC cm E[f+(2*r+1)]! E[f+(2*r+2)]! = true)∨(c2=2*r+1∧¬(2*r+2<hi∧ltC cm E[f+(2*r+1)]! E[f+(2*r+2)]! = true)):=.inl ⟨by omega,by omega,by rw[z1,z2];simpa [ltC] using hlt⟩
     generalize E[p1]! = a1 at *
     have hq:=hp2
     generalize c2=c at *
     generalize p2=q at *
     obtain⟨p,hp⟩ : ∃ p:Nat,(f:Int)+(r:Int)=p:=⟨f+r,by omega⟩
     have hs0:=z1ak (ltC cm) (f:=f) (c:=c) E (show 2*r+1<hi by omega) hcc
     have hs1:=z1ai (ltC cm) (f:=f) (c:=c) E (show 2*r+1<hi by omega) hcc
     have hcl:r<c∧c<hi:=by rcases hcc with⟨h,_⟩ | ⟨h,_⟩<;>omega
     clear hcc
     rw[show f+c=q by omega,show f+r=p by omega] at hs0 hs1
     have w3:=z18k E (i:=p) (by omega)
     have w4:=z18o (fun x=>I (g x)) E p q
     simp only[ltC] at hs0 hs1
     generalize E[q]! = y at *
     generalize E[p]! = x at *
     by_cases hs2:cm x y<0
     simp (maxSteps:=2000000) (disch:=first|omega|(simp only[lenS];try omega)) only[go_sem,reduceAdd,reduceEqDiff,reduceLeDiff,reduceSub,H,e2,e3,w3,e7,hc1,hc2,hp1,hp2,hp3,hp,hlt,hs2,List.getElem?_set_ne,List.getElem_set_ne,List.getElem_map]
     rotate_left
     simp (maxSteps:=2000000) (disch:=first|omega|(simp only[lenS];try omega)) only[go_sem,reduceAdd,reduceEqDiff,reduceLeDiff,reduceSub,H,e2,e3,w3,e7,hc1,hc2,hp1,hp2,hp3,hp,hlt,hs2,List.getElem?_set_ne,List.getElem_set_ne,List.getElem_map]
     rotate_left
     ·refine⟨hi-c,by omega,c,Sort.swp E p q,rfl,by omega,?_,?_,?_⟩
      ·rw[Sort.size_swp];exact k3
      ·rw[←k4,hs1 (by simp [hs2])]
      ·rw[w4]
     ·rw[←k4,hs0 (by simp [hs2])]
    ·have hcc:(c1=2*r+2∧2*r+2<hi∧ltC cm E[f+(2*r+1)]! E[f+(2*r+2)]! = true)∨(c1=2*r+1∧¬(2*r+2<hi∧ltC cm E[f+(2*r+1)]! E[f+(2*r+2)]! = true)):=.inr ⟨by omega,by rw[z1,z2];simpa [ltC] using fun _=>hlt⟩
     generalize E[p2]! = a2 at *
     have hq:=hp1
     generalize c1=c at *
     generalize p1=q at *
     obtain⟨p,hp⟩ : ∃ p:Nat,(f:Int)+(r:Int)=p:=⟨f+r,by omega⟩
     have hs0:=z1ak (ltC cm) (f:=f) (c:=c) E (show 2*r+1<hi by omega) hcc
     have hs1:=z1ai (ltC cm) (f:=f) (c:=c) E (show 2*r+1<hi by omega) hcc
     have hcl:r<c∧c<hi:=by rcases hcc with⟨h,_⟩ | ⟨h,_⟩<;>omega
     clear hcc
     rw[show f+c=q by omega,show f+r=p by omega] at hs0 hs1
     have w3:=z18k E (i:=p) (by omega)
     have w4:=z18o (fun x=>I (g x)) E p q
     simp only[ltC] at hs0 hs1
     generalize E[q]! = y at *
     generalize E[p]! = x at *
     by_cases hs2:cm x y<0
     simp (maxSteps:=2000000) (disch:=first|omega|(simp only[lenS];try omega)) only[go_sem,reduceAdd,reduceEqDiff,reduceLeDiff,reduceSub,H,e2,e3,w3,e7,hc1,hc2,hp1,hp2,hp3,hp,hlt,hs2,List.getElem?_set_ne,List.getElem_set_ne,List.getElem_map]
     rotate_left
     simp (maxSteps:=2000000) (disch:=first|omega|(simp only[lenS];try omega)) only[go_sem,reduceAdd,reduceEqDiff,reduceLeDiff,reduceSub,H,e2,e3,w3,e7,hc1,hc2,hp1,hp2,hp3,hp,hlt,hs2,List.getElem?_set_ne,List.getElem_set_ne,List.getElem_map]
     rotate_left
     ·refine⟨hi-c,by omega,c,Sort.swp E p q,rfl,by omega,?_,?_,?_⟩
      ·rw[Sort.size_swp];exact k3
      ·rw[←k4,hs1 (by simp [hs2])]
      ·rw[w4]
     ·rw[←k4,hs0 (by simp [hs2])]
   ·have hcc:(c1=2*r+2∧2*r+2<hi∧ltC cm E[f+(2*r+1)]! E[f+(2*r+2)]! = true)∨(c1=2*r+1∧¬(2*r+2<hi∧ltC cm E[f+(2*r+1)]! E[f+(2*r+2)]! = true)):=.inr ⟨by omega,by omega⟩
    have hq:=hp1
    generalize c1=c at *
    generalize p1=q at *
    obtain⟨p,hp⟩ : ∃ p:Nat,(f:Int)+(r:Int)=p:=⟨f+r,by omega⟩
    have hs0:=z1ak (ltC cm) (f:=f) (c:=c) E (show 2*r+1<hi by omega) hcc
    have hs1:=z1ai (ltC cm) (f:=f) (c:=c) E (show 2*r+1<hi by omega) hcc
    have hcl:r<c∧c<hi:=by rcases hcc with⟨h,_⟩ | ⟨h,_⟩<;>omega
    clear hcc
    rw[show f+c=q by omega,show f+r=p by omega] at hs0 hs1
    have w3:=z18k E (i:=p) (by omega)
    have w4:=z18o (fun x=>I (g x)) E p q
    simp only[ltC] at hs0 hs1
    generalize E[q]! = y at *
    generalize E[p]! = x at *
    by_cases hs2:cm x y<0
    simp (maxSteps:=2000000) (disch:=first|omega|(simp only[lenS];try omega)) only[go_sem,reduceAdd,reduceEqDiff,reduceLeDiff,reduceSub,H,e2,w3,e7,hc1,hc2,hp1,hp,hs2,List.getElem?_set_ne,List.getElem_set_ne,List.getElem_map]
    rotate_left
    simp (maxSteps:=2000000) (disch:=first|omega|(simp only[lenS];try omega)) only[go_sem,reduceAdd,reduceEqDiff,reduceLeDiff,reduceSub,H,e2,w3,e7,hc1,hc2,hp1,hp,hs2,List.getElem?_set_ne,List.getElem_set_ne,List.getElem_map]
    rotate_left
    ·refine⟨hi-c,by omega,c,Sort.swp E p q,rfl,by omega,?_,?_,?_⟩
     ·rw[Sort.size_swp];exact k3
     ·rw[←k4,hs1 (by simp [hs2])]
     ·rw[w4]
    ·rw[←k4,hs0 (by simp [hs2])]
  ·simp (maxSteps:=2000000) (disch:=first|omega|(simp only[lenS];try omega)) only[go_sem,reduceAdd,reduceEqDiff,reduceLeDiff,reduceSub,hc1]
   rw[←k4,z1ah _ _ (by omega)]
theorem wcv{α:Type}[Inhabited α](g:α→Int)(cm:α→α→Int)(H : ∀ x y,C w5o [I (g x),I (g y)] []=some (.bool (decide (cm x y<0)),[]))(t:TypeId)(d:Array α)(a b:Nat)(hab:a≤b)(hb:b≤d.size)(hs:d.size<2^40) :
  C w7e [.ref 0 1 0 d.size,I a,I b] (.row t true 1 (d.toList.map fun x=>I (g x)) :: [])=some (.tup [],.row t true 1 ((Sort.heapSort (ltC cm) d a b).toList.map fun x=>I (g x)) :: []):=by
 obtain⟨n,hn⟩ : ∃ n:Nat,(b:Int)-(a:Int)=n:=⟨b-a,by omega⟩
 obtain⟨K,hK⟩ : ∃ K:Nat,((n:Int)-1).tdiv 2=(K:Int)-1∧K=(b-a-1) / 2+1∧K≤n+1:=by
  rcases Nat.eq_zero_or_pos n with h | h
  ·subst h;exact⟨1,by decide,by omega,by omega⟩
  ·obtain⟨q,rfl⟩ : ∃ q,n=q+1:=⟨n-1,by omega⟩
   have:(((q+1:Nat):Int)-1).tdiv 2=((q / 2:Nat):Int):=by
    rw[show(((q+1:Nat):Int)-1)=(q:Int) by omega]
    exact(Int.ofNat_tdiv q 2).symm
   refine⟨q / 2+1,by rw[this];omega,by omega,by omega⟩
 unfold Sort.heapSort
 rw[←hK.2.1,show b-a=n by omega]
 have hK1:=hK.1
 have hK2:=hK.2.2
 refine w1l ?_
 simp (maxSteps:=2000000) (disch:=first|omega|(simp only[lenS];try omega)) only[wb7,go_sem,reduceAdd,reduceEqDiff,reduceLeDiff,reduceSub]
 simp (maxSteps:=2000000) (disch:=first|omega|(simp only[lenS];try omega)) only[go_sem,reduceAdd,reduceEqDiff,reduceLeDiff,reduceSub,hn,hK1]
 refine z1a (fun k s=>∃ (E:Array α),k≤K∧E.size=d.size∧Sort.heapBuild (ltC cm) n a k E=Sort.heapBuild (ltC cm) n a K d∧s=⟨[.ref 0 1 0 d.size,.any,.any,I a,I 0,I n,I ((k:Int)-1),.any,.any,.any],.row t true 1 (E.toList.map fun x=>I (g x)) :: []⟩) K ?_ ?_
 ·simp (maxSteps:=2000000) (disch:=first|omega|(simp only[lenS];try omega)) only[go_sem,reduceAdd,reduceEqDiff,reduceLeDiff,reduceSub]
  exact⟨d,rfl,rfl,rfl⟩
 ·rintro k s ⟨E,k1,k3,k4,rfl⟩
  rcases Nat.eq_zero_or_pos k with rfl | hk
  ·simp (maxSteps:=2000000) (disch:=first|omega|(simp only[lenS];try omega)) only[go_sem,reduceAdd,reduceEqDiff,reduceLeDiff,reduceSub]
   rw[←show E=_ from k4]
   refine z1a (fun k s=>∃ (G:Array α),k≤n∧G.size=d.size∧Sort.heapPop (ltC cm) a k G=Sort.heapPop (ltC cm) a n E∧s=⟨[.ref 0 1 0 d.size,.any,.any,I a,I 0,.any,.any,I ((k:Int)-1),.any,.any],.row t true 1 (G.toList.map fun x=>I (g x)) :: []⟩) n ?_ ?_
   ·simp (maxSteps:=2000000) (disch:=first|omega|(simp only[lenS];try omega)) only[go_sem,reduceAdd,reduceEqDiff,reduceLeDiff,reduceSub]
    exact⟨E,k3,rfl,rfl⟩
   ·rintro k s ⟨G,g1,g3,g4,rfl⟩
    rcases Nat.eq_zero_or_pos k with rfl | hk
    ·simp (maxSteps:=2000000) (disch:=first|omega|(simp only[lenS];try omega)) only[go_sem,reduceAdd,reduceEqDiff,reduceLeDiff,reduceSub]
     rw[←g4];rfl
    ·obtain⟨j,hj⟩ : ∃ j:Nat,(k:Int)-1=j:=⟨k-1,by omega⟩
     obtain⟨q,hq⟩ : ∃ q:Nat,(a:Int)+(j:Int)=q:=⟨a+j,by omega⟩
     obtain rfl:k=j+1:=by omega
     have h1:=wd6 g cm H t (Sort.swp G a q) 0 j a (by omega) (by rw[Sort.size_swp];omega) (by rw[Sort.size_swp];omega)
     rw[Sort.size_swp,g3,z18o,show((0:Nat):Int)=0 from rfl] at h1
     have e7:G.toList.length=d.size:=by simp [g3]
     have w2:=z18k G (i:=a) (by omega)
     have w3:=z18k G (i:=q) (by omega)
     have e5:=z18n (fun x=>I (g x)) G (i:=a) (j:=q) G[q]! (by omega) (by omega)
     have e6:Sort.heapPop (ltC cm) a (j+1) G=Sort.heapPop (ltC cm) a j (Sort.siftDown (ltC cm) j a 0 (Sort.swp G a q)):=by rw[Sort.heapPop,show a+j=q by omega]
     have e8:(Sort.siftDown (ltC cm) j a 0 (Sort.swp G a q)).size=d.size:=by rw[z1aj _ _ _ _ _ _ (Nat.le_refl _),Sort.size_swp,g3]
     generalize Sort.siftDown (ltC cm) j a 0 (Sort.swp G a q)=Z at *
     generalize (if a=q then G[q]! else G[q]!)=z at *
     generalize G[q]! = y at *
     generalize G[a]! = x at *
     simp (maxSteps:=2000000) (disch:=first|omega|(simp only[lenS];try omega)) only[go_sem,reduceAdd,reduceEqDiff,reduceLeDiff,reduceSub,hj,hq,w2,w3,e5,e7,h1]
     exact⟨j,by omega,Z,by omega,e8,by rw[←e6,g4],rfl⟩
  ·obtain⟨j,hj⟩ : ∃ j:Nat,(k:Int)-1=j:=⟨k-1,by omega⟩
   have h1:=wd6 g cm H t E j n a (by omega) (by omega) (by omega)
   rw[k3] at h1
   obtain rfl:k=j+1:=by omega
   simp (maxSteps:=2000000) (disch:=first|omega|(simp only[lenS];try omega)) only[go_sem,reduceAdd,reduceEqDiff,reduceLeDiff,reduceSub,hj,h1]
   refine⟨j,by omega,Sort.siftDown (ltC cm) n a j E,by omega,?_,k4,rfl⟩
   rw[z1aj _ _ _ _ _ _ (Nat.le_refl _),k3]
theorem wcz(n:Nat)(hn:n<65536):C w7i [I n] []=some (.int .u64 ((2 ^ Sort.bitsLen n:Nat):Int),[]):=by
 have h:=wce n hn
 have h1:=(Sort.bitsLen_le_iff n 16).2 (by omega)
 have h3:(2:Nat) ^ Sort.bitsLen n≤2 ^ 16:=Nat.pow_le_pow_right (by decide) h1
 have h2:IntKind.u64.wrap (1*(2:Int) ^ min (Sort.bitsLen n) 64)=((2 ^ Sort.bitsLen n:Nat):Int):=by
  rw[Nat.min_eq_left (by omega),Int.one_mul,IntKind.wrap_u64,show(2:Int) ^ Sort.bitsLen n=((2 ^ Sort.bitsLen n:Nat):Int) by simp]
  generalize (2:Nat) ^ Sort.bitsLen n=w at *
  omega
 have h0:IntKind.u64.wrap (n:Int)=n:=by rw[IntKind.wrap_u64];omega
 refine w1n ?_
 simp (maxSteps:=2000000) (disch:=first|omega|(simp only[lenS];try omega)) only[wbb,go_sem,reduceAdd,reduceEqDiff,reduceLeDiff,reduceSub]
 generalize Sort.bitsLen n=z at *
 simp (maxSteps:=2000000) (disch:=first|omega|(simp only[lenS];try omega)) only[go_sem,reduceAdd,reduceEqDiff,reduceLeDiff,reduceSub,h0,h,h2]
theorem wd7(x:Int)(hx:0≤x∧x<18446744073709551616):Lw (C w7q [.ptr 0 0] [.box we8 [.int .u64 x]]) fun r=>∃ y:Int,r=(.int .u64 y,[.box we8 [.int .u64 y]])∧0≤y∧y<18446744073709551616:=by
 refine w2f ?_
 simp (maxSteps:=2000000) (disch:=first|omega|(simp only[lenS];try omega)) only[wbj,go_sem,reduceAdd,reduceEqDiff,reduceLeDiff,reduceSub]
 have h1:=z1hz hx (z1gj (x*2 ^ min (Int.toNat 13) 64))
 have h2:=z1hz h1 (z1aa (min (Int.toNat 7) 64) h1)
 exact⟨_,rfl,z1hz h2 (z1gj _)⟩
theorem wct{α:Type}[Inhabited α](g:α→Int)(cm:α→α→Int)(H : ∀ x y,C w5o [I (g x),I (g y)] []=some (.bool (decide (cm x y<0)),[]))(t:TypeId)(d:Array α)(a b:Nat)(hab:a<b)(hb:b≤d.size)(hs:d.size<65536) :
  Lw (C w7c [.ref 0 1 0 d.size,I a,I b] (.row t true 1 (d.toList.map fun x=>I (g x)) :: [])) fun r=>∃ E:Array α,r=(.tup [],.row t true 1 (E.toList.map fun x=>I (g x)) :: [])∧Sort.PermIn a b d E:=by
 obtain⟨n,hn⟩ : ∃ n:Nat,(b:Int)-(a:Int)=n:=⟨b-a,by omega⟩
 obtain⟨q,hq,hq2⟩ : ∃ q:Nat,(n:Int).tdiv 4=q∧q=n / 4:=⟨n / 4,(Int.ofNat_tdiv n 4).symm,rfl⟩
 have hp:=wcz n (by omega)
 have hp1:=Sort.lt_two_pow_bitsLen n
 have hp2:=fun h=>Sort.two_pow_bitsLen_le (n:=n) h
 obtain⟨i,hi⟩ : ∃ i:Nat,(a:Int)+(q:Int)*2=i:=⟨a+q*2,by omega⟩
 refine w28 ?_
 simp (maxSteps:=2000000) (disch:=first|omega|(simp only[lenS];try omega)) only[wb5,go_sem,reduceAdd,reduceEqDiff,reduceLeDiff,reduceSub]
 by_cases h8:(8:Int)≤n
 ·have hp3:=hp2 (by omega)
  clear hp2
  generalize 2 ^ Sort.bitsLen n=p at *
  obtain⟨m,hm⟩ : ∃ m:Nat,(p:Int)-1=m:=⟨p-1,by omega⟩
  have e0:IntKind.u64.wrap (n:Int)=n:=by rw[IntKind.wrap_u64];omega
  simp (maxSteps:=2000000) (disch:=first|omega|(simp only[lenS];try omega)) only[go_sem,reduceAdd,reduceEqDiff,reduceLeDiff,reduceSub,hn,hq,hi,h8,Int.not_lt.2 h8,hp,e0,false_implies,and_true]
  refine z1a (fun k s=>∃ (j:Nat) (E:Array α) (x:Int),i≤j+1∧j≤i+2∧k=i+2-j∧(0≤x∧x<18446744073709551616)∧Sort.PermIn a b d E∧s=⟨[.ref 0 1 0 d.size,I a,.any,I n,.ptr 1 0,.int .u64 p,I j,.any,.any,.any,.any],.row t true 1 (E.toList.map fun x=>I (g x)) :: [.box we8 [.int .u64 x]]⟩) 3 ?_ ?_
  ·simp (maxSteps:=2000000) (disch:=first|omega|(simp only[lenS];try omega)) only[go_sem,reduceAdd,reduceEqDiff,reduceLeDiff,reduceSub]
   exact⟨i-1,d,n,by omega,by omega,by omega,by omega,Sort.permIn_refl d a b,by rw[show((i-1:Nat):Int)=(i:Int)-1 by omega]⟩
  ·rintro k s ⟨j,E,x,h1,h2,rfl,h3,h4,rfl⟩
   have k3:=z11k h4
   have e7:E.toList.length=d.size:=by simp [k3]
   by_cases hj:(j:Int)≤(i:Int)+1
   ·obtain⟨_,e1,y,rfl,y1,y2⟩:=wd7 x h3
    have ha:=z37 (x:=y) (y:=m) (by omega) (by omega)
    have e5:IntKind.u64.wrap ((p:Int)-1)=m:=by rw[IntKind.wrap_u64];omega
    have e6:IntKind.i64.wrap (bits .and .u64 y m)=bits .and .u64 y m:=by rw[IntKind.wrap_i64];omega
    obtain⟨o,ho⟩ : ∃ o:Nat,bits .and .u64 y m=o:=⟨(bits .and .u64 y m).toNat,by omega⟩
    rw[ho] at ha e6
    obtain⟨u,hu⟩ : ∃ u:Nat,(a:Int)+(o:Int)=u:=⟨a+o,by omega⟩
    have w2:=z18k E (i:=j) (by omega)
    by_cases hon:(n:Int)≤o
    ·obtain⟨o2,ho2⟩ : ∃ o2:Nat,(o:Int)-n=o2:=⟨o-n,by omega⟩
     obtain⟨v,hv⟩ : ∃ v:Nat,(a:Int)+(o2:Int)=v:=⟨a+o2,by omega⟩
     have w3:=z18k E (i:=v) (by omega)
     have w4:=z18o (fun x=>I (g x)) E j v
     have w5:=Sort.permIn_trans d E (Sort.swp E j v) a b h4 (Sort.swp_permIn E a b j v (by omega) (by omega) (by omega) (by omega) (by omega))
     have w6:=z18n (fun x=>I (g x)) E (i:=j) (j:=v) E[v]! (by omega) (by omega)
     generalize (if j=v then E[v]! else E[v]!)=z at *
     generalize E[j]! = x at *
     generalize E[v]! = w at *
     simp (maxSteps:=2000000) (disch:=first|omega|(simp only[lenS];try omega)) only[go_sem,reduceAdd,reduceEqDiff,reduceLeDiff,reduceSub,hq,hi,e1,e5,ho,e6,hon,Int.not_lt.2 hon,ho2,hv,w2,w3,w6,e7,false_implies,and_true]
     exact⟨i+2-(j+1),by omega,j+1,Sort.swp E j v,y,by omega,by omega,rfl,⟨y1,y2⟩,w5,by rw[w4];rfl⟩
    ·obtain⟨v,hv⟩ : ∃ v:Nat,(a:Int)+(o:Int)=v:=⟨a+o,by omega⟩
     have w3:=z18k E (i:=v) (by omega)
     have w4:=z18o (fun x=>I (g x)) E j v
     have w5:=Sort.permIn_trans d E (Sort.swp E j v) a b h4 (Sort.swp_permIn E a b j v (by omega) (by omega) (by omega) (by omega) (by omega))
     have w6:=z18n (fun x=>I (g x)) E (i:=j) (j:=v) E[v]! (by omega) (by omega)
     generalize (if j=v then E[v]! else E[v]!)=z at *
     generalize E[j]! = x at *
     generalize E[v]! = w at *
     simp (maxSteps:=2000000) (disch:=first|omega|(simp only[lenS];try omega)) only[go_sem,reduceAdd,reduceEqDiff,reduceLeDiff,reduceSub,hq,hi,e1,e5,ho,e6,hon,Int.not_le.1 hon,hv,w2,w3,w6,e7,false_implies,true_and,forall_const]
     exact⟨i+2-(j+1),by omega,j+1,Sort.swp E j v,y,by omega,by omega,rfl,⟨y1,y2⟩,w5,by rw[w4];rfl⟩
   ·simp (maxSteps:=2000000) (disch:=first|omega|(simp only[lenS];try omega)) only[go_sem,reduceAdd,reduceEqDiff,reduceLeDiff,reduceSub,hq,hi]
    exact⟨E,rfl,h4⟩
 ·simp (maxSteps:=2000000) (disch:=first|omega|(simp only[lenS];try omega)) only[go_sem,reduceAdd,reduceEqDiff,reduceLeDiff,reduceSub,hn,hq,hi,h8,Int.not_le.1 h8,false_implies,true_and,forall_const]
  exact⟨d,rfl,Sort.permIn_refl d a b⟩
theorem wd0{α:Type}[Inhabited α](g:α→Int)(cm:α→α→Int)(H : ∀ x y,C w5o [I (g x),I (g y)] []=some (.bool (decide (cm x y<0)),[]))(t:TypeId)(d:Array α)(a b:Nat)(k:Int)(ha:a<d.size)(hb:b<d.size)(hk:0≤k∧k<2^40)(hs:d.size<2^40) :
  Lw (C w7j [.ref 0 1 0 d.size,I a,I b,.ptr 1 0] (.row t true 1 (d.toList.map fun x=>I (g x)) :: .box t_int [I k] :: [])) fun r=>∃ (x y:Nat) (k':Int),r=(.tup [I x,I y],.row t true 1 (d.toList.map fun x=>I (g x)) :: .box t_int [I k'] :: [])∧((x=a∧y=b)∨(x=b∧y=a))∧k≤k'∧k'≤k+1:=by
 have e7:d.toList.length=d.size:=by simp
 refine w2c ?_
 simp (maxSteps:=2000000) (disch:=first|omega|(simp only[lenS];try omega)) only[wbc,go_sem,reduceAdd,reduceEqDiff,reduceLeDiff,reduceSub]
 simp (maxSteps:=2000000) (disch:=first|omega|(simp only[lenS];try omega)) only[go_sem,reduceAdd,reduceEqDiff,reduceLeDiff,reduceSub,H,e7]
 exact⟨fun _=>⟨b,a,k+1,rfl,by omega⟩,fun _=>⟨a,b,k,rfl,by omega⟩⟩
theorem wcy{α:Type}[Inhabited α](g:α→Int)(cm:α→α→Int)(H : ∀ x y,C w5o [I (g x),I (g y)] []=some (.bool (decide (cm x y<0)),[]))(t:TypeId)(d:Array α)(a b c:Nat)(k:Int)(ha:a<d.size)(hb:b<d.size)(hc:c<d.size)(hk:0≤k∧k<2^39)(hs:d.size<2^40) :
  Lw (C w7h [.ref 0 1 0 d.size,I a,I b,I c,.ptr 1 0] (.row t true 1 (d.toList.map fun x=>I (g x)) :: .box t_int [I k] :: [])) fun r=>∃ (x:Nat) (k':Int),r=(I x,.row t true 1 (d.toList.map fun x=>I (g x)) :: .box t_int [I k'] :: [])∧(x=a∨x=b∨x=c)∧k≤k'∧k'≤k+3:=by
 obtain⟨_,e1,x1,y1,k1,rfl,h1,h2,h3⟩:=wd0 g cm H t d a b k ha hb (by omega) hs
 obtain⟨_,e2,x2,y2,k2,rfl,g1,g2,g3⟩:=wd0 g cm H t d y1 c k1 (by omega) hc (by omega) hs
 obtain⟨_,e3,x3,y3,k3,rfl,f1,f2,f3⟩:=wd0 g cm H t d x1 x2 k2 (by omega) (by omega) (by omega) hs
 refine w2b ?_
 simp (maxSteps:=2000000) (disch:=first|omega|(simp only[lenS];try omega)) only[wba,go_sem,reduceAdd,reduceEqDiff,reduceLeDiff,reduceSub]
 simp (maxSteps:=2000000) (disch:=first|omega|(simp only[lenS];try omega)) only[go_sem,reduceAdd,reduceEqDiff,reduceLeDiff,reduceSub,e1,e2,e3]
 exact⟨y3,k3,rfl,by omega⟩
theorem wcx{α:Type}[Inhabited α](g:α→Int)(cm:α→α→Int)(H : ∀ x y,C w5o [I (g x),I (g y)] []=some (.bool (decide (cm x y<0)),[]))(t:TypeId)(d:Array α)(a:Nat)(k:Int)(ha:0<a∧a+1<d.size)(hk:0≤k∧k<2^39)(hs:d.size<2^40) :
  Lw (C w7g [.ref 0 1 0 d.size,I a,.ptr 1 0] (.row t true 1 (d.toList.map fun x=>I (g x)) :: .box t_int [I k] :: [])) fun r=>∃ (x:Nat) (k':Int),r=(I x,.row t true 1 (d.toList.map fun x=>I (g x)) :: .box t_int [I k'] :: [])∧(a≤x+1∧x≤a+1)∧k≤k'∧k'≤k+3:=by
 obtain⟨_,e1,x1,k1,rfl,h1,h2,h3⟩:=wcy g cm H t d (a-1) a (a+1) k (by omega) (by omega) (by omega) hk hs
 rw[show((a-1:Nat):Int)=(a:Int)-1 by omega,show((a+1:Nat):Int)=(a:Int)+1 by omega] at e1
 refine w2a ?_
 simp (maxSteps:=2000000) (disch:=first|omega|(simp only[lenS];try omega)) only[wb9,go_sem,reduceAdd,reduceEqDiff,reduceLeDiff,reduceSub]
 simp (maxSteps:=2000000) (disch:=first|omega|(simp only[lenS];try omega)) only[go_sem,reduceAdd,reduceEqDiff,reduceLeDiff,reduceSub,e1]
 exact⟨x1,k1,rfl,by omega⟩
theorem wcu{α:Type}[Inhabited α](g:α→Int)(cm:α→α→Int)(H : ∀ x y,C w5o [I (g x),I (g y)] []=some (.bool (decide (cm x y<0)),[]))(t:TypeId)(d:Array α)(a b:Nat)(hab:a<b)(hb:b≤d.size)(hs:d.size<2^40) :
  Lw (C w7d [.ref 0 1 0 d.size,I a,I b] (.row t true 1 (d.toList.map fun x=>I (g x)) :: [])) fun r=>∃ (x:Nat) (h:Int),r=(.tup [I x,I h],.row t true 1 (d.toList.map fun x=>I (g x)) :: [])∧a≤x∧x<b∧0≤h∧h≤2:=by
 obtain⟨n,hn⟩ : ∃ n:Nat,(b:Int)-(a:Int)=n:=⟨b-a,by omega⟩
 obtain⟨q,hq,hq2⟩ : ∃ q:Nat,(n:Int).tdiv 4=q∧q=n / 4:=⟨n / 4,(Int.ofNat_tdiv n 4).symm,rfl⟩
 obtain⟨i,hi⟩ : ∃ i:Nat,(a:Int)+(q:Int)=i:=⟨a+q,by omega⟩
 obtain⟨j,hj⟩ : ∃ j:Nat,(a:Int)+(q:Int)*2=j:=⟨a+q*2,by omega⟩
 obtain⟨k,hk⟩ : ∃ k:Nat,(a:Int)+(q:Int)*3=k:=⟨a+q*3,by omega⟩
 refine w29 ?_
 simp (maxSteps:=2000000) (disch:=first|omega|(simp only[lenS];try omega)) only[wb6,go_sem,reduceAdd,reduceEqDiff,reduceLeDiff,reduceSub]
 by_cases h8:(8:Int)≤n
 ·by_cases h50:(50:Int)≤n
  ·obtain⟨_,e1,x1,k1,rfl,h1,h2,h3⟩:=wcx g cm H t d i 0 (by omega) (by omega) hs
   obtain⟨_,e2,x2,k2,rfl,g1,g2,g3⟩:=wcx g cm H t d j k1 (by omega) (by omega) hs
   obtain⟨_,e3,x3,k3,rfl,f1,f2,f3⟩:=wcx g cm H t d k k2 (by omega) (by omega) hs
   obtain⟨_,e4,x4,k4,rfl,d1,d2,d3⟩:=wcy g cm H t d x1 x2 x3 k3 (by omega) (by omega) (by omega) (by omega) hs
   have hlo:a≤x4∧x4<b:=by omega
   simp (maxSteps:=2000000) (disch:=first|omega|(simp only[lenS];try omega)) only[go_sem,reduceAdd,reduceEqDiff,reduceLeDiff,reduceSub,hn,hq,hi,hj,hk,Int.mul_one,e1,e2,e3,e4,h8,h50,Int.not_lt.2 h8,Int.not_lt.2 h50]
   exact⟨fun _=>⟨x4,_,rfl,by omega⟩,fun _=>⟨fun _=>⟨x4,_,rfl,by omega⟩,fun _=>⟨x4,_,rfl,by omega⟩⟩⟩
  ·obtain⟨_,e4,x4,k4,rfl,d1,d2,d3⟩:=wcy g cm H t d i j k 0 (by omega) (by omega) (by omega) (by omega) hs
   have hlo:a≤x4∧x4<b:=by omega
   simp (maxSteps:=2000000) (disch:=first|omega|(simp only[lenS];try omega)) only[go_sem,reduceAdd,reduceEqDiff,reduceLeDiff,reduceSub,hn,hq,hi,hj,hk,Int.mul_one,e4,h8,h50,Int.not_lt.2 h8,Int.not_le.1 h50]
   exact⟨fun _=>⟨x4,_,rfl,by omega⟩,fun _=>⟨x4,_,rfl,by omega⟩⟩
 ·simp (maxSteps:=2000000) (disch:=first|omega|(simp only[lenS];try omega)) only[go_sem,reduceAdd,reduceEqDiff,reduceLeDiff,reduceSub,hn,hq,hi,hj,hk,Int.mul_one,h8,Int.not_le.1 h8]
  exact⟨j,1,rfl,by omega⟩
theorem wd5{α:Type}[Inhabited α](g:α→Int)(cm:α→α→Int)(H : ∀ x y,C w5o [I (g x),I (g y)] []=some (.bool (decide (cm x y<0)),[]))(t:TypeId)(d:Array α)(a b:Nat)(hab:a<b)(hb:b≤d.size)(hs:d.size<2^40) :
  Lw (C w7o [.ref 0 1 0 d.size,I a,I b] (.row t true 1 (d.toList.map fun x=>I (g x)) :: [])) fun r=>∃ E:Array α,r=(.tup [],.row t true 1 (E.toList.map fun x=>I (g x)) :: [])∧Sort.PermIn a b d E:=by
 obtain⟨n,hn⟩ : ∃ n:Nat,(b:Int)-1=n:=⟨b-1,by omega⟩
 refine w2e ?_
 simp (maxSteps:=2000000) (disch:=first|omega|(simp only[lenS];try omega)) only[wbh,go_sem,reduceAdd,reduceEqDiff,reduceLeDiff,reduceSub]
 simp (maxSteps:=2000000) (disch:=first|omega|(simp only[lenS];try omega)) only[go_sem,reduceAdd,reduceEqDiff,reduceLeDiff,reduceSub,hn]
 refine z1a (fun k s=>∃ (i j:Nat) (E:Array α),a≤i∧j<b∧i≤b∧k=b-i∧Sort.PermIn a b d E∧s=⟨[.ref 0 1 0 d.size,.any,.any,I i,I j,.any],.row t true 1 (E.toList.map fun x=>I (g x)) :: []⟩) (b-a) ?_ ?_
 ·simp (maxSteps:=2000000) (disch:=first|omega|(simp only[lenS];try omega)) only[go_sem,reduceAdd,reduceEqDiff,reduceLeDiff,reduceSub]
  exact⟨a,n,d,by omega,by omega,by omega,rfl,Sort.permIn_refl d a b,rfl⟩
 ·rintro k s ⟨i,j,E,h1,h2,h3,rfl,h4,rfl⟩
  have k3:=z11k h4
  have e7:E.toList.length=d.size:=by simp [k3]
  by_cases hij:(i:Int)<j
  ·obtain⟨m,hm⟩ : ∃ m:Nat,(j:Int)-1=m:=⟨j-1,by omega⟩
   have w2:=z18k E (i:=i) (by omega)
   have w3:=z18k E (i:=j) (by omega)
   have w4:=z18o (fun x=>I (g x)) E i j
   have w5:=Sort.permIn_trans d E (Sort.swp E i j) a b h4 (Sort.swp_permIn E a b i j h1 (by omega) (by omega) h2 (by omega))
   generalize E[i]! = x at *
   generalize E[j]! = y at *
   simp (maxSteps:=2000000) (disch:=first|omega|(simp only[lenS];try omega)) only[go_sem,reduceAdd,reduceEqDiff,reduceLeDiff,reduceSub,w2,w3,e7,hm,List.getElem?_set_ne,List.getElem_set_ne,List.getElem_map]
   exact⟨b-(i+1),by omega,i+1,m,Sort.swp E i j,by omega,by omega,by omega,rfl,w5,by rw[w4];rfl⟩
  ·simp (maxSteps:=2000000) (disch:=first|omega|(simp only[lenS];try omega)) only[go_sem,reduceAdd,reduceEqDiff,reduceLeDiff,reduceSub]
   exact⟨E,rfl,h4⟩
theorem wd1{α:Type}[Inhabited α](g:α→Int)(cm:α→α→Int)(H : ∀ x y,C w5o [I (g x),I (g y)] []=some (.bool (decide (cm x y<0)),[]))(t:TypeId)(d:Array α)(a b:Nat)(hab:a<b)(hb:b≤d.size)(hs:d.size<2^40) :
    C w7k [.ref 0 1 0 d.size,I a,I b] (.row t true 1 (d.toList.map fun x=>I (g x)) :: [])=some (.bool (Sort.partialInsertionSort (ltC cm) d a b).2,.row t true 1 ((Sort.partialInsertionSort (ltC cm) d a b).1.toList.map fun x=>I (g x)) :: []):=by
  unfold Sort.partialInsertionSort
  refine w1o ?_
  simp (maxSteps:=2000000) (disch:=first|omega|(simp only[lenS];try omega)) only[wbd,go_sem,reduceAdd,reduceEqDiff,reduceLeDiff,reduceSub]
  refine z1a (fun k s=>∃ (i:Nat) (D:Array α),k≤5∧a<i∧i≤b∧D.size=d.size∧Sort.partialIns (ltC cm) a b k i D=Sort.partialIns (ltC cm) a b 5 (a+1) d∧s=⟨[.ref 0 1 0 d.size,I a,I b,.any,I i,I (5-(k:Int)),.any,.any,.any,.any,.any,.any,.any,.any,.any,.any,.any,.any],.row t true 1 (D.toList.map fun x=>I (g x)) :: []⟩) 5 ?_ ?_
  · simp (maxSteps:=2000000) (disch:=first|omega|(simp only[lenS];try omega)) only[go_sem,reduceAdd,reduceEqDiff,reduceLeDiff,reduceSub]
    exact⟨a+1,d,by omega,by omega,rfl,rfl,rfl⟩
  · rintro k s ⟨i,D,d0,d1,d2,d3,d4,rfl⟩
    have e7:D.toList.length=d.size:=by simp [d3]
    rcases Nat.eq_zero_or_pos k with rfl | hk
    · simp (maxSteps:=2000000) (disch:=first|omega|(simp only[lenS];try omega)) only[go_sem,reduceAdd,reduceEqDiff,reduceLeDiff,reduceSub]
      rw[←d4];rfl
    · obtain⟨u,rfl⟩ : ∃ u,k=u+1:=⟨k-1,by omega⟩
      simp (maxSteps:=2000000) (disch:=first|omega|(simp only[lenS];try omega)) only[go_sem,reduceAdd,reduceEqDiff,reduceLeDiff,reduceSub]
      refine z1a (fun q s=>∃ m:Nat,i≤m∧m≤b∧q=b-m∧Sort.scanSorted (ltC cm) D b m=Sort.scanSorted (ltC cm) D b i∧s=⟨[.ref 0 1 0 d.size,I a,I b,.any,I m,I (5-((u+1:Nat):Int)),.any,.any,.any,.any,.any,.any,.any,.any,.any,.any,.any,.any],.row t true 1 (D.toList.map fun x=>I (g x)) :: []⟩) (b-i) ?_ ?_
      · simp (maxSteps:=2000000) (disch:=first|omega|(simp only[lenS];try omega)) only[go_sem,reduceAdd,reduceEqDiff,reduceLeDiff,reduceSub]
        exact⟨i,by omega,d2,rfl,rfl,rfl⟩
      · rintro q s ⟨m,m1,m2,rfl,m4,rfl⟩
        have s0:=z18z (ltC cm) D (b:=b) (i:=m)
        have s1:=z190 (ltC cm) D (b:=b) (i:=m)
        simp only[ltC] at s0 s1
        obtain⟨m',hm'⟩ : ∃ m':Nat,(m:Int)-1=m':=⟨m-1,by omega⟩
        have hm1:m-1=m':=by omega
        rw[hm1] at s0 s1
        by_cases hmb:(m:Int)<b
        · have w2:=z18k D (i:=m) (by omega)
          have w3:=z18k D (i:=m') (by omega)
          have w4:=z18o (fun x=>I (g x)) D m m'
          generalize D[m]! = x at *
          generalize D[m']! = y at *
          by_cases hlt:cm x y<0
          · have hscan:m=Sort.scanSorted (ltC cm) D b i:=by rw[←m4];exact(s0 (.inr (by simp [hlt]))).symm
            clear s0 s1 m4
            by_cases h50:(b:Int)-a<50
            · have e5:Sort.partialIns (ltC cm) a b 5 (a+1) d=(D,false):=by rw[←d4,Sort.partialIns_succ,←hscan,if_neg (by omega),if_pos (by omega)]
              simp (maxSteps:=2000000) (disch:=first|omega|(simp only[lenS];try omega)) only[go_sem,reduceAdd,reduceEqDiff,reduceLeDiff,reduceSub,H,w2,w3,e7,hm',hmb,hlt,h50,Int.not_le.2 h50,false_implies,and_true,true_and,forall_const]
              rw[e5]
            · by_cases hma : (2 : Int) ≤ (m : Int) - a
              · simp (maxSteps := 2000000) (disch := first | omega | (simp only [lenS]; try omega)) only [go_sem, reduceAdd, reduceEqDiff, reduceLeDiff, reduceSub, H, w2, w3, e7, hm', hmb, hlt, h50, Int.not_lt.1 h50, hma, Int.not_lt.2 hma, List.getElem?_set_ne, List.getElem_set_ne, List.getElem_map, false_implies, and_true, true_and, forall_const]
                refine z1a (fun q s=>∃ (G2:Array α),q≤m'∧G2.size=d.size∧Sort.shiftDown (ltC cm) q G2=Sort.shiftDown (ltC cm) m' (Sort.swp D m m')∧s=⟨[.ref 0 1 0 d.size,I a,I b,.any,I m,I (5-((u+1:Nat):Int)),I q,.any,.any,.any,.any,.any,.any,.any,.any,.any,.any,.any],.row t true 1 (G2.toList.map fun x=>I (g x)) :: []⟩) m' ?_ ?_
                · simp (maxSteps:=2000000) (disch:=first|omega|(simp only[lenS];try omega)) only[go_sem,reduceAdd,reduceEqDiff,reduceLeDiff,reduceSub]
                  first | exact⟨Sort.swp D m m',by rw[Sort.size_swp];exact d3,rfl,by rw[w4]⟩ | exact⟨Sort.swp D m m',by omega,by rw[Sort.size_swp];exact d3,rfl,by rw[w4]⟩
                · rintro q s ⟨G2,c1,k5,c2,rfl⟩
                  have z0:=z19w (ltC cm) G2 (j:=q)
                  have z1:=z19x (ltC cm) G2 (j:=q)
                  simp only[ltC] at z0 z1
                  have e9:G2.toList.length=d.size:=by simp [k5]
                  have hG:Sort.fixDown (ltC cm) a m (Sort.swp D m m')=Sort.shiftDown (ltC cm) m' (Sort.swp D m m'):=by unfold Sort.fixDown;rw[if_pos (by omega),hm1]
                  by_cases hq:(1:Int)≤q
                  · obtain⟨q',hq'⟩ : ∃ q':Nat,(q:Int)-1=q':=⟨q-1,by omega⟩
                    rw[show q-1=q' by omega] at z0 z1
                    have v2:=z18k G2 (i:=q) (by omega)
                    have v3:=z18k G2 (i:=q') (by omega)
                    have v4:=z18o (fun x=>I (g x)) G2 q q'
                    generalize G2[q]! = x2 at *
                    generalize G2[q']! = y2 at *
                    by_cases hl2:cm x2 y2<0
                    · have z2:=z1 (by omega) (by simp [hl2])
                      simp (maxSteps:=2000000) (disch:=first|omega|(simp only[lenS];try omega)) only[go_sem,reduceAdd,reduceEqDiff,reduceLeDiff,reduceSub,H,v2,v3,e9,hq',hq,Int.not_lt.2 hq,hl2,List.getElem?_set_ne,List.getElem_set_ne,List.getElem_map]
                      exact⟨q',by omega,Sort.swp G2 q q',by omega,by rw[Sort.size_swp];exact k5,by rw[←c2,z2],by rw[v4]⟩
                    · have z2:=z0 (.inr (by simp [hl2]))
                      have hG2:Sort.fixDown (ltC cm) a m (Sort.swp D m m')=G2:=by rw[hG,←c2];exact z2
                      by_cases hbm:(2:Int)≤(b:Int)-(m:Int)
                      · have h2':Sort.fixUp (ltC cm) b m G2=Sort.shiftUp (ltC cm) b (m+1) G2:=by unfold Sort.fixUp;rw[if_pos (by omega)]
                        simp (maxSteps:=2000000) (disch:=first|omega|(simp only[lenS];try omega)) only[go_sem,reduceAdd,reduceEqDiff,reduceLeDiff,reduceSub,H,v2,v3,e9,hq',hq,Int.not_lt.2 hq,hl2,hbm,Int.not_lt.2 hbm,false_implies,and_true,true_and,forall_const]
                        clear v2 v3 v4 z0 z1 z2 w2 w3 w4 hl2 hlt
                        refine z1a (fun q s=>∃ (w:Nat) (G3:Array α),m<w∧w≤b∧q=b-w∧G3.size=d.size∧Sort.shiftUp (ltC cm) b w G3=Sort.shiftUp (ltC cm) b (m+1) G2∧s=⟨[.ref 0 1 0 d.size,I a,I b,.any,I m,I (5-((u+1:Nat):Int)),.any,I w,.any,.any,.any,.any,.any,.any,.any,.any,.any,.any],.row t true 1 (G3.toList.map fun x=>I (g x)) :: []⟩) (b-(m+1)) ?_ ?_
                        · simp (maxSteps:=2000000) (disch:=first|omega|(simp only[lenS];try omega)) only[go_sem,reduceAdd,reduceEqDiff,reduceLeDiff,reduceSub]
                          exact⟨m+1,G2,by omega,by omega,rfl,k5,rfl,rfl⟩
                        · rintro q s ⟨w,G3,c1,c2,rfl,c3,c4,rfl⟩
                          have z0:=z1ad (ltC cm) G3 (b:=b) (j:=w)
                          have z1:=z1ae (ltC cm) G3 (b:=b) (j:=w)
                          simp only[ltC] at z0 z1
                          have e8:G3.toList.length=d.size:=by simp [c3]
                          obtain⟨w',hw'⟩ : ∃ w':Nat,(w:Int)-1=w':=⟨w-1,by omega⟩
                          rw[show w-1=w' by omega] at z0 z1
                          by_cases hwb:(w:Int)<b
                          · have v2:=z18k G3 (i:=w) (by omega)
                            have v3:=z18k G3 (i:=w') (by omega)
                            have v4:=z18o (fun x=>I (g x)) G3 w w'
                            generalize G3[w]! = x3 at *
                            generalize G3[w']! = y3 at *
                            by_cases hl3:cm x3 y3<0
                            · have z2:=z1 (by omega) (by simp [hl3])
                              simp (maxSteps:=2000000) (disch:=first|omega|(simp only[lenS];try omega)) only[go_sem,reduceAdd,reduceEqDiff,reduceLeDiff,reduceSub,H,v2,v3,e8,hw',hwb,hl3,List.getElem?_set_ne,List.getElem_set_ne,List.getElem_map]
                              exact⟨b-(w+1),by omega,w+1,Sort.swp G3 w w',by omega,by omega,rfl,by rw[Sort.size_swp];exact c3,by rw[←c4,z2],by rw[v4];rfl⟩
                            · have z2:=z0 (.inr (by simp [hl3]))
                              simp (maxSteps:=2000000) (disch:=first|omega|(simp only[lenS];try omega)) only[go_sem,reduceAdd,reduceEqDiff,reduceLeDiff,reduceSub,H,v2,v3,e8,hw',hwb,hl3]
                              refine⟨u,by omega,m,G3,by omega,by omega,by omega,c3,?_,?_⟩
                              · rw[←d4,Sort.partialIns_succ,←hscan,if_neg (by omega),if_neg (by omega),hm1,hG2,h2',←c4]
                                exact congrArg _ z2.symm
                              · rw[show(5:Int)-((u+1:Nat):Int)+1=5-(u:Int) by omega]
                          · have z2:=z0 (.inl (by omega))
                            simp (maxSteps:=2000000) (disch:=first|omega|(simp only[lenS];try omega)) only[go_sem,reduceAdd,reduceEqDiff,reduceLeDiff,reduceSub,hwb]
                            refine⟨u,by omega,m,G3,by omega,by omega,by omega,c3,?_,?_⟩
                            · rw[←d4,Sort.partialIns_succ,←hscan,if_neg (by omega),if_neg (by omega),hm1,hG2,h2',←c4]
                              exact congrArg _ z2.symm
                            · rw[show(5:Int)-((u+1:Nat):Int)+1=5-(u:Int) by omega]
                      · have h2':Sort.fixUp (ltC cm) b m G2=G2:=by unfold Sort.fixUp;rw[if_neg (by omega)]
                        simp (maxSteps:=2000000) (disch:=first|omega|(simp only[lenS];try omega)) only[go_sem,reduceAdd,reduceEqDiff,reduceLeDiff,reduceSub,H,v2,v3,e9,hq',hq,Int.not_lt.2 hq,hl2,hbm,Int.not_le.1 hbm,false_implies,and_true,true_and,forall_const]
                        refine⟨u,by omega,m,G2,by omega,by omega,by omega,k5,?_,?_⟩
                        · rw[←d4,Sort.partialIns_succ,←hscan,if_neg (by omega),if_neg (by omega),hm1,hG2,h2']
                        · rw[show(5:Int)-((u+1:Nat):Int)+1=5-(u:Int) by omega]
                  · have z2:=z0 (.inl (by omega))
                    have hG2:Sort.fixDown (ltC cm) a m (Sort.swp D m m')=G2:=by rw[hG,←c2];exact z2
                    by_cases hbm:(2:Int)≤(b:Int)-(m:Int)
                    · have h2':Sort.fixUp (ltC cm) b m G2=Sort.shiftUp (ltC cm) b (m+1) G2:=by unfold Sort.fixUp;rw[if_pos (by omega)]
                      simp (maxSteps:=2000000) (disch:=first|omega|(simp only[lenS];try omega)) only[go_sem,reduceAdd,reduceEqDiff,reduceLeDiff,reduceSub,hq,Int.not_le.1 hq,hbm,Int.not_lt.2 hbm,false_implies,and_true,true_and,forall_const]
                      clear z0 z1 z2 w2 w3 w4 hlt
                      refine z1a (fun q s=>∃ (w:Nat) (G3:Array α),m<w∧w≤b∧q=b-w∧G3.size=d.size∧Sort.shiftUp (ltC cm) b w G3=Sort.shiftUp (ltC cm) b (m+1) G2∧s=⟨[.ref 0 1 0 d.size,I a,I b,.any,I m,I (5-((u+1:Nat):Int)),.any,I w,.any,.any,.any,.any,.any,.any,.any,.any,.any,.any],.row t true 1 (G3.toList.map fun x=>I (g x)) :: []⟩) (b-(m+1)) ?_ ?_
                      · simp (maxSteps:=2000000) (disch:=first|omega|(simp only[lenS];try omega)) only[go_sem,reduceAdd,reduceEqDiff,reduceLeDiff,reduceSub]
                        exact⟨m+1,G2,by omega,by omega,rfl,k5,rfl,rfl⟩
                      · rintro q s ⟨w,G3,c1,c2,rfl,c3,c4,rfl⟩
                        have z0:=z1ad (ltC cm) G3 (b:=b) (j:=w)
                        have z1:=z1ae (ltC cm) G3 (b:=b) (j:=w)
                        simp only[ltC] at z0 z1
                        have e8:G3.toList.length=d.size:=by simp [c3]
                        obtain⟨w',hw'⟩ : ∃ w':Nat,(w:Int)-1=w':=⟨w-1,by omega⟩
                        rw[show w-1=w' by omega] at z0 z1
                        by_cases hwb:(w:Int)<b
                        · have v2:=z18k G3 (i:=w) (by omega)
                          have v3:=z18k G3 (i:=w') (by omega)
                          have v4:=z18o (fun x=>I (g x)) G3 w w'
                          generalize G3[w]! = x3 at *
                          generalize G3[w']! = y3 at *
                          by_cases hl3:cm x3 y3<0
                          · have z2:=z1 (by omega) (by simp [hl3])
                            simp (maxSteps:=2000000) (disch:=first|omega|(simp only[lenS];try omega)) only[go_sem,reduceAdd,reduceEqDiff,reduceLeDiff,reduceSub,H,v2,v3,e8,hw',hwb,hl3,List.getElem?_set_ne,List.getElem_set_ne,List.getElem_map]
                            exact⟨b-(w+1),by omega,w+1,Sort.swp G3 w w',by omega,by omega,rfl,by rw[Sort.size_swp];exact c3,by rw[←c4,z2],by rw[v4];rfl⟩
                          · have z2:=z0 (.inr (by simp [hl3]))
                            simp (maxSteps:=2000000) (disch:=first|omega|(simp only[lenS];try omega)) only[go_sem,reduceAdd,reduceEqDiff,reduceLeDiff,reduceSub,H,v2,v3,e8,hw',hwb,hl3]
                            refine⟨u,by omega,m,G3,by omega,by omega,by omega,c3,?_,?_⟩
                            · rw[←d4,Sort.partialIns_succ,←hscan,if_neg (by omega),if_neg (by omega),hm1,hG2,h2',←c4]
                              exact congrArg _ z2.symm
                            · rw[show(5:Int)-((u+1:Nat):Int)+1=5-(u:Int) by omega]
                        · have z2:=z0 (.inl (by omega))
                          simp (maxSteps:=2000000) (disch:=first|omega|(simp only[lenS];try omega)) only[go_sem,reduceAdd,reduceEqDiff,reduceLeDiff,reduceSub,hwb]
                          refine⟨u,by omega,m,G3,by omega,by omega,by omega,c3,?_,?_⟩
                          · rw[←d4,Sort.partialIns_succ,←hscan,if_neg (by omega),if_neg (by omega),hm1,hG2,h2',←c4]
                            exact congrArg _ z2.symm
                          · rw[show(5:Int)-((u+1:Nat):Int)+1=5-(u:Int) by omega]
                    · have h2':Sort.fixUp (ltC cm) b m G2=G2:=by unfold Sort.fixUp;rw[if_neg (by omega)]
                      simp (maxSteps:=2000000) (disch:=first|omega|(simp only[lenS];try omega)) only[go_sem,reduceAdd,reduceEqDiff,reduceLeDiff,reduceSub,hq,Int.not_le.1 hq,hbm,Int.not_le.1 hbm,false_implies,and_true,true_and,forall_const]
                      refine⟨u,by omega,m,G2,by omega,by omega,by omega,k5,?_,?_⟩
                      · rw[←d4,Sort.partialIns_succ,←hscan,if_neg (by omega),if_neg (by omega),hm1,hG2,h2']
                      · rw[show(5:Int)-((u+1:Nat):Int)+1=5-(u:Int) by omega]
              · have hG0:Sort.fixDown (ltC cm) a m (Sort.swp D m m')=Sort.swp D m m':=by unfold Sort.fixDown;rw[if_neg (by omega)]
                have k5':(Sort.swp D m m').size=d.size:=by rw[Sort.size_swp];exact d3
                obtain⟨G2,hGG⟩ : ∃ G2,Sort.swp D m m'=G2:=⟨_,rfl⟩
                have hG2:Sort.fixDown (ltC cm) a m (Sort.swp D m m')=G2:=by rw[hG0,hGG]
                have k5:G2.size=d.size:=by rw[←hGG];exact k5'
                rw[hGG] at w4
                by_cases hbm:(2:Int)≤(b:Int)-(m:Int)
                · have h2':Sort.fixUp (ltC cm) b m G2=Sort.shiftUp (ltC cm) b (m+1) G2:=by unfold Sort.fixUp;rw[if_pos (by omega)]
                  simp (maxSteps:=2000000) (disch:=first|omega|(simp only[lenS];try omega)) only[go_sem,reduceAdd,reduceEqDiff,reduceLeDiff,reduceSub,H,w2,w3,e7,hm',hmb,hlt,h50,Int.not_lt.1 h50,hma,Int.not_le.1 hma,hbm,Int.not_lt.2 hbm,List.getElem?_set_ne,List.getElem_set_ne,List.getElem_map,false_implies,and_true,true_and,forall_const]
                  rw[←w4]
                  clear w2 w3 w4 hlt
                  refine z1a (fun q s=>∃ (w:Nat) (G3:Array α),m<w∧w≤b∧q=b-w∧G3.size=d.size∧Sort.shiftUp (ltC cm) b w G3=Sort.shiftUp (ltC cm) b (m+1) G2∧s=⟨[.ref 0 1 0 d.size,I a,I b,.any,I m,I (5-((u+1:Nat):Int)),.any,I w,.any,.any,.any,.any,.any,.any,.any,.any,.any,.any],.row t true 1 (G3.toList.map fun x=>I (g x)) :: []⟩) (b-(m+1)) ?_ ?_
                  · simp (maxSteps:=2000000) (disch:=first|omega|(simp only[lenS];try omega)) only[go_sem,reduceAdd,reduceEqDiff,reduceLeDiff,reduceSub]
                    exact⟨m+1,G2,by omega,by omega,rfl,k5,rfl,rfl⟩
                  · rintro q s ⟨w,G3,c1,c2,rfl,c3,c4,rfl⟩
                    have z0:=z1ad (ltC cm) G3 (b:=b) (j:=w)
                    have z1:=z1ae (ltC cm) G3 (b:=b) (j:=w)
                    simp only[ltC] at z0 z1
                    have e8:G3.toList.length=d.size:=by simp [c3]
                    obtain⟨w',hw'⟩ : ∃ w':Nat,(w:Int)-1=w':=⟨w-1,by omega⟩
                    rw[show w-1=w' by omega] at z0 z1
                    by_cases hwb:(w:Int)<b
                    · have v2:=z18k G3 (i:=w) (by omega)
                      have v3:=z18k G3 (i:=w') (by omega)
                      have v4:=z18o (fun x=>I (g x)) G3 w w'
                      generalize G3[w]! = x3 at *
                      generalize G3[w']! = y3 at *
                      by_cases hl3:cm x3 y3<0
                      · have z2:=z1 (by omega) (by simp [hl3])
                        simp (maxSteps:=2000000) (disch:=first|omega|(simp only[lenS];try omega)) only[go_sem,reduceAdd,reduceEqDiff,reduceLeDiff,reduceSub,H,v2,v3,e8,hw',hwb,hl3,List.getElem?_set_ne,List.getElem_set_ne,List.getElem_map]
                        exact⟨b-(w+1),by omega,w+1,Sort.swp G3 w w',by omega,by omega,rfl,by rw[Sort.size_swp];exact c3,by rw[←c4,z2],by rw[v4];rfl⟩
                      · have z2:=z0 (.inr (by simp [hl3]))
                        simp (maxSteps:=2000000) (disch:=first|omega|(simp only[lenS];try omega)) only[go_sem,reduceAdd,reduceEqDiff,reduceLeDiff,reduceSub,H,v2,v3,e8,hw',hwb,hl3]
                        refine⟨u,by omega,m,G3,by omega,by omega,by omega,c3,?_,?_⟩
                        · rw[←d4,Sort.partialIns_succ,←hscan,if_neg (by omega),if_neg (by omega),hm1,hG2,h2',←c4]
                          exact congrArg _ z2.symm
                        · rw[show(5:Int)-((u+1:Nat):Int)+1=5-(u:Int) by omega]
                    · have z2:=z0 (.inl (by omega))
                      simp (maxSteps:=2000000) (disch:=first|omega|(simp only[lenS];try omega)) only[go_sem,reduceAdd,reduceEqDiff,reduceLeDiff,reduceSub,hwb]
                      refine⟨u,by omega,m,G3,by omega,by omega,by omega,c3,?_,?_⟩
                      · rw[←d4,Sort.partialIns_succ,←hscan,if_neg (by omega),if_neg (by omega),hm1,hG2,h2',←c4]
                        exact congrArg _ z2.symm
                      · rw[show(5:Int)-((u+1:Nat):Int)+1=5-(u:Int) by omega]
                · exfalso
                  omega
          · have s2:=s1 (by omega) (by simp [hlt])
            simp (maxSteps:=2000000) (disch:=first|omega|(simp only[lenS];try omega)) only[go_sem,reduceAdd,reduceEqDiff,reduceLeDiff,reduceSub,H,w2,w3,e7,hm',hmb,hlt]
            exact⟨b-(m+1),by omega,m+1,by omega,by omega,rfl,by rw[←m4,s2],rfl⟩
        · have hscan:m=Sort.scanSorted (ltC cm) D b i:=by rw[←m4];exact(s0 (.inl (by omega))).symm
          have e5:Sort.partialIns (ltC cm) a b 5 (a+1) d=(D,true):=by rw[←d4,Sort.partialIns_succ,←hscan,if_pos (by omega)]
          simp (maxSteps:=2000000) (disch:=first|omega|(simp only[lenS];try omega)) only[go_sem,reduceAdd,reduceEqDiff,reduceLeDiff,reduceSub,hmb]
          rw[e5]
theorem wd2{α:Type}[Inhabited α](g:α→Int)(cm:α→α→Int)(H : ∀ x y,C w5o [I (g x),I (g y)] []=some (.bool (decide (cm x y<0)),[]))(t:TypeId)(d:Array α)(a b pv:Nat)(h1:a≤pv)(h2:pv<b)(hb:b≤d.size)(hs:d.size<2^40) :
  C w7l [.ref 0 1 0 d.size,I a,I b,I pv] (.row t true 1 (d.toList.map fun x=>I (g x)) :: [])=some (I (Sort.partitionEqual (ltC cm) d a b pv).1,.row t true 1 ((Sort.partitionEqual (ltC cm) d a b pv).2.toList.map fun x=>I (g x)) :: []):=by
 obtain⟨n,hn⟩ : ∃ n:Nat,(b:Int)-1=n:=⟨b-1,by omega⟩
 have w2:=z18k d (i:=a) (by omega)
 have w3:=z18k d (i:=pv) (by omega)
 have w4:=z18o (fun x=>I (g x)) d a pv
 have w6:=z18n (fun x=>I (g x)) d (i:=a) (j:=pv) d[pv]! (by omega) (by omega)
 generalize (if a=pv then d[pv]! else d[pv]!)=z at *
 generalize d[a]! = x at *
 generalize d[pv]! = y at *
 unfold Sort.partitionEqual
 rw[show b-1=n by omega]
 refine w1p ?_
 simp (maxSteps:=2000000) (disch:=first|omega|(simp only[lenS];try omega)) only[wbe,go_sem,reduceAdd,reduceEqDiff,reduceLeDiff,reduceSub]
 have e7:d.toList.length=d.size:=by simp
 simp (maxSteps:=2000000) (disch:=first|omega|(simp only[lenS];try omega)) only[go_sem,reduceAdd,reduceEqDiff,reduceLeDiff,reduceSub,w2,w3,w6,e7,hn]
 rw[←w4]
 have k0:(Sort.swp d a pv).size=d.size:=Sort.size_swp _ _ _
 generalize Sort.swp d a pv=D at *
 clear w2 w3 w4 w6 x y z e7
 refine z1a (fun k s=>∃ (i j:Nat) (E:Array α),a<i∧i≤j+2∧j<b∧k=j+1-i∧E.size=d.size∧Sort.partEqLoop (ltC cm) a i j E=Sort.partEqLoop (ltC cm) a (a+1) n D∧s=⟨[.ref 0 1 0 d.size,I a,.any,.any,.any,I i,I j,.any,.any,.any],.row t true 1 (E.toList.map fun x=>I (g x)) :: []⟩) (n+1-(a+1)) ?_ ?_
 ·simp (maxSteps:=2000000) (disch:=first|omega|(simp only[lenS];try omega)) only[go_sem,reduceAdd,reduceEqDiff,reduceLeDiff,reduceSub]
  exact⟨a+1,n,D,by omega,by omega,by omega,rfl,k0,rfl,rfl⟩
 ·rintro k s ⟨i,j,E,c1,c2,c3,rfl,c4,c5,rfl⟩
  have hq:=Sort.partEqLoop_eq (ltC cm) a i j E
  rw[c5] at hq
  have e7:E.toList.length=d.size:=by simp [c4]
  have w1:=z18k E (i:=a) (by omega)
  simp (maxSteps:=2000000) (disch:=first|omega|(simp only[lenS];try omega)) only[go_sem,reduceAdd,reduceEqDiff,reduceLeDiff,reduceSub]
  refine z1a (fun q s=>∃ u:Nat,i≤u∧u≤j+2∧q=j+2-u∧Sort.scanUp (fun x=>!ltC cm E[a]! x) E j u=Sort.scanUp (fun x=>!ltC cm E[a]! x) E j i∧s=⟨[.ref 0 1 0 d.size,I a,.any,.any,.any,I u,I j,.any,.any,.any],.row t true 1 (E.toList.map fun x=>I (g x)) :: []⟩) (j+2-i) ?_ ?_
  ·simp (maxSteps:=2000000) (disch:=first|omega|(simp only[lenS];try omega)) only[go_sem,reduceAdd,reduceEqDiff,reduceLeDiff,reduceSub]
   exact⟨i,by omega,c2,rfl,rfl,rfl⟩
  ·rintro q s ⟨u,u1,u2,rfl,u4,rfl⟩
   have s0:=z1gr (fun x=>!ltC cm E[a]! x) E (i:=u) (j:=j)
   have s1:=up_go (fun x=>!ltC cm E[a]! x) E (i:=u) (j:=j)
   by_cases huj:(u:Int)≤j
   ·have w2:=z18k E (i:=u) (by omega)
    by_cases hlt:cm E[a]! E[u]! < 0
    ·have hup:Sort.scanUp (fun x=>!ltC cm E[a]! x) E j i=u:=by rw[←u4];exact s0 (.inr (by simp [hlt]))
     rw[hup] at hq
     clear s0 s1 u4 hup
     generalize hA:E[a]! = A at *
     generalize E[u]! = x at *
     simp (maxSteps:=2000000) (disch:=first|omega|(simp only[lenS];try omega)) only[go_sem,reduceAdd,reduceEqDiff,reduceLeDiff,reduceSub,H,w1,w2,e7,huj,hlt]
     clear w2 hlt x
     refine z1a (fun q s=>∃ v:Nat,v≤j∧u≤v+2∧q=v∧Sort.scanDown (fun x=>ltC cm A x) E u v=Sort.scanDown (fun x=>ltC cm A x) E u j∧s=⟨[.ref 0 1 0 d.size,I a,.any,.any,.any,I u,I v,.any,.any,.any],.row t true 1 (E.toList.map fun x=>I (g x)) :: []⟩) j ?_ ?_
     ·simp (maxSteps:=2000000) (disch:=first|omega|(simp only[lenS];try omega)) only[go_sem,reduceAdd,reduceEqDiff,reduceLeDiff,reduceSub]
      exact⟨j,by omega,u2,rfl,rfl,rfl⟩
     ·rintro q s ⟨v,v1,v2,rfl,v4,rfl⟩
      have s0:=zcv (fun x=>ltC cm A x) E (i:=u) (j:=q)
      have s1:=zcw (fun x=>ltC cm A x) E (i:=u) (j:=q)
      by_cases huv:(u:Int)≤q
      ·have w2:=z18k E (i:=q) (by omega)
       obtain⟨q',hq'⟩ : ∃ q':Nat,(q:Int)-1=q':=⟨q-1,by omega⟩
       by_cases hl2:cm A E[q]! < 0
       ·have s2:=s1 (by omega) (by omega) (by simp [hl2])
        rw[show q-1=q' by omega] at s2
        generalize E[q]! = y at *
        simp (maxSteps:=2000000) (disch:=first|omega|(simp only[lenS];try omega)) only[go_sem,reduceAdd,reduceEqDiff,reduceLeDiff,reduceSub,H,w1,w2,e7,huv,hl2,hq']
        exact⟨q',by omega,q',by omega,by omega,rfl,by rw[←v4,s2],rfl⟩
       ·have hdn:Sort.scanDown (fun x=>ltC cm A x) E u j=q:=by rw[←v4];exact s0 (.inr (by simp [hl2]))
        rw[hdn,if_neg (by omega),show q-1=q' by omega] at hq
        have w3:=z18k E (i:=u) (by omega)
        have w4:=z18o (fun x=>I (g x)) E u q
        have w6:=z18n (fun x=>I (g x)) E (i:=u) (j:=q) E[q]! (by omega) (by omega)
        generalize (if u=q then E[q]! else E[q]!)=z at *
        generalize E[u]! = x at *
        generalize E[q]! = y at *
        simp (maxSteps:=2000000) (disch:=first|omega|(simp only[lenS];try omega)) only[go_sem,reduceAdd,reduceEqDiff,reduceLeDiff,reduceSub,H,w1,w2,w3,w6,e7,huv,hl2,hq']
        exact⟨q'+1-(u+1),by omega,u+1,q',Sort.swp E u q,by omega,by omega,by omega,rfl,by rw[Sort.size_swp];exact c4,hq.symm,by rw[w4];rfl⟩
      ·have hdn:Sort.scanDown (fun x=>ltC cm A x) E u j=q:=by rw[←v4];exact s0 (.inl (by omega))
       rw[hdn,if_pos (by omega)] at hq
       simp (maxSteps:=2000000) (disch:=first|omega|(simp only[lenS];try omega)) only[go_sem,reduceAdd,reduceEqDiff,reduceLeDiff,reduceSub,huv]
       rw[hq]
    ·have s2:=s1 (by omega) (by simp [hlt])
     generalize hA:E[a]! = A at *
     generalize E[u]! = x at *
     simp (maxSteps:=2000000) (disch:=first|omega|(simp only[lenS];try omega)) only[go_sem,reduceAdd,reduceEqDiff,reduceLeDiff,reduceSub,H,w1,w2,e7,huj,hlt]
     exact⟨j+2-(u+1),by omega,u+1,by omega,by omega,rfl,by rw[←u4,s2],rfl⟩
   ·have hup:Sort.scanUp (fun x=>!ltC cm E[a]! x) E j i=u:=by rw[←u4];exact s0 (.inl (by omega))
    rw[hup] at hq
    clear s0 s1 u4 hup
    simp (maxSteps:=2000000) (disch:=first|omega|(simp only[lenS];try omega)) only[go_sem,reduceAdd,reduceEqDiff,reduceLeDiff,reduceSub,huj]
    generalize hA:E[a]! = A at *
    refine z1a (fun q s=>∃ v:Nat,v≤j∧q=v∧Sort.scanDown (fun x=>ltC cm A x) E u v=Sort.scanDown (fun x=>ltC cm A x) E u j∧s=⟨[.ref 0 1 0 d.size,I a,.any,.any,.any,I u,I v,.any,.any,.any],.row t true 1 (E.toList.map fun x=>I (g x)) :: []⟩) j ?_ ?_
    ·simp (maxSteps:=2000000) (disch:=first|omega|(simp only[lenS];try omega)) only[go_sem,reduceAdd,reduceEqDiff,reduceLeDiff,reduceSub]
     exact⟨j,by omega,rfl,rfl,rfl⟩
    ·rintro q s ⟨v,v1,rfl,v4,rfl⟩
     have s0:=zcv (fun x=>ltC cm A x) E (i:=u) (j:=q)
     have huv:¬(u:Int)≤q:=by omega
     have hdn:Sort.scanDown (fun x=>ltC cm A x) E u j=q:=by rw[←v4];exact s0 (.inl (by omega))
     rw[hdn,if_pos (by omega)] at hq
     simp (maxSteps:=2000000) (disch:=first|omega|(simp only[lenS];try omega)) only[go_sem,reduceAdd,reduceEqDiff,reduceLeDiff,reduceSub,huv]
     rw[hq]
theorem wd3{α:Type}[Inhabited α](g:α→Int)(cm:α→α→Int)(H : ∀ x y,C w5o [I (g x),I (g y)] []=some (.bool (decide (cm x y<0)),[]))(t:TypeId)(d:Array α)(a b pv:Nat)(h1:a≤pv)(h2:pv<b)(hb:b≤d.size)(hs:d.size<2^40) :
  C w7m [.ref 0 1 0 d.size,I a,I b,I pv] (.row t true 1 (d.toList.map fun x=>I (g x)) :: [])=some (.tup [I (Sort.partition (ltC cm) d a b pv).1,.bool (Sort.partition (ltC cm) d a b pv).2.1],.row t true 1 ((Sort.partition (ltC cm) d a b pv).2.2.toList.map fun x=>I (g x)) :: []):=by
 obtain⟨n,hn⟩ : ∃ n:Nat,(b:Int)-1=n:=⟨b-1,by omega⟩
 have w2:=z18k d (i:=a) (by omega)
 have w3:=z18k d (i:=pv) (by omega)
 have w4:=z18o (fun x=>I (g x)) d a pv
 have w6:=z18n (fun x=>I (g x)) d (i:=a) (j:=pv) d[pv]! (by omega) (by omega)
 generalize (if a=pv then d[pv]! else d[pv]!)=z at *
 generalize d[a]! = x at *
 generalize d[pv]! = y at *
 refine w1q ?_
 simp (maxSteps:=2000000) (disch:=first|omega|(simp only[lenS];try omega)) only[wbf,go_sem,reduceAdd,reduceEqDiff,reduceLeDiff,reduceSub]
 have e7:d.toList.length=d.size:=by simp
 simp (maxSteps:=2000000) (disch:=first|omega|(simp only[lenS];try omega)) only[go_sem,reduceAdd,reduceEqDiff,reduceLeDiff,reduceSub,w2,w3,w6,e7,hn]
 rw[←w4]
 have hq:(Sort.partition (ltC cm) d a b pv)=(let d:=Sort.swp d a pv
  let i:=Sort.scanUp (fun x=>ltC cm x d[a]!) d (b-1) (a+1)
  let j:=Sort.scanDown (fun x=>!ltC cm x d[a]!) d i (b-1)
  if i>j then(j,true,Sort.swp d j a) else
   let r:=Sort.partLoop (ltC cm) a (i+1) (j-1) (Sort.swp d i j)
   (r.1,false,Sort.swp r.2 r.1 a)):=rfl
 rw[show b-1=n by omega] at hq
 simp only[] at hq
 have c4:(Sort.swp d a pv).size=d.size:=Sort.size_swp _ _ _
 generalize hE:Sort.swp d a pv=E at *
 clear w2 w3 w4 w6 x y z e7
 have e7:E.toList.length=d.size:=by simp [c4]
 have w1:=z18k E (i:=a) (by omega)
 obtain⟨i,hi⟩ : ∃ i,a+1=i:=⟨_,rfl⟩
 have hi':(a:Int)+1=i:=by omega
 rw[hi] at hq
 rw[hi']
 have c1:a<i:=by omega
 have c2:i≤n+2:=by omega
 have c3:n<b:=by omega
 clear hi hi' hE
 generalize n=j at *
 refine z1a (fun q s=>∃ u:Nat,i≤u∧u≤j+2∧q=j+2-u∧Sort.scanUp (fun x=>ltC cm x E[a]!) E j u=Sort.scanUp (fun x=>ltC cm x E[a]!) E j i∧s=⟨[.ref 0 1 0 d.size,I a,.any,.any,.any,.any,I u,I j,.any,.any,.any,.any,.any,.any],.row t true 1 (E.toList.map fun x=>I (g x)) :: []⟩) (j+2-i) ?_ ?_
 ·simp (maxSteps:=2000000) (disch:=first|omega|(simp only[lenS];try omega)) only[go_sem,reduceAdd,reduceEqDiff,reduceLeDiff,reduceSub]
  exact⟨i,by omega,c2,rfl,rfl,rfl⟩
 ·rintro q s ⟨u,u1,u2,rfl,u4,rfl⟩
  have s0:=z1gr (fun x=>ltC cm x E[a]!) E (i:=u) (j:=j)
  have s1:=up_go (fun x=>ltC cm x E[a]!) E (i:=u) (j:=j)
  by_cases huj:(u:Int)≤j
  ·have w2:=z18k E (i:=u) (by omega)
   by_cases hlt:cm E[u]! E[a]! < 0
   ·have s2:=s1 (by omega) (by simp [hlt])
    generalize hA:E[a]! = A at *
    generalize E[u]! = x at *
    simp (maxSteps:=2000000) (disch:=first|omega|(simp only[lenS];try omega)) only[go_sem,reduceAdd,reduceEqDiff,reduceLeDiff,reduceSub,H,w1,w2,e7,huj,hlt]
    exact⟨j+2-(u+1),by omega,u+1,by omega,by omega,rfl,by rw[←u4,s2],rfl⟩
   ·have hup:Sort.scanUp (fun x=>ltC cm x E[a]!) E j i=u:=by rw[←u4];exact s0 (.inr (by simp [hlt]))
    rw[hup] at hq
    clear s0 s1 u4 hup
    generalize hA:E[a]! = A at *
    generalize E[u]! = x at *
    simp (maxSteps:=2000000) (disch:=first|omega|(simp only[lenS];try omega)) only[go_sem,reduceAdd,reduceEqDiff,reduceLeDiff,reduceSub,H,w1,w2,e7,huj,hlt]
    clear w2 hlt x
    refine z1a (fun q s=>∃ v:Nat,v≤j∧u≤v+2∧q=v∧Sort.scanDown (fun x=>!ltC cm x A) E u v=Sort.scanDown (fun x=>!ltC cm x A) E u j∧s=⟨[.ref 0 1 0 d.size,I a,.any,.any,.any,.any,I u,I v,.any,.any,.any,.any,.any,.any],.row t true 1 (E.toList.map fun x=>I (g x)) :: []⟩) j ?_ ?_
    ·simp (maxSteps:=2000000) (disch:=first|omega|(simp only[lenS];try omega)) only[go_sem,reduceAdd,reduceEqDiff,reduceLeDiff,reduceSub]
     exact⟨j,by omega,u2,rfl,rfl,rfl⟩
    ·rintro q s ⟨v,v1,v2,rfl,v4,rfl⟩
     have s0:=zcv (fun x=>!ltC cm x A) E (i:=u) (j:=q)
     have s1:=zcw (fun x=>!ltC cm x A) E (i:=u) (j:=q)
     by_cases huv:(u:Int)≤q
     ·have w2:=z18k E (i:=q) (by omega)
      obtain⟨q',hq'⟩ : ∃ q':Nat,(q:Int)-1=q':=⟨q-1,by omega⟩
      by_cases hl2:cm E[q]! A<0
      ·have hdn:Sort.scanDown (fun x=>!ltC cm x A) E u j=q:=by rw[←v4];exact s0 (.inr (by simp [hl2]))
       rw[hdn,if_neg (by omega),show q-1=q' by omega] at hq
       have w3:=z18k E (i:=u) (by omega)
       have w4:=z18o (fun x=>I (g x)) E u q
       have w6:=z18n (fun x=>I (g x)) E (i:=u) (j:=q) E[q]! (by omega) (by omega)
       generalize (if u=q then E[q]! else E[q]!)=z at *
       generalize E[u]! = x at *
       generalize E[q]! = y at *
       simp (maxSteps:=2000000) (disch:=first|omega|(simp only[lenS];try omega)) only[go_sem,reduceAdd,reduceEqDiff,reduceLeDiff,reduceSub,H,w1,w2,w3,w6,e7,huv,hl2,hq']
       obtain⟨I0,hI0⟩ : ∃ I0,u+1=I0:=⟨_,rfl⟩
       obtain⟨J0,hJ0⟩ : ∃ J0,q'=J0:=⟨_,rfl⟩
       obtain⟨E0,hE0⟩ : ∃ E0,Sort.swp E u q=E0:=⟨_,rfl⟩
       have k0:E0.size=d.size:=by rw[←hE0,Sort.size_swp];exact c4
       have w4':=w4
       rw[hE0] at w4'
       rw[hI0,hJ0,hE0] at hq
       have hr:(Sort.partition (ltC cm) d a b pv)=((Sort.partLoop (ltC cm) a I0 J0 E0).1,false,Sort.swp (Sort.partLoop (ltC cm) a I0 J0 E0).2 (Sort.partLoop (ltC cm) a I0 J0 E0).1 a):=hq
       clear hq w1 w2 w3 w4 w6 e7 hdn
       have hb1:a<I0∧I0≤J0+2∧J0<b∧a≤J0:=by omega
       clear hE0 c1 c2 c4 u1 u2 v1 v2 hl2 huv huj hA v4
       refine z1a (fun k s=>∃ (i j:Nat) (E:Array α),a<i∧i≤j+2∧j<b∧a≤j∧k=j+1-i∧E.size=d.size∧Sort.partLoop (ltC cm) a i j E=Sort.partLoop (ltC cm) a I0 J0 E0∧s=⟨[.ref 0 1 0 d.size,I a,.any,.any,.any,.any,I i,I j,.any,.any,.any,.any,.any,.any],.row t true 1 (E.toList.map fun x=>I (g x)) :: []⟩) (J0+1-I0) ?_ ?_
       ·simp (maxSteps:=2000000) (disch:=first|omega|(simp only[lenS];try omega)) only[go_sem,reduceAdd,reduceEqDiff,reduceLeDiff,reduceSub]
        exact⟨I0,J0,E0,by omega,by omega,by omega,by omega,rfl,k0,rfl,by rw[w4',←hI0,←hJ0];rfl⟩
       ·rintro k s ⟨i,j,E,c1,c2,c3,c3',rfl,c4,c5,rfl⟩
        have hq:=Sort.partLoop_eq (ltC cm) a i j E
        have e7:E.toList.length=d.size:=by simp [c4]
        have w1:=z18k E (i:=a) (by omega)
        simp (maxSteps:=2000000) (disch:=first|omega|(simp only[lenS];try omega)) only[go_sem,reduceAdd,reduceEqDiff,reduceLeDiff,reduceSub]
        refine z1a (fun q s=>∃ u:Nat,i≤u∧u≤j+2∧q=j+2-u∧Sort.scanUp (fun x=>ltC cm x E[a]!) E j u=Sort.scanUp (fun x=>ltC cm x E[a]!) E j i∧s=⟨[.ref 0 1 0 d.size,I a,.any,.any,.any,.any,I u,I j,.any,.any,.any,.any,.any,.any],.row t true 1 (E.toList.map fun x=>I (g x)) :: []⟩) (j+2-i) ?_ ?_
        ·simp (maxSteps:=2000000) (disch:=first|omega|(simp only[lenS];try omega)) only[go_sem,reduceAdd,reduceEqDiff,reduceLeDiff,reduceSub]
         exact⟨i,by omega,c2,rfl,rfl,rfl⟩
        ·rintro q s ⟨u,u1,u2,rfl,u4,rfl⟩
         have s0:=z1gr (fun x=>ltC cm x E[a]!) E (i:=u) (j:=j)
         have s1:=up_go (fun x=>ltC cm x E[a]!) E (i:=u) (j:=j)
         by_cases huj:(u:Int)≤j
         ·have w2:=z18k E (i:=u) (by omega)
          by_cases hlt:cm E[u]! E[a]! < 0
          ·have s2:=s1 (by omega) (by simp [hlt])
           generalize hA:E[a]! = A at *
           generalize E[u]! = x at *
           simp (maxSteps:=2000000) (disch:=first|omega|(simp only[lenS];try omega)) only[go_sem,reduceAdd,reduceEqDiff,reduceLeDiff,reduceSub,H,w1,w2,e7,huj,hlt]
           exact⟨j+2-(u+1),by omega,u+1,by omega,by omega,rfl,by rw[←u4,s2],rfl⟩
          ·have hup:Sort.scanUp (fun x=>ltC cm x E[a]!) E j i=u:=by rw[←u4];exact s0 (.inr (by simp [hlt]))
           rw[hup] at hq
           clear s0 s1 u4 hup
           generalize hA:E[a]! = A at *
           generalize E[u]! = x at *
           simp (maxSteps:=2000000) (disch:=first|omega|(simp only[lenS];try omega)) only[go_sem,reduceAdd,reduceEqDiff,reduceLeDiff,reduceSub,H,w1,w2,e7,huj,hlt]
           clear w2 hlt x
           refine z1a (fun q s=>∃ v:Nat,v≤j∧u≤v+2∧q=v∧Sort.scanDown (fun x=>!ltC cm x A) E u v=Sort.scanDown (fun x=>!ltC cm x A) E u j∧s=⟨[.ref 0 1 0 d.size,I a,.any,.any,.any,.any,I u,I v,.any,.any,.any,.any,.any,.any],.row t true 1 (E.toList.map fun x=>I (g x)) :: []⟩) j ?_ ?_
           ·simp (maxSteps:=2000000) (disch:=first|omega|(simp only[lenS];try omega)) only[go_sem,reduceAdd,reduceEqDiff,reduceLeDiff,reduceSub]
            exact⟨j,by omega,u2,rfl,rfl,rfl⟩
           ·rintro q s ⟨v,v1,v2,rfl,v4,rfl⟩
            have s0:=zcv (fun x=>!ltC cm x A) E (i:=u) (j:=q)
            have s1:=zcw (fun x=>!ltC cm x A) E (i:=u) (j:=q)
            by_cases huv:(u:Int)≤q
            ·have w2:=z18k E (i:=q) (by omega)
             obtain⟨q',hq'⟩ : ∃ q':Nat,(q:Int)-1=q':=⟨q-1,by omega⟩
             by_cases hl2:cm E[q]! A<0
             ·have hdn:Sort.scanDown (fun x=>!ltC cm x A) E u j=q:=by rw[←v4];exact s0 (.inr (by simp [hl2]))
              rw[hdn,if_neg (by omega),show q-1=q' by omega] at hq
              have w3:=z18k E (i:=u) (by omega)
              have w4:=z18o (fun x=>I (g x)) E u q
              have w6:=z18n (fun x=>I (g x)) E (i:=u) (j:=q) E[q]! (by omega) (by omega)
              generalize (if u=q then E[q]! else E[q]!)=z at *
              generalize E[u]! = x at *
              generalize E[q]! = y at *
              simp (maxSteps:=2000000) (disch:=first|omega|(simp only[lenS];try omega)) only[go_sem,reduceAdd,reduceEqDiff,reduceLeDiff,reduceSub,H,w1,w2,w3,w6,e7,huv,hl2,hq']
              exact⟨q'+1-(u+1),by omega,u+1,q',Sort.swp E u q,by omega,by omega,by omega,by omega,rfl,by rw[Sort.size_swp];exact c4,by rw[←c5];exact hq.symm,by rw[w4];rfl⟩
             ·have s2:=s1 (by omega) (by omega) (by simp [hl2])
              rw[show q-1=q' by omega] at s2
              generalize E[q]! = y at *
              simp (maxSteps:=2000000) (disch:=first|omega|(simp only[lenS];try omega)) only[go_sem,reduceAdd,reduceEqDiff,reduceLeDiff,reduceSub,H,w1,w2,e7,huv,hl2,hq']
              exact⟨q',by omega,q',by omega,by omega,rfl,by rw[←v4,s2],rfl⟩
            ·have hdn:Sort.scanDown (fun x=>!ltC cm x A) E u j=q:=by rw[←v4];exact s0 (.inl (by omega))
             rw[hdn,if_pos (by omega)] at hq
             have w2:=z18k E (i:=q) (by omega)
             have w4:=z18o (fun x=>I (g x)) E q a
             have w6:=z18n (fun x=>I (g x)) E (i:=q) (j:=a) A (by omega) (by omega)
             rw[hA] at w4
             generalize (if q=a then A else E[a]!)=z at *
             generalize E[q]! = y at *
             simp (maxSteps:=2000000) (disch:=first|omega|(simp only[lenS];try omega)) only[go_sem,reduceAdd,reduceEqDiff,reduceLeDiff,reduceSub,huv,w1,w2,w6,e7]
             rw[hr,←c5,hq,w4]
         ·have hup:Sort.scanUp (fun x=>ltC cm x E[a]!) E j i=u:=by rw[←u4];exact s0 (.inl (by omega))
          rw[hup] at hq
          clear s0 s1 u4 hup
          simp (maxSteps:=2000000) (disch:=first|omega|(simp only[lenS];try omega)) only[go_sem,reduceAdd,reduceEqDiff,reduceLeDiff,reduceSub,huj]
          generalize hA:E[a]! = A at *
          refine z1a (fun q s=>∃ v:Nat,v≤j∧u≤v+2∧q=v∧Sort.scanDown (fun x=>!ltC cm x A) E u v=Sort.scanDown (fun x=>!ltC cm x A) E u j∧s=⟨[.ref 0 1 0 d.size,I a,.any,.any,.any,.any,I u,I v,.any,.any,.any,.any,.any,.any],.row t true 1 (E.toList.map fun x=>I (g x)) :: []⟩) j ?_ ?_
          ·simp (maxSteps:=2000000) (disch:=first|omega|(simp only[lenS];try omega)) only[go_sem,reduceAdd,reduceEqDiff,reduceLeDiff,reduceSub]
           exact⟨j,by omega,u2,rfl,rfl,rfl⟩
          ·rintro q s ⟨v,v1,v2,rfl,v4,rfl⟩
           have s0:=zcv (fun x=>!ltC cm x A) E (i:=u) (j:=q)
           have huv:¬(u:Int)≤q:=by omega
           have hdn:Sort.scanDown (fun x=>!ltC cm x A) E u j=q:=by rw[←v4];exact s0 (.inl (by omega))
           rw[hdn,if_pos (by omega)] at hq
           have w2:=z18k E (i:=q) (by omega)
           have w4:=z18o (fun x=>I (g x)) E q a
           have w6:=z18n (fun x=>I (g x)) E (i:=q) (j:=a) A (by omega) (by omega)
           rw[hA] at w4
           generalize (if q=a then A else E[a]!)=z at *
           generalize E[q]! = y at *
           simp (maxSteps:=2000000) (disch:=first|omega|(simp only[lenS];try omega)) only[go_sem,reduceAdd,reduceEqDiff,reduceLeDiff,reduceSub,huv,w1,w2,w6,e7]
           rw[hr,←c5,hq,w4]
      ·have s2:=s1 (by omega) (by omega) (by simp [hl2])
       rw[show q-1=q' by omega] at s2
       generalize E[q]! = y at *
       simp (maxSteps:=2000000) (disch:=first|omega|(simp only[lenS];try omega)) only[go_sem,reduceAdd,reduceEqDiff,reduceLeDiff,reduceSub,H,w1,w2,e7,huv,hl2,hq']
       exact⟨q',by omega,q',by omega,by omega,rfl,by rw[←v4,s2],rfl⟩
     ·have hdn:Sort.scanDown (fun x=>!ltC cm x A) E u j=q:=by rw[←v4];exact s0 (.inl (by omega))
      rw[hdn,if_pos (by omega)] at hq
      have w2:=z18k E (i:=q) (by omega)
      have w4:=z18o (fun x=>I (g x)) E q a
      have w6:=z18n (fun x=>I (g x)) E (i:=q) (j:=a) A (by omega) (by omega)
      rw[hA] at w4
      generalize (if q=a then A else E[a]!)=z at *
      generalize E[q]! = y at *
      simp (maxSteps:=2000000) (disch:=first|omega|(simp only[lenS];try omega)) only[go_sem,reduceAdd,reduceEqDiff,reduceLeDiff,reduceSub,huv,w1,w2,w6,e7]
      rw[hq,w4]
  ·have hup:Sort.scanUp (fun x=>ltC cm x E[a]!) E j i=u:=by rw[←u4];exact s0 (.inl (by omega))
   rw[hup] at hq
   clear s0 s1 u4 hup
   simp (maxSteps:=2000000) (disch:=first|omega|(simp only[lenS];try omega)) only[go_sem,reduceAdd,reduceEqDiff,reduceLeDiff,reduceSub,huj]
   generalize hA:E[a]! = A at *
   refine z1a (fun q s=>∃ v:Nat,v≤j∧u≤v+2∧q=v∧Sort.scanDown (fun x=>!ltC cm x A) E u v=Sort.scanDown (fun x=>!ltC cm x A) E u j∧s=⟨[.ref 0 1 0 d.size,I a,.any,.any,.any,.any,I u,I v,.any,.any,.any,.any,.any,.any],.row t true 1 (E.toList.map fun x=>I (g x)) :: []⟩) j ?_ ?_
   ·simp (maxSteps:=2000000) (disch:=first|omega|(simp only[lenS];try omega)) only[go_sem,reduceAdd,reduceEqDiff,reduceLeDiff,reduceSub]
    exact⟨j,by omega,u2,rfl,rfl,rfl⟩
   ·rintro q s ⟨v,v1,v2,rfl,v4,rfl⟩
    have s0:=zcv (fun x=>!ltC cm x A) E (i:=u) (j:=q)
    have huv:¬(u:Int)≤q:=by omega
    have hdn:Sort.scanDown (fun x=>!ltC cm x A) E u j=q:=by rw[←v4];exact s0 (.inl (by omega))
    rw[hdn,if_pos (by omega)] at hq
    have w2:=z18k E (i:=q) (by omega)
    have w4:=z18o (fun x=>I (g x)) E q a
    have w6:=z18n (fun x=>I (g x)) E (i:=q) (j:=a) A (by omega) (by omega)
    rw[hA] at w4
    generalize (if q=a then A else E[a]!)=z at *
    generalize E[q]! = y at *
    simp (maxSteps:=2000000) (disch:=first|omega|(simp only[lenS];try omega)) only[go_sem,reduceAdd,reduceEqDiff,reduceLeDiff,reduceSub,huv,w1,w2,w6,e7]
    rw[hq,w4]
theorem wd4{α:Type}[Inhabited α](g:α→Int)(cm:α→α→Int)(H : ∀ x y,C w5o [I (g x),I (g y)] []=some (.bool (decide (cm x y<0)),[]))(hw:Sort.SWO (ltC cm))(t:TypeId) : ∀ (n:Nat) (d:Array α) (a b:Nat) (lim:Int),b-a≤n→a≤b→b≤d.size→d.size<65536→0≤lim∧lim<2^40→Sort.Below (ltC cm) a b d →
    Lw (C w7n [.ref 0 1 0 d.size,I a,I b,I lim] (.row t true 1 (d.toList.map fun x=>I (g x)) :: [])) fun r=>∃ E:Array α,r=(.tup [],.row t true 1 (E.toList.map fun x=>I (g x)) :: [])∧Sort.PermIn a b d E∧Sort.SortedIn (ltC cm) a b E:=by
  intro n
  induction n using Nat.strongRecOn with
  | _ n IH =>
  intro d a b lim hn hab hb hs hlim hB
  refine w2d ?_
  simp (maxSteps:=2000000) (disch:=first|omega|(simp only[lenS];try omega)) only[wbg,go_sem,reduceAdd,reduceEqDiff,reduceLeDiff,reduceSub]
  refine z1a (fun k s=>∃ (a' b':Nat) (lim':Int) (E:Array α) (wb wp:Bool),k=b'-a'∧a'≤b'∧b'-a'≤n∧b'≤d.size∧E.size=d.size∧(0≤lim'∧lim'<2^40)∧Sort.Below (ltC cm) a' b' E∧(∀ R,Sort.PermIn a' b' E R→Sort.SortedIn (ltC cm) a' b' R→Sort.PermIn a b d R∧Sort.SortedIn (ltC cm) a b R)∧s=⟨[.ref 0 1 0 d.size,I a',I b',I lim',.bool wb,.bool wp,.any,.any,.any,.any,.any,.any,.any,.any,.any,.any,.any,.any,.any,.any,.any,.any,.any],.row t true 1 (E.toList.map fun x=>I (g x)) :: []⟩) (b-a) ?_ ?_
  · simp (maxSteps:=2000000) (disch:=first|omega|(simp only[lenS];try omega)) only[go_sem,reduceAdd,reduceEqDiff,reduceLeDiff,reduceSub]
    exact⟨a,b,lim,d,true,true,rfl,hab,hn,hb,rfl,hlim,hB,fun R h1 h2=>⟨h1,h2⟩,rfl⟩
  · rintro k s ⟨a',b',lim',E,wb,wp,rfl,a1,a2,a3,a4,a5,a6,a7,rfl⟩
    clear hB hn hab hb hlim
    obtain⟨L,hL⟩ : ∃ L:Nat,(b':Int)-(a':Int)=L:=⟨b'-a',by omega⟩
    by_cases h12:(L:Int)≤12
    · have e1:=wcw g cm H t E a' b' a1 (by omega) (by omega)
      rw[a4] at e1
      obtain⟨i1,i2⟩:=Sort.insertionSort_holds hw E a' b' a1 (by omega)
      generalize Sort.insertionSort (ltC cm) E a' b'=R at *
      simp (maxSteps:=2000000) (disch:=first|omega|(simp only[lenS];try omega)) only[go_sem,reduceAdd,reduceEqDiff,reduceLeDiff,reduceSub,hL,h12,e1]
      exact⟨R,rfl,a7 R i1 i2⟩
    by_cases hl0:lim'=0
    · have e1:=wcv g cm H t E a' b' a1 (by omega) (by omega)
      rw[a4] at e1
      obtain⟨i1,i2⟩:=Sort.heapSort_holds hw E a' b' a1 (by omega)
      generalize Sort.heapSort (ltC cm) E a' b'=R at *
      subst hl0
      simp (maxSteps:=2000000) (disch:=first|omega|(simp only[lenS];try omega)) only[go_sem,reduceAdd,reduceEqDiff,reduceLeDiff,reduceSub,hL,h12,e1]
      exact⟨R,rfl,a7 R i1 i2⟩
    refine z16 (W_seq (W.mono (Q:=fun o=>o=.next ⟨[.ref 0 1 0 d.size,I a',I b',I lim',.bool wb,.bool wp,I L,.any,.any,.any,.any,.any,.any,.any,.any,.any,.any,.any,.any,.any,.any,.any,.any],.row t true 1 (E.toList.map fun x=>I (g x)) :: []⟩) ?_ ?_))
    · simp (maxSteps:=2000000) (disch:=first|omega|(simp only[lenS];try omega)) only[go_sem,reduceAdd,reduceEqDiff,reduceLeDiff,reduceSub,hL]
    rintro _ rfl
    refine W_seq (W.mono (Q:=fun o=>o=.next ⟨[.ref 0 1 0 d.size,I a',I b',I lim',.bool wb,.bool wp,I L,.any,.any,.any,.any,.any,.any,.any,.any,.bool false,.any,.any,.any,.any,.any,.any,.any],.row t true 1 (E.toList.map fun x=>I (g x)) :: []⟩) ?_ ?_)
    · simp (maxSteps:=2000000) (disch:=first|omega|(simp only[lenS];try omega)) only[go_sem,reduceAdd,reduceEqDiff,reduceLeDiff,reduceSub,h12]
    rintro _ rfl
    refine W_seq (W.mono (Q:=fun o=>o=.next ⟨[.ref 0 1 0 d.size,I a',I b',I lim',.bool wb,.bool wp,I L,.any,.any,.any,.any,.any,.any,.any,.any,.bool false,.bool false,.any,.any,.any,.any,.any,.any],.row t true 1 (E.toList.map fun x=>I (g x)) :: []⟩) ?_ ?_)
    · simp (maxSteps:=2000000) (disch:=first|omega|(simp only[lenS];try omega)) only[go_sem,reduceAdd,reduceEqDiff,reduceLeDiff,reduceSub,hl0]
    rintro _ rfl
    refine W_seq (W.mono (Q:=fun o=>∃ (E1:Array α) (lim1:Int),Sort.PermIn a' b' E E1∧(0≤lim1∧lim1<2^40)∧o=.next ⟨[.ref 0 1 0 d.size,I a',I b',I lim1,.bool wb,.bool wp,I L,.any,.any,.any,.any,.any,.any,.any,.any,.bool false,.bool false,.bool !wb,.any,.any,.any,.any,.any],.row t true 1 (E1.toList.map fun x=>I (g x)) :: []⟩) ?_ ?_)
    · cases wb with
      | true =>
        simp (maxSteps:=2000000) (disch:=first|omega|(simp only[lenS];try omega)) only[go_sem,reduceAdd,reduceEqDiff,reduceLeDiff,reduceSub]
        exact⟨E,lim',Sort.permIn_refl E a' b',a5,rfl⟩
      | false =>
        obtain⟨_,e1,E1,rfl,p1⟩:=wct g cm H t E a' b' (by omega) (by omega) (by omega)
        rw[a4] at e1
        simp (maxSteps:=2000000) (disch:=first|omega|(simp only[lenS];try omega)) only[go_sem,reduceAdd,reduceEqDiff,reduceLeDiff,reduceSub,e1]
        exact⟨E1,lim'-1,p1,by omega,rfl⟩
    rintro _ ⟨E1,lim1,p1,a5',rfl⟩
    have s1:=z11k p1
    obtain⟨_,e1,x,h,rfl,x1,x2,x3,x4⟩:=wcu g cm H t E1 a' b' (by omega) (by omega) (by omega)
    rw[s1,a4] at e1
    refine W_seq (W.mono (Q:=fun o=>o=.next ⟨[.ref 0 1 0 d.size,I a',I b',I lim1,.bool wb,.bool wp,I L,I x,I h,.any,.any,.any,.any,.any,.any,.bool false,.bool false,.bool !wb,.any,.any,.any,.any,.any],.row t true 1 (E1.toList.map fun x=>I (g x)) :: []⟩) ?_ ?_)
    · simp (maxSteps:=2000000) (disch:=first|omega|(simp only[lenS];try omega)) only[go_sem,reduceAdd,reduceEqDiff,reduceLeDiff,reduceSub,e1]
    rintro _ rfl
    refine W_seq (W.mono (Q:=fun o=>∃ (E2:Array α) (pv:Nat) (h':Int) (q:Bool),Sort.PermIn a' b' E E2∧a'≤pv∧pv<b'∧o=.next ⟨[.ref 0 1 0 d.size,I a',I b',I lim1,.bool wb,.bool wp,I L,I pv,I h',.any,.any,.any,.any,.any,.any,.bool false,.bool false,.bool !wb,.bool q,.any,.any,.any,.any],.row t true 1 (E2.toList.map fun x=>I (g x)) :: []⟩) ?_ ?_)
    · by_cases h2:h=2
      · subst h2
        obtain⟨_,e2,E2,rfl,p2⟩:=wd5 g cm H t E1 a' b' (by omega) (by omega) (by omega)
        rw[s1,a4] at e2
        simp (maxSteps:=2000000) (disch:=first|omega|(simp only[lenS];try omega)) only[go_sem,reduceAdd,reduceEqDiff,reduceLeDiff,reduceSub,e2]
        exact⟨E2,b'-1-(x-a'),1,true,Sort.permIn_trans E E1 E2 a' b' p1 p2,by omega,by omega,by rw[show((b'-1-(x-a'):Nat):Int)=(b':Int)-1-((x:Int)-a') by omega]⟩
      · simp (maxSteps:=2000000) (disch:=first|omega|(simp only[lenS];try omega)) only[go_sem,reduceAdd,reduceEqDiff,reduceLeDiff,reduceSub,h2]
        exact⟨E1,x,h,false,p1,x1,x2,rfl⟩
    rintro _ ⟨E2,pv,h',q,p2,v1,v2,rfl⟩
    have s2:=z11k p2
    have B2:=a6.permA Sort.permIn_all (by omega) p2
    refine W_seq (W.mono (Q:=fun o=>∃ (E3:Array α) (f:List PV),Sort.PermIn a' b' E E3∧((∃ z:PV,∃ y:Bool,o=.next ⟨[.ref 0 1 0 d.size,I a',I b',I lim1,.bool wb,.bool wp,I L,I pv,I h',.any,.any,.any,.any,.any,.any,.bool false,.bool false,.bool !wb,.bool q,.bool y,z,.any,.any],.row t true 1 (E3.toList.map fun x=>I (g x)) :: []⟩)∨(Sort.SortedIn (ltC cm) a' b' E3∧o=.ret ⟨f,.row t true 1 (E3.toList.map fun x=>I (g x)) :: []⟩))) ?_ ?_)
    · have e3:=wd1 g cm H t E2 a' b' (by omega) (by omega) (by omega)
      rw[s2,a4] at e3
      obtain⟨i1,i2⟩:=Sort.partialInsertionSort_holds hw E2 a' b' (by omega) (by omega) B2
      generalize Sort.partialInsertionSort (ltC cm) E2 a' b'=R at *
      obtain⟨R,w⟩:=R
      have i3:=Sort.permIn_trans E E2 R a' b' p2 i1
      simp only at e3 i2
      cases wb with
      | false =>
        simp (maxSteps:=2000000) (disch:=first|omega|(simp only[lenS];try omega)) only[go_sem,reduceAdd,reduceEqDiff,reduceLeDiff,reduceSub]
        exact⟨E2,[],p2,.inl ⟨_,_,rfl⟩⟩
      | true => cases wp with
        | false =>
          simp (maxSteps:=2000000) (disch:=first|omega|(simp only[lenS];try omega)) only[go_sem,reduceAdd,reduceEqDiff,reduceLeDiff,reduceSub]
          exact⟨E2,[],p2,.inl ⟨_,_,rfl⟩⟩
        | true =>
          by_cases h1:h'=1
          · subst h1
            cases w with
            | true =>
              simp (maxSteps:=2000000) (disch:=first|omega|(simp only[lenS];try omega)) only[go_sem,reduceAdd,reduceEqDiff,reduceLeDiff,reduceSub,e3]
              exact⟨R,_,i3,.inr ⟨i2 rfl,rfl⟩⟩
            | false =>
              simp (maxSteps:=2000000) (disch:=first|omega|(simp only[lenS];try omega)) only[go_sem,reduceAdd,reduceEqDiff,reduceLeDiff,reduceSub,e3]
              exact⟨R,[],i3,.inl ⟨_,_,rfl⟩⟩
          · simp (maxSteps:=2000000) (disch:=first|omega|(simp only[lenS];try omega)) only[go_sem,reduceAdd,reduceEqDiff,reduceLeDiff,reduceSub,h1]
            exact⟨E2,[],p2,.inl ⟨_,_,rfl⟩⟩
    rintro _ ⟨E3,f,p3,⟨z,y,rfl⟩ | ⟨sr,rfl⟩⟩
    · clear e1 p1 p2 s1 s2 B2
      have s3:=z11k p3
      have B3:=a6.permA Sort.permIn_all (by omega) p3
      have e7:E3.toList.length=d.size:=by simp [s3,a4]
      show W _ _ _ _ _
      refine W_seq (W.mono (Q:=fun o=>(o=.next ⟨[.ref 0 1 0 d.size,I a',I b',I lim1,.bool wb,.bool wp,I L,I pv,I h',.any,.any,.any,.any,.any,.any,.bool false,.bool false,.bool !wb,.bool q,.bool y,z,.bool false,.any],.row t true 1 (E3.toList.map fun x=>I (g x)) :: []⟩)∨(∃ (mid:Nat) (d4:Array α),(a'<mid∧mid≤b'∧d4.size=E3.size∧Sort.Below (ltC cm) mid b' d4∧∀ R,Sort.PermIn mid b' d4 R→Sort.SortedIn (ltC cm) mid b' R→Sort.PermIn a' b' E3 R∧Sort.SortedIn (ltC cm) a' b' R)∧o=.exit 1 ⟨[.ref 0 1 0 d.size,I mid,I b',I lim1,.bool wb,.bool wp,I L,I pv,I h',I mid,.any,.any,.any,.any,.any,.bool false,.bool false,.bool !wb,.bool q,.bool y,z,.bool true,.any],.row t true 1 (d4.toList.map fun x=>I (g x)) :: []⟩)) ?_ ?_)
      · by_cases h0:(0:Int)<a'
        · obtain⟨am,ham⟩ : ∃ am:Nat,(a':Int)-1=am:=⟨a'-1,by omega⟩
          have w1:=z18k E3 (i:=am) (by omega)
          have w2:=z18k E3 (i:=pv) (by omega)
          by_cases hlt:cm E3[am]! E3[pv]! < 0
          · generalize E3[am]! = x1 at *
            generalize E3[pv]! = x2 at *
            simp (maxSteps:=2000000) (disch:=first|omega|(simp only[lenS];try omega)) only[go_sem,reduceAdd,reduceEqDiff,reduceLeDiff,reduceSub,H,w1,w2,e7,ham,h0,hlt]
            first | exact .inl trivial | exact .inl rfl
          · have e4:=wd2 g cm H t E3 a' b' pv (by omega) (by omega) (by omega) (by omega)
            have hr:=fun mid d4 hx=>Sort.round_eq hw (Sort.partitionEqual_holds (ltC cm)) (d3:=E3) (d4:=d4) (a:=a') (b:=b') (pivot:=pv) (mid:=mid) (by omega) v1 v2 (by omega) B3 (by rw[show a'-1=am by omega];simp [hlt]) hx
            generalize Sort.partitionEqual (ltC cm) E3 a' b' pv=Z at *
            obtain⟨mid,d4⟩:=Z
            have hr:=hr mid d4 rfl
            simp only[s3,a4] at e4
            generalize E3[am]! = x1 at *
            generalize E3[pv]! = x2 at *
            simp (maxSteps:=2000000) (disch:=first|omega|(simp only[lenS];try omega)) only[go_sem,reduceAdd,reduceEqDiff,reduceLeDiff,reduceSub,H,w1,w2,e7,ham,h0,hlt,e4]
            exact .inr ⟨mid,d4,hr,rfl⟩
        · simp (maxSteps:=2000000) (disch:=first|omega|(simp only[lenS];try omega)) only[go_sem,reduceAdd,reduceEqDiff,reduceLeDiff,reduceSub,h0]
          first | exact .inl trivial | exact .inl rfl
      rintro _ (rfl | ⟨mid,d4,⟨r1,r2,r3,r4,r5⟩,rfl⟩)
      · have e4:=wd3 g cm H t E3 a' b' pv (by omega) (by omega) (by omega) (by omega)
        have hr:=fun mid ap d4 hx=>Sort.round_part hw (Sort.partition_holds (ltC cm)) (d3:=E3) (d4:=d4) (a:=a') (b:=b') (pivot:=pv) (mid:=mid) (ap:=ap) v1 v2 (by omega) B3 hx
        generalize Sort.partition (ltC cm) E3 a' b' pv=Z at *
        obtain⟨mid,ap,d4⟩:=Z
        obtain⟨r1,r2,r3,r4,r5,r6,r7⟩:=hr mid ap d4 rfl
        simp only[s3,a4] at e4
        have r3':d4.size=d.size:=by omega
        obtain⟨ll,hll⟩ : ∃ l:Nat,(mid:Int)-(a':Int)=l:=⟨mid-a',by omega⟩
        obtain⟨rl,hrl⟩ : ∃ l:Nat,(b':Int)-(mid:Int)=l:=⟨b'-mid,by omega⟩
        obtain⟨bt,hbt⟩ : ∃ l:Nat,(L:Int).tdiv 8=l:=⟨L / 8,(Int.ofNat_tdiv L 8).symm⟩
        obtain⟨mp,hmp⟩ : ∃ l:Nat,(mid:Int)+1=l:=⟨mid+1,by omega⟩
        obtain rfl:mp=mid+1:=by omega
        clear e7
        show W _ _ _ _ _
        by_cases hlr:(ll:Int)<rl
        · obtain⟨_,e5,F5,rfl,q1,q2⟩:=IH (mid-a') (by omega) d4 a' mid lim1 (Nat.le_refl _) r1 (by omega) (by omega) (by omega) r4
          obtain⟨q3,q4⟩:=r6 F5 q1 q2
          have q5:=z11k q1
          rw[r3'] at e5
          simp (maxSteps:=2000000) (disch:=first|omega|(simp only[lenS];try omega)) only[go_sem,reduceAdd,reduceEqDiff,reduceLeDiff,reduceSub,e4,hll,hrl,hbt,hlr,e5,hmp]
          refine⟨fun _=>⟨fun _=>?_,fun _=>?_⟩,fun _=>⟨fun _=>?_,fun _=>?_⟩⟩
          all_goals exact⟨b'-(mid+1),by omega,mid+1,b',lim1,F5,_,_,rfl,by omega,by omega,by omega,by omega,a5',q3,fun R h1 h2=>a7 R (Sort.permIn_trans E E3 R a' b' p3 (q4 R h1 h2).1) (q4 R h1 h2).2,rfl⟩
        · obtain⟨_,e5,F5,rfl,q1,q2⟩:=IH (b'-(mid+1)) (by omega) d4 (mid+1) b' lim1 (Nat.le_refl _) (by omega) (by omega) (by omega) (by omega) r5
          obtain⟨q3,q4⟩:=r7 F5 q1 q2
          have q5:=z11k q1
          rw[r3'] at e5
          simp (maxSteps:=2000000) (disch:=first|omega|(simp only[lenS];try omega)) only[go_sem,reduceAdd,reduceEqDiff,reduceLeDiff,reduceSub,e4,hll,hrl,hbt,hlr,e5,hmp]
          refine⟨fun _=>⟨fun _=>?_,fun _=>?_⟩,fun _=>⟨fun _=>?_,fun _=>?_⟩⟩
          all_goals exact⟨mid-a',by omega,a',mid,lim1,F5,_,_,rfl,by omega,by omega,by omega,by omega,a5',q3,fun R h1 h2=>a7 R (Sort.permIn_trans E E3 R a' b' p3 (q4 R h1 h2).1) (q4 R h1 h2).2,rfl⟩
      · simp (maxSteps:=2000000) (disch:=first|omega|(simp only[lenS];try omega)) only[go_sem,reduceAdd,reduceEqDiff,reduceLeDiff,reduceSub]
        exact⟨b'-mid,by omega,mid,b',lim1,d4,wb,wp,rfl,by omega,by omega,by omega,by omega,a5',r4,fun R h1 h2=>a7 R (Sort.permIn_trans E E3 R a' b' p3 (r5 R h1 h2).1) (r5 R h1 h2).2,rfl⟩
    · simp (maxSteps:=2000000) (disch:=first|omega|(simp only[lenS];try omega)) only[go_sem,reduceAdd,reduceEqDiff,reduceLeDiff,reduceSub]
      exact⟨E3,rfl,a7 E3 p3 sr⟩
theorem wcs(l:List Int)(t:TypeId)(hs:l.length<65536) :
  Lw (C w7b [.ref 0 1 0 l.length] [.row t true 1 (l.map I)]) fun r=>∃ R:List Int,r=(.tup [],[.row t true 1 (R.map I)])∧R.Perm l∧R.Pairwise (·≤·):=by
 obtain⟨d,hd⟩ : ∃ d:Array Int,d.toList=l:=⟨l.toArray,rfl⟩
 have hl:d.size=l.length:=by rw[←hd];simp
 have H : ∀ x y:Int,C w5o [I x,I y] []=some (.bool (decide (x-y<0)),[]):=fun x y=>by rw[w5h];congr 3;exact decide_eq_decide.2 (by omega)
 have hw:Sort.SWO (ltC fun x y:Int=>x-y):=by
  constructor<;>intros<;>simp_all [ltC]<;>omega
 obtain⟨_,e1,E,rfl,p1,p2⟩:=wd4 (fun x:Int=>x) (fun x y=>x-y) H hw t d.size d 0 d.size (Sort.bitsLen d.size) (by omega) (by omega) (by omega) (by omega) ⟨by omega,by have:=(Sort.bitsLen_le_iff d.size 16).2 (by omega);omega⟩ (.inl rfl)
 have e2:=wce d.size (by omega)
 have e3:IntKind.u64.wrap (d.size:Int)=d.size:=by rw[IntKind.wrap_u64];omega
 rw[←hd] at *
 rw[←hl]
 rw[show((0:Nat):Int)=0 from rfl] at e1
 generalize Sort.bitsLen d.size=z at *
 refine w27 ?_
 simp (maxSteps:=2000000) (disch:=first|omega|(simp only[lenS];try omega)) only[wb4,go_sem,reduceAdd,reduceEqDiff,reduceLeDiff,reduceSub]
 simp (maxSteps:=2000000) (disch:=first|omega|(simp only[lenS];try omega)) only[go_sem,reduceAdd,reduceEqDiff,reduceLeDiff,reduceSub,e2,e3,e1]
 refine⟨E.toList,rfl,?_,?_⟩
 ·exact z11l p1
 ·have p3:=z11k p1
  rw[←p3] at p2
  refine(z112 p2).imp fun {x y} h=>?_
  have:=(by simpa [ltC] using h:¬y-x<0)
  omega
theorem w5g{f:FuncId}{c:List PV}:(PV.clo f c).cells=[.clo f c]:=rfl
theorem w5e{R:List Nat}{mem:List Blk}{b off:Nat}:z5n R mem 2 b off=behK R mem (z5n R mem 1) off mem[b]?:=rfl
theorem wee{f:Fl}{R:List Nat}{mem:List Blk}{g:Nat→Nat→Option PV}:(PV.pv (.agg [I f.net.pl,trs f.net.tr,I f.src,I f.dst]) 0).viewWith R mem g=some (.pv (.agg [I f.net.pl,trs f.net.tr,I f.src,I f.dst]) 0):=rfl
theorem w8f(a b:Fl)(l:List Int)(hl:l.length≤2^15)(hi:incr l=true)(hb : ∀ x∈l,0≤x∧x≤100)(ha:0≤a.net.pl∧a.net.pl≤100)(hd:a.dst<a.net.pl)(hs:0≤b.src∧b.src≤100):C w5s [ints l,.pv (.agg [.clo w5r [.pv (.agg [I b.net.pl,trs b.net.tr,I b.src,I b.dst]) 0,.pv (.agg [I a.net.pl,trs a.net.tr,I a.src,I a.dst]) 0]]) 0] []=some (.un t_int true 1 ((chL a b l).map I),[]):=by
 refine w04 ?_
 simp (maxSteps:=2000000) (disch:=first|omega|(simp only[lenS];try omega)) only[w9k,go_sem,reduceAdd,reduceEqDiff,reduceLeDiff,reduceSub]
 refine W_for l.length (fun k s=>s=⟨[.any,.pv (.agg [.clo w5r [.pv (.agg [I b.net.pl,trs b.net.tr,I b.src,I b.dst]) 0,.pv (.agg [I a.net.pl,trs a.net.tr,I a.src,I a.dst]) 0]]) 0,.any,.ref 0 1 0 k,.any,ints l,I l.length,I k,.any],[.row t_int true 1 (((l.take k).map (chP a b)).map I)]⟩) ?_ ?_ ?_
 ·simp (maxSteps:=2000000) (disch:=first|omega|(simp only[lenS];try omega)) only[go_sem,reduceAdd,reduceEqDiff,reduceLeDiff,reduceSub]
  rfl
 ·rintro k s hk rfl
  have hx:=hb _ (List.getElem_mem hk)
  have h1:=w8e a b l[k] ha hx hs
  have e2:((l.take (k+1)).map (chP a b)).map I=((l.take k).map (chP a b)).map I++[I (chP a b l[k])]:=by rw[List.take_succ_eq_append_getElem hk,List.map_append,List.map_append];rfl
  have e3:(((l.take k).map (chP a b)).map I).length=k:=by simp;omega
  rw[e2]
  generalize ((l.take k).map (chP a b)).map I=V at *
  simp (maxSteps:=2000000) (disch:=first|omega|(simp only[lenS];try omega)) only[go_sem,reduceAdd,reduceEqDiff,reduceLeDiff,reduceSub,h1,w5g,wee,e3]
  first | done | rfl
 ·rintro s rfl
  rw[List.take_length]
  obtain⟨_,e1,R,rfl,r1,r2⟩:=wcs (l.map (chP a b)) t_int (by rw[List.length_map];omega)
  have r3:=z99 (a:=a) (b:=b) hd (zna hi) (fun x hx=>(hb x hx).1) r1 r2
  subst r3
  have e4:(chL a b l).length=l.length:=by rw[r1.length_eq,List.length_map]
  rw[List.length_map] at e1
  simp (maxSteps:=2000000) (disch:=first|omega|(simp only[lenS];try omega)) only[go_sem,reduceAdd,reduceEqDiff,reduceLeDiff,reduceSub,e1,e4]
theorem w8y(n:Net)(hg:goodN n=true)(h0:n.tr≠[]):C w69 [encN n] []=some (.agg [I n.pl,.un we4 false 3 (n.tr.map encT)],[]):=by
 have hb:=zjy hg
 have hl:0<n.tr.length:=List.length_pos_iff.2 h0
 refine w0l ?_
 simp (maxSteps:=2000000) (disch:=first|omega|(simp only[lenS];try omega)) only[wa1,go_sem,reduceAdd,reduceEqDiff,reduceLeDiff,reduceSub]
 refine W_for n.tr.length (fun k s=>(s=⟨[.any,.any,.ptr 0 0,.ptr 1 0,.any,trs n.tr,I n.tr.length,I k,.any],[.box we2 [I 0,.nil false 3],.box we2 [I n.pl,.nil false 3]]⟩∧k=0)∨(s=⟨[.any,.any,.ptr 0 0,.ptr 1 0,.any,trs n.tr,I n.tr.length,I k,.any],[.box we2 [I 0,.nil false 3],.box we2 [I n.pl,.ref 2 3 0 k],.row we4 false 3 ((n.tr.take k).map encT)]⟩∧0<k)) ?_ ?_ ?_
 ·refine .inl ⟨?_,rfl⟩
  simp (maxSteps:=2000000) (disch:=first|omega|(simp only[lenS];try omega)) only[go_sem,reduceAdd,reduceEqDiff,reduceLeDiff,reduceSub]
  rfl
 ·rintro k s hk (⟨rfl,rfl⟩ | ⟨rfl,h1⟩)
  ·have hT:=zk4 (hb.2.2.2 _ (List.getElem_mem hk)) (by omega)
   simp (maxSteps:=2000000) (disch:=first|omega|(simp only[lenS];try omega)) only[go_sem,reduceAdd,reduceEqDiff,reduceLeDiff,reduceSub,wcf]
   refine⟨rfl,?_,by omega⟩
   rw[z1fe (k:=0) hk];rfl
  ·have hT:=zk4 (hb.2.2.2 _ (List.getElem_mem hk)) (by omega)
   simp (maxSteps:=2000000) (disch:=first|omega|(simp only[lenS];try omega)) only[go_sem,reduceAdd,reduceEqDiff,reduceLeDiff,reduceSub,wcf]
   refine⟨rfl,?_⟩
   rw[z1fe hk,List.map_append];rfl
 ·rintro s (⟨rfl,hk⟩ | ⟨rfl,hk⟩)
  ·omega
  ·simp (maxSteps:=2000000) (disch:=first|omega|(simp only[lenS];try omega)) only[go_sem,reduceAdd,reduceEqDiff,reduceLeDiff,reduceSub,List.take_length]
theorem w5f{a b:Fl}(ga:smN a.net)(gb:smN b.net)(h1:a.net.tr.length≤2^30)(h2:b.net.tr.length≤2^30):smN (chF a b).net:=by
 refine⟨by show(a.net.tr++b.net.tr.map (chT a b)).length<_;simp only[List.length_append,List.length_map];omega,fun t ht=>?_⟩
 rcases List.mem_append.1 (show t∈a.net.tr++b.net.tr.map (chT a b) from ht) with ht | ht
 ·exact ga.2 t ht
 ·obtain⟨u,hu,rfl⟩:=List.mem_map.1 ht
  obtain⟨q1,q2,q3⟩:=gb.2 u hu
  have:=z95 a b u.inn
  have:=z95 a b u.out
  have:=z95 a b u.rst
  exact⟨by show(chL a b u.inn).length<_;omega,by show(chL a b u.out).length<_;omega,by show(chL a b u.rst).length<_;omega⟩
theorem w8g(a b:Fl)(ha:smN a.net)(hb:smN b.net)(h:(zji a&&zji b)=false):C w5q [encF a,encF b] []=some (.tup [.agg [I 0,.nil false 3,I 0,I 0],.bool false],[]):=by
  have e1:=w8j a ha
  have e2:=w8j b hb
  unfold encF at e1 e2
  refine w02 ?_
  simp (maxSteps:=2000000) (disch:=first|omega|(simp only[lenS];try omega)) only[w9i,go_sem,reduceAdd,reduceEqDiff,reduceLeDiff,reduceSub]
  cases h1:zji a with
  | false =>
    rw[h1] at e1
    simp (maxSteps:=2000000) (disch:=first|omega|(simp only[lenS];try omega)) only[go_sem,reduceAdd,reduceEqDiff,reduceLeDiff,reduceSub,e1]
    first | done | rfl
  | true =>
    cases h2:zji b with
    | true=>rw[h1,h2] at h;cases h
    | false =>
      rw[h1] at e1;rw[h2] at e2
      simp (maxSteps:=2000000) (disch:=first|omega|(simp only[lenS];try omega)) only[go_sem,reduceAdd,reduceEqDiff,reduceLeDiff,reduceSub,e1,e2]
      first | done | rfl
theorem w8h(a b:Fl)(ha:smN a.net)(hb:smN b.net)(h1:zji a=true)(h2:zji b=true):C w5q [encF a,encF b] []=some (.tup [if zji (chF a b)=true then .agg [I (chF a b).net.pl,.un we4 false 3 ((chF a b).net.tr.map encT),I (chF a b).src,I (chF a b).dst] else .agg [I 0,.nil false 3,I 0,I 0],.bool (zji (chF a b))],[]):=by
 have e1:=w8j a ha
 have e2:=w8j b hb
 obtain⟨hga,hsa,hda,-,-,-,-⟩:=zjm h1
 obtain⟨hgb,hsb,hdb,-,-,-,-⟩:=zjm h2
 obtain⟨hp1,hp2,hn,hT⟩:=zjy hgb
 obtain⟨hq1,hq2,hm,-⟩:=zjy hga
 have e3:=w8y a.net hga (by simpa using zjk h1)
 have e4:=w8e a b b.dst (by omega) (by omega) (by omega)
 have e5:=w8j (chF a b) (w5f ha hb (by omega) (by omega))
 rw[h1] at e1;rw[h2] at e2
 unfold encF at e1 e2
 refine w02 ?_
 simp (maxSteps:=2000000) (disch:=first|omega|(simp only[lenS];try omega)) only[w9i,go_sem,reduceAdd,reduceEqDiff,reduceLeDiff,reduceSub]
 simp (maxSteps:=2000000) (disch:=first|omega|(simp only[lenS];try omega)) only[go_sem,reduceAdd,reduceEqDiff,reduceLeDiff,reduceSub,e1,e2,e3,e4,w5g,wee]
 refine W_for b.net.tr.length (fun i st=>st=⟨[.any,.any,.any,.any,.ptr 0 0,.any,.any,.clo w5s [.ptr 1 0],.ptr 2 0,.any,.any,trs b.net.tr,I b.net.tr.length,I i,.any,.any],[.box we1 [I 0,.nil false 3,I 0,I 0],.box wea [.clo w5r [.ptr 3 0,.ptr 4 0]],.box we1 [I (a.net.pl+(b.net.pl-1)),.ref 5 3 0 (a.net.tr++(b.net.tr.take i).map (chT a b)).length,I a.src,I (chP a b b.dst)],.box we1 [I b.net.pl,trs b.net.tr,I b.src,I b.dst],.box we1 [I a.net.pl,trs a.net.tr,I a.src,I a.dst],.row we4 false 3 ((a.net.tr++(b.net.tr.take i).map (chT a b)).map encT)]⟩) ?_ ?_ ?_
 ·simp (maxSteps:=2000000) (disch:=first|omega|(simp only[lenS];try omega)) only[go_sem,reduceAdd,reduceEqDiff,reduceLeDiff,reduceSub,w5g]
  simp
 ·rintro i st hi rfl
  have hti:b.net.tr[i]? = some b.net.tr[i]:=List.getElem?_eq_getElem hi
  have hgt:=hT _ (List.getElem_mem hi)
  have hpl:=zk9 hgt
  have hln:=zk4 hgt (by omega)
  obtain⟨-,i1,i2,i3⟩:=zk8 hgt
  have d1:=w8f a b b.net.tr[i].inn (by omega) (z11q i1) (fun x hx=>by have:=hpl.1 x hx;omega) (by omega) (by omega) (by omega)
  have d2:=w8f a b b.net.tr[i].out (by omega) (z11q i2) (fun x hx=>by have:=hpl.2.1 x hx;omega) (by omega) (by omega) (by omega)
  have d3:=w8f a b b.net.tr[i].rst (by omega) (z11q i3) (fun x hx=>by have:=hpl.2.2 x hx;omega) (by omega) (by omega) (by omega)
  have l1:=z95 a b b.net.tr[i].inn
  have l2:=z95 a b b.net.tr[i].out
  have l3:=z95 a b b.net.tr[i].rst
  have hL:(a.net.tr++(b.net.tr.take i).map (chT a b)).length≤60:=by simp;omega
  have hsn:a.net.tr++(b.net.tr.take (i+1)).map (chT a b)=(a.net.tr++(b.net.tr.take i).map (chT a b))++[chT a b b.net.tr[i]]:=by rw[List.take_succ_eq_append_getElem hi,List.map_append,List.append_assoc];rfl
  rw[hsn]
  generalize a.net.tr++(b.net.tr.take i).map (chT a b)=L at *
  generalize b.net.tr[i]=t at *
  unfold chT
  generalize chL a b t.inn=A at *
  generalize chL a b t.out=B at *
  generalize chL a b t.rst=D at *
  simp (maxSteps:=2000000) (disch:=first|omega|(simp only[lenS];try omega)) only[go_sem,reduceAdd,reduceEqDiff,reduceLeDiff,reduceSub,hti,d1,d2,d3,w5g,wee,w5e]
  refine⟨by decide,?_⟩
  rw[List.map_append,List.length_append]
  rfl
 ·rintro st rfl
  rw[List.take_length]
  have hpl:(chF a b).net.pl=a.net.pl+(b.net.pl-1):=by show a.net.pl+b.net.pl-1=_;omega
  have hL:(a.net.tr++b.net.tr.map (chT a b)).length≤60:=by simp;omega
  unfold encF at e5
  rw[hpl] at e5 ⊢
  rw[show(chF a b).net.tr=a.net.tr++b.net.tr.map (chT a b) from rfl,show(chF a b).src=a.src from rfl,show(chF a b).dst=chP a b b.dst from rfl] at e5 ⊢
  generalize a.net.tr++b.net.tr.map (chT a b)=L at *
  generalize zji (chF a b)=G at *
  unfold trs at e5
  cases G
  all_goals
   simp (maxSteps:=2000000) (disch:=first|omega|(simp only[lenS];try omega)) only[go_sem,reduceAdd,reduceEqDiff,reduceLeDiff,reduceSub,e5]
   first | done | rfl
theorem wdn(n lo hi:Int):C w84 [I n,I lo,I hi] []=some (.bool (inB lo hi n),[]):=by
 refine w1x ?_
 simp (maxSteps:=2000000) (disch:=first|omega|(simp only[lenS];try omega)) only[wbx,go_sem,reduceAdd,reduceEqDiff,reduceLeDiff,reduceSub]
 unfold inB;grind
theorem wdp(n:Int):C w86 [I n] []=some (.bool (inB 1 16 n),[]):=by
 refine w1z ?_
 simp (maxSteps:=2000000) (disch:=first|omega|(simp only[lenS];try omega)) only[wbz,go_sem,reduceAdd,reduceEqDiff,reduceLeDiff,reduceSub]
 simp (maxSteps:=2000000) (disch:=first|omega|(simp only[lenS];try omega)) only[go_sem,reduceAdd,reduceEqDiff,reduceLeDiff,reduceSub,wdn]
 grind
theorem wdt(l:List Int)(lo hi:Int)(hl:l.length<2^62):C w88 [ints l,I lo,I hi] []=some (.bool (incr l&&l.all (inB lo hi)),[]):=by
 refine w21 ?_
 simp (maxSteps:=2000000) (disch:=first|omega|(simp only[lenS];try omega)) only[wc1,go_sem,reduceAdd,reduceEqDiff,reduceLeDiff,reduceSub]
 refine W_for l.length (fun k s=>s=⟨[ints l,I lo,I hi,.any,.any,.any,ints l,I l.length,I k,.any,.any],[]⟩∧(l.take k).Pairwise (· < ·)∧(l.take k).all (inB lo hi)=true) ?_ ?_ ?_
 ·simp (maxSteps:=2000000) (disch:=first|omega|(simp only[lenS];try omega)) only[go_sem,reduceAdd,reduceEqDiff,reduceLeDiff,reduceSub]
  exact⟨rfl,List.Pairwise.nil⟩
 ·rintro k s hk ⟨rfl,hp,hall⟩
  simp (maxSteps:=2000000) (disch:=first|omega|(simp only[lenS];try omega)) only[go_sem,reduceAdd,reduceEqDiff,reduceLeDiff,reduceSub,wdn]
  refine⟨fun h=>⟨fun h2=>?_,fun h2=>?_⟩,fun h=>by rw[z2y hk h];simp⟩
  ·simp (maxSteps:=2000000) (disch:=first|omega|(simp only[lenS];try omega)) only[go_sem,reduceAdd,reduceEqDiff,reduceLeDiff,reduceSub]
   obtain⟨j,rfl⟩ : ∃ j,k=j+1:=⟨k-1,by omega⟩
   have e:(((j+1:Nat):Int)-1).toNat=j:=by omega
   refine⟨fun h3=>?_,fun h3=>⟨rfl,?_,z2z hk hall h⟩⟩
   ·rw[zn8 hk (by simp only[e] at h3;omega)];rfl
   ·exact znb hk hp (by simp only[e] at h3;omega)
  ·obtain rfl:k=0:=by omega
   exact⟨rfl,zn9,z2z hk hall h⟩
 ·rintro s ⟨rfl,hp,hall⟩
  simp (maxSteps:=2000000) (disch:=first|omega|(simp only[lenS];try omega)) only[go_sem,reduceAdd,reduceEqDiff,reduceLeDiff,reduceSub]
  rw[List.take_length] at hp hall
  rw[hall,show incr l=true by simpa [incr] using hp]
  rfl
theorem wdd(n:Net)(hn:smN n):C w7u [encN n] []=some (.bool (goodN n),[]):=by
 have h0:=hn.1
 refine w1u ?_
 simp (maxSteps:=2000000) (disch:=first|omega|(simp only[lenS];try omega)) only[wbn,go_sem,reduceAdd,reduceEqDiff,reduceLeDiff,reduceSub]
 simp (maxSteps:=2000000) (disch:=first|omega|(simp only[lenS];try omega)) only[go_sem,reduceAdd,reduceEqDiff,reduceLeDiff,reduceSub,wdp]
 refine⟨fun h=>⟨fun h2=>?_,fun h2=>?_⟩,fun h=>by simp [goodN,h]⟩
 ·have:¬n.tr.length≤24:=by omega
  simp [goodN,this]
 have hb:1≤n.pl∧n.pl≤16:=by simpa [inB] using h
 refine W_for n.tr.length (fun k s=>s=⟨[.any,.ptr 0 0,.any,.any,.any,trs n.tr,I n.tr.length,I k,.any,.any],[.box we2 [I n.pl,trs n.tr]]⟩∧(n.tr.take k).all (goodT n.pl)=true) ?_ ?_ ?_
 ·simp (maxSteps:=2000000) (disch:=first|omega|(simp only[lenS];try omega)) only[go_sem,reduceAdd,reduceEqDiff,reduceLeDiff,reduceSub]
  rfl
 ·rintro k s hk ⟨rfl,hall⟩
  obtain⟨h3,h4,h5⟩:=hn.2 _ (List.getElem_mem hk)
  simp (maxSteps:=2000000) (disch:=first|omega|(simp only[lenS];try omega)) only[go_sem,reduceAdd,reduceEqDiff,reduceLeDiff,reduceSub,wdt]
  simp only[z11o]
  refine⟨fun h6=>by rw[zjw hk (zk7 (by omega))],fun h6=>⟨fun h7=>⟨fun h8=>⟨fun h9=>⟨rfl,z2z hk hall (zk1 (by omega) h7 h8 h9)⟩,fun h9=>by rw[zjw hk (by simp [goodT,h9])]⟩,fun h8=>by rw[zjw hk (by simp [goodT,h8])]⟩,fun h7=>by rw[zjw hk (by simp [goodT,h7])]⟩⟩
 ·rintro s ⟨rfl,hall⟩
  simp (maxSteps:=2000000) (disch:=first|omega|(simp only[lenS];try omega)) only[go_sem,reduceAdd,reduceEqDiff,reduceLeDiff,reduceSub]
  rw[List.take_length] at hall
  simp [goodN,hall,h,show n.tr.length≤24 by omega]
end Go.Proofs.Ytbaclnecajkknaa.Pi

