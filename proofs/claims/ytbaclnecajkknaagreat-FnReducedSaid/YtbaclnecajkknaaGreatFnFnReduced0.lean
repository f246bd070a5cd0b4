/- The functions that the law reaches: what they answer. Conditions: those that each theorem names. -/
import Derived.Test.YtbaclnecajkknaaGreatIrFnReduced
import Derived.Test.YtbaclnecajkknaaGreatPlFnReduced
namespace Go.Proofs.YtbaclnecajkknaaGreat.Pi
open Go
set_option linter.all false
open Nat (reduceAdd reduceEqDiff reduceLeDiff reduceSub)
set_option maxHeartbeats 4000000
set_option maxRecDepth 20000
/-- Lengths, all at once. -/
theorem lenS:(∀ {α:Type} (a b:List α),(a++b).length=a.length+b.length)∧(∀ {α:Type} (n:Nat) (l:List α),(l.take n).length=min n l.length)∧(∀ {α:Type} (n:Nat) (x:α),(List.replicate n x).length=n)∧(∀ {α β:Type} (f:α→β) (l:List α),(l.map f).length=l.length)∧(∀ {α:Type} (l:List α) (n:Nat) (x:α),(l.set n x).length=l.length)∧(∀ {α:Type} (x:α) (l:List α),(x :: l).length=l.length+1)∧(∀ {α:Type},([]:List α).length=0)∧(∀ {α β γ:Type} (f:α→β→γ) (a:List α) (b:List β),(List.zipWith f a b).length=min a.length b.length)∧(∀ {α:Type} (n:Nat) (l:List α),(l.drop n).length=l.length-n)∧(∀ (n:Nat),(List.range n).length=n):=
 ⟨fun _ _=>List.length_append,fun _ _=>List.length_take,fun _ _=>List.length_replicate,fun _ _=>List.length_map _,fun _ _ _=>List.length_set,fun _ _=>List.length_cons,List.length_nil,fun _ _ _=>List.length_zipWith,fun _ _=>List.length_drop,fun _=>List.length_range⟩
theorem wex(a b:List Int):C w8e [bys a,bys b] []=some (.bool (decide (1048576<(a.length:Int))||decide (1048576-(a.length:Int)<b.length)),[]):=by
 refine w1l ?_
 simp (maxSteps:=2000000) (disch:=first|omega|(simp only[lenS];try omega)) only[wda,go_sem,reduceAdd,reduceEqDiff,reduceLeDiff,reduceSub]
 refine⟨fun h=>by simp [h],fun h=>?_⟩
 simp (maxSteps:=2000000) (disch:=first|omega|(simp only[lenS];try omega)) only[go_sem,reduceAdd,reduceEqDiff,reduceLeDiff,reduceSub]
 grind
theorem wg8(bs:List Int)(at_ sd:Int)(h0:0≤at_)(h1:at_<2^62)(hl:bs.length<2^62)(hb : ∀ x∈bs,0≤x∧x<256) :
  Lw (C w9h [.ptr 0 0] [.box wh3 [bys bs,I at_,.int .u64 sd]]) fun r=>∃ x sd',r=(I x,[.box wh3 [bys bs,I (at_+1),.int .u64 sd']])∧0≤x∧x<256:=by
 refine w33 ?_
 simp (maxSteps:=2000000) (disch:=first|omega|(simp only[lenS];try omega)) only[wec,go_sem,reduceAdd,reduceEqDiff,reduceLeDiff,reduceSub]
 refine⟨fun h=>?_,fun h=>?_⟩
 ·have h2:at_.toNat<bs.length:=by omega
  have h3:=hb _ (List.getElem_mem h2)
  simp (maxSteps:=2000000) (disch:=first|omega|(simp only[lenS];try omega)) only[go_sem,reduceAdd,reduceEqDiff,reduceLeDiff,reduceSub]
  exact⟨_,_,rfl,h3⟩
 ·refine⟨fun _=>⟨_,_,rfl,by omega,by omega⟩,fun _=>?_⟩
  generalize hw:IntKind.u64.wrap (IntKind.u64.wrap (IntKind.u64.wrap (sd*6364136223846793005)+IntKind.u64.wrap 0)+1442695040888963407)=w
  have hb:=z1fp (IntKind.u64.wrap (IntKind.u64.wrap (sd*6364136223846793005)+IntKind.u64.wrap 0)+1442695040888963407)
  rw[hw] at hb
  have h3:=z31 (x:=w / 2 ^ min (Int.toNat 40) 64) (Int.ediv_nonneg hb.1 (by decide)) (Int.lt_of_le_of_lt (Int.ediv_le_self _ hb.1) hb.2)
  rw[wrap_i64 (by omega) (by omega)]
  exact⟨_,_,rfl,h3⟩
theorem wga(n:Int)(bs:List Int)(at_ sd:Int)(h0:0≤at_)(h1:at_<2^61)(hl:bs.length<2^62)(hb : ∀ x∈bs,0≤x∧x<256) :
  Lw (C w9j [.ptr 0 0,I n] [.box wh3 [bys bs,I at_,.int .u64 sd]]) fun r=>∃ x at' sd',r=(I x,[.box wh3 [bys bs,I at',.int .u64 sd']])∧at_≤at'∧at'≤at_+2∧0≤x∧(x=0∨x<n):=by
 refine w35 ?_
 simp (maxSteps:=2000000) (disch:=first|omega|(simp only[lenS];try omega)) only[wee,go_sem,reduceAdd,reduceEqDiff,reduceLeDiff,reduceSub]
 refine⟨fun h=>⟨_,_,_,rfl,by omega,by omega,by omega,by omega⟩,fun h=>?_⟩
 obtain⟨_,e1,x1,s1,rfl,h3,h4⟩:=wg8 bs at_ sd h0 (by omega) hl hb
 obtain⟨_,e2,x2,s2,rfl,h5,h6⟩:=wg8 bs (at_+1) s1 (by omega) (by omega) hl hb
 simp (maxSteps:=2000000) (disch:=first|omega|(simp only[lenS];try omega)) only[go_sem,reduceAdd,reduceEqDiff,reduceLeDiff,reduceSub,e1,e2]
 refine⟨fun _=>⟨_,_,_,rfl,by omega,by omega,Int.tmod_nonneg _ (by omega),.inr (Int.tmod_lt_of_pos _ (by omega))⟩,fun _=>⟨_,_,_,rfl,by omega,by omega,Int.tmod_nonneg _ (by omega),.inr (Int.tmod_lt_of_pos _ (by omega))⟩⟩
theorem wg9(n:Int)(bs:List Int)(at_ sd:Int)(h0:0≤at_)(h1:at_<2^61)(hl:bs.length<2^62)(hb : ∀ x∈bs,0≤x∧x<256) :
  Lw (C w9i [.ptr 0 0,I n] [.box wh3 [bys bs,I at_,.int .u64 sd]]) fun r=>∃ x at' sd',r=(.bool x,[.box wh3 [bys bs,I at',.int .u64 sd']])∧at_≤at'∧at'≤at_+2:=by
 refine w34 ?_
 simp (maxSteps:=2000000) (disch:=first|omega|(simp only[lenS];try omega)) only[wed,go_sem,reduceAdd,reduceEqDiff,reduceLeDiff,reduceSub]
 obtain⟨_,e1,x1,a1,s1,rfl,h3,h4,h5⟩:=wga n bs at_ sd h0 h1 hl hb
 simp (maxSteps:=2000000) (disch:=first|omega|(simp only[lenS];try omega)) only[go_sem,reduceAdd,reduceEqDiff,reduceLeDiff,reduceSub,e1]
 exact⟨fun _=>⟨_,_,_,rfl,h3,h4⟩,fun _=>⟨_,_,_,rfl,h3,h4⟩⟩
theorem wgh(l:List Int)(x:Int)(hl:l.length<2^30):Lw (C w9p [.ref 0 1 0 l.length,I x] [.row t_int true 1 (l.map I)]) fun r=>r=(.un t_int true 1 ((putI l x).map I),[.row t_int true 1 (l.map I)])∨(r=(.ref 0 1 0 l.length,[.row t_int true 1 (l.map I)])∧putI l x=l):=by
 refine w37 ?_
 simp (maxSteps:=2000000) (disch:=first|omega|(simp only[lenS];try omega)) only[wek,go_sem,reduceAdd,reduceEqDiff,reduceLeDiff,reduceSub]
 refine W_for l.length (fun k s=>s=⟨[.ref 0 1 0 l.length,I x,.any,I k,.any,.any,.any],[.row t_int true 1 (l.map I)]⟩∧(l.take k).all (fun y=>decide (y<x))=true) ?_ ?_ ?_
 ·simp (maxSteps:=2000000) (disch:=first|omega|(simp only[lenS];try omega)) only[go_sem,reduceAdd,reduceEqDiff,reduceLeDiff,reduceSub]
  rfl
 ·rintro k s hk ⟨rfl,hall⟩
  simp (maxSteps:=2000000) (disch:=first|omega|(simp only[lenS];try omega)) only[go_sem,reduceAdd,reduceEqDiff,reduceLeDiff,reduceSub]
  refine⟨fun h=>⟨rfl,z2z hk hall (by simpa using h)⟩,fun h=>⟨fun h2=>.inr (z129 hk hall h2),fun h2=>.inl ?_⟩⟩
  rw[z12a hall (fun _=>by omega) (by omega)]
  simp
 ·rintro s ⟨rfl,hall⟩
  simp (maxSteps:=2000000) (disch:=first|omega|(simp only[lenS];try omega)) only[go_sem,reduceAdd,reduceEqDiff,reduceLeDiff,reduceSub]
  have e:=z12a hall (fun h=>by omega) (by omega)
  refine⟨fun h=>.inl ?_,fun h=>.inl ?_⟩
  ·rw[e];simp
  ·have:l=[]:=List.eq_nil_of_length_eq_zero (by omega)
   subst this;rfl
theorem wgg(x:Int):C w9p [.nil true 1,I x] []=some (.un t_int true 1 [I x],[]):=by
 refine w2l ?_
 simp (maxSteps:=2000000) (disch:=first|omega|(simp only[lenS];try omega)) only[wek,go_sem,reduceAdd,reduceEqDiff,reduceLeDiff,reduceSub]
 refine W_for 0 (fun k s=>s=⟨[.nil true 1,I x,.any,I 0,.any,.any,.any],[]⟩) ?_ ?_ ?_
 ·simp (maxSteps:=2000000) (disch:=first|omega|(simp only[lenS];try omega)) only[go_sem,reduceAdd,reduceEqDiff,reduceLeDiff,reduceSub]
 ·intro k s hk;omega
 ·rintro s rfl
  simp (maxSteps:=2000000) (disch:=first|omega|(simp only[lenS];try omega)) only[go_sem,reduceAdd,reduceEqDiff,reduceLeDiff,reduceSub]
theorem wgi(l:List Int)(x:Int)(hl:l.length<2^30):Lw (C w9p [ints l,I x] []) fun r=>r=(.un t_int true 1 ((putI l x).map I),[])∨(r=(ints l,[])∧putI l x=l):=by
 refine w37 ?_
 simp (maxSteps:=2000000) (disch:=first|omega|(simp only[lenS];try omega)) only[wek,go_sem,reduceAdd,reduceEqDiff,reduceLeDiff,reduceSub]
 refine W_for l.length (fun k s=>s=⟨[ints l,I x,.any,I k,.any,.any,.any],[]⟩∧(l.take k).all (fun y=>decide (y<x))=true) ?_ ?_ ?_
 ·simp (maxSteps:=2000000) (disch:=first|omega|(simp only[lenS];try omega)) only[go_sem,reduceAdd,reduceEqDiff,reduceLeDiff,reduceSub]
  rfl
 ·rintro k s hk ⟨rfl,hall⟩
  simp (maxSteps:=2000000) (disch:=first|omega|(simp only[lenS];try omega)) only[go_sem,reduceAdd,reduceEqDiff,reduceLeDiff,reduceSub]
  refine⟨fun h=>⟨rfl,z2z hk hall (by simpa using h)⟩,fun h=>⟨fun h2=>.inr (z129 hk hall h2),fun h2=>.inl ?_⟩⟩
  rw[z12a hall (fun _=>by omega) (by omega)]
  simp
 ·rintro s ⟨rfl,hall⟩
  simp (maxSteps:=2000000) (disch:=first|omega|(simp only[lenS];try omega)) only[go_sem,reduceAdd,reduceEqDiff,reduceLeDiff,reduceSub]
  have e:=z12a hall (fun h=>by omega) (by omega)
  refine .inl ?_
  rw[e];simp
theorem wg7(bs:List Int)(hl:bs.length<2^62)(hb : ∀ x∈bs,0≤x∧x<256) : ∀ d:Nat,
    (∀ (D a b pl at_ sd:Int),D=d→0≤pl→pl≤13→0≤at_→at_+growC d<2^60→growT d≤1000 →
      Lw (C w9g [.ptr 0 0,.ptr 1 0,I a,I b,I D] [.box wh3 [bys bs,I at_,.int .u64 sd],.box wgx [I pl,.nil false 3]]) fun r=>∃ (pl':Int) (tr':List Tr) (at' sd':Int),r=(.tup [],[.box wh3 [bys bs,I at',.int .u64 sd'],.box wgx [I pl',.ref 2 3 0 tr'.length],.row wgz false 3 (tr'.map encT)])∧pl≤pl'∧pl'≤13∧0<tr'.length∧tr'.length≤growT d∧smq 10 tr'∧at_≤at'∧at'≤at_+growC d) ∧
    (∀ (D a b pl at_ sd:Int) (tr:List Tr),D=d→0≤pl→pl≤13→0≤at_→at_+growC d<2^60→tr.length+growT d≤1000→smq 10 tr →
      Lw (C w9g [.ptr 0 0,.ptr 1 0,I a,I b,I D] [.box wh3 [bys bs,I at_,.int .u64 sd],.box wgx [I pl,.ref 2 3 0 tr.length],.row wgz false 3 (tr.map encT)]) fun r=>∃ (pl':Int) (tr':List Tr) (at' sd':Int),r=(.tup [],[.box wh3 [bys bs,I at',.int .u64 sd'],.box wgx [I pl',.ref 3 3 0 tr'.length],.dead,.row wgz false 3 (tr'.map encT)])∧pl≤pl'∧pl'≤13∧tr.length<tr'.length∧tr'.length≤tr.length+growT d∧smq 10 tr'∧at_≤at'∧at'≤at_+growC d):=by
  intro d
  induction d with
  | zero =>
    have c0:growT 0=1:=rfl
    refine⟨fun D a b pl at_ sd hD h1 h2 h3 h4 h5=>?_,fun D a b pl at_ sd tr hD h1 h2 h3 h4 h5 h6=>?_⟩
    · obtain rfl:D=0:=by omega
      refine w32 ?_
      simp (maxSteps:=2000000) (disch:=first|omega|(simp only[lenS];try omega)) only[web,go_sem,reduceAdd,reduceEqDiff,reduceLeDiff,reduceSub]
      exact⟨pl,[⟨[a],[b],[]⟩],at_,sd,by simp,by omega,by omega,by simp,by simp only[List.length_append,List.length_cons,List.length_nil];omega,z1b9 z1b7 (by simp),by omega,by omega⟩
    · obtain rfl:D=0:=by omega
      refine w32 ?_
      simp (maxSteps:=2000000) (disch:=first|omega|(simp only[lenS];try omega)) only[web,go_sem,reduceAdd,reduceEqDiff,reduceLeDiff,reduceSub]
      exact⟨pl,tr++[⟨[a],[b],[]⟩],at_,sd,by rw[List.map_append];simp,by omega,by omega,by simp,by simp only[List.length_append,List.length_cons,List.length_nil];omega,z1b9 h6 (by simp),by omega,by omega⟩
  | succ d ih =>
    obtain⟨ih1,ih2⟩:=ih
    have c1:growC (d+1)=2+2*growC d:=rfl
    have c0:growT (d+1)=2+2*growT d:=rfl
    refine⟨fun D a b pl at_ sd hD h1 h2 h3 h4 h5=>?_,fun D a b pl at_ sd tr hD h1 h2 h3 h4 h5 h6=>?_⟩
    · have hD0:¬D=0:=by omega
      have hDT:=zjq d
      have hD1:D≤1000:=by omega
      refine w32 ?_
      simp (maxSteps:=2000000) (disch:=first|omega|(simp only[lenS];try omega)) only[web,go_sem,reduceAdd,reduceEqDiff,reduceLeDiff,reduceSub]
      refine⟨fun h=>⟨pl,[⟨[a],[b],[]⟩],at_,sd,by simp,by omega,by omega,by simp,by simp only[List.length_append,List.length_cons,List.length_nil];omega,z1b9 z1b7 (by simp),by omega,by omega⟩,fun hp9=>?_⟩
      obtain⟨_,e1,x1,a1,s1,rfl,h7,h8,h9,h10⟩:=wga 5 bs at_ sd (by omega) (by omega) hl hb
      obtain⟨_,fA,pA,tA,aA,sA,rfl,kA1,kA2,kA3,kA4,kA5,kA6,kA7⟩:=ih1 (D-1) a pl (pl+1) a1 s1 (by omega) (by omega) (by omega) (by omega) (by omega) (by omega)
      obtain⟨_,gA,pA',tA',aA',sA',rfl,lA1,lA2,lA3,lA4,lA5,lA6,lA7⟩:=ih2 (D-1) pl b pA aA sA tA (by omega) (by omega) (by omega) (by omega) (by omega) (by omega) kA5
      obtain⟨_,fB,pB,tB,aB,sB,rfl,kB1,kB2,kB3,kB4,kB5,kB6,kB7⟩:=ih1 (D-1) a b pl a1 s1 (by omega) (by omega) (by omega) (by omega) (by omega) (by omega)
      obtain⟨_,gB,pB',tB',aB',sB',rfl,lB1,lB2,lB3,lB4,lB5,lB6,lB7⟩:=ih2 (D-1) a b pB aB sB tB (by omega) (by omega) (by omega) (by omega) (by omega) (by omega) kB5
      obtain⟨_,fC,pC,tC,aC,sC,rfl,kC1,kC2,kC3,kC4,kC5,kC6,kC7⟩:=ih2 (D-1) pl (pl+2) (pl+4) a1 s1 ([]++[⟨[a],[pl,pl+1],[]⟩,⟨[pl+2,pl+3],[b],[]⟩]) (by omega) (by omega) (by omega) (by omega) (by omega) (by simp only[List.length_append,List.length_cons,List.length_nil];omega) (by have:=z1b9 (q:=10) (z1b9 (q:=10) z1b7 (t:=⟨[a],[pl,pl+1],[]⟩) (by simp)) (t:=⟨[pl+2,pl+3],[b],[]⟩) (by simp);simpa using this)
      obtain⟨_,gC,pC',tC',aC',sC',rfl,lC1,lC2,lC3,lC4,lC5,lC6,lC7⟩:=ih2 (D-1) (pl+1) (pl+3) pC aC sC tC (by omega) (by omega) (by omega) (by omega) (by omega) (by simp only[List.length_append,List.length_cons,List.length_nil] at kC4;omega) kC5
      obtain⟨_,fE,pE,tE,aE,sE,rfl,kE1,kE2,kE3,kE4,kE5,kE6,kE7⟩:=ih2 (D-1) pl (pl+1) (pl+2) a1 s1 ([]++[⟨[a],[pl],[]⟩,⟨[pl+1],[b],[]⟩]) (by omega) (by omega) (by omega) (by omega) (by omega) (by simp only[List.length_append,List.length_cons,List.length_nil];omega) (by have:=z1b9 (q:=10) (z1b9 (q:=10) z1b7 (t:=⟨[a],[pl],[]⟩) (by simp)) (t:=⟨[pl+1],[b],[]⟩) (by simp);simpa using this)
      obtain⟨_,gE,pE',tE',aE',sE',rfl,lE1,lE2,lE3,lE4,lE5,lE6,lE7⟩:=ih2 (D-1) (pl+1) pl pE aE sE tE (by omega) (by omega) (by omega) (by omega) (by omega) (by simp only[List.length_append,List.length_cons,List.length_nil] at kE4;omega) kE5
      simp only[List.length_append,List.length_cons,List.length_nil] at kC3 kC4 kE3 kE4
      simp only[encT,ints,List.map_append,List.map_cons,List.map_nil,List.length_append,List.length_cons,List.length_nil,List.nil_append,Nat.reduceAdd,Nat.zero_add] at fC fE
      simp (maxSteps:=2000000) (disch:=first|omega|(simp only[lenS];try omega)) only[go_sem,reduceAdd,reduceEqDiff,reduceLeDiff,reduceSub,e1,fA,gA,fB,gB,fC,gC,fE,gE,wgg]
      exact⟨fun _=>⟨pA',tA',aA',sA',rfl,by omega,by omega,by omega,by omega,lA5,by omega,by omega⟩,fun _=>⟨fun _=>⟨pA',tA',aA',sA',rfl,by omega,by omega,by omega,by omega,lA5,by omega,by omega⟩,fun _=>⟨fun _=>⟨pB',tB',aB',sB',rfl,by omega,by omega,by omega,by omega,lB5,by omega,by omega⟩,fun _=>⟨fun _=>⟨rfl,⟨pC',tC',aC',sC',rfl,by omega,by omega,by omega,by omega,lC5,by omega,by omega⟩⟩,fun _=>⟨pE',tE',aE',sE',rfl,by omega,by omega,by omega,by omega,lE5,by omega,by omega⟩⟩⟩⟩⟩

    · have hD0:¬D=0:=by omega
      have hDT:=zjq d
      have hD1:D≤1000:=by omega
      refine w32 ?_
      simp (maxSteps:=2000000) (disch:=first|omega|(simp only[lenS];try omega)) only[web,go_sem,reduceAdd,reduceEqDiff,reduceLeDiff,reduceSub]
      refine⟨fun h=>⟨pl,tr++[⟨[a],[b],[]⟩],at_,sd,by rw[List.map_append];simp,by omega,by omega,by simp,by simp only[List.length_append,List.length_cons,List.length_nil];omega,z1b9 h6 (by simp),by omega,by omega⟩,fun hp9=>⟨fun h=>⟨pl,tr++[⟨[a],[b],[]⟩],at_,sd,by rw[List.map_append];simp,by omega,by omega,by simp,by simp only[List.length_append,List.length_cons,List.length_nil];omega,z1b9 h6 (by simp),by omega,by omega⟩,fun hp12=>?_⟩⟩
      obtain⟨_,e1,x1,a1,s1,rfl,h7,h8,h9,h10⟩:=wga 5 bs at_ sd (by omega) (by omega) hl hb
      obtain⟨_,fA,pA,tA,aA,sA,rfl,kA1,kA2,kA3,kA4,kA5,kA6,kA7⟩:=ih2 (D-1) a pl (pl+1) a1 s1 tr (by omega) (by omega) (by omega) (by omega) (by omega) (by omega) h6
      obtain⟨_,gA,pA',tA',aA',sA',rfl,lA1,lA2,lA3,lA4,lA5,lA6,lA7⟩:=ih2 (D-1) pl b pA aA sA tA (by omega) (by omega) (by omega) (by omega) (by omega) (by omega) kA5
      obtain⟨_,fB,pB,tB,aB,sB,rfl,kB1,kB2,kB3,kB4,kB5,kB6,kB7⟩:=ih2 (D-1) a b pl a1 s1 tr (by omega) (by omega) (by omega) (by omega) (by omega) (by omega) h6
      obtain⟨_,gB,pB',tB',aB',sB',rfl,lB1,lB2,lB3,lB4,lB5,lB6,lB7⟩:=ih2 (D-1) a b pB aB sB tB (by omega) (by omega) (by omega) (by omega) (by omega) (by omega) kB5
      obtain⟨_,fC,pC,tC,aC,sC,rfl,kC1,kC2,kC3,kC4,kC5,kC6,kC7⟩:=ih2 (D-1) pl (pl+2) (pl+4) a1 s1 (tr++[⟨[a],[pl,pl+1],[]⟩,⟨[pl+2,pl+3],[b],[]⟩]) (by omega) (by omega) (by omega) (by omega) (by omega) (by simp only[List.length_append,List.length_cons,List.length_nil];omega) (by have:=z1b9 (q:=10) (z1b9 (q:=10) h6 (t:=⟨[a],[pl,pl+1],[]⟩) (by simp)) (t:=⟨[pl+2,pl+3],[b],[]⟩) (by simp);simpa using this)
      obtain⟨_,gC,pC',tC',aC',sC',rfl,lC1,lC2,lC3,lC4,lC5,lC6,lC7⟩:=ih2 (D-1) (pl+1) (pl+3) pC aC sC tC (by omega) (by omega) (by omega) (by omega) (by omega) (by simp only[List.length_append,List.length_cons,List.length_nil] at kC4;omega) kC5
      obtain⟨_,fE,pE,tE,aE,sE,rfl,kE1,kE2,kE3,kE4,kE5,kE6,kE7⟩:=ih2 (D-1) pl (pl+1) (pl+2) a1 s1 (tr++[⟨[a],[pl],[]⟩,⟨[pl+1],[b],[]⟩]) (by omega) (by omega) (by omega) (by omega) (by omega) (by simp only[List.length_append,List.length_cons,List.length_nil];omega) (by have:=z1b9 (q:=10) (z1b9 (q:=10) h6 (t:=⟨[a],[pl],[]⟩) (by simp)) (t:=⟨[pl+1],[b],[]⟩) (by simp);simpa using this)
      obtain⟨_,gE,pE',tE',aE',sE',rfl,lE1,lE2,lE3,lE4,lE5,lE6,lE7⟩:=ih2 (D-1) (pl+1) pl pE aE sE tE (by omega) (by omega) (by omega) (by omega) (by omega) (by simp only[List.length_append,List.length_cons,List.length_nil] at kE4;omega) kE5
      simp only[List.length_append,List.length_cons,List.length_nil] at kC3 kC4 kE3 kE4
      simp only[encT,ints,List.map_append,List.map_cons,List.map_nil,List.length_append,List.length_cons,List.length_nil,List.nil_append,Nat.reduceAdd,Nat.zero_add] at fC fE
      simp (maxSteps:=2000000) (disch:=first|omega|(simp only[lenS];try omega)) only[go_sem,reduceAdd,reduceEqDiff,reduceLeDiff,reduceSub,e1,fA,gA,fB,gB,fC,gC,fE,gE,wgg]
      exact⟨fun _=>⟨pA',tA',aA',sA',rfl,by omega,by omega,by omega,by omega,lA5,by omega,by omega⟩,fun _=>⟨fun _=>⟨pA',tA',aA',sA',rfl,by omega,by omega,by omega,by omega,lA5,by omega,by omega⟩,fun _=>⟨fun _=>⟨pB',tB',aB',sB',rfl,by omega,by omega,by omega,by omega,lB5,by omega,by omega⟩,fun _=>⟨fun _=>⟨rfl,⟨pC',tC',aC',sC',rfl,by omega,by omega,by omega,by omega,lC5,by omega,by omega⟩⟩,fun _=>⟨pE',tE',aE',sE',rfl,by omega,by omega,by omega,by omega,lE5,by omega,by omega⟩⟩⟩⟩⟩
theorem wgb(n least most:Int)(hlm:0≤least∧least≤most∧most≤20)(bs:List Int)(at_ sd:Int)(h0:0≤at_)(h1:at_<2^60)(hl:bs.length<2^62)(hb : ∀ x∈bs,0≤x∧x<256) :
  Lw (C w9k [.ptr 0 0,I n,I least,I most] [.box wh3 [bys bs,I at_,.int .u64 sd]]) fun r=>∃ (l:List Int) (at' sd':Int),r=(.un t_int true 1 (l.map I),[.box wh3 [bys bs,I at',.int .u64 sd']])∧at_≤at'∧at'≤at_+50∧l.length≤20∧∀ x∈l,0≤x∧(x=0∨x<n):=by
 refine w36 ?_
 simp (maxSteps:=2000000) (disch:=first|omega|(simp only[lenS];try omega)) only[wef,go_sem,reduceAdd,reduceEqDiff,reduceLeDiff,reduceSub]
 obtain⟨_,e1,x1,a1,s1,rfl,h3,h4,h5,h6⟩:=wga (most-least+1) bs at_ sd h0 (by omega) hl hb
 simp (maxSteps:=2000000) (disch:=first|omega|(simp only[lenS];try omega)) only[go_sem,reduceAdd,reduceEqDiff,reduceLeDiff,reduceSub,e1]
 refine W_for (least+x1).toNat (fun k s=>∃ (l:List Int) (at' sd':Int),s=⟨[.ptr 0 0,I n,.any,.any,.any,.ref 1 1 0 l.length,I (least+x1-k),.any],[.box wh3 [bys bs,I at',.int .u64 sd'],.row t_int true 1 (l.map I)]⟩∧l.length≤k∧at_≤at'∧at'≤at_+2+2*k∧∀ x∈l,0≤x∧(x=0∨x<n)) ?_ ?_ ?_
 ·refine⟨[],a1,s1,?_,by simp,by omega,by omega,by simp⟩
  simp (maxSteps:=2000000) (disch:=first|omega|(simp only[lenS];try omega)) only[go_sem,reduceAdd,reduceEqDiff,reduceLeDiff,reduceSub]
  rw[show least+x1-((0:Nat):Int)=least+x1 by omega]
 ·rintro k s hk ⟨l,a,sd,rfl,h7,h8,h9,h10⟩
  obtain⟨_,e2,x2,a2,s2,rfl,h11,h12,h13,h14⟩:=wga n bs a sd (by omega) (by omega) hl hb
  have e:least+x1-((k+1:Nat):Int)=least+x1-k-1:=by omega
  obtain⟨_,e3,rfl | ⟨rfl,e4⟩⟩:=wgh l x2 (by omega)
  ·simp (maxSteps:=2000000) (disch:=first|omega|(simp only[lenS];try omega)) only[go_sem,reduceAdd,reduceEqDiff,reduceLeDiff,reduceSub,e2,e3]
   have:=z12b l x2
   refine⟨putI l x2,a2,s2,by rw[e],by omega,by omega,by omega,fun y hy=>?_⟩
   rcases z12c hy with hy | rfl
   ·exact h10 y hy
   ·exact⟨h13,h14⟩
  ·simp (maxSteps:=2000000) (disch:=first|omega|(simp only[lenS];try omega)) only[go_sem,reduceAdd,reduceEqDiff,reduceLeDiff,reduceSub,e2,e3]
   exact⟨l,a2,s2,by rw[e],by omega,by omega,by omega,h10⟩
 ·rintro s ⟨l,a,sd,rfl,h7,h8,h9,h10⟩
  simp (maxSteps:=2000000) (disch:=first|omega|(simp only[lenS];try omega)) only[go_sem,reduceAdd,reduceEqDiff,reduceLeDiff,reduceSub]
  exact⟨l,a,sd,rfl,by omega,by omega,by omega,h10⟩
theorem wg5(l:List Int)(t:TypeId)(hne:0<l.length)(hln:l.length<2^30)(bs:List Int)(at_ sd:Int)(h0:0≤at_)(h1:at_<2^61)(hl:bs.length<2^62)(hb : ∀ x∈bs,0≤x∧x<256) :
  Lw (C w9e [.ptr 0 0,.ref 1 1 0 l.length] [.box wh3 [bys bs,I at_,.int .u64 sd],.row t true 1 (l.map I)]) fun r=>∃ x at' sd',r=(I x,[.box wh3 [bys bs,I at',.int .u64 sd'],.row t true 1 (l.map I)])∧at_≤at'∧at'≤at_+2∧x∈l:=by
 refine w30 ?_
 simp (maxSteps:=2000000) (disch:=first|omega|(simp only[lenS];try omega)) only[we9,go_sem,reduceAdd,reduceEqDiff,reduceLeDiff,reduceSub]
 obtain⟨_,e1,x1,a1,s1,rfl,h3,h4,h5,h6⟩:=wga l.length bs at_ sd h0 h1 hl hb
 have h7:x1.toNat<l.length:=by omega
 simp (maxSteps:=2000000) (disch:=first|omega|(simp only[lenS];try omega)) only[go_sem,reduceAdd,reduceEqDiff,reduceLeDiff,reduceSub,e1]
 exact⟨_,_,_,rfl,h3,h4,List.getElem_mem h7⟩
theorem wg6(rs:Bool)(bs:List Int)(at_ sd:Int)(h0:0≤at_)(h1:at_<2^59)(hl:bs.length<2^62)(hb : ∀ x∈bs,0≤x∧x<256) :
  Lw (C w9f [.ptr 0 0,.bool rs] [.box wh3 [bys bs,I at_,.int .u64 sd]]) fun r=>∃ (f:Fl) (at' sd':Int),r=(.agg [I f.net.pl,.un wgz false 3 (f.net.tr.map encT),I f.src,I f.dst],[.box wh3 [bys bs,I at',.int .u64 sd']])∧at_≤at'∧at'≤at_+200∧smNet f.net:=by
 obtain⟨_,e1,x1,a1,s1,rfl,h3,h4,h5,h6⟩:=wga 3 bs at_ sd h0 (by omega) hl hb
 obtain⟨d,hd⟩ : ∃ d:Nat,1+x1=d:=⟨(1+x1).toNat,by omega⟩
 have hd3:=zjr (d:=d) (by omega)
 obtain⟨_,e2,pl,tr,a2,s2,rfl,g1,g2,g3,g4,g5,g6,g7⟩:=(wg7 bs hl hb d).1 (1+x1) 0 1 2 a1 s1 hd (by omega) (by omega) (by omega) (by omega) (by omega)
 obtain⟨_,e3,x3,a3,s3,rfl,k1,k2,k3,k4⟩:=wga tr.length bs a2 s2 (by omega) (by omega) hl hb
 obtain⟨_,e4,x4,a4,s4,rfl,k5,k6,k7,k8⟩:=wga 9 bs a3 s3 (by omega) (by omega) hl hb
 have hx3:x3.toNat<tr.length:=by omega
 have hk:=g5 _ (List.getElem_mem hx3)
 have g8:smq 20 tr:=z1b6 (by decide) g5
 have fin : ∀ (a sd:Int),a4≤a→a≤a4+150→∃ (b:Bool) (y z:Int) (a' s' a'' s'':Int),C w9i [.ptr 0 0,I 30] [.box wh3 [bys bs,I a,.int .u64 sd]]=some (.bool b,[.box wh3 [bys bs,I a',.int .u64 s']])∧C w9e [.ptr 0 0,.ref 1 1 0 4] [.box wh3 [bys bs,I a',.int .u64 s'],.row t_int true 1 [I 0,I (-1),I 2,I 17]]=some (I z,[.box wh3 [bys bs,I a'',.int .u64 s''],.row t_int true 1 [I 0,I (-1),I 2,I 17]])∧a≤a'∧a'≤a+2∧a'≤a''∧a''≤a'+2:=by
  intro a sd ha1 ha2
  obtain⟨_,f1,b,a',s',rfl,j1,j2⟩:=wg9 30 bs a sd (by omega) (by omega) hl hb
  obtain⟨_,f2,z,a'',s'',rfl,j3,j4,j5⟩:=wg5 [0,-1,2,17] t_int (by decide) (by decide) bs a' s' (by omega) (by omega) hl hb
  exact⟨b,0,z,a',s',a'',s'',f1,f2,j1,j2,j3,j4⟩
 refine w31 ?_
 simp (maxSteps:=2000000) (disch:=first|omega|(simp only[lenS];try omega)) only[wea,go_sem,reduceAdd,reduceEqDiff,reduceLeDiff,reduceSub]
 simp (maxSteps:=2000000) (disch:=first|omega|(simp only[lenS];try omega)) only[go_sem,reduceAdd,reduceEqDiff,reduceLeDiff,reduceSub,e1,e2,e3,e4]
 refine⟨fun hx=>?_,fun hx0=>⟨fun hx=>?_,fun hx1=>⟨fun hx=>?_,fun hx2=>⟨fun hx=>⟨fun hr=>?_,fun hr=>?_⟩,fun hx3'=>?_⟩⟩⟩⟩
 ·obtain⟨_,f5,x5,a5,s5,rfl,j1,j2,j3,j4⟩:=wga pl bs a4 s4 (by omega) (by omega) hl hb
  obtain⟨_,f6,x6,a6,s6,rfl,j5,j6,j7,j8⟩:=wga pl bs a5 s5 (by omega) (by omega) hl hb
  obtain⟨b,y,z,a',s',a'',s'',t1,t2,t3,t4,t5,t6⟩:=fin a6 s6 (by omega) (by omega)
  simp (maxSteps:=2000000) (disch:=first|omega|(simp only[lenS];try omega)) only[go_sem,reduceAdd,reduceEqDiff,reduceLeDiff,reduceSub,f5,f6,t1,t2]
  refine⟨rfl,?_⟩
  exact⟨fun _=>⟨⟨⟨pl,tr++[⟨[x5],[x6],[]⟩]⟩,0,z⟩,a'',s'',by simp [List.map_set];try rfl,by omega,by omega,⟨by simp;try omega,by simp only;omega,z1b9 g8 (by simp)⟩⟩,fun _=>⟨⟨⟨pl,tr++[⟨[x5],[x6],[]⟩]⟩,0,1⟩,a',s',by simp [List.map_set];try rfl,by omega,by omega,⟨by simp;try omega,by simp only;omega,z1b9 g8 (by simp)⟩⟩⟩
 ·obtain⟨_,f5,x5,a5,s5,rfl,j1,j2,j3,j4⟩:=wga pl bs a4 s4 (by omega) (by omega) hl hb
  obtain⟨b,y,z,a',s',a'',s'',t1,t2,t3,t4,t5,t6⟩:=fin a5 s5 (by omega) (by omega)
  have hpl:=z12b tr[x3.toNat].out x5
  obtain⟨_,f6,rfl | ⟨rfl,f7⟩⟩:=wgi tr[x3.toNat].out x5 (by omega)
  ·simp (maxSteps:=2000000) (disch:=first|omega|(simp only[lenS];try omega)) only[go_sem,reduceAdd,reduceEqDiff,reduceLeDiff,reduceSub,f5,f6,t1,t2]
   refine⟨rfl,?_⟩
   exact⟨fun _=>⟨⟨⟨pl,tr.set x3.toNat ⟨tr[x3.toNat].inn,putI tr[x3.toNat].out x5,tr[x3.toNat].rst⟩⟩,0,z⟩,a'',s'',by simp [List.map_set];try rfl,by omega,by omega,⟨by simp;try omega,by simp only;omega,z1b8 g8 (by simp only;omega)⟩⟩,fun _=>⟨⟨⟨pl,tr.set x3.toNat ⟨tr[x3.toNat].inn,putI tr[x3.toNat].out x5,tr[x3.toNat].rst⟩⟩,0,1⟩,a',s',by simp [List.map_set];try rfl,by omega,by omega,⟨by simp;try omega,by simp only;omega,z1b8 g8 (by simp only;omega)⟩⟩⟩
  ·simp (maxSteps:=2000000) (disch:=first|omega|(simp only[lenS];try omega)) only[go_sem,reduceAdd,reduceEqDiff,reduceLeDiff,reduceSub,f5,f6,t1,t2]
   refine⟨rfl,?_⟩
   exact⟨fun _=>⟨⟨⟨pl,tr.set x3.toNat ⟨tr[x3.toNat].inn,tr[x3.toNat].out,tr[x3.toNat].rst⟩⟩,0,z⟩,a'',s'',by simp [List.map_set];try rfl,by omega,by omega,⟨by simp;try omega,by simp only;omega,z1b8 g8 (by simp only;omega)⟩⟩,fun _=>⟨⟨⟨pl,tr.set x3.toNat ⟨tr[x3.toNat].inn,tr[x3.toNat].out,tr[x3.toNat].rst⟩⟩,0,1⟩,a',s',by simp [List.map_set];try rfl,by omega,by omega,⟨by simp;try omega,by simp only;omega,z1b8 g8 (by simp only;omega)⟩⟩⟩
 ·obtain⟨_,f5,x5,a5,s5,rfl,j1,j2,j3,j4⟩:=wga pl bs a4 s4 (by omega) (by omega) hl hb
  obtain⟨b,y,z,a',s',a'',s'',t1,t2,t3,t4,t5,t6⟩:=fin a5 s5 (by omega) (by omega)
  have hpl:=z12b tr[x3.toNat].inn x5
  obtain⟨_,f6,rfl | ⟨rfl,f7⟩⟩:=wgi tr[x3.toNat].inn x5 (by omega)
  ·simp (maxSteps:=2000000) (disch:=first|omega|(simp only[lenS];try omega)) only[go_sem,reduceAdd,reduceEqDiff,reduceLeDiff,reduceSub,f5,f6,t1,t2]
   refine⟨rfl,?_⟩
   exact⟨fun _=>⟨⟨⟨pl,tr.set x3.toNat ⟨putI tr[x3.toNat].inn x5,tr[x3.toNat].out,tr[x3.toNat].rst⟩⟩,0,z⟩,a'',s'',by simp [List.map_set];try rfl,by omega,by omega,⟨by simp;try omega,by simp only;omega,z1b8 g8 (by simp only;omega)⟩⟩,fun _=>⟨⟨⟨pl,tr.set x3.toNat ⟨putI tr[x3.toNat].inn x5,tr[x3.toNat].out,tr[x3.toNat].rst⟩⟩,0,1⟩,a',s',by simp [List.map_set];try rfl,by omega,by omega,⟨by simp;try omega,by simp only;omega,z1b8 g8 (by simp only;omega)⟩⟩⟩
  ·simp (maxSteps:=2000000) (disch:=first|omega|(simp only[lenS];try omega)) only[go_sem,reduceAdd,reduceEqDiff,reduceLeDiff,reduceSub,f5,f6,t1,t2]
   refine⟨rfl,?_⟩
   exact⟨fun _=>⟨⟨⟨pl,tr.set x3.toNat ⟨tr[x3.toNat].inn,tr[x3.toNat].out,tr[x3.toNat].rst⟩⟩,0,z⟩,a'',s'',by simp [List.map_set];try rfl,by omega,by omega,⟨by simp;try omega,by simp only;omega,z1b8 g8 (by simp only;omega)⟩⟩,fun _=>⟨⟨⟨pl,tr.set x3.toNat ⟨tr[x3.toNat].inn,tr[x3.toNat].out,tr[x3.toNat].rst⟩⟩,0,1⟩,a',s',by simp [List.map_set];try rfl,by omega,by omega,⟨by simp;try omega,by simp only;omega,z1b8 g8 (by simp only;omega)⟩⟩⟩
 ·obtain⟨_,f5,l5,a5,s5,rfl,j1,j2,j3,j4⟩:=wgb pl 1 2 (by omega) bs a4 s4 (by omega) (by omega) hl hb
  obtain⟨b,y,z,a',s',a'',s'',t1,t2,t3,t4,t5,t6⟩:=fin a5 s5 (by omega) (by omega)
  simp (maxSteps:=2000000) (disch:=first|omega|(simp only[lenS];try omega)) only[go_sem,reduceAdd,reduceEqDiff,reduceLeDiff,reduceSub,f5,t1,t2]
  exact⟨fun _=>⟨⟨⟨pl,tr.set x3.toNat ⟨tr[x3.toNat].inn,tr[x3.toNat].out,l5⟩⟩,0,z⟩,a'',s'',by simp [List.map_set];try rfl,by omega,by omega,⟨by simp;try omega,by simp only;omega,z1b8 g8 (by simp only;omega)⟩⟩,fun _=>⟨⟨⟨pl,tr.set x3.toNat ⟨tr[x3.toNat].inn,tr[x3.toNat].out,l5⟩⟩,0,1⟩,a',s',by simp [List.map_set];try rfl,by omega,by omega,⟨by simp;try omega,by simp only;omega,z1b8 g8 (by simp only;omega)⟩⟩⟩
 ·obtain⟨b,y,z,a',s',a'',s'',t1,t2,t3,t4,t5,t6⟩:=fin a4 s4 (by omega) (by omega)
  simp (maxSteps:=2000000) (disch:=first|omega|(simp only[lenS];try omega)) only[go_sem,reduceAdd,reduceEqDiff,reduceLeDiff,reduceSub,t1,t2]
  exact⟨fun _=>⟨⟨⟨pl,tr⟩,0,z⟩,a'',s'',by simp [List.map_set];try rfl,by omega,by omega,⟨by simp;try omega,by simp only;omega,g8⟩⟩,fun _=>⟨⟨⟨pl,tr⟩,0,1⟩,a',s',by simp [List.map_set];try rfl,by omega,by omega,⟨by simp;try omega,by simp only;omega,g8⟩⟩⟩
 ·obtain⟨b,y,z,a',s',a'',s'',t1,t2,t3,t4,t5,t6⟩:=fin a4 s4 (by omega) (by omega)
  simp (maxSteps:=2000000) (disch:=first|omega|(simp only[lenS];try omega)) only[go_sem,reduceAdd,reduceEqDiff,reduceLeDiff,reduceSub,t1,t2]
  exact⟨fun _=>⟨⟨⟨pl,tr⟩,0,z⟩,a'',s'',by simp [List.map_set];try rfl,by omega,by omega,⟨by simp;try omega,by simp only;omega,g8⟩⟩,fun _=>⟨⟨⟨pl,tr⟩,0,1⟩,a',s',by simp [List.map_set];try rfl,by omega,by omega,⟨by simp;try omega,by simp only;omega,g8⟩⟩⟩
theorem wfm(bs:List Int)(hl:bs.length<2^62)(hb : ∀ x∈bs,0≤x∧x<256) :
  Lw (C w8y [bys bs] []) fun r=>∃ f:Fl,r=(.agg [I f.net.pl,.un wgz false 3 (f.net.tr.map encT),I f.src,I f.dst],[])∧smN f.net:=by
 obtain⟨_,e1,b,a1,s1,rfl,h3,h4⟩:=wg9 12 bs 0 0 (by omega) (by omega) hl hb
 obtain⟨_,e2,f,a2,s2,rfl,g1,g2,g3⟩:=wg6 b bs a1 s1 (by omega) (by omega) hl hb
 cases b
 all_goals
  refine w2z ?_
  simp (maxSteps:=2000000) (disch:=first|omega|(simp only[lenS];try omega)) only[wdt,go_sem,reduceAdd,reduceEqDiff,reduceLeDiff,reduceSub]
  simp (maxSteps:=2000000) (disch:=first|omega|(simp only[lenS];try omega)) only[go_sem,reduceAdd,reduceEqDiff,reduceLeDiff,reduceSub,e1,e2]
  first | exact⟨f,rfl,g3.smN⟩ | exact⟨rfl,f,rfl,g3.smN⟩
theorem wbj(n lo hi:Int):C w87 [I n,I lo,I hi] []=some (.bool (inB lo hi n),[]):=by
 refine w1e ?_
 simp (maxSteps:=2000000) (disch:=first|omega|(simp only[lenS];try omega)) only[wd3,go_sem,reduceAdd,reduceEqDiff,reduceLeDiff,reduceSub]
 unfold inB;grind
theorem wb1(l:List Int)(hl:l.length<2^62):C w7r [ints l] []=some (.bool (incr l),[]):=by
 refine w0y ?_
 simp (maxSteps:=2000000) (disch:=first|omega|(simp only[lenS];try omega)) only[wcn,go_sem,reduceAdd,reduceEqDiff,reduceLeDiff,reduceSub]
 refine W_for (l.length-1) (fun k s=>s=⟨[ints l,.any,I (k+1:Int),.any,.any],[]⟩∧(l.take (k+1)).Pairwise (· < ·)) ?_ ?_ ?_
 ·simp (maxSteps:=2000000) (disch:=first|omega|(simp only[lenS];try omega)) only[go_sem,reduceAdd,reduceEqDiff,reduceLeDiff,reduceSub]
  exact⟨rfl,zml⟩
 ·rintro k s hk ⟨rfl,hp⟩
  simp (maxSteps:=2000000) (disch:=first|omega|(simp only[lenS];try omega)) only[go_sem,reduceAdd,reduceEqDiff,reduceLeDiff,reduceSub]
  have e1:((k:Int)+1).toNat=k+1:=by omega
  have e2:((k:Int)+1-1).toNat=k:=by omega
  simp only[e1,e2]
  refine⟨fun h=>by rw[zmk (k:=k) (by omega) (by omega)],fun h=>⟨rfl,zmn (by omega) hp h⟩⟩
 ·rintro s ⟨rfl,hp⟩
  simp (maxSteps:=2000000) (disch:=first|omega|(simp only[lenS];try omega)) only[go_sem,reduceAdd,reduceEqDiff,reduceLeDiff,reduceSub]
  rw[z1eg (by omega)] at hp
  rw[show incr l=true by simpa [incr] using hp]
theorem wag(l:List Int)(lo hi:Int)(hl:l.length<2^62):C w78 [ints l,I lo,I hi] []=some (.bool (l.all (inB lo hi)),[]):=by
 refine w0f ?_
 simp (maxSteps:=2000000) (disch:=first|omega|(simp only[lenS];try omega)) only[wc4,go_sem,reduceAdd,reduceEqDiff,reduceLeDiff,reduceSub]
 refine W_for l.length (fun k s=>s=⟨[.any,I lo,I hi,.any,.any,ints l,I l.length,I k,.any,.any],[]⟩∧(l.take k).all (inB lo hi)=true) ?_ ?_ ?_
 ·simp (maxSteps:=2000000) (disch:=first|omega|(simp only[lenS];try omega)) only[go_sem,reduceAdd,reduceEqDiff,reduceLeDiff,reduceSub]
  rfl
 ·rintro k s hk ⟨rfl,hall⟩
  simp (maxSteps:=2000000) (disch:=first|omega|(simp only[lenS];try omega)) only[go_sem,reduceAdd,reduceEqDiff,reduceLeDiff,reduceSub,wbj]
  exact⟨fun h=>⟨rfl,z2z hk hall h⟩,fun h=>by rw[z2y hk h]⟩
 ·rintro s ⟨rfl,hall⟩
  simp (maxSteps:=2000000) (disch:=first|omega|(simp only[lenS];try omega)) only[go_sem,reduceAdd,reduceEqDiff,reduceLeDiff,reduceSub]
  rw[List.take_length] at hall
  rw[hall]
theorem wah(n:Net)(l:List Int)(h:1≤n.pl∧n.pl≤16)(hl:l.length<2^62):C w79 [encN n,ints l] []=some (.bool (z10z n.pl l),[]):=by
 refine w0g ?_
 simp (maxSteps:=2000000) (disch:=first|omega|(simp only[lenS];try omega)) only[wc5,go_sem,reduceAdd,reduceEqDiff,reduceLeDiff,reduceSub]
 simp (maxSteps:=2000000) (disch:=first|omega|(simp only[lenS];try omega)) only[go_sem,reduceAdd,reduceEqDiff,reduceLeDiff,reduceSub,wb1 l hl,wag l _ _ hl]
 unfold z10z;grind
theorem wa7(n:Net)(t:Tr)(h:1≤n.pl∧n.pl≤16)(ht:smT t):C w70 [encT t,.pv (encN n) 0] []=some (.bool (!goodT n.pl t),[]):=by
 obtain⟨h1,h2,h3⟩:=ht
 refine w07 ?_
 simp (maxSteps:=2000000) (disch:=first|omega|(simp only[lenS];try omega)) only[wbw,go_sem,reduceAdd,reduceEqDiff,reduceLeDiff,reduceSub]
 simp (maxSteps:=2000000) (disch:=first|omega|(simp only[lenS];try omega)) only[go_sem,reduceAdd,reduceEqDiff,reduceLeDiff,reduceSub,wah n _ h]
 refine⟨fun h6=>by rw[zjj (by omega)];rfl,fun h6=>⟨fun h7=>⟨fun h8=>⟨fun h9=>by rw[zjd (by omega) h7 h8 h9];rfl,fun h9=>by simp [goodT,h9]⟩,fun h8=>by simp [goodT,h8]⟩,fun h7=>by simp [goodT,h7]⟩⟩
theorem wfd(l:List Tr)(g:FuncId)(caps:List PV)(hc:refsL caps=[])(hcv : ∀ m h,z1g1 [] m h caps=some caps)(p:Tr→Bool)(hp : ∀ x∈l,C g (encT x :: caps) []=some (.bool (p x),[]))(hl:l.length<2^62) :
  C w8q [trs l,.clo g caps] []=some (I (idxI l p),[]):=by
 refine w1w ?_
 simp (maxSteps:=2000000) (disch:=first|omega|(simp only[lenS];try omega)) only[wdl,go_sem,reduceAdd,reduceEqDiff,reduceLeDiff,reduceSub]
 refine W_for l.length (fun k s=>s=⟨[trs l,.clo g caps,.any,.any,I l.length,I k,.any,.any],[]⟩∧(l.take k).any p=false) ?_ ?_ ?_
 ·simp (maxSteps:=2000000) (disch:=first|omega|(simp only[lenS];try omega)) only[go_sem,reduceAdd,reduceEqDiff,reduceLeDiff,reduceSub,hc]
  rfl
 ·rintro k s hk ⟨rfl,hall⟩
  simp (maxSteps:=2000000) (disch:=first|omega|(simp only[lenS];try omega)) only[go_sem,reduceAdd,reduceEqDiff,reduceLeDiff,reduceSub,hc,hcv,hp _ (List.getElem_mem hk)]
  exact⟨fun h=>by rw[zkg hk hall h],fun h=>⟨rfl,z3e hk hall h⟩⟩
 ·rintro s ⟨rfl,hall⟩
  simp (maxSteps:=2000000) (disch:=first|omega|(simp only[lenS];try omega)) only[go_sem,reduceAdd,reduceEqDiff,reduceLeDiff,reduceSub]
  rw[List.take_length] at hall
  rw[zkf hall]
theorem wf7(l:List Tr)(g:FuncId)(caps:List PV)(hc:refsL caps=[])(hcv : ∀ m h,z1g1 [] m h caps=some caps)(p:Tr→Bool)(hp : ∀ x∈l,C g (encT x :: caps) []=some (.bool (p x),[]))(hl:l.length<2^62) :
  C w8k [trs l,.clo g caps] []=some (.bool (l.any p),[]):=by
 refine w1q ?_
 simp (maxSteps:=2000000) (disch:=first|omega|(simp only[lenS];try omega)) only[wdf,go_sem,reduceAdd,reduceEqDiff,reduceLeDiff,reduceSub]
 simp (maxSteps:=2000000) (disch:=first|omega|(simp only[lenS];try omega)) only[go_sem,reduceAdd,reduceEqDiff,reduceLeDiff,reduceSub,hc,hcv,wfd l g caps hc hcv p hp hl]
 have:=zkc l p
 grind
theorem wa8(n:Net)(hn:smN n):C w6z [encN n] []=some (.bool (goodN n),[]):=by
 have h0:=hn.1
 refine w06 ?_
 simp (maxSteps:=2000000) (disch:=first|omega|(simp only[lenS];try omega)) only[wbv,go_sem,reduceAdd,reduceEqDiff,reduceLeDiff,reduceSub]
 simp (maxSteps:=2000000) (disch:=first|omega|(simp only[lenS];try omega)) only[go_sem,reduceAdd,reduceEqDiff,reduceLeDiff,reduceSub,wbj]
 refine⟨fun h=>⟨fun h2=>?_,fun h2=>?_⟩,fun h=>by simp [goodN,h]⟩
 ·have hb:1≤n.pl∧n.pl≤16:=by simpa [inB] using h
  have h3:=wf7 n.tr w70 [.pv (encN n) 0] rfl (fun _ _=>rfl) (fun t=>!goodT n.pl t) (fun x hx=>wa7 n x hb (hn.2 x hx)) (by omega)
  simp (maxSteps:=2000000) (disch:=first|omega|(simp only[lenS];try omega)) only[go_sem,reduceAdd,reduceEqDiff,reduceLeDiff,reduceSub,h3]
  have:(n.tr.any fun t=>!goodT n.pl t) = !n.tr.all (goodT n.pl):=by rw[List.any_eq_not_all_not];simp
  have h4:n.tr.length≤24:=by omega
  simp only[this]
  simp [goodN,h,h4]
 ·have:¬n.tr.length≤24:=by omega
  simp [goodN,this]
theorem wfh(l:List Int)(x:Int)(hl:l.length<2^62):C w8u [ints l,I x] []=some (I (idxI l (fun y=>y == x)),[]):=by
 refine w20 ?_
 simp (maxSteps:=2000000) (disch:=first|omega|(simp only[lenS];try omega)) only[wdp,go_sem,reduceAdd,reduceEqDiff,reduceLeDiff,reduceSub]
 refine W_for l.length (fun k s=>s=⟨[ints l,I x,.any,.any,I l.length,I k,.any,.any],[]⟩∧(l.take k).any (fun y=>y == x)=false) ?_ ?_ ?_
 ·simp (maxSteps:=2000000) (disch:=first|omega|(simp only[lenS];try omega)) only[go_sem,reduceAdd,reduceEqDiff,reduceLeDiff,reduceSub]
  rfl
 ·rintro k s hk ⟨rfl,hall⟩
  simp (maxSteps:=2000000) (disch:=first|omega|(simp only[lenS];try omega)) only[go_sem,reduceAdd,reduceEqDiff,reduceLeDiff,reduceSub]
  refine⟨fun h=>?_,fun h=>⟨rfl,z3e hk hall (by simpa using fun e=>h e.symm)⟩⟩
  rw[zkg hk hall (by simpa using h.symm)]
 ·rintro s ⟨rfl,hall⟩
  simp (maxSteps:=2000000) (disch:=first|omega|(simp only[lenS];try omega)) only[go_sem,reduceAdd,reduceEqDiff,reduceLeDiff,reduceSub]
  rw[List.take_length] at hall
  rw[zkf hall]
theorem wf9(l:List Int)(x:Int)(hl:l.length<2^62):C w8m [ints l,I x] []=some (.bool (hasB l x),[]):=by
 refine w1s ?_
 simp (maxSteps:=2000000) (disch:=first|omega|(simp only[lenS];try omega)) only[wdh,go_sem,reduceAdd,reduceEqDiff,reduceLeDiff,reduceSub]
 simp (maxSteps:=2000000) (disch:=first|omega|(simp only[lenS];try omega)) only[go_sem,reduceAdd,reduceEqDiff,reduceLeDiff,reduceSub,wfh l x hl]
 have:=zkc l (fun y=>y == x)
 rw[zjy,this]
 exact⟨fun h=>by simp [h],fun h=>by rw[decide_eq_false (by omega)]⟩
theorem wbb(x:Int)(P:List Bool)(h:0≤x∧x.toNat<P.length):C w82 [I x,.pv (.agg [bls P]) 0] []=some (.bool (P.getD x.toNat false),[]):=by
 obtain⟨h1,h2⟩:=h
 refine w19 ?_
 simp (maxSteps:=2000000) (disch:=first|omega|(simp only[lenS];try omega)) only[wcy,go_sem,reduceAdd,reduceEqDiff,reduceLeDiff,reduceSub]
 rw[zig h2]
 grind
theorem wfe(l:List Int)(g:FuncId)(caps:List PV)(hc:refsL caps=[])(hcv : ∀ m h,z1g1 [] m h caps=some caps)(p:Int→Bool)(hp : ∀ x∈l,C g (I x :: caps) []=some (.bool (p x),[]))(hl:l.length<2^62) :
  C w8r [ints l,.clo g caps] []=some (I (idxI l p),[]):=by
 refine w1x ?_
 simp (maxSteps:=2000000) (disch:=first|omega|(simp only[lenS];try omega)) only[wdm,go_sem,reduceAdd,reduceEqDiff,reduceLeDiff,reduceSub]
 refine W_for l.length (fun k s=>s=⟨[ints l,.clo g caps,.any,.any,I l.length,I k,.any,.any],[]⟩∧(l.take k).any p=false) ?_ ?_ ?_
 ·simp (maxSteps:=2000000) (disch:=first|omega|(simp only[lenS];try omega)) only[go_sem,reduceAdd,reduceEqDiff,reduceLeDiff,reduceSub,hc]
  rfl
 ·rintro k s hk ⟨rfl,hall⟩
  simp (maxSteps:=2000000) (disch:=first|omega|(simp only[lenS];try omega)) only[go_sem,reduceAdd,reduceEqDiff,reduceLeDiff,reduceSub,hc,hcv,hp _ (List.getElem_mem hk)]
  exact⟨fun h=>by rw[zkg hk hall h],fun h=>⟨rfl,z3e hk hall h⟩⟩
 ·rintro s ⟨rfl,hall⟩
  simp (maxSteps:=2000000) (disch:=first|omega|(simp only[lenS];try omega)) only[go_sem,reduceAdd,reduceEqDiff,reduceLeDiff,reduceSub]
  rw[List.take_length] at hall
  rw[zkf hall]
theorem wf8(l:List Int)(g:FuncId)(caps:List PV)(hc:refsL caps=[])(hcv : ∀ m h,z1g1 [] m h caps=some caps)(p:Int→Bool)(hp : ∀ x∈l,C g (I x :: caps) []=some (.bool (p x),[]))(hl:l.length<2^62) :
  C w8l [ints l,.clo g caps] []=some (.bool (l.any p),[]):=by
 refine w1r ?_
 simp (maxSteps:=2000000) (disch:=first|omega|(simp only[lenS];try omega)) only[wdg,go_sem,reduceAdd,reduceEqDiff,reduceLeDiff,reduceSub]
 simp (maxSteps:=2000000) (disch:=first|omega|(simp only[lenS];try omega)) only[go_sem,reduceAdd,reduceEqDiff,reduceLeDiff,reduceSub,hc,hcv,wfe l g caps hc hcv p hp hl]
 have:=zkc l p
 grind
theorem wbc(n:Net)(p:Int)(hg:goodN n=true)(hp:0≤p∧p<n.pl):C w81 [encN n,I p,.bool false] []=some (.tup [.un wgu true 1 ((z132 n false p).pl.map PV.bool),.un wgu true 1 ((z132 n false p).tr.map PV.bool)],[]):=by
  have hb:=zja hg
  have hlen:=z135 n false p
  rw[z133] at hlen ⊢
  refine w18 ?_
  simp (maxSteps:=2000000) (disch:=first|omega|(simp only[lenS];try omega)) only[wcx,go_sem,reduceAdd,reduceEqDiff,reduceLeDiff,reduceSub]
  simp (maxSteps:=2000000) (disch:=first|omega|(simp only[lenS];try omega)) only[go_sem,reduceAdd,reduceEqDiff,reduceLeDiff,reduceSub,List.getElem_replicate]
  generalize hR:clRun n false (cntF (List.replicate n.tr.length false)+1) ⟨(List.replicate n.pl.toNat false).set p.toNat true,List.replicate n.tr.length false,true⟩=R at *
  refine⟨rfl,?_⟩
  refine z1a (fun k s=>∃ c:Cl,c.pl.length=n.pl.toNat∧c.tr.length=n.tr.length∧((k=cntF c.tr+1∧s=⟨[.any,.any,.bool false,.ptr 0 0,.any,.any,.ptr 1 0,.ref 2 1 0 n.tr.length,.bool true,.any,.any,.any,.any,.any,.any,.any,.any,.any,.any,.any,.any,.any,.any,.any,.any],[.box wgx [I n.pl,trs n.tr],.box wh1 [.ref 3 1 0 n.pl.toNat],.row wgu true 1 (c.tr.map PV.bool),.row wgu true 1 (c.pl.map PV.bool)]⟩∧clRun n false (cntF c.tr+1) c=R)∨(k=0∧s=⟨[.any,.any,.bool false,.ptr 0 0,.any,.any,.ptr 1 0,.ref 2 1 0 n.tr.length,.bool false,.any,.any,.any,.any,.any,.any,.any,.any,.any,.any,.any,.any,.any,.any,.any,.any],[.box wgx [I n.pl,trs n.tr],.box wh1 [.ref 3 1 0 n.pl.toNat],.row wgu true 1 (c.tr.map PV.bool),.row wgu true 1 (c.pl.map PV.bool)]⟩∧c=R))) (cntF (List.replicate n.tr.length false)+1) ?_ ?_
  · refine⟨⟨(List.replicate n.pl.toNat false).set p.toNat true,List.replicate n.tr.length false,true⟩,by simp,by simp,.inl ⟨rfl,?_,hR⟩⟩
    simp (maxSteps:=2000000) (disch:=first|omega|(simp only[lenS];try omega)) only[go_sem,reduceAdd,reduceEqDiff,reduceLeDiff,reduceSub]
    simp
  · rintro k0 s ⟨c,hc1,hc2,⟨rfl,rfl,hc⟩ | ⟨rfl,rfl,rfl⟩⟩
    · have hcl:=fun k=>z9k n false c k
      simp (maxSteps:=2000000) (disch:=first|omega|(simp only[lenS];try omega)) only[go_sem,reduceAdd,reduceEqDiff,reduceLeDiff,reduceSub]
      refine W_for n.tr.length (fun k s=>s=⟨[.any,.any,.bool false,.ptr 0 0,.any,.any,.ptr 1 0,.ref 2 1 0 n.tr.length,.bool (clK n false c k).ch,.any,.any,.any,.any,.any,.any,trs n.tr,I n.tr.length,I k,.any,.any,.any,.any,.any,.any,.any],[.box wgx [I n.pl,trs n.tr],.box wh1 [.ref 3 1 0 n.pl.toNat],.row wgu true 1 ((clK n false c k).tr.map PV.bool),.row wgu true 1 ((clK n false c k).pl.map PV.bool)]⟩) ?_ ?_ ?_
      · simp (maxSteps:=2000000) (disch:=first|omega|(simp only[lenS];try omega)) only[go_sem,reduceAdd,reduceEqDiff,reduceLeDiff,reduceSub]
        rfl
      · rintro k s hk rfl
        have hT:=hb.2.2.2 _ (List.getElem_mem hk)
        have hLs:=zjg hT (by omega)
        obtain⟨_,g1,g2,g3⟩:=zjk hT
        have p1:=z111 g1
        have p2:=z111 g2
        have hd:=hcl k
        have hstep:=z9m n false c k
        have htr:n.tr[k]=trN n k:=(z1f3 hk).symm
        rw[htr] at hLs p1 p2
        have s1:(clK n false c k).tr.getD k false=true→clK n false c (k+1)=clK n false c k:=fun h=>hstep.trans (z9w (.inl h))
        have s2:hitB (clK n false c k).pl (sideI false (trN n k))=false→clK n false c (k+1)=clK n false c k:=fun h=>hstep.trans (z9w (.inr h))
        have s3:(clK n false c k).tr.getD k false=false→hitB (clK n false c k).pl (sideI false (trN n k))=true→clK n false c (k+1)=⟨markB (clK n false c k).pl (sideO false (trN n k)),(clK n false c k).tr.set k true,true⟩:=fun h h2=>hstep.trans (z9x h h2)
        simp only[sideI,sideO,Bool.false_eq_true,if_false,if_true] at s2 s3
        clear hstep
        generalize clK n false c k=d at *
        generalize clK n false c (k+1)=d' at *
        have hcont:=wf8 (trN n k).inn w82 [.pv (.agg [bls d.pl]) 0] rfl (fun _ _=>rfl) (fun q=>d.pl.getD q.toNat false) (fun x hx=>wbb x d.pl (by have:=p1 x hx;omega)) (by omega)
        rw[show((trN n k).inn.any fun q=>d.pl.getD q.toNat false)=hitB d.pl (trN n k).inn from rfl] at hcont
        have hkd:k<d.tr.length:=by omega
        simp (maxSteps:=2000000) (disch:=first|omega|(simp only[lenS];try omega)) only[go_sem,reduceAdd,reduceEqDiff,reduceLeDiff,reduceSub,htr,hcont]
        generalize trN n k=tr at *
        refine⟨fun h3=>?_,fun h3=>⟨fun h=>?_,fun h=>?_⟩⟩
        · rw[s1 (by rw[←zig hkd];exact h3)];rfl
        · have e:=s3 (by rw[←zig hkd];exact h3) h
          subst e
          refine W_for tr.out.length (fun j s=>s=⟨[.any,.any,.bool false,.ptr 0 0,.any,.any,.ptr 1 0,.ref 2 1 0 n.tr.length,.bool true,.any,.any,.any,.any,.any,.any,trs n.tr,I n.tr.length,I k,.any,.any,.any,ints tr.out,I tr.out.length,I j,.any],[.box wgx [I n.pl,trs n.tr],.box wh1 [.ref 3 1 0 n.pl.toNat],.row wgu true 1 ((d.tr.set k true).map PV.bool),.row wgu true 1 ((markB d.pl (tr.out.take j)).map PV.bool)]⟩) ?_ ?_ ?_
          · simp (maxSteps:=2000000) (disch:=first|omega|(simp only[lenS];try omega)) only[go_sem,reduceAdd,reduceEqDiff,reduceLeDiff,reduceSub]
            rfl
          · rintro j s hj rfl
            have h1:=p2 _ (List.getElem_mem hj)
            have h2:tr.out[j].toNat<d.pl.length:=by omega
            have h4:=zrx d.pl (tr.out.take j)
            simp (maxSteps:=2000000) (disch:=first|omega|(simp only[lenS];try omega)) only[go_sem,reduceAdd,reduceEqDiff,reduceLeDiff,reduceSub]
            rw[zry hj];rfl
          · rintro s rfl
            simp (maxSteps:=2000000) (disch:=first|omega|(simp only[lenS];try omega)) only[go_sem,reduceAdd,reduceEqDiff,reduceLeDiff,reduceSub,List.take_length]
            rfl
        · rw[s2 h];rfl
      · rintro s rfl
        simp (maxSteps:=2000000) (disch:=first|omega|(simp only[lenS];try omega)) only[go_sem,reduceAdd,reduceEqDiff,reduceLeDiff,reduceSub]
        have hn:=z9s (n:=n) (bk:=false) hc2
        rw[hc] at hn
        cases e:(z9n n false c).ch with
        | true =>
          have h1:=(z9j (n:=n) (bk:=false) (s:=c) (k:=n.tr.length) (by omega)).2 e
          simp only[e,if_true] at hn
          refine⟨cntF (z9n n false c).tr+1,by unfold z9n;omega,z9n n false c,by unfold z9n;have:=hcl n.tr.length;omega,by unfold z9n;have:=hcl n.tr.length;omega,.inl ⟨rfl,?_,hn.symm⟩⟩
          unfold z9n at e ⊢
          rw[e]
        | false =>
          simp only[e,Bool.false_eq_true,if_false] at hn
          refine⟨0,by omega,z9n n false c,by unfold z9n;have:=hcl n.tr.length;omega,by unfold z9n;have:=hcl n.tr.length;omega,.inr ⟨rfl,?_,hn.symm⟩⟩
          unfold z9n at e ⊢
          rw[e]
    · simp (maxSteps:=2000000) (disch:=first|omega|(simp only[lenS];try omega)) only[go_sem,reduceAdd,reduceEqDiff,reduceLeDiff,reduceSub]
theorem wbd(n:Net)(p:Int)(hg:goodN n=true)(hp:0≤p∧p<n.pl):C w81 [encN n,I p,.bool true] []=some (.tup [.un wgu true 1 ((z132 n true p).pl.map PV.bool),.un wgu true 1 ((z132 n true p).tr.map PV.bool)],[]):=by
  have hb:=zja hg
  have hlen:=z135 n true p
  rw[z133] at hlen ⊢
  refine w18 ?_
  simp (maxSteps:=2000000) (disch:=first|omega|(simp only[lenS];try omega)) only[wcx,go_sem,reduceAdd,reduceEqDiff,reduceLeDiff,reduceSub]
  simp (maxSteps:=2000000) (disch:=first|omega|(simp only[lenS];try omega)) only[go_sem,reduceAdd,reduceEqDiff,reduceLeDiff,reduceSub,List.getElem_replicate]
  generalize hR:clRun n true (cntF (List.replicate n.tr.length false)+1) ⟨(List.replicate n.pl.toNat false).set p.toNat true,List.replicate n.tr.length false,true⟩=R at *
  refine⟨rfl,?_⟩
  refine z1a (fun k s=>∃ c:Cl,c.pl.length=n.pl.toNat∧c.tr.length=n.tr.length∧((k=cntF c.tr+1∧s=⟨[.any,.any,.bool true,.ptr 0 0,.any,.any,.ptr 1 0,.ref 2 1 0 n.tr.length,.bool true,.any,.any,.any,.any,.any,.any,.any,.any,.any,.any,.any,.any,.any,.any,.any,.any],[.box wgx [I n.pl,trs n.tr],.box wh1 [.ref 3 1 0 n.pl.toNat],.row wgu true 1 (c.tr.map PV.bool),.row wgu true 1 (c.pl.map PV.bool)]⟩∧clRun n true (cntF c.tr+1) c=R)∨(k=0∧s=⟨[.any,.any,.bool true,.ptr 0 0,.any,.any,.ptr 1 0,.ref 2 1 0 n.tr.length,.bool false,.any,.any,.any,.any,.any,.any,.any,.any,.any,.any,.any,.any,.any,.any,.any,.any],[.box wgx [I n.pl,trs n.tr],.box wh1 [.ref 3 1 0 n.pl.toNat],.row wgu true 1 (c.tr.map PV.bool),.row wgu true 1 (c.pl.map PV.bool)]⟩∧c=R))) (cntF (List.replicate n.tr.length false)+1) ?_ ?_
  · refine⟨⟨(List.replicate n.pl.toNat false).set p.toNat true,List.replicate n.tr.length false,true⟩,by simp,by simp,.inl ⟨rfl,?_,hR⟩⟩
    simp (maxSteps:=2000000) (disch:=first|omega|(simp only[lenS];try omega)) only[go_sem,reduceAdd,reduceEqDiff,reduceLeDiff,reduceSub]
    simp
  · rintro k0 s ⟨c,hc1,hc2,⟨rfl,rfl,hc⟩ | ⟨rfl,rfl,rfl⟩⟩
    · have hcl:=fun k=>z9k n true c k
      simp (maxSteps:=2000000) (disch:=first|omega|(simp only[lenS];try omega)) only[go_sem,reduceAdd,reduceEqDiff,reduceLeDiff,reduceSub]
      refine W_for n.tr.length (fun k s=>s=⟨[.any,.any,.bool true,.ptr 0 0,.any,.any,.ptr 1 0,.ref 2 1 0 n.tr.length,.bool (clK n true c k).ch,.any,.any,.any,.any,.any,.any,trs n.tr,I n.tr.length,I k,.any,.any,.any,.any,.any,.any,.any],[.box wgx [I n.pl,trs n.tr],.box wh1 [.ref 3 1 0 n.pl.toNat],.row wgu true 1 ((clK n true c k).tr.map PV.bool),.row wgu true 1 ((clK n true c k).pl.map PV.bool)]⟩) ?_ ?_ ?_
      · simp (maxSteps:=2000000) (disch:=first|omega|(simp only[lenS];try omega)) only[go_sem,reduceAdd,reduceEqDiff,reduceLeDiff,reduceSub]
        rfl
      · rintro k s hk rfl
        have hT:=hb.2.2.2 _ (List.getElem_mem hk)
        have hLs:=zjg hT (by omega)
        obtain⟨_,g1,g2,g3⟩:=zjk hT
        have p1:=z111 g2
        have p2:=z111 g1
        have hd:=hcl k
        have hstep:=z9m n true c k
        have htr:n.tr[k]=trN n k:=(z1f3 hk).symm
        rw[htr] at hLs p1 p2
        have s1:(clK n true c k).tr.getD k false=true→clK n true c (k+1)=clK n true c k:=fun h=>hstep.trans (z9w (.inl h))
        have s2:hitB (clK n true c k).pl (sideI true (trN n k))=false→clK n true c (k+1)=clK n true c k:=fun h=>hstep.trans (z9w (.inr h))
        have s3:(clK n true c k).tr.getD k false=false→hitB (clK n true c k).pl (sideI true (trN n k))=true→clK n true c (k+1)=⟨markB (clK n true c k).pl (sideO true (trN n k)),(clK n true c k).tr.set k true,true⟩:=fun h h2=>hstep.trans (z9x h h2)
        simp only[sideI,sideO,Bool.false_eq_true,if_false,if_true] at s2 s3
        clear hstep
        generalize clK n true c k=d at *
        generalize clK n true c (k+1)=d' at *
        have hcont:=wf8 (trN n k).out w82 [.pv (.agg [bls d.pl]) 0] rfl (fun _ _=>rfl) (fun q=>d.pl.getD q.toNat false) (fun x hx=>wbb x d.pl (by have:=p1 x hx;omega)) (by omega)
        rw[show((trN n k).out.any fun q=>d.pl.getD q.toNat false)=hitB d.pl (trN n k).out from rfl] at hcont
        have hkd:k<d.tr.length:=by omega
        simp (maxSteps:=2000000) (disch:=first|omega|(simp only[lenS];try omega)) only[go_sem,reduceAdd,reduceEqDiff,reduceLeDiff,reduceSub,htr,hcont]
        generalize trN n k=tr at *
        refine⟨fun h3=>?_,fun h3=>⟨fun h=>?_,fun h=>?_⟩⟩
        · rw[s1 (by rw[←zig hkd];exact h3)];rfl
        · have e:=s3 (by rw[←zig hkd];exact h3) h
          subst e
          refine W_for tr.inn.length (fun j s=>s=⟨[.any,.any,.bool true,.ptr 0 0,.any,.any,.ptr 1 0,.ref 2 1 0 n.tr.length,.bool true,.any,.any,.any,.any,.any,.any,trs n.tr,I n.tr.length,I k,.any,.any,.any,ints tr.inn,I tr.inn.length,I j,.any],[.box wgx [I n.pl,trs n.tr],.box wh1 [.ref 3 1 0 n.pl.toNat],.row wgu true 1 ((d.tr.set k true).map PV.bool),.row wgu true 1 ((markB d.pl (tr.inn.take j)).map PV.bool)]⟩) ?_ ?_ ?_
          · simp (maxSteps:=2000000) (disch:=first|omega|(simp only[lenS];try omega)) only[go_sem,reduceAdd,reduceEqDiff,reduceLeDiff,reduceSub]
            rfl
          · rintro j s hj rfl
            have h1:=p2 _ (List.getElem_mem hj)
            have h2:tr.inn[j].toNat<d.pl.length:=by omega
            have h4:=zrx d.pl (tr.inn.take j)
            simp (maxSteps:=2000000) (disch:=first|omega|(simp only[lenS];try omega)) only[go_sem,reduceAdd,reduceEqDiff,reduceLeDiff,reduceSub]
            rw[zry hj];rfl
          · rintro s rfl
            simp (maxSteps:=2000000) (disch:=first|omega|(simp only[lenS];try omega)) only[go_sem,reduceAdd,reduceEqDiff,reduceLeDiff,reduceSub,List.take_length]
            rfl
        · rw[s2 h];rfl
      · rintro s rfl
        simp (maxSteps:=2000000) (disch:=first|omega|(simp only[lenS];try omega)) only[go_sem,reduceAdd,reduceEqDiff,reduceLeDiff,reduceSub]
        have hn:=z9s (n:=n) (bk:=true) hc2
        rw[hc] at hn
        cases e:(z9n n true c).ch with
        | true =>
          have h1:=(z9j (n:=n) (bk:=true) (s:=c) (k:=n.tr.length) (by omega)).2 e
          simp only[e,if_true] at hn
          refine⟨cntF (z9n n true c).tr+1,by unfold z9n;omega,z9n n true c,by unfold z9n;have:=hcl n.tr.length;omega,by unfold z9n;have:=hcl n.tr.length;omega,.inl ⟨rfl,?_,hn.symm⟩⟩
          unfold z9n at e ⊢
          rw[e]
        | false =>
          simp only[e,Bool.false_eq_true,if_false] at hn
          refine⟨0,by omega,z9n n true c,by unfold z9n;have:=hcl n.tr.length;omega,by unfold z9n;have:=hcl n.tr.length;omega,.inr ⟨rfl,?_,hn.symm⟩⟩
          unfold z9n at e ⊢
          rw[e]
    · simp (maxSteps:=2000000) (disch:=first|omega|(simp only[lenS];try omega)) only[go_sem,reduceAdd,reduceEqDiff,reduceLeDiff,reduceSub]
theorem wai(a b:List Bool)(ha:a.length<2^30)(hab:a.length≤b.length):C w7a [bls a,bls b] []=some (.un t_int true 1 ((bothL a b).map I),[]):=by
 refine w0h ?_
 simp (maxSteps:=2000000) (disch:=first|omega|(simp only[lenS];try omega)) only[wc6,go_sem,reduceAdd,reduceEqDiff,reduceLeDiff,reduceSub]
 refine W_for a.length (fun k s=>s=⟨[.any,bls b,.any,.ref 0 1 0 (bothK a b k).length,.any,.any,bls a,I a.length,I k,.any,.any],[.row t_int true 1 ((bothK a b k).map I)]⟩) ?_ ?_ ?_
 ·simp (maxSteps:=2000000) (disch:=first|omega|(simp only[lenS];try omega)) only[go_sem,reduceAdd,reduceEqDiff,reduceLeDiff,reduceSub]
  rfl
 ·rintro k s hk rfl
  have h2:=z72 a b k
  have hkb:k<b.length:=by omega
  have e1:=zig hk
  have e2:=zig hkb
  simp (maxSteps:=2000000) (disch:=first|omega|(simp only[lenS];try omega)) only[go_sem,reduceAdd,reduceEqDiff,reduceLeDiff,reduceSub]
  rw[e1,e2]
  refine⟨fun h=>⟨fun h3=>?_,fun h3=>?_⟩,fun h=>?_⟩
  ·rw[z73 h h3,List.map_append];simp
  ·rw[z71 (by rw[h,h3];rfl)];rfl
  ·rw[z71 (by rw[h];rfl)];rfl
 ·rintro s rfl
  simp (maxSteps:=2000000) (disch:=first|omega|(simp only[lenS];try omega)) only[go_sem,reduceAdd,reduceEqDiff,reduceLeDiff,reduceSub]
  rfl
theorem wba(n:Net)(a b:Int)(hg:goodN n=true)(ha:0≤a∧a<n.pl)(hb2:0≤b∧b<n.pl):C w80 [encN n,I a,I b] []=some (.tup [.un t_int true 1 ((wayP n a b).map I),.un t_int true 1 ((wayT n a b).map I)],[]):=by
 have hb:=zja hg
 have l1:=z135 n false a
 have l2:=z135 n true b
 refine w17 ?_
 simp (maxSteps:=2000000) (disch:=first|omega|(simp only[lenS];try omega)) only[wcw,go_sem,reduceAdd,reduceEqDiff,reduceLeDiff,reduceSub]
 simp (maxSteps:=2000000) (disch:=first|omega|(simp only[lenS];try omega)) only[go_sem,reduceAdd,reduceEqDiff,reduceLeDiff,reduceSub,wbc n a hg ha,wbd n b hg hb2]
 simp (maxSteps:=2000000) (disch:=first|omega|(simp only[lenS];try omega)) only[go_sem,reduceAdd,reduceEqDiff,reduceLeDiff,reduceSub,wai (z132 n false a).pl (z132 n true b).pl (by omega) (by omega),wai (z132 n false a).tr (z132 n true b).tr (by omega) (by omega)]
 rfl
theorem wa6(f:Fl)(hf:smN f.net):C w6y [encF f] []=some (.bool (ziu f),[]):=by
  have hl:=hf.1
  refine w05 ?_
  simp (maxSteps:=2000000) (disch:=first|omega|(simp only[lenS];try omega)) only[wbu,go_sem,reduceAdd,reduceEqDiff,reduceLeDiff,reduceSub]
  simp (maxSteps:=2000000) (disch:=first|omega|(simp only[lenS];try omega)) only[go_sem,reduceAdd,reduceEqDiff,reduceLeDiff,reduceSub,wa8 f.net hf,wbj]
  cases hg:goodN f.net with
  | false=>simp [ziu,okWay,hg]
  | true =>
    have hb:=zja hg
    cases h1:inB 0 (f.net.pl-1) f.src with
    | false=>simp (maxSteps:=2000000) (disch:=first|omega|(simp only[lenS];try omega)) only[go_sem,reduceAdd,reduceEqDiff,reduceLeDiff,reduceSub,h1];simp [ziu,okWay,hg,h1]
    | true =>
      cases h2:inB 0 (f.net.pl-1) f.dst with
      | false=>simp (maxSteps:=2000000) (disch:=first|omega|(simp only[lenS];try omega)) only[go_sem,reduceAdd,reduceEqDiff,reduceLeDiff,reduceSub,h1,h2];simp [ziu,okWay,hg,h1,h2]
      | true =>
        have hok:okWay f.net f.src f.dst=true:=by simp [okWay,hg,h1,h2]
        have ha:0≤f.src∧f.src<f.net.pl:=by simp [inB] at h1;omega
        have hb2:0≤f.dst∧f.dst<f.net.pl:=by simp [inB] at h2;omega
        have hP:(wayP f.net f.src f.dst).length<2^62:=by
          have h1:=z72 (z132 f.net false f.src).pl (z132 f.net true f.dst).pl (z132 f.net false f.src).pl.length
          have h2:=z135 f.net false f.src
          unfold wayP bothL;omega
        have hT:(wayT f.net f.src f.dst).length<2^62:=by
          have h1:=z72 (z132 f.net false f.src).tr (z132 f.net true f.dst).tr (z132 f.net false f.src).tr.length
          have h2:=z135 f.net false f.src
          unfold wayT bothL;omega
        simp (maxSteps:=2000000) (disch:=first|omega|(simp only[lenS];try omega)) only[go_sem,reduceAdd,reduceEqDiff,reduceLeDiff,reduceSub,h1,h2]
        refine⟨fun h=>by simp [ziu,h],fun hne=>?_⟩
        refine W_for f.net.tr.length (fun k s=>s=⟨[.any,.ptr 0 0,.any,.ptr 1 0,.any,.any,.any,.any,trs f.net.tr,I f.net.tr.length,I k,.any,.any],[.box wgw [I f.net.pl,trs f.net.tr,I f.src,I f.dst],.box wgx [I f.net.pl,trs f.net.tr]]⟩∧(f.net.tr.take k).all (fun t=>!z1bp f t)=true) ?_ ?_ ?_
        · simp (maxSteps:=2000000) (disch:=first|omega|(simp only[lenS];try omega)) only[go_sem,reduceAdd,reduceEqDiff,reduceLeDiff,reduceSub]
          rfl
        · rintro k s hk ⟨rfl,hall⟩
          have hT:=hb.2.2.2 _ (List.getElem_mem hk)
          have hLs:=zjg hT (by omega)
          simp (maxSteps:=2000000) (disch:=first|omega|(simp only[lenS];try omega)) only[go_sem,reduceAdd,reduceEqDiff,reduceLeDiff,reduceSub,wf9]
          have gs:z1bp f f.net.tr[k]=true→ziu f=false:=fun hs=>by
            have:(f.net.tr.all fun t=>!z1bp f t)=false:=z2y hk (by simp [hs])
            simp [ziu,this]
          exact⟨fun a=>by rw[gs (by simp [z1bp,a])],fun a=>⟨fun b=>by rw[gs (by simp [z1bp,b])],fun b=>⟨fun c=>by rw[gs (by simp [z1bp,c])],fun c=>⟨fun d=>by rw[gs (by simp [z1bp,d])],fun d=>⟨rfl,z2z hk hall (by simp [z1bp,a,b,c,d])⟩⟩⟩⟩⟩
        · rintro s ⟨rfl,hall⟩
          rw[List.take_length] at hall
          simp (maxSteps:=2000000) (disch:=first|omega|(simp only[lenS];try omega)) only[go_sem,reduceAdd,reduceEqDiff,reduceLeDiff,reduceSub,wba f.net f.src f.dst hg ha hb2]
          have e:ziu f=(decide (((wayP f.net f.src f.dst).length:Int)=f.net.pl)&&decide ((wayT f.net f.src f.dst).length=f.net.tr.length)):=by
            simp only[ziu,hok,hne,hall,decide_false,Bool.not_false,Bool.true_and]
          refine⟨fun q1=>⟨fun q2=>?_,fun q2=>?_⟩,fun q1=>?_⟩
          · rw[e,decide_eq_true q1,decide_eq_true (by omega)];rfl
          · rw[e,decide_eq_true q1,decide_eq_false (by omega)];rfl
          · rw[e,decide_eq_false q1];rfl
theorem waz(t:Tr):C w7q [encT t] []=some (.bool (decide (0<t.rst.length)),[]):=by
 refine w0x ?_
 simp (maxSteps:=2000000) (disch:=first|omega|(simp only[lenS];try omega)) only[wcm,go_sem,reduceAdd,reduceEqDiff,reduceLeDiff,reduceSub]
 grind
theorem wb0(n:Net)(hl:n.tr.length<2^62):C w7p [encN n] []=some (.bool (hasR n),[]):=by
 refine w0w ?_
 simp (maxSteps:=2000000) (disch:=first|omega|(simp only[lenS];try omega)) only[wcl,go_sem,reduceAdd,reduceEqDiff,reduceLeDiff,reduceSub]
 have h:=wf7 n.tr w7q [] rfl (fun _ _=>rfl) (fun t=>decide (0<t.rst.length)) (fun x _=>waz x) hl
 simp (maxSteps:=2000000) (disch:=first|omega|(simp only[lenS];try omega)) only[go_sem,reduceAdd,reduceEqDiff,reduceLeDiff,reduceSub,h]
 unfold hasR;grind
theorem wb7(f:Fl)(hn:smN f.net):C w7x [encF f] []=some (.bool (okRed f),[]):=by
  have hG:=wa6 f hn
  have hl:=hn.1
  have hR:=wb0 f.net (by omega)
  unfold encF at hG
  refine w14 ?_
  simp (maxSteps:=2000000) (disch:=first|omega|(simp only[lenS];try omega)) only[wct,go_sem,reduceAdd,reduceEqDiff,reduceLeDiff,reduceSub]
  cases hg:ziu f with
  | false =>
    simp (maxSteps:=2000000) (disch:=first|omega|(simp only[lenS];try omega)) only[go_sem,reduceAdd,reduceEqDiff,reduceLeDiff,reduceSub,hG,hg]
    simp [okRed,hg]
  | true =>
    simp (maxSteps:=2000000) (disch:=first|omega|(simp only[lenS];try omega)) only[go_sem,reduceAdd,reduceEqDiff,reduceLeDiff,reduceSub,hG,hg,hR]
    simp [okRed,hg]
theorem wbi(n:Net)(p:Int)(hg:goodN n=true):C w86 [encN n,I p,.bool true] []=some (.un t_int true 1 ((givI n p).map I),[]):=by
 have hb:=zja hg
 refine w1d ?_
 simp (maxSteps:=2000000) (disch:=first|omega|(simp only[lenS];try omega)) only[wd2,go_sem,reduceAdd,reduceEqDiff,reduceLeDiff,reduceSub]
 refine W_for n.tr.length (fun k s=>s=⟨[.any,I p,.bool true,.any,.any,.ref 0 1 0 (idxK (fun t=>hasB t.out p) n k).length,.any,.any,trs n.tr,I n.tr.length,I k,.any,.any],[.row t_int true 1 ((idxK (fun t=>hasB t.out p) n k).map I)]⟩) ?_ ?_ ?_
 ·simp (maxSteps:=2000000) (disch:=first|omega|(simp only[lenS];try omega)) only[go_sem,reduceAdd,reduceEqDiff,reduceLeDiff,reduceSub]
  rfl
 ·rintro k s hk rfl
  have h2:=zki (fun t=>hasB t.out p) n k
  have h3:=zjg (hb.2.2.2 _ (List.getElem_mem hk)) (by omega)
  have hc:=wf9 n.tr[k].out p (by omega)
  simp (maxSteps:=2000000) (disch:=first|omega|(simp only[lenS];try omega)) only[go_sem,reduceAdd,reduceEqDiff,reduceLeDiff,reduceSub,hc]
  refine⟨fun h=>?_,fun h=>?_⟩
  ·rw[zkj hk h,List.map_append];simp
  ·rw[zkh hk h];rfl
 ·rintro s rfl
  simp (maxSteps:=2000000) (disch:=first|omega|(simp only[lenS];try omega)) only[go_sem,reduceAdd,reduceEqDiff,reduceLeDiff,reduceSub]
  rfl
theorem wbh(n:Net)(p:Int)(hg:goodN n=true):C w86 [encN n,I p,.bool false] []=some (.un t_int true 1 ((takI n p).map I),[]):=by
 have hb:=zja hg
 refine w1d ?_
 simp (maxSteps:=2000000) (disch:=first|omega|(simp only[lenS];try omega)) only[wd2,go_sem,reduceAdd,reduceEqDiff,reduceLeDiff,reduceSub]
 refine W_for n.tr.length (fun k s=>s=⟨[.any,I p,.bool false,.any,.any,.ref 0 1 0 (idxK (fun t=>hasB t.inn p) n k).length,.any,.any,trs n.tr,I n.tr.length,I k,.any,.any],[.row t_int true 1 ((idxK (fun t=>hasB t.inn p) n k).map I)]⟩) ?_ ?_ ?_
 ·simp (maxSteps:=2000000) (disch:=first|omega|(simp only[lenS];try omega)) only[go_sem,reduceAdd,reduceEqDiff,reduceLeDiff,reduceSub]
  rfl
 ·rintro k s hk rfl
  have h2:=zki (fun t=>hasB t.inn p) n k
  have h3:=zjg (hb.2.2.2 _ (List.getElem_mem hk)) (by omega)
  have hc:=wf9 n.tr[k].inn p (by omega)
  simp (maxSteps:=2000000) (disch:=first|omega|(simp only[lenS];try omega)) only[go_sem,reduceAdd,reduceEqDiff,reduceLeDiff,reduceSub,hc]
  refine⟨fun h=>?_,fun h=>?_⟩
  ·rw[zkj hk h,List.map_append];simp
  ·rw[zkh hk h];rfl
 ·rintro s rfl
  simp (maxSteps:=2000000) (disch:=first|omega|(simp only[lenS];try omega)) only[go_sem,reduceAdd,reduceEqDiff,reduceLeDiff,reduceSub]
  rfl
theorem wb5(f:Fl)(p:Int):C w7v [encF f,I p] []=some (.bool (zmq f p),[]):=by
 refine w12 ?_
 simp (maxSteps:=2000000) (disch:=first|omega|(simp only[lenS];try omega)) only[wcr,go_sem,reduceAdd,reduceEqDiff,reduceLeDiff,reduceSub]
 unfold zmq
 grind
theorem wb8(l:List Int)(h : ∀ p∈l,0≤p∧p<62)(hl:l.length<2^62:=by omega):C w7y [ints l] []=some (I (maskN l),[]):=by
 refine w15 ?_
 simp (maxSteps:=2000000) (disch:=first|omega|(simp only[lenS];try omega)) only[wcu,go_sem,reduceAdd,reduceEqDiff,reduceLeDiff,reduceSub]
 refine W_for l.length (fun k s=>s=⟨[.any,.any,I (maskN (l.take k)),.any,ints l,I l.length,I k,.any],[]⟩) ?_ ?_ ?_
 ·simp (maxSteps:=2000000) (disch:=first|omega|(simp only[lenS];try omega)) only[go_sem,reduceAdd,reduceEqDiff,reduceLeDiff,reduceSub]
  rfl
 ·rintro k s hk rfl
  have h1:=h _ (List.getElem_mem hk)
  have h2:maskN (l.take k)<2 ^ 62:=zs9 (q:=62) (fun p hp=>h p (List.mem_of_mem_take hp))
  have h3:2 ^ l[k].toNat<2 ^ 62:=Nat.pow_lt_pow_right (by decide) (by omega)
  have h4:(1:Int)*2 ^ min l[k].toNat 64=((2 ^ l[k].toNat:Nat):Int):=by rw[show min l[k].toNat 64=l[k].toNat by omega];simp
  have h5:IntKind.i64.wrap ((2 ^ l[k].toNat:Nat):Int)=((2 ^ l[k].toNat:Nat):Int):=z1gy _ (Int.natCast_nonneg _) (by exact_mod_cast h3)
  simp (maxSteps:=2000000) (disch:=first|omega|(simp only[lenS];try omega)) only[go_sem,reduceAdd,reduceEqDiff,reduceLeDiff,reduceSub,h4,h5,zza h2 h3]
  rw[zsb hk];rfl
 ·rintro s rfl
  simp (maxSteps:=2000000) (disch:=first|omega|(simp only[lenS];try omega)) only[go_sem,reduceAdd,reduceEqDiff,reduceLeDiff,reduceSub,List.take_length]
theorem wb9(a b:List Int)(ha : ∀ p∈a,0≤p∧p<62)(hb : ∀ p∈b,0≤p∧p<62)(la:a.length<2^62)(lb:b.length<2^62):C w7z [ints a,ints b] []=some (.bool (meetB a b),[]):=by
 have h1:=wb8 a ha la
 have h2:=wb8 b hb lb
 have mk : ∀ (l:List Int),(∀ p∈l,0≤p∧p<62)→maskN l<2^62:=fun l h=>zs9 (fun p hp=>by have:=h p hp;omega)
 refine w16 ?_
 simp (maxSteps:=2000000) (disch:=first|omega|(simp only[lenS];try omega)) only[wcv,go_sem,reduceAdd,reduceEqDiff,reduceLeDiff,reduceSub]
 simp (maxSteps:=2000000) (disch:=first|omega|(simp only[lenS];try omega)) only[go_sem,reduceAdd,reduceEqDiff,reduceLeDiff,reduceSub,h1,h2,z34 (mk _ ha) (mk _ hb)]
 rw[zsc (fun p hp=>(ha p hp).1) (fun p hp=>(hb p hp).1)]
 constructor
 ·intro h;rw[decide_eq_true (by omega)]
 ·intro h;rw[decide_eq_false (by omega)]
theorem wal(n:Net)(hg:goodN n=true)(h0:n.tr≠[]):C w7d [encN n] []=some (.agg [I n.pl,.un wgz false 3 (n.tr.map encT)],[]):=by
 have hb:=zja hg
 have hl:0<n.tr.length:=List.length_pos_iff.2 h0
 refine w0k ?_
 simp (maxSteps:=2000000) (disch:=first|omega|(simp only[lenS];try omega)) only[wc9,go_sem,reduceAdd,reduceEqDiff,reduceLeDiff,reduceSub]
 refine W_for n.tr.length (fun k s=>(s=⟨[.any,.any,.ptr 0 0,.ptr 1 0,.any,trs n.tr,I n.tr.length,I k,.any],[.box wgx [I 0,.nil false 3],.box wgx [I n.pl,.nil false 3]]⟩∧k=0)∨(s=⟨[.any,.any,.ptr 0 0,.ptr 1 0,.any,trs n.tr,I n.tr.length,I k,.any],[.box wgx [I 0,.nil false 3],.box wgx [I n.pl,.ref 2 3 0 k],.row wgz false 3 ((n.tr.take k).map encT)]⟩∧0<k)) ?_ ?_ ?_
 ·refine .inl ⟨?_,rfl⟩
  simp (maxSteps:=2000000) (disch:=first|omega|(simp only[lenS];try omega)) only[go_sem,reduceAdd,reduceEqDiff,reduceLeDiff,reduceSub]
  rfl
 ·rintro k s hk (⟨rfl,rfl⟩ | ⟨rfl,h1⟩)
  ·have hT:=zjg (hb.2.2.2 _ (List.getElem_mem hk)) (by omega)
   simp (maxSteps:=2000000) (disch:=first|omega|(simp only[lenS];try omega)) only[go_sem,reduceAdd,reduceEqDiff,reduceLeDiff,reduceSub,wf5]
   refine⟨rfl,?_,by omega⟩
   rw[z1ek (k:=0) hk];rfl
  ·have hT:=zjg (hb.2.2.2 _ (List.getElem_mem hk)) (by omega)
   simp (maxSteps:=2000000) (disch:=first|omega|(simp only[lenS];try omega)) only[go_sem,reduceAdd,reduceEqDiff,reduceLeDiff,reduceSub,wf5]
   refine⟨rfl,?_⟩
   rw[z1ek hk,List.map_append];rfl
 ·rintro s (⟨rfl,hk⟩ | ⟨rfl,hk⟩)
  ·omega
  ·simp (maxSteps:=2000000) (disch:=first|omega|(simp only[lenS];try omega)) only[go_sem,reduceAdd,reduceEqDiff,reduceLeDiff,reduceSub,List.take_length]
theorem wbe(l:List Int)(h : ∀ p∈l,0≤p∧p<30)(hi:incr l=true)(hl:l.length<2^30):C w83 [I (maskN l)] []=some (.un t_int true 1 (l.map I),[]):=by
 have hp:l.Pairwise (· < ·):=by simpa [incr] using hi
 have h0 : ∀ p∈l,0≤p:=fun p hp=>(h p hp).1
 have hm:maskN l<2 ^ 30:=zs9 (q:=30) h
 refine w1a ?_
 simp (maxSteps:=2000000) (disch:=first|omega|(simp only[lenS];try omega)) only[wcz,go_sem,reduceAdd,reduceEqDiff,reduceLeDiff,reduceSub]
 refine z1a (fun j s=>∃ k:Nat,j+k=40∧k≤31∧s=⟨[I (maskN l),.any,.ref 0 1 0 (below l k).length,I k,.any,.any],[.row t_int true 1 ((below l k).map I)]⟩) 40 ?_ ?_
 ·refine⟨0,rfl,by omega,?_⟩
  rw[z5q h0]
  simp (maxSteps:=2000000) (disch:=first|omega|(simp only[lenS];try omega)) only[go_sem,reduceAdd,reduceEqDiff,reduceLeDiff,reduceSub]
  rfl
 ·rintro j s ⟨k,hj,hk,rfl⟩
  have hbl:=z5o l k
  have e1:((maskN l:Nat):Int) / 2 ^ min k 64=((maskN l / 2 ^ k:Nat):Int):=by
   rw[show min k 64=k by omega];simp
  have e2:maskN l / 2 ^ k<2 ^ 62:=Nat.lt_of_le_of_lt (Nat.div_le_self _ _) (by omega)
  have e3:=z34 (a:=maskN l / 2 ^ k) (b:=1) e2 (by decide)
  rw[Nat.and_one_is_mod] at e3
  simp (maxSteps:=2000000) (disch:=first|omega|(simp only[lenS];try omega)) only[go_sem,reduceAdd,reduceEqDiff,reduceLeDiff,reduceSub,e1]
  have eb:=zsd h0 k
  have hone:((1:Nat):Int)=1:=rfl
  rw[hone] at e3
  refine⟨fun hne=>?_,fun hz=>?_⟩
  ·have hk30:k<30:=by
    rcases Nat.lt_or_ge k 30 with h5 | h5
    ·exact h5
    ·exact(hne (by rw[Nat.div_eq_of_lt (Nat.lt_of_lt_of_le hm (Nat.pow_le_pow_right (by decide) h5))];rfl)).elim
   refine⟨fun h1=>⟨j-1,by omega,k+1,by omega,by omega,?_⟩,fun h1=>⟨j-1,by omega,k+1,by omega,by omega,?_⟩⟩
   ·have hm1:maskN l / 2 ^ k % 2=1:=by rw[e3] at h1;omega
    rw[decide_eq_true hm1] at eb
    rw[z5p hp,if_pos (by simpa [hasB] using eb),List.map_append]
    simp
   ·have hm1:¬maskN l / 2 ^ k % 2=1:=by rw[e3] at h1;omega
    rw[decide_eq_false hm1] at eb
    rw[z5p hp,if_neg (by simpa [hasB] using eb),List.append_nil]
    rfl
  ·rw[z5n (zse h0 k (by exact_mod_cast hz))]
theorem w6f{es ys:List PV}{mem:List Blk}{t:TypeId}{fl:Bool}{sz b len:Nat}(h1:len<es.length)(h2:len+ys.length≤es.length):appK mem t fl sz b 0 len ys (some (.row t fl sz es))=some (.ref b sz 0 (len+ys.length),mem.set b (.row t fl sz (splice es len ys))):=by
 simp only[appK]
 simp only[and_self,if_true]
 rw[if_neg (by omega),if_pos (by omega),Nat.zero_add]
theorem w6n{α:Type}{E:List α}{i:Nat}:E.take i++E.drop (i+1)=E.eraseIdx i:=(List.eraseIdx_eq_take_drop_succ E i).symm
theorem wfa(E:List Tr)(i:Nat)(hi:i<E.length)(hl:E.length≤24):C w8n [.ref 0 3 0 E.length,I i,I ((i:Int)+1)] [.row wgz false 3 (E.map encT)]=some (.ref 0 3 0 (E.length-1),[.row wgz false 3 ((E.eraseIdx i).map encT++[.agg [.nil true 1,.nil true 1,.nil true 1]])]):=by
 refine w1t ?_
 simp (maxSteps:=2000000) (disch:=first|omega|(simp only[lenS];try omega)) only[wdi,go_sem,reduceAdd,reduceEqDiff,reduceLeDiff,reduceSub]
 simp (maxSteps:=2000000) (disch:=first|omega|(simp only[lenS];try omega)) only[go_sem,reduceAdd,reduceEqDiff,reduceLeDiff,reduceSub,w6f,show((i:Int)+1).toNat=i+1 by omega,Nat.sub_zero]
 have e0:(E.eraseIdx i).length=E.length-1:=List.length_eraseIdx_of_lt hi
 have e1:(E.take i++E.drop (i+1)).length=E.length-1:=by rw[w6n,e0]
 refine⟨fun h=>?_,fun h=>?_⟩
 ·rw[show i+(List.drop (i+1) (List.map encT E)).length=E.length-1 by simp;omega,show E.length-(E.length-1)=1 by omega]
  rw[List.take_append_of_le_length (by simp;omega),List.take_of_length_le (by simp;omega),List.drop_of_length_le (l:=List.take i _++_++_) (by simp;omega),←List.map_take,←List.map_drop,←List.map_append,w6n]
  simp
 ·have hi1:i+1=E.length:=by omega
  have e2:E.eraseIdx i=E.take i:=by rw[←w6n,hi1,List.drop_length,List.append_nil]
  rw[e2,show E.length-i=1 by omega,show E.length-1=i by omega]
  rw[List.take_append_drop,List.drop_of_length_le (l:=List.map encT E) (by simp;omega),List.map_take]
  simp
theorem wbo(f:Fl)(i:Nat)(hg:goodN f.net=true)(hi:i<f.net.tr.length)(h2:2≤f.net.tr.length):C w8b [encF f,I i] []=some (.agg [I f.net.pl,.un wgz false 3 ((f.net.tr.eraseIdx i).map encT),I f.src,I f.dst],[]):=by
 obtain⟨hp1,hp2,hn,hT⟩:=zja hg
 have hc:=wal f.net hg (by intro e;rw[e] at h2;simp at h2)
 have hd:=wfa f.net.tr i hi (by omega)
 refine w1i ?_
 simp (maxSteps:=2000000) (disch:=first|omega|(simp only[lenS];try omega)) only[wd7,go_sem,reduceAdd,reduceEqDiff,reduceLeDiff,reduceSub]
 have e0:(f.net.tr.eraseIdx i).length=f.net.tr.length-1:=List.length_eraseIdx_of_lt hi
 simp (maxSteps:=2000000) (disch:=first|omega|(simp only[lenS];try omega)) only[go_sem,reduceAdd,reduceEqDiff,reduceLeDiff,reduceSub,hc,hd]
 rw[List.take_append_of_le_length (by simp;omega),List.take_of_length_le (by simp;omega)]
theorem w6l{f:FuncId}{c:List PV}:(PV.clo f c).cells=[.clo f c]:=rfl
theorem w6k{R:List Nat}{mem:List Blk}{b off:Nat}:z5j R mem 2 b off=behK R mem (z5j R mem 1) off mem[b]?:=rfl
theorem wh8{q:Int}{R:List Nat}{mem:List Blk}{g:Nat→Nat→Option PV}:(PV.pv (.agg [I q]) 0).viewWith R mem g=some (.pv (.agg [I q]) 0):=rfl
theorem wbk(p q:Int)(hp:0≤p∧p≤100)(hq:0≤q∧q≤100):C w89 [I p,.pv (.agg [I q]) 0] []=some (I (lessP q p),[]):=by
 refine w1g ?_
 simp (maxSteps:=2000000) (disch:=first|omega|(simp only[lenS];try omega)) only[wd5,go_sem,reduceAdd,reduceEqDiff,reduceLeDiff,reduceSub]
 unfold lessP
 exact⟨fun h=>by rw[if_pos h],fun h=>by rw[if_neg (by omega)]⟩
theorem wbl(l:List Int)(q:Int)(hl:l.length≤2^20)(hb : ∀ x∈l,0≤x∧x≤100)(hq:0≤q∧q≤100):C w8a [ints l,.pv (.agg [I q]) 0,.pv (.agg [.clo w89 [.pv (.agg [I q]) 0]]) 0] []=some (.un t_int true 1 ((dropL q l).map I),[]):=by
 refine w1h ?_
 simp (maxSteps:=2000000) (disch:=first|omega|(simp only[lenS];try omega)) only[wd6,go_sem,reduceAdd,reduceEqDiff,reduceLeDiff,reduceSub]
 refine W_for l.length (fun k s=>s=⟨[.any,.pv (.agg [I q]) 0,.pv (.agg [.clo w89 [.pv (.agg [I q]) 0]]) 0,.any,.ref 0 1 0 (dropL q (l.take k)).length,.any,ints l,I l.length,I k,.any,.any],[.row t_int true 1 ((dropL q (l.take k)).map I)]⟩) ?_ ?_ ?_
 ·simp (maxSteps:=2000000) (disch:=first|omega|(simp only[lenS];try omega)) only[go_sem,reduceAdd,reduceEqDiff,reduceLeDiff,reduceSub]
  simp [dropL]
 ·rintro k s hk rfl
  have hs:=zcn (q:=q) hk
  have hV:=zci q (l.take k)
  rw[List.length_take] at hV
  have hx:=hb _ (List.getElem_mem hk)
  have h1:=wbk l[k] q hx hq
  rw[hs]
  generalize dropL q (l.take k)=V at *
  simp (maxSteps:=2000000) (disch:=first|omega|(simp only[lenS];try omega)) only[go_sem,reduceAdd,reduceEqDiff,reduceLeDiff,reduceSub,h1,w6l,wh8]
  refine⟨fun h=>?_,fun h=>?_⟩
  ·rw[if_neg h]
   simp
  ·rw[if_pos h]
   rfl
 ·rintro s rfl
  have hV:=zci q l
  simp (maxSteps:=2000000) (disch:=first|omega|(simp only[lenS];try omega)) only[go_sem,reduceAdd,reduceEqDiff,reduceLeDiff,reduceSub]
theorem wbm(f:Fl)(q:Int)(hf:smF f)(hq:0≤q∧q<f.net.pl):C w88 [encF f,I q] []=some (.agg [I (f.net.pl-1),resN wgz (f.net.tr.map (dropT q)),I (lessP q f.src),I (lessP q f.dst)],[]):=by
 obtain⟨⟨hp1,hp2⟩,hn,hs,hd,hT⟩:=hf
 refine w1f ?_
 simp (maxSteps:=2000000) (disch:=first|omega|(simp only[lenS];try omega)) only[wd4,go_sem,reduceAdd,reduceEqDiff,reduceLeDiff,reduceSub]
 simp (maxSteps:=2000000) (disch:=first|omega|(simp only[lenS];try omega)) only[go_sem,reduceAdd,reduceEqDiff,reduceLeDiff,reduceSub,w6l]
 refine W_for f.net.tr.length (fun i st=>st=⟨[.any,.any,.ptr 0 0,.any,.ptr 1 0,.ptr 2 0,.clo w8a [.ptr 3 0,.ptr 2 0],.ptr 4 0,.any,trs f.net.tr,I f.net.tr.length,I i,.any],[.box wgw [I f.net.pl,trs f.net.tr,I f.src,I f.dst],.box wgw [I 0,.nil false 3,I 0,I 0],.box wh4 [.clo w89 [.ptr 3 0]],.box t_int [I q],.box wgx [I (f.net.pl-1),cellT 5 ((f.net.tr.take i).map (dropT q))]]++blkL wgz ((f.net.tr.take i).map (dropT q))⟩) ?_ ?_ ?_
 ·simp (maxSteps:=2000000) (disch:=first|omega|(simp only[lenS];try omega)) only[go_sem,reduceAdd,reduceEqDiff,reduceLeDiff,reduceSub,w6l]
  rfl
 ·rintro i st hi rfl
  obtain⟨hlen,hplI,hplO⟩:=hT _ (List.getElem_mem hi)
  have hplc:(∀ x∈f.net.tr[i].inn,0≤x∧x<f.net.pl)∧(∀ x∈f.net.tr[i].out,0≤x∧x<f.net.pl)∧(∀ x∈f.net.tr[i].rst,0≤x∧x<f.net.pl):=⟨hplI,hplO,by rw[hlen.2.2];intro x hx;cases hx⟩
  have hrl:f.net.tr[i].rst.length=0:=by rw[hlen.2.2];rfl
  have hlL:((f.net.tr.take i).map (dropT q)).length=i:=by simp;omega
  have hne:(f.net.tr.take (i+1)).map (dropT q)≠[]:=by intro e;have:=congrArg List.length e;rw[List.length_map,List.length_take,List.length_nil] at this;omega
  have hsn:(f.net.tr.take (i+1)).map (dropT q)=(f.net.tr.take i).map (dropT q)++[dropT q f.net.tr[i]]:=by rw[List.take_succ_eq_append_getElem hi,List.map_append];rfl
  have hti:f.net.tr[i]? = some f.net.tr[i]:=List.getElem?_eq_getElem hi
  have d1:=wbl f.net.tr[i].inn q (by omega) (fun x hx=>by have:=hplc.1 x hx;omega) (by omega)
  have d2:=wbl f.net.tr[i].out q (by omega) (fun x hx=>by have:=hplc.2.1 x hx;omega) (by omega)
  have d3:=wbl f.net.tr[i].rst q (by omega) (fun x hx=>by have:=hplc.2.2 x hx;omega) (by omega)
  have l1:=zci q f.net.tr[i].inn
  have l2:=zci q f.net.tr[i].out
  have l3:=zci q f.net.tr[i].rst
  rw[z8j hne,z6u hne,hsn]
  generalize (f.net.tr.take i).map (dropT q)=L at *
  generalize f.net.tr[i]=t at *
  unfold dropT
  generalize dropL q t.inn=A at *
  generalize dropL q t.out=B at *
  generalize dropL q t.rst=D at *
  by_cases hL0:L=[]
  ·subst hL0
   simp only[z8k,z6v]
   simp (maxSteps:=2000000) (disch:=first|omega|(simp only[lenS];try omega)) only[go_sem,reduceAdd,reduceEqDiff,reduceLeDiff,reduceSub,hti,d1,d2,d3,w6l,wh8,w6k]
   exact⟨by decide,rfl⟩
  ·rw[z8j hL0,z6u hL0]
   simp (maxSteps:=2000000) (disch:=first|omega|(simp only[lenS];try omega)) only[go_sem,reduceAdd,reduceEqDiff,reduceLeDiff,reduceSub,hti,d1,d2,d3,w6l,wh8,w6k]
   refine⟨by decide,?_⟩
   rw[List.map_append,List.length_append]
   rfl
 ·rintro st rfl
  have e1:=wbk f.src q (by omega) (by omega)
  have e2:=wbk f.dst q (by omega) (by omega)
  rw[List.take_length]
  have hlL:(f.net.tr.map (dropT q)).length≤24:=by rw[List.length_map];exact hn
  generalize f.net.tr.map (dropT q)=L at *
  unfold resN
  by_cases hL:L=[]
  all_goals
   simp only[cellT,blkL,hL,reduceIte,List.append_nil,List.nil_append,List.cons_append]
   simp (maxSteps:=2000000) (disch:=first|omega|(simp only[lenS];try omega)) only[go_sem,reduceAdd,reduceEqDiff,reduceLeDiff,reduceSub,w6l,wh8,w6k,e1,e2]
   trivial
theorem wbn(f:Fl)(q:Int)(hg:ziu f=true)(hr:hasR f.net=false)(hq:0≤q∧q<f.net.pl):C w88 [encF f,I q] []=some (.agg [I (dropF f q).net.pl,.unn wgz 3 ((dropF f q).net.tr.map encT),I (dropF f q).src,I (dropF f q).dst],[]):=by
 have h:=wbm f q (z1an hg hr) hq
 rw[z15i (by simpa using ziw hg)] at h
 exact h
theorem wax(f:Fl)(hg:ziu f=true)(hr:hasR f.net=false):C w7o [encF f] []=some (.tup [match resFT f with | some p=>.agg [I (f.net.pl-1),.unn wgz 3 (((zi6 f p).map (dropT p)).map encT),I (lessP p f.src),I (lessP p f.dst)] | none=>.agg [I 0,.nil false 3,I 0,I 0],.bool (resFT f).isSome],[]):=by
  obtain⟨hgn,hs,hd,-,-,-,-⟩:=ziy hg
  obtain⟨hp1,hp2,hn,hT⟩:=zja hgn
  obtain⟨P,hP⟩ : ∃ P:Nat,f.net.pl=P:=⟨f.net.pl.toNat,by omega⟩
  have hsm:=z1an hg hr
  have hlens : ∀ u∈f.net.tr,u.inn.length≤16∧u.out.length≤16:=fun u hu=>by have:=zjg (hT u hu) ⟨by omega,hp2⟩;omega
  have hk2 : ∀ p:Int,(idxL (fun t=>hasB t.inn p) f.net).length≤24:=fun p=>Nat.le_trans (zki _ _ _) hn
  have hg3 : ∀ p:Int,(idxL (fun t=>hasB t.out p) f.net).length≤24:=fun p=>Nat.le_trans (zki _ _ _) hn
  refine w0v ?_
  simp (maxSteps:=2000000) (disch:=first|omega|(simp only[lenS];try omega)) only[wck,go_sem,reduceAdd,reduceEqDiff,reduceLeDiff,reduceSub]
  refine W_for P (fun i st=>st=⟨[.any,.ptr 0 0,.ptr 1 0,.any,.any,.any,.any,.any,.any,.any,I f.net.pl,I i,.any,.any,.any],[.box wgw [I f.net.pl,trs f.net.tr,I f.src,I f.dst],.box wgw [I 0,.nil false 3,I 0,I 0]]⟩∧∀ j,j<i→okFT f j=false) ?_ ?_ ?_
  · simp (maxSteps:=2000000) (disch:=first|omega|(simp only[lenS];try omega)) only[go_sem,reduceAdd,reduceEqDiff,reduceLeDiff,reduceSub]
    exact⟨rfl,fun q' h=>by omega⟩
  · rintro i st hi ⟨rfl,hall⟩
    have next:okFT f i=false→∀ j,j<i+1→okFT f j=false:=by
      intro h j hj
      rcases Nat.lt_or_ge j i with h5 | h5
      · exact hall j h5
      · rw[show j=i by omega];exact h
    have s1:=wb5 f i
    have t1:=wbh f.net i hgn
    have u1:=wbi f.net i hgn
    unfold encF at s1
    unfold takI at t1
    unfold givI at u1
    have w1:=hk2 i
    have w3:=hg3 i
    cases b1:zmq f (i:Int) with
    | false =>
      rw[b1] at s1
      simp (maxSteps:=2000000) (disch:=first|omega|(simp only[lenS];try omega)) only[go_sem,reduceAdd,reduceEqDiff,reduceLeDiff,reduceSub,s1,t1,u1]
      exact⟨rfl,next (zvv b1)⟩
    | true =>
      rw[b1] at s1
      by_cases hG:(idxL (fun t=>hasB t.out (i:Int)) f.net).length=1
      case neg =>
        have nx:=next (zvu hG)
        generalize idxL (fun t=>hasB t.out (i:Int)) f.net=G at *
        simp (maxSteps:=2000000) (disch:=first|omega|(simp only[lenS];try omega)) only[go_sem,reduceAdd,reduceEqDiff,reduceLeDiff,reduceSub,s1,t1,u1]
        exact⟨rfl,nx⟩
      by_cases hK:(idxL (fun t=>hasB t.inn (i:Int)) f.net).length=1
      case neg =>
        have nx:=next (zvx hK)
        generalize idxL (fun t=>hasB t.out (i:Int)) f.net=G at *
        generalize idxL (fun t=>hasB t.inn (i:Int)) f.net=K at *
        simp (maxSteps:=2000000) (disch:=first|omega|(simp only[lenS];try omega)) only[go_sem,reduceAdd,reduceEqDiff,reduceLeDiff,reduceSub,s1,t1,u1]
        exact⟨rfl,nx⟩
      obtain⟨g,hgl,hG1⟩:=zkl hG
      obtain⟨t,htl,hK1⟩:=zkl hK
      rw[hG1] at u1
      rw[hK1] at t1
      by_cases hgt:g=t
      · subst hgt
        have nx:=next (zvw hG1 hK1)
        simp (maxSteps:=2000000) (disch:=first|omega|(simp only[lenS];try omega)) only[go_sem,reduceAdd,reduceEqDiff,reduceLeDiff,reduceSub,Int.toNat_zero,List.getElem_cons_zero,s1,t1,u1]
        exact⟨rfl,nx⟩
      have hokE:=zvt b1 hG1 hK1 hgt
      have hfuE:=zi7 (f:=f) (p:=i) hG1 hK1
      have lA:=hlens _ (List.getElem_mem hgl)
      have lB:=hlens _ (List.getElem_mem htl)
      have pA:=(zjl (hT _ (List.getElem_mem hgl))).2.1
      have pB:=(zjl (hT _ (List.getElem_mem htl))).2.1
      have hm:=wb9 f.net.tr[g].out f.net.tr[t].out (fun x hx=>by have:=pA x hx;omega) (fun x hx=>by have:=pB x hx;omega) (by omega) (by omega)
      have egl:f.net.tr[g]? = some f.net.tr[g]:=List.getElem?_eq_getElem hgl
      have etl:f.net.tr[t]? = some f.net.tr[t]:=List.getElem?_eq_getElem htl
      unfold okAB at hokE
      rw[z1f3 hgl,z1f3 htl] at hokE hfuE
      by_cases c1:f.net.tr[t].inn.length=1
      case neg =>
        simp (maxSteps:=2000000) (disch:=first|omega|(simp only[lenS];try omega)) only[go_sem,reduceAdd,reduceEqDiff,reduceLeDiff,reduceSub,Int.toNat_zero,List.getElem_cons_zero,s1,t1,u1,egl,etl]
        exact⟨by decide,rfl,next (by rw[hokE];simp [c1])⟩
      by_cases c2:f.net.tr[t].out.length=0
      case pos =>
        simp (maxSteps:=2000000) (disch:=first|omega|(simp only[lenS];try omega)) only[go_sem,reduceAdd,reduceEqDiff,reduceLeDiff,reduceSub,Int.toNat_zero,List.getElem_cons_zero,s1,t1,u1,egl,etl,c1,c2]
        exact⟨by decide,rfl,next (by rw[hokE];simp [c2])⟩
      cases c3:meetB f.net.tr[g].out f.net.tr[t].out with
      | true =>
        rw[c3] at hm
        simp (maxSteps:=2000000) (disch:=first|omega|(simp only[lenS];try omega)) only[go_sem,reduceAdd,reduceEqDiff,reduceLeDiff,reduceSub,Int.toNat_zero,List.getElem_cons_zero,s1,t1,u1,egl,etl,c1,c2,hm]
        exact⟨by decide,rfl,next (by rw[hokE,c3];simp)⟩
      | false =>
        rw[c3] at hm
        have hok:okFT f i=true:=by rw[hokE,c3];simp [c1,c2]
        have hres:resFT f=some i:=zgv (by omega) hall hok
        have hown:=wal f.net hgn (by intro e;rw[e] at hgl;simp at hgl)
        have m1:=wb8 f.net.tr[g].out (fun x hx=>by have:=pA x hx;omega) (by omega)
        have m2:=wb8 f.net.tr[t].out (fun x hx=>by have:=pB x hx;omega) (by omega)
        have hmx:=zst (a:=f.net.tr[g].out) (b:=f.net.tr[t].out) (p:=i) (fun x hx=>by have:=pA x hx;omega) (fun x hx=>by have:=pB x hx;omega) (by omega)
        have hg2:=zj7 (p:=i) hgn hgl htl
        have hwt:=wbo ⟨⟨f.net.pl,f.net.tr.set g (mixT f.net.tr[g] f.net.tr[t] i)⟩,f.src,f.dst⟩ t hg2 (by simpa using htl) (by simp only[List.length_set];omega)
        have hst:=wbe (mixO f.net.tr[g].out f.net.tr[t].out i) (fun x hx=>(zsu hx).elim (fun h=>by have:=pA x h;omega) (fun h=>by have:=pB x h;omega)) (zsr (z112 (zjk (hT _ (List.getElem_mem hgl))).2.2.1)) (by have hx:=zss f.net.tr[g].out f.net.tr[t].out (i:Int);have la:=lA.2;have lb:=lB.2;clear hmx;omega)
        have n1:maskN f.net.tr[g].out<2 ^ 62:=zs9 (fun x hx=>by have:=pA x hx;omega)
        have n2:maskN f.net.tr[t].out<2 ^ 62:=zs9 (fun x hx=>by have:=pB x hx;omega)
        have n3:2 ^ i<2 ^ 62:=Nat.pow_lt_pow_right (by decide) (by omega)
        have h4:(1:Int)*2 ^ min i 64=((2 ^ i:Nat):Int):=by rw[show min i 64=i by omega];simp
        have h5:IntKind.i64.wrap ((2 ^ i:Nat):Int)=((2 ^ i:Nat):Int):=z1gy _ (Int.natCast_nonneg _) (by exact_mod_cast n3)
        have h6:=z32 n1 n3
        have n4:maskN f.net.tr[g].out &&& (2 ^ 64-(2 ^ i+1))<2 ^ 62:=Nat.lt_of_le_of_lt Nat.and_le_left n1
        have h7:=zza n4 n2
        rw[show((i:Int)).toNat=i from rfl] at hmx
        have hsm2:=z1am (p:=i) hsm hlens hgl htl
        rw[z1f3 hgl,z1f3 htl] at hsm2
        have hlv:=wbm ⟨⟨f.net.pl,(f.net.tr.set g (mixT f.net.tr[g] f.net.tr[t] i)).eraseIdx t⟩,f.src,f.dst⟩ i (z1al hsm2) ⟨by omega,by show(i:Int)<f.net.pl;omega⟩
        have hne:(((f.net.tr.set g (mixT f.net.tr[g] f.net.tr[t] i)).eraseIdx t).map (dropT i))≠[]:=by
          intro e
          have:=congrArg List.length e
          rw[List.length_map,List.length_eraseIdx_of_lt (by simpa using htl),List.length_set,List.length_nil] at this
          omega
        rw[z15i hne] at hlv
        clear hne hlens hsm2
        unfold mixT at hlv hfuE hwt
        rw[←hmx] at h7
        have hml:=zss f.net.tr[g].out f.net.tr[t].out (i:Int)
        generalize mixO f.net.tr[g].out f.net.tr[t].out (i:Int)=L at *
        unfold encF trs at hlv hwt
        rw[List.map_set] at hwt
        have hwt2:C w8b [.agg [I f.net.pl,.sl false 3 ((f.net.tr.map encT).set g (.agg [ints f.net.tr[g].inn,ints L,ints f.net.tr[g].rst])),I f.src,I f.dst],I t] []=_:=hwt
        rw[hres]
        simp (maxSteps:=2000000) (disch:=first|omega|(simp only[lenS];try omega)) only[go_sem,reduceAdd,reduceEqDiff,reduceLeDiff,reduceSub,Int.toNat_zero,List.getElem_cons_zero,s1,t1,u1,egl,etl,c1,c2,hm,hown,m1,m2,h4,h5,h6,h7,hst,hwt2,hlv]
        refine⟨by decide,?_⟩
        rw[hfuE]
        first | done | rfl
  · rintro st ⟨rfl,hall⟩
    have hres:resFT f=none:=zgu (fun q h=>hall q (by omega))
    rw[hres]
    simp (maxSteps:=2000000) (disch:=first|omega|(simp only[lenS];try omega)) only[go_sem,reduceAdd,reduceEqDiff,reduceLeDiff,reduceSub]
    rfl
theorem wa5(f:Fl)(hn:smN f.net):C w6x [encF f] []=some (.tup [match zi0 f with | some g=>.agg [I g.net.pl,.unn wgz 3 (g.net.tr.map encT),I g.src,I g.dst] | none=>.agg [I 0,.nil false 3,I 0,I 0],.bool (zi0 f).isSome],[]):=by
  have hA:=wb7 f hn
  unfold encF at hA
  refine w04 ?_
  simp (maxSteps:=2000000) (disch:=first|omega|(simp only[lenS];try omega)) only[wbt,go_sem,reduceAdd,reduceEqDiff,reduceLeDiff,reduceSub]
  cases ho:okRed f with
  | false =>
    simp (maxSteps:=2000000) (disch:=first|omega|(simp only[lenS];try omega)) only[go_sem,reduceAdd,reduceEqDiff,reduceLeDiff,reduceSub,hA,ho]
    simp [zi0,ho]
  | true =>
    have ho':=ho
    simp only[okRed,Bool.and_eq_true,Bool.not_eq_true'] at ho'
    have hD:=wax f ho'.1 ho'.2
    unfold encF at hD
    have e:zi0 f=(resFT f).map fun(q:Nat)=>zpm f (zi6 f q) (q:Int):=by simp [zi0,ho]
    rw[e]
    cases hq:resFT f with
    | none =>
      rw[hq] at hD
      simp only[Option.isSome_none] at hD
      simp (maxSteps:=2000000) (disch:=first|omega|(simp only[lenS];try omega)) only[go_sem,reduceAdd,reduceEqDiff,reduceLeDiff,reduceSub,hA,ho,hD]
      rfl
    | some q =>
      rw[hq] at hD
      simp only[Option.isSome_some] at hD
      simp (maxSteps:=2000000) (disch:=first|omega|(simp only[lenS];try omega)) only[go_sem,reduceAdd,reduceEqDiff,reduceLeDiff,reduceSub,hA,ho,hD]
      rfl
theorem wav(t:Tr)(p q:Int)(hl:t.out.length<2^62):C w7n [encT t,.pv (.agg [I p]) 0,.pv (.agg [I q]) 0] []=some (.bool (hasB t.out p&&hasB t.out q),[]):=by
 have h1:=wf9 t.out p hl
 have h2:=wf9 t.out q hl
 refine w0u ?_
 simp (maxSteps:=2000000) (disch:=first|omega|(simp only[lenS];try omega)) only[wcj,go_sem,reduceAdd,reduceEqDiff,reduceLeDiff,reduceSub]
 simp (maxSteps:=2000000) (disch:=first|omega|(simp only[lenS];try omega)) only[go_sem,reduceAdd,reduceEqDiff,reduceLeDiff,reduceSub,h1,h2]
 refine⟨fun a=>⟨fun b=>?_,fun b=>?_⟩,fun a=>?_⟩<;>simp [a]<;>simp [b]
theorem waw(f:Fl)(hg:ziu f=true)(hr:hasR f.net=false):C w7m [encF f] []=some (.tup [match resFP f with | some i=>.agg [I (f.net.pl-1),.unn wgz 3 (((zi4 f i).map (dropT (at_ (trN f.net i).inn 0))).map encT),I (lessP (at_ (trN f.net i).inn 0) f.src),I (lessP (at_ (trN f.net i).inn 0) f.dst)] | none=>.agg [I 0,.nil false 3,I 0,I 0],.bool (resFP f).isSome],[]):=by
  obtain⟨hgn,hs,hd,-,hsp,-,-⟩:=ziy hg
  obtain⟨hp1,hp2,hn,hT⟩:=zja hgn
  have hsm:=z1an hg hr
  have hlens : ∀ u∈f.net.tr,u.inn.length≤16∧u.out.length≤16:=fun u hu=>by have:=zjg (hT u hu) ⟨by omega,hp2⟩;omega
  have hk2 : ∀ p:Int,(idxL (fun t=>hasB t.inn p) f.net).length≤24:=fun p=>Nat.le_trans (zki _ _ _) hn
  refine w0t ?_
  simp (maxSteps:=2000000) (disch:=first|omega|(simp only[lenS];try omega)) only[wci,go_sem,reduceAdd,reduceEqDiff,reduceLeDiff,reduceSub]
  refine W_for f.net.tr.length (fun k st=>st=⟨[.any,.ptr 0 0,.ptr 1 0,.any,.any,.any,.any,.any,.any,.any,.any,.any,trs f.net.tr,I f.net.tr.length,I k,.any,.any,.any,.any,.any,.any,.any,.any],[.box wgw [I f.net.pl,trs f.net.tr,I f.src,I f.dst],.box wgw [I 0,.nil false 3,I 0,I 0]]⟩∧∀ j,j<k→okFP f j=false) ?_ ?_ ?_
  · simp (maxSteps:=2000000) (disch:=first|omega|(simp only[lenS];try omega)) only[go_sem,reduceAdd,reduceEqDiff,reduceLeDiff,reduceSub]
    exact⟨rfl,fun q' h=>by omega⟩
  · rintro k st hk ⟨rfl,hall⟩
    have next:okFP f k=false→∀ j,j<k+1→okFP f j=false:=by
      intro h j hj
      rcases Nat.lt_or_ge j k with h5 | h5
      · exact hall j h5
      · rw[show j=k by omega];exact h
    have ekl:f.net.tr[k]? = some f.net.tr[k]:=List.getElem?_eq_getElem hk
    have lA:=hlens _ (List.getElem_mem hk)
    have pAi:=(zjl (hT _ (List.getElem_mem hk))).1
    have pAo:=(zjl (hT _ (List.getElem_mem hk))).2.1
    have x1:=zvr (f:=f) (k:=k)
    have x2:=zvs (f:=f) (k:=k)
    have x3:=fun p q=>zvq (f:=f) (k:=k) (p:=p) (q:=q)
    have x4:=fun p q=>zi5 (f:=f) (k:=k) (p:=p) (q:=q)
    have hE:encT f.net.tr[k]=.agg [ints f.net.tr[k].inn,ints f.net.tr[k].out,ints f.net.tr[k].rst]:=rfl
    rw[z1f3 hk] at x1 x2 x3 x4
    have hspo:z1bp f f.net.tr[k]=false:=hsp _ (List.getElem_mem hk)
    have hone:f.net.tr.length=1→∀ p,f.net.tr[k].inn=[p]→p=f.src:=by
      intro h1 p hp
      have hk0:k=0:=by omega
      subst hk0
      exact zix hg h1 (by rw[z1f3 hk];exact hp)
    have hat:trN f.net k=f.net.tr[k]:=z1f3 hk
    generalize f.net.tr[k]=u at *
    by_cases c1:u.inn.length=1
    case neg =>
      simp (maxSteps:=2000000) (disch:=first|omega|(simp only[lenS];try omega)) only[go_sem,reduceAdd,reduceEqDiff,reduceLeDiff,reduceSub,ekl,hE]
      exact⟨rfl,next (x1 c1)⟩
    by_cases c2:u.out.length=1
    case neg =>
      simp (maxSteps:=2000000) (disch:=first|omega|(simp only[lenS];try omega)) only[go_sem,reduceAdd,reduceEqDiff,reduceLeDiff,reduceSub,ekl,hE,c1]
      exact⟨rfl,next (x2 c2)⟩
    obtain⟨p,hp⟩:=List.length_eq_one_iff.1 c1
    obtain⟨q,hq⟩:=List.length_eq_one_iff.1 c2
    have y3:=x3 p q hp hq
    have y4:=x4 p q hp hq
    have pp:0≤p∧p<f.net.pl:=pAi p (by rw[hp];simp)
    have pq:0≤q∧q<f.net.pl:=pAo q (by rw[hq];simp)
    have hE2:encT u=.agg [.sl true 1 [I p],.sl true 1 [I q],ints u.rst]:=by rw[hE,hp,hq];rfl
    have hcf:=wf7 f.net.tr w7n [.pv (.agg [I p]) 0,.pv (.agg [I q]) 0] rfl (fun _ _=>rfl) (fun t=>hasB t.out p&&hasB t.out q) (fun x hx=>wav x p q (by have:=hlens x hx;omega)) (by omega)
    have t1:=wbh f.net p hgn
    unfold takI at t1
    have w1:=hk2 p
    by_cases c3:p=f.src
    case pos =>
      have nx:=next (by rw[y3];simp [c3])
      clear y3 hspo
      subst c3
      generalize (f.net.tr.any fun u=>hasB u.out f.src&&hasB u.out q)=b at hcf
      cases b
      all_goals
        simp (maxSteps:=2000000) (disch:=first|omega|(simp only[lenS];try omega)) only[go_sem,reduceAdd,reduceEqDiff,reduceLeDiff,reduceSub,ekl,hE2,Int.toNat_zero,List.getElem_cons_zero,hcf]
        exact⟨rfl,nx⟩
    by_cases c4:p=q
    case pos =>
      have nx:=next (by rw[y3];simp [c4])
      clear y3
      subst c4
      generalize (f.net.tr.any fun u=>hasB u.out p&&hasB u.out p)=b at hcf
      cases b
      all_goals
        simp (maxSteps:=2000000) (disch:=first|omega|(simp only[lenS];try omega)) only[go_sem,reduceAdd,reduceEqDiff,reduceLeDiff,reduceSub,ekl,hE2,Int.toNat_zero,List.getElem_cons_zero,hcf,c3]
        exact⟨rfl,nx⟩
    by_cases c5:(idxL (fun t=>hasB t.inn p) f.net).length=1
    case neg =>
      have nx:=next (by rw[y3];unfold takI;simp [c5])
      generalize idxL (fun t=>hasB t.inn p) f.net=G at *
      clear y3
      generalize (f.net.tr.any fun u=>hasB u.out p&&hasB u.out q)=b at hcf
      cases b
      all_goals
        simp (maxSteps:=2000000) (disch:=first|omega|(simp only[lenS];try omega)) only[go_sem,reduceAdd,reduceEqDiff,reduceLeDiff,reduceSub,ekl,hE2,Int.toNat_zero,List.getElem_cons_zero,hcf,c3,c4,t1]
        exact⟨rfl,nx⟩
    cases c6:(f.net.tr.any fun u=>hasB u.out p&&hasB u.out q) with
    | true =>
      rw[c6] at hcf
      simp (maxSteps:=2000000) (disch:=first|omega|(simp only[lenS];try omega)) only[go_sem,reduceAdd,reduceEqDiff,reduceLeDiff,reduceSub,ekl,hE2,Int.toNat_zero,List.getElem_cons_zero,hcf,c3,c4,t1,c5]
      exact⟨rfl,next (by rw[y3,c6];simp)⟩
    | false =>
      rw[c6] at hcf
      have hok:okFP f k=true:=by rw[y3,c6];unfold takI;simp [c3,c4,c5]
      have hres:resFP f=some k:=zgv hk hall hok
      have h2:2≤f.net.tr.length:=by
        apply Decidable.byContradiction
        intro h
        exact c3 (hone (by omega) p hp)
      have hwt:=wbo f k hgn hk h2
      unfold encF trs at hwt
      have hEl:(f.net.tr.eraseIdx k).length=f.net.tr.length-1:=List.length_eraseIdx_of_lt hk
      have hEm : ∀ t∈f.net.tr.eraseIdx k,t∈f.net.tr:=fun t ht=>List.mem_of_mem_eraseIdx ht
      rw[hres]
      generalize hEE:f.net.tr.eraseIdx k=E at *
      simp (maxSteps:=2000000) (disch:=first|omega|(simp only[lenS];try omega)) only[go_sem,reduceAdd,reduceEqDiff,reduceLeDiff,reduceSub,ekl,hE2,Int.toNat_zero,List.getElem_cons_zero,hcf,c3,c4,t1,c5,hwt]
      refine W_for E.length (fun j st=>st=⟨[.any,.any,.ptr 0 0,.any,.any,.any,.ptr 1 0,.ptr 2 0,.any,.ptr 3 0,.any,.any,.any,.any,.any,.any,.any,.any,.ref 4 3 0 E.length,I E.length,I j,.any,.any],[.box wgw [I 0,.nil false 3,I 0,I 0],.box t_int [I p],.box t_int [I q],.box wgw [I f.net.pl,.ref 4 3 0 E.length,I f.src,I f.dst],.row wgz false 3 ((mapK (replO p q) E j).map encT)]⟩) ?_ ?_ ?_
      · simp (maxSteps:=2000000) (disch:=first|omega|(simp only[lenS];try omega)) only[go_sem,reduceAdd,reduceEqDiff,reduceLeDiff,reduceSub]
        rw[zrr]
        rfl
      · rintro j st hj rfl
        have e1:=zro (replO p q) E j
        have e2:=zrn (g:=replO p q) hj
        have hmj:=hEm _ (List.getElem_mem hj)
        have lB:=hlens _ hmj
        have pB:=(zjl (hT _ hmj)).2.1
        have iB:=(zjk (hT _ hmj)).2.2.1
        have hh:=wf9 E[j].out p (by omega)
        have m1:=wb8 E[j].out (fun x hx=>by have:=pB x hx;omega) (by omega)
        have hmx:=zst (a:=E[j].out) (b:=[q]) (p:=p) (fun x hx=>by have:=pB x hx;omega) (fun x hx=>by simp at hx;omega) (by omega)
        rw[zsa] at hmx
        have hst:=wbe (mixO E[j].out [q] p) (fun x hx=>(zsu hx).elim (fun h=>by have:=pB x h;omega) (fun h=>by simp at h;omega)) (zsr (z112 iB)) (by have hx:=zss E[j].out [q] p;have la:=lB.2;simp only[List.length_cons,List.length_nil] at hx;clear hmx;omega)
        have n1:maskN E[j].out<2 ^ 62:=zs9 (fun x hx=>by have:=pB x hx;omega)
        have n2:2 ^ q.toNat<2 ^ 62:=Nat.pow_lt_pow_right (by decide) (by omega)
        have n3:2 ^ p.toNat<2 ^ 62:=Nat.pow_lt_pow_right (by decide) (by omega)
        have h4:(1:Int)*2 ^ min p.toNat 64=((2 ^ p.toNat:Nat):Int):=by rw[show min p.toNat 64=p.toNat by omega];simp
        have h5:IntKind.i64.wrap ((2 ^ p.toNat:Nat):Int)=((2 ^ p.toNat:Nat):Int):=z1gy _ (Int.natCast_nonneg _) (by exact_mod_cast n3)
        have h4q:(1:Int)*2 ^ min q.toNat 64=((2 ^ q.toNat:Nat):Int):=by rw[show min q.toNat 64=q.toNat by omega];simp
        have h5q:IntKind.i64.wrap ((2 ^ q.toNat:Nat):Int)=((2 ^ q.toNat:Nat):Int):=z1gy _ (Int.natCast_nonneg _) (by exact_mod_cast n2)
        have h6:=z32 n1 n3
        have n4:maskN E[j].out &&& (2 ^ 64-(2 ^ p.toNat+1))<2 ^ 62:=Nat.lt_of_le_of_lt Nat.and_le_left n1
        have h7:=zza n4 n2
        rw[←hmx] at h7
        cases hb:hasB E[j].out p with
        | false =>
          rw[zrp hj (by unfold replO;rw[hb];rfl)]
          generalize mapK (replO p q) E j=M at *
          simp (maxSteps:=2000000) (disch:=first|omega|(simp only[lenS];try omega)) only[go_sem,reduceAdd,reduceEqDiff,reduceLeDiff,reduceSub,e2,hh,hb]
          first | done | rfl
        | true =>
          rw[zrq hj,show replO p q E[j]=⟨E[j].inn,mixO E[j].out [q] p,E[j].rst⟩ by unfold replO;rw[if_pos hb],List.map_set]
          have hml:=zss E[j].out [q] p
          simp only[List.length_cons,List.length_nil] at hml
          generalize mapK (replO p q) E j=M at *
          generalize mixO E[j].out [q] p=L at *
          clear hmx
          simp (maxSteps:=2000000) (disch:=first|omega|(simp only[lenS];try omega)) only[go_sem,reduceAdd,reduceEqDiff,reduceLeDiff,reduceSub,e2,hh,hb,m1,h4,h5,h4q,h5q,h6,h7,hst]
          rfl
      · rintro st rfl
        have hlv:=wbm ⟨⟨f.net.pl,(f.net.tr.map (replO p q)).eraseIdx k⟩,f.src,f.dst⟩ p (z1al (z1ao hsm hlens pq)) pp
        rw[zrt,hEE] at hlv y4
        have hne:((E.map (replO p q)).map (dropT p))≠[]:=by
          intro e
          have:=congrArg List.length e
          rw[List.length_map,List.length_map,List.length_nil] at this
          omega
        rw[z15i hne] at hlv
        rw[zrm]
        unfold encF trs at hlv
        simp (maxSteps:=2000000) (disch:=first|omega|(simp only[lenS];try omega)) only[go_sem,reduceAdd,reduceEqDiff,reduceLeDiff,reduceSub,hlv]
        rw[y4,hat,hp]
        first | done | rfl
  · rintro st ⟨rfl,hall⟩
    have hres:resFP f=none:=zgu (fun q h=>hall q (by omega))
    rw[hres]
    simp (maxSteps:=2000000) (disch:=first|omega|(simp only[lenS];try omega)) only[go_sem,reduceAdd,reduceEqDiff,reduceLeDiff,reduceSub]
    rfl
theorem wa4(f:Fl)(hn:smN f.net):C w6w [encF f] []=some (.tup [match zhw f with | some g=>.agg [I g.net.pl,.unn wgz 3 (g.net.tr.map encT),I g.src,I g.dst] | none=>.agg [I 0,.nil false 3,I 0,I 0],.bool (zhw f).isSome],[]):=by
  have hA:=wb7 f hn
  unfold encF at hA
  refine w03 ?_
  simp (maxSteps:=2000000) (disch:=first|omega|(simp only[lenS];try omega)) only[wbs,go_sem,reduceAdd,reduceEqDiff,reduceLeDiff,reduceSub]
  cases ho:okRed f with
  | false =>
    simp (maxSteps:=2000000) (disch:=first|omega|(simp only[lenS];try omega)) only[go_sem,reduceAdd,reduceEqDiff,reduceLeDiff,reduceSub,hA,ho]
    simp [zhw,ho]
  | true =>
    have ho':=ho
    simp only[okRed,Bool.and_eq_true,Bool.not_eq_true'] at ho'
    have hD:=waw f ho'.1 ho'.2
    unfold encF at hD
    have e:zhw f=(resFP f).map fun(i:Nat)=>zpm f (zi4 f i) (at_ (trN f.net i).inn 0):=by simp [zhw,ho]
    rw[e]
    cases hq:resFP f with
    | none =>
      rw[hq] at hD
      simp only[Option.isSome_none] at hD
      simp (maxSteps:=2000000) (disch:=first|omega|(simp only[lenS];try omega)) only[go_sem,reduceAdd,reduceEqDiff,reduceLeDiff,reduceSub,hA,ho,hD]
      rfl
    | some q =>
      rw[hq] at hD
      simp only[Option.isSome_some] at hD
      simp (maxSteps:=2000000) (disch:=first|omega|(simp only[lenS];try omega)) only[go_sem,reduceAdd,reduceEqDiff,reduceLeDiff,reduceSub,hA,ho,hD]
      rfl
theorem wgc(l:List Int)(x:Int)(hl:l.length<2^62):C w9l [ints l,I x] []=some (.bool (hasB l x),[]):=by
 refine w2h ?_
 simp (maxSteps:=2000000) (disch:=first|omega|(simp only[lenS];try omega)) only[weg,go_sem,reduceAdd,reduceEqDiff,reduceLeDiff,reduceSub]
 refine W_for l.length (fun k s=>s=⟨[.any,I x,.any,.any,ints l,I l.length,I k,.any,.any],[]⟩∧(l.take k).any (fun y=>y == x)=false) ?_ ?_ ?_
 ·simp (maxSteps:=2000000) (disch:=first|omega|(simp only[lenS];try omega)) only[go_sem,reduceAdd,reduceEqDiff,reduceLeDiff,reduceSub]
  rfl
 ·rintro k s hk ⟨rfl,hall⟩
  simp (maxSteps:=2000000) (disch:=first|omega|(simp only[lenS];try omega)) only[go_sem,reduceAdd,reduceEqDiff,reduceLeDiff,reduceSub]
  refine⟨fun h=>?_,fun h=>⟨rfl,z3e hk hall (by simpa using h)⟩⟩
  rw[zk1 hk h]
 ·rintro s ⟨rfl,hall⟩
  simp (maxSteps:=2000000) (disch:=first|omega|(simp only[lenS];try omega)) only[go_sem,reduceAdd,reduceEqDiff,reduceLeDiff,reduceSub]
  rw[List.take_length] at hall
  rw[zk0 hall]
theorem wf4{T:List Tr}{k:Nat}(t:Tr):(T.map encT).set k (.agg [ints t.inn,ints t.out,ints t.rst])=(T.set k t).map encT:=by rw[List.map_set]
theorem wf3(l:List Int)(x:Int):(putI l x).length≤l.length+1:=by have:=z12b l x;omega
theorem wfk(bs:List Int)(hl:bs.length<2^62)(hb : ∀ x∈bs,0≤x∧x<256) :
    Lw (C w8w [bys bs] []) fun r=>∃ f:Fl,r=(.agg [I f.net.pl,.un wgz false 3 (f.net.tr.map encT),I f.src,I f.dst],[])∧smN f.net:=by
  obtain⟨_,e2,f,a2,s2,rfl,g1,g2,g3⟩:=wg6 false bs 0 0 (by omega) (by omega) hl hb
  obtain⟨_,e1,b,a1,s1,rfl,h3,h4⟩:=wg9 2 bs a2 s2 (by omega) (by omega) hl hb
  obtain⟨_,e3,p,a3,s3,rfl,k1,k2,k3,k4⟩:=wga f.net.pl bs a1 s1 (by omega) (by omega) hl hb
  have hn:=g3.1
  have hpl:=g3.2.1
  by_cases c1:f.net.pl<14
  · cases b with
    | true =>
      refine w2x ?_
      simp (maxSteps:=2000000) (disch:=first|omega|(simp only[lenS];try omega)) only[wdr,go_sem,reduceAdd,reduceEqDiff,reduceLeDiff,reduceSub]
      simp (maxSteps:=2000000) (disch:=first|omega|(simp only[lenS];try omega)) only[go_sem,reduceAdd,reduceEqDiff,reduceLeDiff,reduceSub,e2,c1,e1,e3]
      refine W_for f.net.tr.length (fun k s=>∃ T:List Tr,T.length=f.net.tr.length∧(∀ j,(hj:j<T.length)→T[j].inn.length≤21∧T[j].out.length≤21∧T[j].rst.length≤21∧(k≤j→T[j].inn.length≤20∧T[j].out.length≤20))∧s=⟨[.any,.ptr 0 0,.any,.ptr 1 0,I p,.any,.any,.any,.ref 2 3 0 f.net.tr.length,I f.net.tr.length,I k,.any,.any,.any],[.box wgw [I 0,.nil false 3,I 0,I 0],.box wgw [I f.net.pl,.ref 2 3 0 f.net.tr.length,I f.src,I f.dst],.row wgz false 3 (T.map encT)]⟩) ?_ ?_ ?_
      · refine⟨f.net.tr,rfl,fun j hj=>?_,?_⟩
        · have:=g3.2.2 _ (List.getElem_mem hj)
          exact⟨by omega,by omega,by omega,fun _=>⟨by omega,by omega⟩⟩
        · simp (maxSteps:=2000000) (disch:=first|omega|(simp only[lenS];try omega)) only[go_sem,reduceAdd,reduceEqDiff,reduceLeDiff,reduceSub]
          first | done | rfl
      · rintro k s hk ⟨T,hT,hq,rfl⟩
        have hkT:k<T.length:=by omega
        obtain⟨q1,q2,q3,q4⟩:=hq k hkT
        obtain⟨q5,q6⟩:=q4 (Nat.le_refl _)
        have t1:T[k]? = some T[k]:=List.getElem?_eq_getElem hkT
        have w1:=wgc T[k].inn p (by omega)
        have w2:=wgc T[k].out p (by omega)
        obtain⟨_,p1,p10⟩:=wgi T[k].inn f.net.pl (by omega)
        obtain⟨_,p2,p20⟩:=wgi T[k].out f.net.pl (by omega)
        have l1:=wf3 T[k].inn f.net.pl
        have l2:=wf3 T[k].out f.net.pl
        have fin : ∀ t:Tr,t.inn.length≤21→t.out.length≤21→t.rst=T[k].rst→∀ j,(hj:j<(T.set k t).length)→(T.set k t)[j].inn.length≤21∧(T.set k t)[j].out.length≤21∧(T.set k t)[j].rst.length≤21∧(k+1≤j→(T.set k t)[j].inn.length≤20∧(T.set k t)[j].out.length≤20):=by
          intro t b1 b2 b3 j hj
          rw[List.getElem_set]
          split
          · exact⟨b1,b2,by rw[b3];exact q3,fun h=>by omega⟩
          · have:=hq j (by simpa using hj)
            exact⟨this.1,this.2.1,this.2.2.1,fun h=>this.2.2.2 (by omega)⟩
        have self : ∀ j,(hj:j<T.length)→T[j].inn.length≤21∧T[j].out.length≤21∧T[j].rst.length≤21∧(k+1≤j→T[j].inn.length≤20∧T[j].out.length≤20):=fun j hj=>by
          have:=hq j hj
          exact⟨this.1,this.2.1,this.2.2.1,fun h=>this.2.2.2 (by omega)⟩
        generalize hasB T[k].inn p=u1 at *
        generalize hasB T[k].out p=u2 at *
        have st:=fun t=>wf4 (T:=T) (k:=k) t
        have sl:=fun t=>List.length_set (as:=T) (i:=k) (a:=t)
        cases u1<;>cases u2
        · simp (maxSteps:=2000000) (disch:=first|omega|(simp only[lenS];try omega)) only[go_sem,reduceAdd,reduceEqDiff,reduceLeDiff,reduceSub,t1,w1,w2]
          exact⟨T,hT,self,rfl⟩
        · rcases p20 with rfl | ⟨rfl,h20⟩
          all_goals
            simp (maxSteps:=2000000) (disch:=first|omega|(simp only[lenS];try omega)) only[go_sem,reduceAdd,reduceEqDiff,reduceLeDiff,reduceSub,t1,w1,w2,p2,hT]
            first
              | exact⟨T.set k ⟨T[k].inn,putI T[k].out f.net.pl,T[k].rst⟩,by simpa using hT,fin _ q1 (by simp only;omega) rfl,by rw[←st];rfl⟩
              | exact⟨rfl,T.set k ⟨T[k].inn,putI T[k].out f.net.pl,T[k].rst⟩,by simpa using hT,fin _ q1 (by simp only;omega) rfl,by rw[←st];rfl⟩
              | exact⟨T.set k ⟨T[k].inn,T[k].out,T[k].rst⟩,by simpa using hT,fin _ q1 q2 rfl,by rw[←st];rfl⟩
              | exact⟨rfl,T.set k ⟨T[k].inn,T[k].out,T[k].rst⟩,by simpa using hT,fin _ q1 q2 rfl,by rw[←st];rfl⟩
        · rcases p10 with rfl | ⟨rfl,h10⟩
          all_goals
            simp (maxSteps:=2000000) (disch:=first|omega|(simp only[lenS];try omega)) only[go_sem,reduceAdd,reduceEqDiff,reduceLeDiff,reduceSub,t1,w1,w2,p1,hT]
            first
              | exact⟨T.set k ⟨putI T[k].inn f.net.pl,T[k].out,T[k].rst⟩,by simpa using hT,fin _ (by simp only;omega) q2 rfl,by rw[←st];rfl⟩
              | exact⟨rfl,T.set k ⟨putI T[k].inn f.net.pl,T[k].out,T[k].rst⟩,by simpa using hT,fin _ (by simp only;omega) q2 rfl,by rw[←st];rfl⟩
              | exact⟨T.set k ⟨T[k].inn,T[k].out,T[k].rst⟩,by simpa using hT,fin _ q1 q2 rfl,by rw[←st];rfl⟩
              | exact⟨rfl,T.set k ⟨T[k].inn,T[k].out,T[k].rst⟩,by simpa using hT,fin _ q1 q2 rfl,by rw[←st];rfl⟩
        · rcases p10 with rfl | ⟨rfl,h10⟩<;>rcases p20 with rfl | ⟨rfl,h20⟩
          all_goals
            simp (maxSteps:=2000000) (disch:=first|omega|(simp only[lenS];try omega)) only[go_sem,reduceAdd,reduceEqDiff,reduceLeDiff,reduceSub,t1,w1,w2,p1,p2,hT,List.getElem_set_self,List.set_set]
            first
              | exact⟨T.set k ⟨putI T[k].inn f.net.pl,putI T[k].out f.net.pl,T[k].rst⟩,by simpa using hT,fin _ (by simp only;omega) (by simp only;omega) rfl,by rw[←st];rfl⟩
              | exact⟨rfl,T.set k ⟨putI T[k].inn f.net.pl,putI T[k].out f.net.pl,T[k].rst⟩,by simpa using hT,fin _ (by simp only;omega) (by simp only;omega) rfl,by rw[←st];rfl⟩
              | exact⟨rfl,rfl,T.set k ⟨putI T[k].inn f.net.pl,putI T[k].out f.net.pl,T[k].rst⟩,by simpa using hT,fin _ (by simp only;omega) (by simp only;omega) rfl,by rw[←st];rfl⟩
              | exact⟨T.set k ⟨putI T[k].inn f.net.pl,T[k].out,T[k].rst⟩,by simpa using hT,fin _ (by simp only;omega) q2 rfl,by rw[←st];rfl⟩
              | exact⟨rfl,T.set k ⟨putI T[k].inn f.net.pl,T[k].out,T[k].rst⟩,by simpa using hT,fin _ (by simp only;omega) q2 rfl,by rw[←st];rfl⟩
              | exact⟨rfl,rfl,T.set k ⟨putI T[k].inn f.net.pl,T[k].out,T[k].rst⟩,by simpa using hT,fin _ (by simp only;omega) q2 rfl,by rw[←st];rfl⟩
              | exact⟨T.set k ⟨T[k].inn,putI T[k].out f.net.pl,T[k].rst⟩,by simpa using hT,fin _ q1 (by simp only;omega) rfl,by rw[←st];rfl⟩
              | exact⟨rfl,T.set k ⟨T[k].inn,putI T[k].out f.net.pl,T[k].rst⟩,by simpa using hT,fin _ q1 (by simp only;omega) rfl,by rw[←st];rfl⟩
              | exact⟨rfl,rfl,T.set k ⟨T[k].inn,putI T[k].out f.net.pl,T[k].rst⟩,by simpa using hT,fin _ q1 (by simp only;omega) rfl,by rw[←st];rfl⟩
              | exact⟨T.set k ⟨T[k].inn,T[k].out,T[k].rst⟩,by simpa using hT,fin _ q1 q2 rfl,by rw[←st];rfl⟩
              | exact⟨rfl,T.set k ⟨T[k].inn,T[k].out,T[k].rst⟩,by simpa using hT,fin _ q1 q2 rfl,by rw[←st];rfl⟩
              | exact⟨rfl,rfl,T.set k ⟨T[k].inn,T[k].out,T[k].rst⟩,by simpa using hT,fin _ q1 q2 rfl,by rw[←st];rfl⟩
      · rintro s ⟨T,hT,hq,rfl⟩
        have hsm:smN (⟨IntKind.i64.wrap (f.net.pl+1),T⟩:Net):=by
          refine⟨?_,fun t ht=>?_⟩
          · show T.length<2^40
            omega
          · obtain⟨j,hj,rfl⟩:=List.mem_iff_getElem.1 (show t∈T from ht)
            have:=hq j hj
            exact⟨by omega,by omega,by omega⟩
        simp (maxSteps:=2000000) (disch:=first|omega|(simp only[lenS];try omega)) only[go_sem,reduceAdd,reduceEqDiff,reduceLeDiff,reduceSub,hT]
        first
          | exact⟨⟨⟨IntKind.i64.wrap (f.net.pl+1),T⟩,f.src,f.dst⟩,rfl,hsm⟩
          | exact⟨⟨⟨IntKind.i64.wrap (f.net.pl+1),T⟩,f.src,f.dst⟩,by simp [hT],hsm⟩
    | false =>
      refine w2x ?_
      simp (maxSteps:=2000000) (disch:=first|omega|(simp only[lenS];try omega)) only[wdr,go_sem,reduceAdd,reduceEqDiff,reduceLeDiff,reduceSub]
      simp (maxSteps:=2000000) (disch:=first|omega|(simp only[lenS];try omega)) only[go_sem,reduceAdd,reduceEqDiff,reduceLeDiff,reduceSub,e2,c1,e1]
      exact⟨f,rfl,g3.smN⟩
  · refine w2x ?_
    simp (maxSteps:=2000000) (disch:=first|omega|(simp only[lenS];try omega)) only[wdr,go_sem,reduceAdd,reduceEqDiff,reduceLeDiff,reduceSub]
    simp (maxSteps:=2000000) (disch:=first|omega|(simp only[lenS];try omega)) only[go_sem,reduceAdd,reduceEqDiff,reduceLeDiff,reduceSub,e2,c1]
    exact⟨f,rfl,g3.smN⟩
theorem wfb(a b:List Int)(hl:a.length<2^62):C w8o [ints a,ints b] []=some (.bool (decide (a=b)),[]):=by
 refine w1u ?_
 simp (maxSteps:=2000000) (disch:=first|omega|(simp only[lenS];try omega)) only[wdj,go_sem,reduceAdd,reduceEqDiff,reduceLeDiff,reduceSub]
 refine⟨fun h=>?_,fun h=>?_⟩
 ·have:a≠b:=fun e=>h (by rw[e])
  simp [this]
 refine W_for a.length (fun k s=>s=⟨[ints a,ints b,.any,.any,.any,I a.length,I k,.any,.any],[]⟩∧a.take k=b.take k) ?_ ?_ ?_
 ·simp (maxSteps:=2000000) (disch:=first|omega|(simp only[lenS];try omega)) only[go_sem,reduceAdd,reduceEqDiff,reduceLeDiff,reduceSub]
  rfl
 ·rintro k s hk ⟨rfl,hall⟩
  simp (maxSteps:=2000000) (disch:=first|omega|(simp only[lenS];try omega)) only[go_sem,reduceAdd,reduceEqDiff,reduceLeDiff,reduceSub]
  refine⟨fun h=>?_,fun h=>⟨rfl,?_⟩⟩
  ·have:a≠b:=fun e=>h (by simp [e])
   simp [this]
  ·rw[z1ek hk,z1ek (show k<b.length by omega),hall,h]
 ·rintro s ⟨rfl,hall⟩
  simp (maxSteps:=2000000) (disch:=first|omega|(simp only[lenS];try omega)) only[go_sem,reduceAdd,reduceEqDiff,reduceLeDiff,reduceSub]
  rw[List.take_length,List.take_of_length_le (by omega)] at hall
  simp [hall]
theorem wan(f:Fl)(hg:ziu f=true)(hr:hasR f.net=false):C w7f [encF f] []=some (.tup [match resQ f with | some q=>.agg [I (dropF f q).net.pl,.unn wgz 3 ((dropF f q).net.tr.map encT),I (dropF f q).src,I (dropF f q).dst] | none=>.agg [I 0,.nil false 3,I 0,I 0],.bool (resQ f).isSome],[]):=by
  obtain⟨hgn,hs,hd,-,-,-,-⟩:=ziy hg
  obtain⟨hp1,hp2,hn,hT⟩:=zja hgn
  obtain⟨P,hP⟩ : ∃ P:Nat,f.net.pl=P:=⟨f.net.pl.toNat,by omega⟩
  have hk2 : ∀ p:Int,(takI f.net p).length≤24:=fun p=>by unfold takI;exact Nat.le_trans (zki _ _ _) hn
  have hg3 : ∀ p:Int,(givI f.net p).length≤24:=fun p=>by unfold givI;exact Nat.le_trans (zki _ _ _) hn
  refine w0m ?_
  simp (maxSteps:=2000000) (disch:=first|omega|(simp only[lenS];try omega)) only[wcb,go_sem,reduceAdd,reduceEqDiff,reduceLeDiff,reduceSub]
  refine W_for P (fun i st=>st=⟨[.any,.ptr 0 0,.ptr 1 0,.any,.any,.any,I f.net.pl,I i,.any,.any,.any,.any,.any],[.box wgw [I f.net.pl,trs f.net.tr,I f.src,I f.dst],.box wgw [I 0,.nil false 3,I 0,I 0]]⟩∧∀ q',q'<i→∀ p',p'<q'→sameP f q' p'=false) ?_ ?_ ?_
  · simp (maxSteps:=2000000) (disch:=first|omega|(simp only[lenS];try omega)) only[go_sem,reduceAdd,reduceEqDiff,reduceLeDiff,reduceSub]
    exact⟨rfl,fun q' h=>by omega⟩
  · rintro i st hi ⟨rfl,hall⟩
    simp (maxSteps:=2000000) (disch:=first|omega|(simp only[lenS];try omega)) only[go_sem,reduceAdd,reduceEqDiff,reduceLeDiff,reduceSub]
    refine W_for i (fun j st=>st=⟨[.any,.ptr 0 0,.ptr 1 0,.any,I i,.any,I f.net.pl,I i,.any,I i,I j,.any,.any],[.box wgw [I f.net.pl,trs f.net.tr,I f.src,I f.dst],.box wgw [I 0,.nil false 3,I 0,I 0]]⟩∧∀ p',p'<j→sameP f i p'=false) ?_ ?_ ?_
    · simp (maxSteps:=2000000) (disch:=first|omega|(simp only[lenS];try omega)) only[go_sem,reduceAdd,reduceEqDiff,reduceLeDiff,reduceSub]
      exact⟨rfl,fun p' h=>by omega⟩
    · rintro j st hj ⟨rfl,hin⟩
      have next:sameP f i j=false→∀ p',p'<j+1→sameP f i p'=false:=by
        intro h p' hp'
        rcases Nat.lt_or_ge p' j with h5 | h5
        · exact hin p' h5
        · rw[show p'=j by omega];exact h
      have s1:=wb5 f j
      have s2:=wb5 f i
      have t1:=wbh f.net j hgn
      have t2:=wbh f.net i hgn
      have u1:=wbi f.net j hgn
      have u2:=wbi f.net i hgn
      have w1:=hk2 j
      have w2:=hk2 i
      have w3:=hg3 j
      have w4:=hg3 i
      have v1:=wfb (takI f.net j) (takI f.net i) (by omega)
      have v2:=wfb (givI f.net j) (givI f.net i) (by omega)
      have e:sameP f i j=(zmq f j&&zmq f i&&(decide (givI f.net j=givI f.net i)&&decide (takI f.net j=takI f.net i))):=rfl
      unfold encF at s1 s2
      generalize decide (takI f.net j=takI f.net i)=b3 at *
      generalize decide (givI f.net j=givI f.net i)=b4 at *
      generalize takI f.net j=T1 at *
      generalize takI f.net i=T2 at *
      generalize givI f.net j=G1 at *
      generalize givI f.net i=G2 at *
      cases b1:zmq f (j:Int) with
      | false =>
        rw[b1] at s1 e
        simp (maxSteps:=2000000) (disch:=first|omega|(simp only[lenS];try omega)) only[go_sem,reduceAdd,reduceEqDiff,reduceLeDiff,reduceSub,s1,s2]
        exact⟨rfl,next (by rw[e];rfl)⟩
      | true =>
        cases b2:zmq f (i:Int) with
        | false =>
          rw[b1] at s1 e
          rw[b2] at s2 e
          simp (maxSteps:=2000000) (disch:=first|omega|(simp only[lenS];try omega)) only[go_sem,reduceAdd,reduceEqDiff,reduceLeDiff,reduceSub,s1,s2]
          exact⟨rfl,next (by rw[e];rfl)⟩
        | true =>
          rw[b1] at s1 e
          rw[b2] at s2 e
          cases b4 with
          | false =>
            simp (maxSteps:=2000000) (disch:=first|omega|(simp only[lenS];try omega)) only[go_sem,reduceAdd,reduceEqDiff,reduceLeDiff,reduceSub,s1,s2,u1,u2,v2]
            exact⟨rfl,next (by rw[e];simp)⟩
          | true =>
            cases b3 with
            | false =>
              simp (maxSteps:=2000000) (disch:=first|omega|(simp only[lenS];try omega)) only[go_sem,reduceAdd,reduceEqDiff,reduceLeDiff,reduceSub,s1,s2,t1,t2,v1,u1,u2,v2]
              exact⟨rfl,next (by rw[e];simp)⟩
            | true =>
              have hres:=z15u (f:=f) (q:=i) (p:=j) (by omega) hj hall (by rw[e];rfl)
              have hlv:=wbn f i hg hr (by omega)
              rw[hres]
              simp (maxSteps:=2000000) (disch:=first|omega|(simp only[lenS];try omega)) only[go_sem,reduceAdd,reduceEqDiff,reduceLeDiff,reduceSub,s1,s2,t1,t2,v1,u1,u2,v2,hlv]
              rfl
    · rintro st ⟨rfl,hin⟩
      simp (maxSteps:=2000000) (disch:=first|omega|(simp only[lenS];try omega)) only[go_sem,reduceAdd,reduceEqDiff,reduceLeDiff,reduceSub]
      refine⟨rfl,fun q' h=>?_⟩
      rcases Nat.lt_or_ge q' i with h5 | h5
      · exact hall q' h5
      · rw[show q'=i by omega];exact hin
  · rintro st ⟨rfl,hall⟩
    have hres:=z15t (f:=f) (fun q h=>hall q (by omega))
    rw[hres]
    simp (maxSteps:=2000000) (disch:=first|omega|(simp only[lenS];try omega)) only[go_sem,reduceAdd,reduceEqDiff,reduceLeDiff,reduceSub]
    rfl
theorem wa2(f:Fl)(hn:smN f.net):C w6u [encF f] []=some (.tup [match dropV f with | some g=>.agg [I g.net.pl,.unn wgz 3 (g.net.tr.map encT),I g.src,I g.dst] | none=>.agg [I 0,.nil false 3,I 0,I 0],.bool (dropV f).isSome],[]):=by
  have hA:=wb7 f hn
  unfold encF at hA
  refine w01 ?_
  simp (maxSteps:=2000000) (disch:=first|omega|(simp only[lenS];try omega)) only[wbq,go_sem,reduceAdd,reduceEqDiff,reduceLeDiff,reduceSub]
  cases ho:okRed f with
  | false =>
    simp (maxSteps:=2000000) (disch:=first|omega|(simp only[lenS];try omega)) only[go_sem,reduceAdd,reduceEqDiff,reduceLeDiff,reduceSub,hA,ho]
    simp [dropV,ho]
  | true =>
    have ho':=ho
    simp only[okRed,Bool.and_eq_true,Bool.not_eq_true'] at ho'
    have hD:=wan f ho'.1 ho'.2
    unfold encF at hD
    have e:dropV f=(resQ f).map fun(q:Nat)=>dropF f (q:Int):=by simp [dropV,ho]
    rw[e]
    cases hq:resQ f with
    | none =>
      rw[hq] at hD
      simp only[Option.isSome_none] at hD
      simp (maxSteps:=2000000) (disch:=first|omega|(simp only[lenS];try omega)) only[go_sem,reduceAdd,reduceEqDiff,reduceLeDiff,reduceSub,hA,ho,hD]
      rfl
    | some q =>
      rw[hq] at hD
      simp only[Option.isSome_some] at hD
      simp (maxSteps:=2000000) (disch:=first|omega|(simp only[lenS];try omega)) only[go_sem,reduceAdd,reduceEqDiff,reduceLeDiff,reduceSub,hA,ho,hD]
      rfl
theorem wfl(bs:List Int)(hl:bs.length<2^62)(hb : ∀ x∈bs,0≤x∧x<256) :
    Lw (C w8x [bys bs] []) fun r=>∃ f:Fl,r=(.agg [I f.net.pl,.un wgz false 3 (f.net.tr.map encT),I f.src,I f.dst],[])∧smN f.net:=by
  obtain⟨_,e2,f,a2,s2,rfl,g1,g2,g3⟩:=wg6 false bs 0 0 (by omega) (by omega) hl hb
  obtain⟨_,e1,b,a1,s1,rfl,h3,h4⟩:=wg9 2 bs a2 s2 (by omega) (by omega) hl hb
  obtain⟨_,e3,x,a3,s3,rfl,k1,k2,k3,k4⟩:=wga f.net.tr.length bs a1 s1 (by omega) (by omega) hl hb
  obtain⟨K,rfl⟩ : ∃ K:Nat,x=K:=⟨x.toNat,by omega⟩
  have hn:=g3.1
  have hK:K<f.net.tr.length:=by omega
  have t1:f.net.tr[K]? = some f.net.tr[K]:=List.getElem?_eq_getElem hK
  by_cases c1:(f.net.tr.length:Int)<20
  · cases b with
    | true =>
      refine w2y ?_
      simp (maxSteps:=2000000) (disch:=first|omega|(simp only[lenS];try omega)) only[wds,go_sem,reduceAdd,reduceEqDiff,reduceLeDiff,reduceSub]
      simp (maxSteps:=2000000) (disch:=first|omega|(simp only[lenS];try omega)) only[go_sem,reduceAdd,reduceEqDiff,reduceLeDiff,reduceSub,e2,c1,e1,e3,t1]
      have hq:smN (⟨f.net.pl,f.net.tr++[f.net.tr[K]]⟩:Net):=⟨by simp;omega,fun t ht=>by
        simp only[List.mem_append,List.mem_singleton] at ht
        rcases ht with ht | rfl
        · exact g3.smN.2 t ht
        · exact g3.smN.2 _ (List.getElem_mem hK)⟩
      first
        | exact⟨⟨⟨f.net.pl,f.net.tr++[f.net.tr[K]]⟩,f.src,f.dst⟩,by simp,hq⟩
        | exact⟨rfl,⟨⟨f.net.pl,f.net.tr++[f.net.tr[K]]⟩,f.src,f.dst⟩,by simp,hq⟩
    | false =>
      refine w2y ?_
      simp (maxSteps:=2000000) (disch:=first|omega|(simp only[lenS];try omega)) only[wds,go_sem,reduceAdd,reduceEqDiff,reduceLeDiff,reduceSub]
      simp (maxSteps:=2000000) (disch:=first|omega|(simp only[lenS];try omega)) only[go_sem,reduceAdd,reduceEqDiff,reduceLeDiff,reduceSub,e2,c1,e1]
      exact⟨f,rfl,g3.smN⟩
  · refine w2y ?_
    simp (maxSteps:=2000000) (disch:=first|omega|(simp only[lenS];try omega)) only[wds,go_sem,reduceAdd,reduceEqDiff,reduceLeDiff,reduceSub]
    simp (maxSteps:=2000000) (disch:=first|omega|(simp only[lenS];try omega)) only[go_sem,reduceAdd,reduceEqDiff,reduceLeDiff,reduceSub,e2,c1]
    exact⟨f,rfl,g3.smN⟩
theorem wao(t u:Tr)(ht:smT t)(hu:smT u):C w7h [encT u,.pv (encT t) 0] []=some (.bool (decide (t.inn=u.inn)&&decide (t.out=u.out)),[]):=by
 have e1:=wfb t.inn u.inn (by have:=ht.1;omega)
 have e2:=wfb t.out u.out (by have:=ht.2.1;omega)
 generalize decide (t.inn=u.inn)=p at *
 generalize decide (t.out=u.out)=q at *
 refine w0o ?_
 simp (maxSteps:=2000000) (disch:=first|omega|(simp only[lenS];try omega)) only[wcd,go_sem,reduceAdd,reduceEqDiff,reduceLeDiff,reduceSub]
 cases p<;>cases q<;>simp (maxSteps:=2000000) (disch:=first|omega|(simp only[lenS];try omega)) only[go_sem,reduceAdd,reduceEqDiff,reduceLeDiff,reduceSub,e1,e2]
 all_goals first | done | rfl
def dtPV(f:Fl)(o:Option Nat):PV:=match o with
 | some i=>.agg [I f.net.pl,.un wgz false 3 ((f.net.tr.eraseIdx i).map encT),I f.src,I f.dst]
 | none=>.agg [I 0,.nil false 3,I 0,I 0]
theorem w6m{f:Fl}{k:Nat}(h0 : ∀ j,j<k→dupT f j=false)(h:dupT f k=false) : ∀ j,j<k+1→dupT f j=false:=fun j hj=>by
 by_cases e:j=k
 ·subst e;exact h
 ·exact h0 j (by omega)
theorem wap(f:Fl)(hg:ziu f=true)(hr:hasR f.net=false):C w7g [encF f] []=some (.tup [dtPV f (resDT f),.bool (resDT f).isSome],[]):=by
  have hgn:=(ziy hg).1
  obtain⟨hp1,hp2,hn,hT⟩:=zja hgn
  have hsm : ∀ u∈f.net.tr,smT u:=fun u hu=>by have:=zjg (hT u hu) ⟨by omega,hp2⟩;exact⟨by omega,by omega,by omega⟩
  refine w0n ?_
  simp (maxSteps:=2000000) (disch:=first|omega|(simp only[lenS];try omega)) only[wcc,go_sem,reduceAdd,reduceEqDiff,reduceLeDiff,reduceSub]
  refine W_for f.net.tr.length (fun k s=>s=⟨[.any,.ptr 0 0,.ptr 1 0,.any,.any,.any,trs f.net.tr,I f.net.tr.length,I k,.any,.any],[.box wgw [I f.net.pl,trs f.net.tr,I f.src,I f.dst],.box wgw [I 0,.nil false 3,I 0,I 0]]⟩∧∀ j,j<k→dupT f j=false) ?_ ?_ ?_
  · simp (maxSteps:=2000000) (disch:=first|omega|(simp only[lenS];try omega)) only[go_sem,reduceAdd,reduceEqDiff,reduceLeDiff,reduceSub]
    refine⟨?_,fun j h=>by omega⟩
    first | done | rfl
  · rintro k s hk ⟨rfl,h0⟩
    have e1:f.net.tr[k]? = some f.net.tr[k]:=List.getElem?_eq_getElem hk
    have hst:=w6m (f:=f) (k:=k) h0
    have hfd:=fun h=>zgv (p:=dupT f) hk h0 h
    have hwo:=fun h2=>wbo f k hgn hk h2
    have hd:dupT f k=(f.net.tr.take k).any fun u=>decide (f.net.tr[k].inn=u.inn)&&decide (f.net.tr[k].out=u.out):=by
      unfold dupT
      rw[z1f3 hk]
      congr 1
      funext u
      rw[show decide (u.inn=f.net.tr[k].inn)=decide (f.net.tr[k].inn=u.inn) by simp only[eq_comm],show decide (u.out=f.net.tr[k].out)=decide (f.net.tr[k].out=u.out) by simp only[eq_comm]]
    have hct:=wf7 (f.net.tr.take k) w7h [.pv (encT f.net.tr[k]) 0] rfl (fun _ _=>rfl) (fun u=>decide (f.net.tr[k].inn=u.inn)&&decide (f.net.tr[k].out=u.out)) (fun u hu=>wao f.net.tr[k] u (hsm _ (List.getElem_mem hk)) (hsm u (List.mem_of_mem_take hu))) (by have:=List.length_take_le k f.net.tr;omega)
    rw[←hd] at hct
    have h2:dupT f k=true→2≤f.net.tr.length:=by
      intro h
      unfold dupT at h
      rw[List.any_eq_true] at h
      obtain⟨u,hu,_⟩:=h
      have:=List.length_pos_of_mem hu
      rw[List.length_take] at this
      omega
    have hrd:dupT f k=true→resDT f=some k:=fun h=>hfd h
    generalize hB:dupT f k=bb at *
    rw[show trs (f.net.tr.take k)=PV.sl false 3 ((f.net.tr.map encT).take k) by simp [trs,List.map_take]] at hct
    generalize f.net.tr[k]=t at *
    cases bb with
    | false =>
      simp (maxSteps:=2000000) (disch:=first|omega|(simp only[lenS];try omega)) only[go_sem,reduceAdd,reduceEqDiff,reduceLeDiff,reduceSub,e1,hct]
      exact⟨rfl,hst rfl⟩
    | true =>
      have hw:=hwo (h2 rfl)
      simp (maxSteps:=2000000) (disch:=first|omega|(simp only[lenS];try omega)) only[go_sem,reduceAdd,reduceEqDiff,reduceLeDiff,reduceSub,e1,hct,hw]
      rw[hrd rfl]
      first | done | rfl
  · rintro s ⟨rfl,h0⟩
    simp (maxSteps:=2000000) (disch:=first|omega|(simp only[lenS];try omega)) only[go_sem,reduceAdd,reduceEqDiff,reduceLeDiff,reduceSub]
    rw[show resDT f=none from zgu h0]
    first | done | rfl
def dtV(o:Option Fl):PV:=match o with
 | some g=>.agg [I g.net.pl,.un wgz false 3 (g.net.tr.map encT),I g.src,I g.dst]
 | none=>.agg [I 0,.nil false 3,I 0,I 0]
theorem wa3(f:Fl)(hn:smN f.net):C w6v [encF f] []=some (.tup [dtV (zct f),.bool (zct f).isSome],[]):=by
  have h:=wb7 f hn
  unfold zct
  cases ho:okRed f with
  | false =>
    rw[ho] at h
    refine w02 ?_
    simp (maxSteps:=2000000) (disch:=first|omega|(simp only[lenS];try omega)) only[wbr,go_sem,reduceAdd,reduceEqDiff,reduceLeDiff,reduceSub]
    simp (maxSteps:=2000000) (disch:=first|omega|(simp only[lenS];try omega)) only[go_sem,reduceAdd,reduceEqDiff,reduceLeDiff,reduceSub,h]
    first | done | rfl
  | true =>
    rw[ho] at h
    simp only[okRed,Bool.and_eq_true,Bool.not_eq_true'] at ho
    have e:=wap f ho.1 ho.2
    have hd:=fun i (h:resDT f=some i)=>List.mem_of_find?_eq_some h
    simp only[if_true]
    generalize resDT f=o at *
    cases o with
    | none =>
      simp only[dtPV,Option.isSome_none,Option.map_none] at e ⊢
      refine w02 ?_
      simp (maxSteps:=2000000) (disch:=first|omega|(simp only[lenS];try omega)) only[wbr,go_sem,reduceAdd,reduceEqDiff,reduceLeDiff,reduceSub]
      simp (maxSteps:=2000000) (disch:=first|omega|(simp only[lenS];try omega)) only[go_sem,reduceAdd,reduceEqDiff,reduceLeDiff,reduceSub,h,e]
      first | done | rfl
    | some i =>
      simp only[dtPV,Option.isSome_some,Option.map_some] at e ⊢
      refine w02 ?_
      simp (maxSteps:=2000000) (disch:=first|omega|(simp only[lenS];try omega)) only[wbr,go_sem,reduceAdd,reduceEqDiff,reduceLeDiff,reduceSub]
      simp (maxSteps:=2000000) (disch:=first|omega|(simp only[lenS];try omega)) only[go_sem,reduceAdd,reduceEqDiff,reduceLeDiff,reduceSub,h,e]
      first | done | rfl
theorem wgd(n lo hi:Int):C w9m [I n,I lo,I hi] []=some (.bool (inB lo hi n),[]):=by
 refine w2i ?_
 simp (maxSteps:=2000000) (disch:=first|omega|(simp only[lenS];try omega)) only[weh,go_sem,reduceAdd,reduceEqDiff,reduceLeDiff,reduceSub]
 unfold inB;grind
theorem wgf(n:Int):C w9o [I n] []=some (.bool (inB 1 16 n),[]):=by
 refine w2k ?_
 simp (maxSteps:=2000000) (disch:=first|omega|(simp only[lenS];try omega)) only[wej,go_sem,reduceAdd,reduceEqDiff,reduceLeDiff,reduceSub]
 simp (maxSteps:=2000000) (disch:=first|omega|(simp only[lenS];try omega)) only[go_sem,reduceAdd,reduceEqDiff,reduceLeDiff,reduceSub,wgd]
 grind
theorem wgj(l:List Int)(lo hi:Int)(hl:l.length<2^62):C w9q [ints l,I lo,I hi] []=some (.bool (incr l&&l.all (inB lo hi)),[]):=by
 refine w2m ?_
 simp (maxSteps:=2000000) (disch:=first|omega|(simp only[lenS];try omega)) only[wel,go_sem,reduceAdd,reduceEqDiff,reduceLeDiff,reduceSub]
 refine W_for l.length (fun k s=>s=⟨[ints l,I lo,I hi,.any,.any,.any,ints l,I l.length,I k,.any,.any],[]⟩∧(l.take k).Pairwise (· < ·)∧(l.take k).all (inB lo hi)=true) ?_ ?_ ?_
 ·simp (maxSteps:=2000000) (disch:=first|omega|(simp only[lenS];try omega)) only[go_sem,reduceAdd,reduceEqDiff,reduceLeDiff,reduceSub]
  exact⟨rfl,List.Pairwise.nil⟩
 ·rintro k s hk ⟨rfl,hp,hall⟩
  simp (maxSteps:=2000000) (disch:=first|omega|(simp only[lenS];try omega)) only[go_sem,reduceAdd,reduceEqDiff,reduceLeDiff,reduceSub,wgd]
  refine⟨fun h=>⟨fun h2=>?_,fun h2=>?_⟩,fun h=>by rw[z2y hk h];simp⟩
  ·simp (maxSteps:=2000000) (disch:=first|omega|(simp only[lenS];try omega)) only[go_sem,reduceAdd,reduceEqDiff,reduceLeDiff,reduceSub]
   obtain⟨j,rfl⟩ : ∃ j,k=j+1:=⟨k-1,by omega⟩
   have e:(((j+1:Nat):Int)-1).toNat=j:=by omega
   refine⟨fun h3=>?_,fun h3=>⟨rfl,?_,z2z hk hall h⟩⟩
   ·rw[zmk hk (by simp only[e] at h3;omega)];rfl
   ·exact zmn hk hp (by simp only[e] at h3;omega)
  ·obtain rfl:k=0:=by omega
   exact⟨rfl,zml,z2z hk hall h⟩
 ·rintro s ⟨rfl,hp,hall⟩
  simp (maxSteps:=2000000) (disch:=first|omega|(simp only[lenS];try omega)) only[go_sem,reduceAdd,reduceEqDiff,reduceLeDiff,reduceSub]
  rw[List.take_length] at hp hall
  rw[hall,show incr l=true by simpa [incr] using hp]
  rfl
theorem wft(n:Net)(hn:smN n):C w94 [encN n] []=some (.bool (goodN n),[]):=by
 have h0:=hn.1
 refine w27 ?_
 simp (maxSteps:=2000000) (disch:=first|omega|(simp only[lenS];try omega)) only[wdz,go_sem,reduceAdd,reduceEqDiff,reduceLeDiff,reduceSub]
 simp (maxSteps:=2000000) (disch:=first|omega|(simp only[lenS];try omega)) only[go_sem,reduceAdd,reduceEqDiff,reduceLeDiff,reduceSub,wgf]
 refine⟨fun h=>⟨fun h2=>?_,fun h2=>?_⟩,fun h=>by simp [goodN,h]⟩
 ·have:¬n.tr.length≤24:=by omega
  simp [goodN,this]
 have hb:1≤n.pl∧n.pl≤16:=by simpa [inB] using h
 refine W_for n.tr.length (fun k s=>s=⟨[.any,.ptr 0 0,.any,.any,.any,trs n.tr,I n.tr.length,I k,.any,.any],[.box wgx [I n.pl,trs n.tr]]⟩∧(n.tr.take k).all (goodT n.pl)=true) ?_ ?_ ?_
 ·simp (maxSteps:=2000000) (disch:=first|omega|(simp only[lenS];try omega)) only[go_sem,reduceAdd,reduceEqDiff,reduceLeDiff,reduceSub]
  rfl
 ·rintro k s hk ⟨rfl,hall⟩
  obtain⟨h3,h4,h5⟩:=hn.2 _ (List.getElem_mem hk)
  simp (maxSteps:=2000000) (disch:=first|omega|(simp only[lenS];try omega)) only[go_sem,reduceAdd,reduceEqDiff,reduceLeDiff,reduceSub,wgj]
  simp only[z110]
  refine⟨fun h6=>by rw[zj8 hk (zjj (by omega))],fun h6=>⟨fun h7=>⟨fun h8=>⟨fun h9=>⟨rfl,z2z hk hall (zjd (by omega) h7 h8 h9)⟩,fun h9=>by rw[zj8 hk (by simp [goodT,h9])]⟩,fun h8=>by rw[zj8 hk (by simp [goodT,h8])]⟩,fun h7=>by rw[zj8 hk (by simp [goodT,h7])]⟩⟩
 ·rintro s ⟨rfl,hall⟩
  simp (maxSteps:=2000000) (disch:=first|omega|(simp only[lenS];try omega)) only[go_sem,reduceAdd,reduceEqDiff,reduceLeDiff,reduceSub]
  rw[List.take_length] at hall
  simp [goodN,hall,h,show n.tr.length≤24 by omega]
theorem wgr(n:Net)(p:Int)(hg:goodN n=true)(hp:0≤p∧p<n.pl):C w9y [encN n,I p] []=some (.tup [.un wgu true 1 ((z132 n false p).pl.map PV.bool),.un wgu true 1 ((z132 n false p).tr.map PV.bool)],[]):=by
  have hb:=zja hg
  have hlen:=z135 n false p
  rw[z133] at hlen ⊢
  refine w2u ?_
  simp (maxSteps:=2000000) (disch:=first|omega|(simp only[lenS];try omega)) only[wet,go_sem,reduceAdd,reduceEqDiff,reduceLeDiff,reduceSub]
  simp (maxSteps:=2000000) (disch:=first|omega|(simp only[lenS];try omega)) only[go_sem,reduceAdd,reduceEqDiff,reduceLeDiff,reduceSub,List.getElem_replicate]
  generalize hR:clRun n false (cntF (List.replicate n.tr.length false)+1) ⟨(List.replicate n.pl.toNat false).set p.toNat true,List.replicate n.tr.length false,true⟩=R at *
  refine z1a (fun k s=>∃ c:Cl,c.pl.length=n.pl.toNat∧c.tr.length=n.tr.length∧((k=cntF c.tr+1∧s=⟨[.any,.any,.ptr 0 0,.any,.any,.ref 1 1 0 n.pl.toNat,.ref 2 1 0 n.tr.length,.bool true,.any,.any,.any,.any,.any,.any,.any,.any,.any,.any,.any,.any,.any,.any,.any,.any,.any,.any,.any],[.box wgx [I n.pl,trs n.tr],.row wgu true 1 (c.pl.map PV.bool),.row wgu true 1 (c.tr.map PV.bool)]⟩∧clRun n false (cntF c.tr+1) c=R)∨(k=0∧s=⟨[.any,.any,.ptr 0 0,.any,.any,.ref 1 1 0 n.pl.toNat,.ref 2 1 0 n.tr.length,.bool false,.any,.any,.any,.any,.any,.any,.any,.any,.any,.any,.any,.any,.any,.any,.any,.any,.any,.any,.any],[.box wgx [I n.pl,trs n.tr],.row wgu true 1 (c.pl.map PV.bool),.row wgu true 1 (c.tr.map PV.bool)]⟩∧c=R))) (cntF (List.replicate n.tr.length false)+1) ?_ ?_
  · refine⟨⟨(List.replicate n.pl.toNat false).set p.toNat true,List.replicate n.tr.length false,true⟩,by simp,by simp,.inl ⟨rfl,?_,hR⟩⟩
    simp (maxSteps:=2000000) (disch:=first|omega|(simp only[lenS];try omega)) only[go_sem,reduceAdd,reduceEqDiff,reduceLeDiff,reduceSub]
    simp
  · rintro k0 s ⟨c,hc1,hc2,⟨rfl,rfl,hc⟩ | ⟨rfl,rfl,rfl⟩⟩
    · have hcl:=fun k=>z9k n false c k
      simp (maxSteps:=2000000) (disch:=first|omega|(simp only[lenS];try omega)) only[go_sem,reduceAdd,reduceEqDiff,reduceLeDiff,reduceSub]
      refine W_for n.tr.length (fun k s=>s=⟨[.any,.any,.ptr 0 0,.any,.any,.ref 1 1 0 n.pl.toNat,.ref 2 1 0 n.tr.length,.bool (clK n false c k).ch,.any,.any,.any,.any,.any,.any,trs n.tr,I n.tr.length,I k,.any,.any,.any,.any,.any,.any,.any,.any,.any,.any],[.box wgx [I n.pl,trs n.tr],.row wgu true 1 ((clK n false c k).pl.map PV.bool),.row wgu true 1 ((clK n false c k).tr.map PV.bool)]⟩) ?_ ?_ ?_
      · simp (maxSteps:=2000000) (disch:=first|omega|(simp only[lenS];try omega)) only[go_sem,reduceAdd,reduceEqDiff,reduceLeDiff,reduceSub]
        rfl
      · rintro k s hk rfl
        have hT:=hb.2.2.2 _ (List.getElem_mem hk)
        have hLs:=zjg hT (by omega)
        obtain⟨_,g1,g2,g3⟩:=zjk hT
        have p1:=z111 g1
        have p2:=z111 g2
        have hd:=hcl k
        have hstep:=z9m n false c k
        have htr:n.tr[k]=trN n k:=(z1f3 hk).symm
        rw[htr] at hLs p1 p2
        have s1:(clK n false c k).tr.getD k false=true→clK n false c (k+1)=clK n false c k:=fun h=>hstep.trans (z9w (.inl h))
        have s2:hitB (clK n false c k).pl (sideI false (trN n k))=false→clK n false c (k+1)=clK n false c k:=fun h=>hstep.trans (z9w (.inr h))
        have s3:(clK n false c k).tr.getD k false=false→hitB (clK n false c k).pl (sideI false (trN n k))=true→clK n false c (k+1)=⟨markB (clK n false c k).pl (sideO false (trN n k)),(clK n false c k).tr.set k true,true⟩:=fun h h2=>hstep.trans (z9x h h2)
        simp only[sideI,sideO,Bool.false_eq_true,if_false,if_true] at s2 s3
        clear hstep
        generalize clK n false c k=d at *
        generalize clK n false c (k+1)=d' at *
        simp (maxSteps:=2000000) (disch:=first|omega|(simp only[lenS];try omega)) only[go_sem,reduceAdd,reduceEqDiff,reduceLeDiff,reduceSub]
        simp only[htr]
        generalize trN n k=tr at *
        refine W_for tr.inn.length (fun j s=>s=⟨[.any,.any,.ptr 0 0,.any,.any,.ref 1 1 0 n.pl.toNat,.ref 2 1 0 n.tr.length,.bool d.ch,I k,.ptr 3 0,.bool ((tr.inn.take j).any fun p=>d.pl.getD p.toNat false),.any,.any,.any,trs n.tr,I n.tr.length,I k,.any,ints tr.inn,I tr.inn.length,I j,.any,.any,.any,.any,.any,.any],[.box wgx [I n.pl,trs n.tr],.row wgu true 1 (d.pl.map PV.bool),.row wgu true 1 (d.tr.map PV.bool),.box wgz [ints tr.inn,ints tr.out,ints tr.rst]]⟩) ?_ ?_ ?_
        · simp (maxSteps:=2000000) (disch:=first|omega|(simp only[lenS];try omega)) only[go_sem,reduceAdd,reduceEqDiff,reduceLeDiff,reduceSub]
          rfl
        · rintro j s hj rfl
          have h1:=p1 _ (List.getElem_mem hj)
          have h2:tr.inn[j].toNat<d.pl.length:=by omega
          simp (maxSteps:=2000000) (disch:=first|omega|(simp only[lenS];try omega)) only[go_sem,reduceAdd,reduceEqDiff,reduceLeDiff,reduceSub]
          refine⟨fun h=>?_,fun h=>⟨fun h3=>?_,fun h3=>?_⟩⟩
          · rw[z3b hj h];rfl
          · rw[z39 hj (by rw[←zig h2];exact h3)];rfl
          · rw[z3e hj h (by rw[←zig h2];exact h3)];rfl
        · rintro s rfl
          have hkd:k<d.tr.length:=by omega
          simp (maxSteps:=2000000) (disch:=first|omega|(simp only[lenS];try omega)) only[go_sem,reduceAdd,reduceEqDiff,reduceLeDiff,reduceSub,List.take_length]
          refine⟨fun h=>⟨fun h3=>?_,fun h3=>?_⟩,fun h=>?_⟩
          · rw[s1 (by rw[←zig hkd];exact h3)];rfl
          · have e:=s3 (by rw[←zig hkd];exact h3) h
            subst e
            refine W_for tr.out.length (fun j s=>s=⟨[.any,.any,.ptr 0 0,.any,.any,.ref 1 1 0 n.pl.toNat,.ref 2 1 0 n.tr.length,.bool true,.any,.any,.any,.any,.any,.any,trs n.tr,I n.tr.length,I k,.any,.any,.any,.any,.any,.any,ints tr.out,I tr.out.length,I j,.any],[.box wgx [I n.pl,trs n.tr],.row wgu true 1 ((markB d.pl (tr.out.take j)).map PV.bool),.row wgu true 1 ((d.tr.set k true).map PV.bool)]⟩) ?_ ?_ ?_
            · simp (maxSteps:=2000000) (disch:=first|omega|(simp only[lenS];try omega)) only[go_sem,reduceAdd,reduceEqDiff,reduceLeDiff,reduceSub]
              rfl
            · rintro j s hj rfl
              have h1:=p2 _ (List.getElem_mem hj)
              have h2:tr.out[j].toNat<d.pl.length:=by omega
              have h4:=zrx d.pl (tr.out.take j)
              simp (maxSteps:=2000000) (disch:=first|omega|(simp only[lenS];try omega)) only[go_sem,reduceAdd,reduceEqDiff,reduceLeDiff,reduceSub]
              rw[zry hj];rfl
            · rintro s rfl
              simp (maxSteps:=2000000) (disch:=first|omega|(simp only[lenS];try omega)) only[go_sem,reduceAdd,reduceEqDiff,reduceLeDiff,reduceSub,List.take_length]
              rfl
          · rw[s2 h];rfl
      · rintro s rfl
        simp (maxSteps:=2000000) (disch:=first|omega|(simp only[lenS];try omega)) only[go_sem,reduceAdd,reduceEqDiff,reduceLeDiff,reduceSub]
        have hn:=z9s (n:=n) (bk:=false) hc2
        rw[hc] at hn
        cases e:(z9n n false c).ch with
        | true =>
          have h1:=(z9j (n:=n) (bk:=false) (s:=c) (k:=n.tr.length) (by omega)).2 e
          simp only[e,if_true] at hn
          refine⟨cntF (z9n n false c).tr+1,by unfold z9n;omega,z9n n false c,by unfold z9n;have:=hcl n.tr.length;omega,by unfold z9n;have:=hcl n.tr.length;omega,.inl ⟨rfl,?_,hn.symm⟩⟩
          unfold z9n at e ⊢
          rw[e]
        | false =>
          simp only[e,Bool.false_eq_true,if_false] at hn
          refine⟨0,by omega,z9n n false c,by unfold z9n;have:=hcl n.tr.length;omega,by unfold z9n;have:=hcl n.tr.length;omega,.inr ⟨rfl,?_,hn.symm⟩⟩
          unfold z9n at e ⊢
          rw[e]
    · simp (maxSteps:=2000000) (disch:=first|omega|(simp only[lenS];try omega)) only[go_sem,reduceAdd,reduceEqDiff,reduceLeDiff,reduceSub]
theorem wgp(n:Net)(p:Int)(hg:goodN n=true)(hp:0≤p∧p<n.pl):C w9w [encN n,I p] []=some (.tup [.un wgu true 1 ((z132 n true p).pl.map PV.bool),.un wgu true 1 ((z132 n true p).tr.map PV.bool)],[]):=by
  have hb:=zja hg
  have hlen:=z135 n true p
  rw[z133] at hlen ⊢
  refine w2s ?_
  simp (maxSteps:=2000000) (disch:=first|omega|(simp only[lenS];try omega)) only[wer,go_sem,reduceAdd,reduceEqDiff,reduceLeDiff,reduceSub]
  simp (maxSteps:=2000000) (disch:=first|omega|(simp only[lenS];try omega)) only[go_sem,reduceAdd,reduceEqDiff,reduceLeDiff,reduceSub,List.getElem_replicate]
  generalize hR:clRun n true (cntF (List.replicate n.tr.length false)+1) ⟨(List.replicate n.pl.toNat false).set p.toNat true,List.replicate n.tr.length false,true⟩=R at *
  refine z1a (fun k s=>∃ c:Cl,c.pl.length=n.pl.toNat∧c.tr.length=n.tr.length∧((k=cntF c.tr+1∧s=⟨[.any,.any,.ptr 0 0,.any,.any,.ref 1 1 0 n.pl.toNat,.ref 2 1 0 n.tr.length,.bool true,.any,.any,.any,.any,.any,.any,.any,.any,.any,.any,.any,.any,.any,.any,.any,.any,.any,.any,.any],[.box wgx [I n.pl,trs n.tr],.row wgu true 1 (c.pl.map PV.bool),.row wgu true 1 (c.tr.map PV.bool)]⟩∧clRun n true (cntF c.tr+1) c=R)∨(k=0∧s=⟨[.any,.any,.ptr 0 0,.any,.any,.ref 1 1 0 n.pl.toNat,.ref 2 1 0 n.tr.length,.bool false,.any,.any,.any,.any,.any,.any,.any,.any,.any,.any,.any,.any,.any,.any,.any,.any,.any,.any,.any],[.box wgx [I n.pl,trs n.tr],.row wgu true 1 (c.pl.map PV.bool),.row wgu true 1 (c.tr.map PV.bool)]⟩∧c=R))) (cntF (List.replicate n.tr.length false)+1) ?_ ?_
  · refine⟨⟨(List.replicate n.pl.toNat false).set p.toNat true,List.replicate n.tr.length false,true⟩,by simp,by simp,.inl ⟨rfl,?_,hR⟩⟩
    simp (maxSteps:=2000000) (disch:=first|omega|(simp only[lenS];try omega)) only[go_sem,reduceAdd,reduceEqDiff,reduceLeDiff,reduceSub]
    simp
  · rintro k0 s ⟨c,hc1,hc2,⟨rfl,rfl,hc⟩ | ⟨rfl,rfl,rfl⟩⟩
    · have hcl:=fun k=>z9k n true c k
      simp (maxSteps:=2000000) (disch:=first|omega|(simp only[lenS];try omega)) only[go_sem,reduceAdd,reduceEqDiff,reduceLeDiff,reduceSub]
      refine W_for n.tr.length (fun k s=>s=⟨[.any,.any,.ptr 0 0,.any,.any,.ref 1 1 0 n.pl.toNat,.ref 2 1 0 n.tr.length,.bool (clK n true c k).ch,.any,.any,.any,.any,.any,.any,trs n.tr,I n.tr.length,I k,.any,.any,.any,.any,.any,.any,.any,.any,.any,.any],[.box wgx [I n.pl,trs n.tr],.row wgu true 1 ((clK n true c k).pl.map PV.bool),.row wgu true 1 ((clK n true c k).tr.map PV.bool)]⟩) ?_ ?_ ?_
      · simp (maxSteps:=2000000) (disch:=first|omega|(simp only[lenS];try omega)) only[go_sem,reduceAdd,reduceEqDiff,reduceLeDiff,reduceSub]
        rfl
      · rintro k s hk rfl
        have hT:=hb.2.2.2 _ (List.getElem_mem hk)
        have hLs:=zjg hT (by omega)
        obtain⟨_,g1,g2,g3⟩:=zjk hT
        have p1:=z111 g2
        have p2:=z111 g1
        have hd:=hcl k
        have hstep:=z9m n true c k
        have htr:n.tr[k]=trN n k:=(z1f3 hk).symm
        rw[htr] at hLs p1 p2
        have s1:(clK n true c k).tr.getD k false=true→clK n true c (k+1)=clK n true c k:=fun h=>hstep.trans (z9w (.inl h))
        have s2:hitB (clK n true c k).pl (sideI true (trN n k))=false→clK n true c (k+1)=clK n true c k:=fun h=>hstep.trans (z9w (.inr h))
        have s3:(clK n true c k).tr.getD k false=false→hitB (clK n true c k).pl (sideI true (trN n k))=true→clK n true c (k+1)=⟨markB (clK n true c k).pl (sideO true (trN n k)),(clK n true c k).tr.set k true,true⟩:=fun h h2=>hstep.trans (z9x h h2)
        simp only[sideI,sideO,Bool.false_eq_true,if_false,if_true] at s2 s3
        clear hstep
        generalize clK n true c k=d at *
        generalize clK n true c (k+1)=d' at *
        simp (maxSteps:=2000000) (disch:=first|omega|(simp only[lenS];try omega)) only[go_sem,reduceAdd,reduceEqDiff,reduceLeDiff,reduceSub]
        simp only[htr]
        generalize trN n k=tr at *
        refine W_for tr.out.length (fun j s=>s=⟨[.any,.any,.ptr 0 0,.any,.any,.ref 1 1 0 n.pl.toNat,.ref 2 1 0 n.tr.length,.bool d.ch,I k,.ptr 3 0,.bool ((tr.out.take j).any fun p=>d.pl.getD p.toNat false),.any,.any,.any,trs n.tr,I n.tr.length,I k,.any,ints tr.out,I tr.out.length,I j,.any,.any,.any,.any,.any,.any],[.box wgx [I n.pl,trs n.tr],.row wgu true 1 (d.pl.map PV.bool),.row wgu true 1 (d.tr.map PV.bool),.box wgz [ints tr.inn,ints tr.out,ints tr.rst]]⟩) ?_ ?_ ?_
        · simp (maxSteps:=2000000) (disch:=first|omega|(simp only[lenS];try omega)) only[go_sem,reduceAdd,reduceEqDiff,reduceLeDiff,reduceSub]
          rfl
        · rintro j s hj rfl
          have h1:=p1 _ (List.getElem_mem hj)
          have h2:tr.out[j].toNat<d.pl.length:=by omega
          simp (maxSteps:=2000000) (disch:=first|omega|(simp only[lenS];try omega)) only[go_sem,reduceAdd,reduceEqDiff,reduceLeDiff,reduceSub]
          refine⟨fun h=>?_,fun h=>⟨fun h3=>?_,fun h3=>?_⟩⟩
          · rw[z3b hj h];rfl
          · rw[z39 hj (by rw[←zig h2];exact h3)];rfl
          · rw[z3e hj h (by rw[←zig h2];exact h3)];rfl
        · rintro s rfl
          have hkd:k<d.tr.length:=by omega
          simp (maxSteps:=2000000) (disch:=first|omega|(simp only[lenS];try omega)) only[go_sem,reduceAdd,reduceEqDiff,reduceLeDiff,reduceSub,List.take_length]
          refine⟨fun h=>⟨fun h3=>?_,fun h3=>?_⟩,fun h=>?_⟩
          · rw[s1 (by rw[←zig hkd];exact h3)];rfl
          · have e:=s3 (by rw[←zig hkd];exact h3) h
            subst e
            refine W_for tr.inn.length (fun j s=>s=⟨[.any,.any,.ptr 0 0,.any,.any,.ref 1 1 0 n.pl.toNat,.ref 2 1 0 n.tr.length,.bool true,.any,.any,.any,.any,.any,.any,trs n.tr,I n.tr.length,I k,.any,.any,.any,.any,.any,.any,ints tr.inn,I tr.inn.length,I j,.any],[.box wgx [I n.pl,trs n.tr],.row wgu true 1 ((markB d.pl (tr.inn.take j)).map PV.bool),.row wgu true 1 ((d.tr.set k true).map PV.bool)]⟩) ?_ ?_ ?_
            · simp (maxSteps:=2000000) (disch:=first|omega|(simp only[lenS];try omega)) only[go_sem,reduceAdd,reduceEqDiff,reduceLeDiff,reduceSub]
              rfl
            · rintro j s hj rfl
              have h1:=p2 _ (List.getElem_mem hj)
              have h2:tr.inn[j].toNat<d.pl.length:=by omega
              have h4:=zrx d.pl (tr.inn.take j)
              simp (maxSteps:=2000000) (disch:=first|omega|(simp only[lenS];try omega)) only[go_sem,reduceAdd,reduceEqDiff,reduceLeDiff,reduceSub]
              rw[zry hj];rfl
            · rintro s rfl
              simp (maxSteps:=2000000) (disch:=first|omega|(simp only[lenS];try omega)) only[go_sem,reduceAdd,reduceEqDiff,reduceLeDiff,reduceSub,List.take_length]
              rfl
          · rw[s2 h];rfl
      · rintro s rfl
        simp (maxSteps:=2000000) (disch:=first|omega|(simp only[lenS];try omega)) only[go_sem,reduceAdd,reduceEqDiff,reduceLeDiff,reduceSub]
        have hn:=z9s (n:=n) (bk:=true) hc2
        rw[hc] at hn
        cases e:(z9n n true c).ch with
        | true =>
          have h1:=(z9j (n:=n) (bk:=true) (s:=c) (k:=n.tr.length) (by omega)).2 e
          simp only[e,if_true] at hn
          refine⟨cntF (z9n n true c).tr+1,by unfold z9n;omega,z9n n true c,by unfold z9n;have:=hcl n.tr.length;omega,by unfold z9n;have:=hcl n.tr.length;omega,.inl ⟨rfl,?_,hn.symm⟩⟩
          unfold z9n at e ⊢
          rw[e]
        | false =>
          simp only[e,Bool.false_eq_true,if_false] at hn
          refine⟨0,by omega,z9n n true c,by unfold z9n;have:=hcl n.tr.length;omega,by unfold z9n;have:=hcl n.tr.length;omega,.inr ⟨rfl,?_,hn.symm⟩⟩
          unfold z9n at e ⊢
          rw[e]
    · simp (maxSteps:=2000000) (disch:=first|omega|(simp only[lenS];try omega)) only[go_sem,reduceAdd,reduceEqDiff,reduceLeDiff,reduceSub]
theorem wgq(a b:List Bool)(ha:a.length<2^30)(hab:a.length≤b.length):C w9x [bls a,bls b] []=some (.un t_int true 1 ((bothL a b).map I),[]):=by
 refine w2t ?_
 simp (maxSteps:=2000000) (disch:=first|omega|(simp only[lenS];try omega)) only[wes,go_sem,reduceAdd,reduceEqDiff,reduceLeDiff,reduceSub]
 refine W_for a.length (fun k s=>s=⟨[bls a,bls b,.any,.ref 0 1 0 (bothK a b k).length,.any,I a.length,I k,.any,.any],[.row t_int true 1 ((bothK a b k).map I)]⟩) ?_ ?_ ?_
 ·simp (maxSteps:=2000000) (disch:=first|omega|(simp only[lenS];try omega)) only[go_sem,reduceAdd,reduceEqDiff,reduceLeDiff,reduceSub]
  rfl
 ·rintro k s hk rfl
  have h2:=z72 a b k
  have hkb:k<b.length:=by omega
  have e1:=zig hk
  have e2:=zig hkb
  simp (maxSteps:=2000000) (disch:=first|omega|(simp only[lenS];try omega)) only[go_sem,reduceAdd,reduceEqDiff,reduceLeDiff,reduceSub]
  rw[e1,e2]
  refine⟨fun h=>⟨fun h3=>?_,fun h3=>?_⟩,fun h=>?_⟩
  ·rw[z73 h h3,List.map_append];simp
  ·rw[z71 (by rw[h,h3];rfl)];rfl
  ·rw[z71 (by rw[h];rfl)];rfl
 ·rintro s rfl
  simp (maxSteps:=2000000) (disch:=first|omega|(simp only[lenS];try omega)) only[go_sem,reduceAdd,reduceEqDiff,reduceLeDiff,reduceSub]
  rfl
theorem wfu(n:Net)(a b:Int)(hn:smN n):C w95 [encN n,I a,I b] []=some (.tup [.un t_int true 1 ((if okWay n a b then wayP n a b else []).map I),.un t_int true 1 ((if okWay n a b then wayT n a b else []).map I),.bool (okWay n a b)],[]):=by
  refine w28 ?_
  simp (maxSteps:=2000000) (disch:=first|omega|(simp only[lenS];try omega)) only[we0,go_sem,reduceAdd,reduceEqDiff,reduceLeDiff,reduceSub]
  simp (maxSteps:=2000000) (disch:=first|omega|(simp only[lenS];try omega)) only[go_sem,reduceAdd,reduceEqDiff,reduceLeDiff,reduceSub,wft n hn,wgd]
  cases hg:goodN n with
  | false=>simp [okWay,hg]
  | true =>
    have hb:=zja hg
    cases h1:inB 0 (n.pl-1) a with
    | false=>simp (maxSteps:=2000000) (disch:=first|omega|(simp only[lenS];try omega)) only[go_sem,reduceAdd,reduceEqDiff,reduceLeDiff,reduceSub,h1];simp [okWay,hg,h1]
    | true =>
      cases h2:inB 0 (n.pl-1) b with
      | false=>simp (maxSteps:=2000000) (disch:=first|omega|(simp only[lenS];try omega)) only[go_sem,reduceAdd,reduceEqDiff,reduceLeDiff,reduceSub,h1,h2];simp [okWay,hg,h1,h2]
      | true =>
        have hok:okWay n a b=true:=by simp [okWay,hg,h1,h2]
        have ha:0≤a∧a<n.pl:=by simp [inB] at h1;omega
        have hb2:0≤b∧b<n.pl:=by simp [inB] at h2;omega
        have l1:=z135 n false a
        have l2:=z135 n true b
        simp (maxSteps:=2000000) (disch:=first|omega|(simp only[lenS];try omega)) only[go_sem,reduceAdd,reduceEqDiff,reduceLeDiff,reduceSub,h1,h2,wgr n a hg ha,wgp n b hg hb2,hok]
        simp (maxSteps:=2000000) (disch:=first|omega|(simp only[lenS];try omega)) only[go_sem,reduceAdd,reduceEqDiff,reduceLeDiff,reduceSub,wgq (z132 n false a).pl (z132 n true b).pl (by omega) (by omega),wgq (z132 n false a).tr (z132 n true b).tr (by omega) (by omega)]
        rfl
theorem wfr(f:Fl)(hf:smN f.net):C w93 [encF f] []=some (.bool (ziu f),[]):=by
  have hl:=hf.1
  have hw:=wfu f.net f.src f.dst hf
  have hP:(wayP f.net f.src f.dst).length<2^62∨goodN f.net=false:=by
    cases hg:goodN f.net with
    | false=>exact .inr rfl
    | true =>
      have:=zja hg
      have h1:=z72 (z132 f.net false f.src).pl (z132 f.net true f.dst).pl (z132 f.net false f.src).pl.length
      have h2:=z135 f.net false f.src
      exact .inl (by unfold wayP bothL;omega)
  have hT:(wayT f.net f.src f.dst).length<2^62:=by
    have h1:=z72 (z132 f.net false f.src).tr (z132 f.net true f.dst).tr (z132 f.net false f.src).tr.length
    have h2:=z135 f.net false f.src
    unfold wayT bothL;omega
  refine w26 ?_
  simp (maxSteps:=2000000) (disch:=first|omega|(simp only[lenS];try omega)) only[wdy,go_sem,reduceAdd,reduceEqDiff,reduceLeDiff,reduceSub]
  cases hok:okWay f.net f.src f.dst with
  | false =>
    simp only[hok] at hw
    simp (maxSteps:=2000000) (disch:=first|omega|(simp only[lenS];try omega)) only[go_sem,reduceAdd,reduceEqDiff,reduceLeDiff,reduceSub,hw]
    simp [ziu,hok]
  | true =>
    have hg:goodN f.net=true:=by simp only[okWay,Bool.and_eq_true] at hok;exact hok.1.1
    have hb:=zja hg
    have hP:(wayP f.net f.src f.dst).length<2^62:=by
      rcases hP with h | h
      · exact h
      · rw[hg] at h;cases h
    simp only[hok,if_true] at hw
    simp (maxSteps:=2000000) (disch:=first|omega|(simp only[lenS];try omega)) only[go_sem,reduceAdd,reduceEqDiff,reduceLeDiff,reduceSub,hw]
    refine⟨fun h=>by simp [ziu,h],fun h=>⟨fun h2=>by simp [ziu,h2],fun h2=>⟨fun h3=>?_,fun h3=>?_⟩⟩⟩
    · have:¬(wayT f.net f.src f.dst).length=f.net.tr.length:=by omega
      simp [ziu,this]
    refine W_for f.net.tr.length (fun k s=>s=⟨[.any,.ptr 0 0,.any,.any,.any,.any,.any,.any,trs f.net.tr,I f.net.tr.length,I k,.any,.any],[.box wgw [I f.net.pl,trs f.net.tr,I f.src,I f.dst]]⟩∧(f.net.tr.take k).all (fun t=>!z1bp f t)=true) ?_ ?_ ?_
    · simp (maxSteps:=2000000) (disch:=first|omega|(simp only[lenS];try omega)) only[go_sem,reduceAdd,reduceEqDiff,reduceLeDiff,reduceSub]
      rfl
    · rintro k s hk ⟨rfl,hall⟩
      have hT:=hb.2.2.2 _ (List.getElem_mem hk)
      have hLs:=zjg hT (by omega)
      simp (maxSteps:=2000000) (disch:=first|omega|(simp only[lenS];try omega)) only[go_sem,reduceAdd,reduceEqDiff,reduceLeDiff,reduceSub,wgc]
      have gs:z1bp f f.net.tr[k]=true→ziu f=false:=fun hs=>by
        have:(f.net.tr.all fun t=>!z1bp f t)=false:=z2y hk (by simp [hs])
        simp [ziu,this]
      exact⟨fun a=>by rw[gs (by simp [z1bp,a])],fun a=>⟨fun b=>by rw[gs (by simp [z1bp,b])],fun b=>⟨fun c=>by rw[gs (by simp [z1bp,c])],fun c=>⟨fun d=>by rw[gs (by simp [z1bp,d])],fun d=>⟨rfl,z2z hk hall (by simp [z1bp,a,b,c,d])⟩⟩⟩⟩⟩
    · rintro s ⟨rfl,hall⟩
      simp (maxSteps:=2000000) (disch:=first|omega|(simp only[lenS];try omega)) only[go_sem,reduceAdd,reduceEqDiff,reduceLeDiff,reduceSub]
      rw[List.take_length] at hall
      have h4:(wayT f.net f.src f.dst).length=f.net.tr.length:=by omega
      simp [ziu,hok,h,h2,h4]
      simpa using hall
theorem wgn(n:Net)(hl:n.tr.length<2^62):C w9u [encN n] []=some (.bool (hasR n),[]):=by
 refine w2q ?_
 simp (maxSteps:=2000000) (disch:=first|omega|(simp only[lenS];try omega)) only[wep,go_sem,reduceAdd,reduceEqDiff,reduceLeDiff,reduceSub]
 refine W_for n.tr.length (fun k s=>s=⟨[.any,.any,.any,.any,trs n.tr,I n.tr.length,I k,.any,.any],[]⟩∧(n.tr.take k).any (fun t=>decide (0<t.rst.length))=false) ?_ ?_ ?_
 ·simp (maxSteps:=2000000) (disch:=first|omega|(simp only[lenS];try omega)) only[go_sem,reduceAdd,reduceEqDiff,reduceLeDiff,reduceSub]
  rfl
 ·rintro k s hk ⟨rfl,hall⟩
  simp (maxSteps:=2000000) (disch:=first|omega|(simp only[lenS];try omega)) only[go_sem,reduceAdd,reduceEqDiff,reduceLeDiff,reduceSub]
  refine⟨fun h=>?_,fun h=>⟨rfl,z3e hk hall (decide_eq_false (by omega))⟩⟩
  have:hasR n=true:=z3f hk (decide_eq_true (by omega))
  rw[this]
 ·rintro s ⟨rfl,hall⟩
  simp (maxSteps:=2000000) (disch:=first|omega|(simp only[lenS];try omega)) only[go_sem,reduceAdd,reduceEqDiff,reduceLeDiff,reduceSub]
  rw[List.take_length] at hall
  unfold hasR;rw[hall]
theorem wfw(f:Fl)(hn:smN f.net):C w97 [encF f] []=some (.bool (okRed f),[]):=by
  have hG:=wfr f hn
  have hl:=hn.1
  have hR:=wgn f.net (by omega)
  unfold encF at hG
  refine w2a ?_
  simp (maxSteps:=2000000) (disch:=first|omega|(simp only[lenS];try omega)) only[we2,go_sem,reduceAdd,reduceEqDiff,reduceLeDiff,reduceSub]
  cases hg:ziu f with
  | false =>
    simp (maxSteps:=2000000) (disch:=first|omega|(simp only[lenS];try omega)) only[go_sem,reduceAdd,reduceEqDiff,reduceLeDiff,reduceSub,hG,hg]
    simp [okRed,hg]
  | true =>
    simp (maxSteps:=2000000) (disch:=first|omega|(simp only[lenS];try omega)) only[go_sem,reduceAdd,reduceEqDiff,reduceLeDiff,reduceSub,hG,hg,hR]
    simp [okRed,hg]
theorem wgl(n:Net)(p:Int)(hg:goodN n=true):C w9s [encN n,I p] []=some (.un t_int true 1 ((idxL (fun t=>hasB t.out p) n).map I),[]):=by
 have hb:=zja hg
 refine w2o ?_
 simp (maxSteps:=2000000) (disch:=first|omega|(simp only[lenS];try omega)) only[wen,go_sem,reduceAdd,reduceEqDiff,reduceLeDiff,reduceSub]
 refine W_for n.tr.length (fun k s=>s=⟨[.any,I p,.any,.any,.ref 0 1 0 (idxK (fun t=>hasB t.out p) n k).length,.any,.any,trs n.tr,I n.tr.length,I k,.any,.any],[.row t_int true 1 ((idxK (fun t=>hasB t.out p) n k).map I)]⟩) ?_ ?_ ?_
 ·simp (maxSteps:=2000000) (disch:=first|omega|(simp only[lenS];try omega)) only[go_sem,reduceAdd,reduceEqDiff,reduceLeDiff,reduceSub]
  rfl
 ·rintro k s hk rfl
  have h2:=zki (fun t=>hasB t.out p) n k
  have h3:=zjg (hb.2.2.2 _ (List.getElem_mem hk)) (by omega)
  simp (maxSteps:=2000000) (disch:=first|omega|(simp only[lenS];try omega)) only[go_sem,reduceAdd,reduceEqDiff,reduceLeDiff,reduceSub,wgc]
  refine⟨fun h=>?_,fun h=>?_⟩
  ·rw[zkj hk h,List.map_append];simp
  ·rw[zkh hk h];rfl
 ·rintro s rfl
  simp (maxSteps:=2000000) (disch:=first|omega|(simp only[lenS];try omega)) only[go_sem,reduceAdd,reduceEqDiff,reduceLeDiff,reduceSub]
  rfl
theorem wgo(n:Net)(p:Int)(hg:goodN n=true):C w9v [encN n,I p] []=some (.un t_int true 1 ((idxL (fun t=>hasB t.inn p) n).map I),[]):=by
 have hb:=zja hg
 refine w2r ?_
 simp (maxSteps:=2000000) (disch:=first|omega|(simp only[lenS];try omega)) only[weq,go_sem,reduceAdd,reduceEqDiff,reduceLeDiff,reduceSub]
 refine W_for n.tr.length (fun k s=>s=⟨[.any,I p,.any,.any,.ref 0 1 0 (idxK (fun t=>hasB t.inn p) n k).length,.any,.any,trs n.tr,I n.tr.length,I k,.any,.any],[.row t_int true 1 ((idxK (fun t=>hasB t.inn p) n k).map I)]⟩) ?_ ?_ ?_
 ·simp (maxSteps:=2000000) (disch:=first|omega|(simp only[lenS];try omega)) only[go_sem,reduceAdd,reduceEqDiff,reduceLeDiff,reduceSub]
  rfl
 ·rintro k s hk rfl
  have h2:=zki (fun t=>hasB t.inn p) n k
  have h3:=zjg (hb.2.2.2 _ (List.getElem_mem hk)) (by omega)
  simp (maxSteps:=2000000) (disch:=first|omega|(simp only[lenS];try omega)) only[go_sem,reduceAdd,reduceEqDiff,reduceLeDiff,reduceSub,wgc]
  refine⟨fun h=>?_,fun h=>?_⟩
  ·rw[zkj hk h,List.map_append];simp
  ·rw[zkh hk h];rfl
 ·rintro s rfl
  simp (maxSteps:=2000000) (disch:=first|omega|(simp only[lenS];try omega)) only[go_sem,reduceAdd,reduceEqDiff,reduceLeDiff,reduceSub]
  rfl
theorem wg1(f:Fl)(p:Int):C w9c [encF f,I p] []=some (.bool (zmq f p),[]):=by
 refine w2f ?_
 simp (maxSteps:=2000000) (disch:=first|omega|(simp only[lenS];try omega)) only[we7,go_sem,reduceAdd,reduceEqDiff,reduceLeDiff,reduceSub]
 unfold zmq
 grind
theorem wgm(a b:List Int)(ha:a.length<2^62)(hb:b.length<2^62):C w9t [ints a,ints b] []=some (.bool (meetB a b),[]):=by
 refine w2p ?_
 simp (maxSteps:=2000000) (disch:=first|omega|(simp only[lenS];try omega)) only[weo,go_sem,reduceAdd,reduceEqDiff,reduceLeDiff,reduceSub]
 refine W_for a.length (fun k s=>s=⟨[.any,ints b,.any,.any,ints a,I a.length,I k,.any,.any],[]⟩∧(a.take k).any (hasB b)=false) ?_ ?_ ?_
 ·simp (maxSteps:=2000000) (disch:=first|omega|(simp only[lenS];try omega)) only[go_sem,reduceAdd,reduceEqDiff,reduceLeDiff,reduceSub]
  rfl
 ·rintro k s hk ⟨rfl,hall⟩
  simp (maxSteps:=2000000) (disch:=first|omega|(simp only[lenS];try omega)) only[go_sem,reduceAdd,reduceEqDiff,reduceLeDiff,reduceSub,wgc]
  refine⟨fun h=>?_,fun h=>⟨rfl,z3e hk hall h⟩⟩
  have:meetB a b=true:=z3f hk h
  rw[this]
 ·rintro s ⟨rfl,hall⟩
  simp (maxSteps:=2000000) (disch:=first|omega|(simp only[lenS];try omega)) only[go_sem,reduceAdd,reduceEqDiff,reduceLeDiff,reduceSub]
  rw[List.take_length] at hall
  unfold meetB;rw[hall]
theorem wge(l:List Int)(h:l.length<2^36):C w9n [ints l] []=some (.un t_int true 1 (l.map I),[]):=by
 refine w2j ?_
 simp (maxSteps:=2000000) (disch:=first|omega|(simp only[lenS];try omega)) only[wei,go_sem,reduceAdd,reduceEqDiff,reduceLeDiff,reduceSub]
theorem wgs(n:Net)(hg:goodN n=true)(h0:n.tr≠[]):C w9z [encN n] []=some (.agg [I n.pl,.un wgz false 3 (n.tr.map encT)],[]):=by
 have hb:=zja hg
 have hl:0<n.tr.length:=List.length_pos_iff.2 h0
 refine w2v ?_
 simp (maxSteps:=2000000) (disch:=first|omega|(simp only[lenS];try omega)) only[weu,go_sem,reduceAdd,reduceEqDiff,reduceLeDiff,reduceSub]
 refine W_for n.tr.length (fun k s=>(s=⟨[.any,.any,.ptr 0 0,.ptr 1 0,.any,trs n.tr,I n.tr.length,I k,.any],[.box wgx [I 0,.nil false 3],.box wgx [I n.pl,.nil false 3]]⟩∧k=0)∨(s=⟨[.any,.any,.ptr 0 0,.ptr 1 0,.any,trs n.tr,I n.tr.length,I k,.any],[.box wgx [I 0,.nil false 3],.box wgx [I n.pl,.ref 2 3 0 k],.row wgz false 3 ((n.tr.take k).map encT)]⟩∧0<k)) ?_ ?_ ?_
 ·refine .inl ⟨?_,rfl⟩
  simp (maxSteps:=2000000) (disch:=first|omega|(simp only[lenS];try omega)) only[go_sem,reduceAdd,reduceEqDiff,reduceLeDiff,reduceSub]
  rfl
 ·rintro k s hk (⟨rfl,rfl⟩ | ⟨rfl,h1⟩)
  ·have hT:=zjg (hb.2.2.2 _ (List.getElem_mem hk)) (by omega)
   simp (maxSteps:=2000000) (disch:=first|omega|(simp only[lenS];try omega)) only[go_sem,reduceAdd,reduceEqDiff,reduceLeDiff,reduceSub,wge]
   refine⟨rfl,?_,by omega⟩
   rw[z1ek (k:=0) hk];rfl
  ·have hT:=zjg (hb.2.2.2 _ (List.getElem_mem hk)) (by omega)
   simp (maxSteps:=2000000) (disch:=first|omega|(simp only[lenS];try omega)) only[go_sem,reduceAdd,reduceEqDiff,reduceLeDiff,reduceSub,wge]
   refine⟨rfl,?_⟩
   rw[z1ek hk,List.map_append];rfl
 ·rintro s (⟨rfl,hk⟩ | ⟨rfl,hk⟩)
  ·omega
  ·simp (maxSteps:=2000000) (disch:=first|omega|(simp only[lenS];try omega)) only[go_sem,reduceAdd,reduceEqDiff,reduceLeDiff,reduceSub,List.take_length]
theorem wgt(a b:List Int)(ha:a.length<2^30)(hb:b.length<2^62):C wa0 [ints a,ints b] []=some (.un t_int true 1 ((wout a b).map I),[]):=by
 refine w2w ?_
 simp (maxSteps:=2000000) (disch:=first|omega|(simp only[lenS];try omega)) only[wev,go_sem,reduceAdd,reduceEqDiff,reduceLeDiff,reduceSub]
 refine W_for a.length (fun k s=>s=⟨[.any,ints b,.any,.ref 0 1 0 (wout (a.take k) b).length,.any,ints a,I a.length,I k,.any,.any],[.row t_int true 1 ((wout (a.take k) b).map I)]⟩) ?_ ?_ ?_
 ·simp (maxSteps:=2000000) (disch:=first|omega|(simp only[lenS];try omega)) only[go_sem,reduceAdd,reduceEqDiff,reduceLeDiff,reduceSub]
  rfl
 ·rintro k s hk rfl
  have h1:(wout (a.take k) b).length≤(a.take k).length:=List.length_filter_le _ _
  have h2:(a.take k).length≤k:=by simp;omega
  simp (maxSteps:=2000000) (disch:=first|omega|(simp only[lenS];try omega)) only[go_sem,reduceAdd,reduceEqDiff,reduceLeDiff,reduceSub,wgc]
  refine⟨fun h=>?_,fun h=>?_⟩
  ·rw[show wout (a.take (k+1)) b=wout (a.take k) b by simp only[wout];rw[z1ek hk,List.filter_append];simp [List.filter_cons,h]];rfl
  ·rw[show wout (a.take (k+1)) b=wout (a.take k) b++[a[k]] by simp only[wout];rw[z1ek hk,List.filter_append];simp [List.filter_cons,h],List.map_append];simp
 ·rintro s rfl
  simp (maxSteps:=2000000) (disch:=first|omega|(simp only[lenS];try omega)) only[go_sem,reduceAdd,reduceEqDiff,reduceLeDiff,reduceSub,List.take_length]
end Go.Proofs.YtbaclnecajkknaaGreat.Pi

