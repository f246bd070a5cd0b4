/- The functions that the law reaches: what they answer. Conditions: those that each theorem names. -/
import Derived.Test.YtbaclnecajkknaaGreatIrFnSound
import Derived.Test.YtbaclnecajkknaaGreatPlFnSound
open Nat renaming reduceAdd->P'k,reduceEqDiff->C',reduceLeDiff->D',reduceSub->E',zero_add->M'6
open List renaming replicate->L'0,getElem_mem->P'l,take_length->M'i,length_append->L'x,length_cons->M'2,length_nil->M'7,map_set->R'2,map_append->M'r,getElem?_eq_getElem->L'v,getElem_replicate->R'3,map_nil->R'4,mem_of_mem_take->R'5,getElem_cons_zero->Q'n,map_cons->M'n,nil_append->M'3,take_of_length_le->L'e,length_take->L'w,length_replicate->M'j,any_eq_not_all_not->R'9,length_pos_iff->M'5,length_reverse->R'a
open Bool renaming false_eq_true->M'w,and_eq_true->L'c
open Int renaming toNat_natCast->P'm,toNat_zero->R'6,tmod_nonneg->R'7,tmod_lt_of_pos->R'8
namespace Go.Proofs.YtbaclnecajkknaaGreat.Pi
open Go
set_option linter.all false
set_option maxHeartbeats 4000000
set_option maxRecDepth 20000
/-- Lengths, all at once. -/
theorem H':(∀{α:Type}(a b:List α),(a++b).length=a.length+b.length)/\(∀{α:Type}(n:Nat)(l:List α),(l.take n).length=min n l.length)/\(∀{α:Type}(n:Nat)(x:α),(L'0 n x).length=n)/\(∀{α β:Type}(f:α->β)(l:List α),(l.map f).length=l.length)/\(∀{α:Type}(l:List α)(n:Nat)(x:α),(l.set n x).length=l.length)/\(∀{α:Type}(x:α)(l:List α),(x::l).length=l.length+1)/\(∀{α:Type},([]:List α).length=0)/\(∀{α β γ:Type}(f:α->β->γ)(a:List α)(b:List β),(List.zipWith f a b).length=min a.length b.length)/\(∀{α:Type}(n:Nat)(l:List α),(l.drop n).length=l.length-n)/\(∀(n:Nat),(List.range n).length=n):=
⟨fun _ _=>L'x,fun _ _=>L'w,fun _ _=>M'j,fun _ _=>List.length_map _,fun _ _ _=>List.length_set,fun _ _=>M'2,M'7,fun _ _ _=>List.length_zipWith,fun _ _=>List.length_drop,fun _=>List.length_range⟩
theorem wik(a b:List Int):C wa4 [bys a,bys b] []=some (.bool (decide (1048576<(a.length:Int))||decide (1048576-(a.length:Int)<b.length)),[]):=by
 refine w1k ?_
 simp(maxSteps:=9^9)(disch:=first|omega|(simp only[H'];try omega))only[wg2,go_sem,P'k,C',D',E']
 refine⟨fun h=>by simp[h],fun h=>?_⟩
 simp(maxSteps:=9^9)(disch:=first|omega|(simp only[H'];try omega))only[go_sem,P'k,C',D',E']
 grind
theorem wkb(bs:List Int)(at_ sd:Int)(h0:0<=at_)(h1:at_<2^62)(hl:bs.length<2^62)(hb:∀x∈bs,0<=x/\x<256) :
  Lw (C wbv [.ptr 0 0] [.box wlg [bys bs,I at_,.int .u64 sd]]) fun r=>∃x sd',r=(I x,[.box wlg [bys bs,I (at_+1),.int .u64 sd']])/\0<=x/\x<256:=by
 refine w3v ?_
 simp(maxSteps:=9^9)(disch:=first|omega|(simp only[H'];try omega))only[whr,go_sem,P'k,C',D',E']
 refine⟨fun h=>?_,fun h=>?_⟩
 ·have h2:at_.toNat<bs.length:=by omega
  have h3:=hb _ (P'l h2)
  simp(maxSteps:=9^9)(disch:=first|omega|(simp only[H'];try omega))only[go_sem,P'k,C',D',E']
  exact⟨_,_,rfl,h3⟩
 ·refine⟨fun _=>⟨_,_,rfl,by omega,by omega⟩,fun _=>?_⟩
  generalize hw:IntKind.u64.wrap (IntKind.u64.wrap (IntKind.u64.wrap (sd*6364136223846793005)+IntKind.u64.wrap 0)+1442695040888963407)=w
  have hb:=z1gj (IntKind.u64.wrap (IntKind.u64.wrap (sd*6364136223846793005)+IntKind.u64.wrap 0)+1442695040888963407)
  rw[hw]at hb
  have h3:=z31 (x:=w/2^min (Int.toNat 40) 64) (Int.ediv_nonneg hb.1 (by decide)) (Int.lt_of_le_of_lt (Int.ediv_le_self _ hb.1) hb.2)
  rw[wrap_i64 (by omega) (by omega)]
  exact⟨_,_,rfl,h3⟩
theorem wkd(n:Int)(bs:List Int)(at_ sd:Int)(h0:0<=at_)(h1:at_<2^61)(hl:bs.length<2^62)(hb:∀x∈bs,0<=x/\x<256) :
  Lw (C wbx [.ptr 0 0,I n] [.box wlg [bys bs,I at_,.int .u64 sd]]) fun r=>∃x at' sd',r=(I x,[.box wlg [bys bs,I at',.int .u64 sd']])/\at_<=at'/\at'<=at_+2/\0<=x/\(x=0\/x<n):=by
 refine w3x ?_
 simp(maxSteps:=9^9)(disch:=first|omega|(simp only[H'];try omega))only[wht,go_sem,P'k,C',D',E']
 refine⟨fun h=>⟨_,_,_,rfl,by omega,by omega,by omega,by omega⟩,fun h=>?_⟩
 obtain⟨_,e1,x1,s1,rfl,h3,h4⟩:=wkb bs at_ sd h0 (by omega) hl hb
 obtain⟨_,e2,x2,s2,rfl,h5,h6⟩:=wkb bs (at_+1) s1 (by omega) (by omega) hl hb
 simp(maxSteps:=9^9)(disch:=first|omega|(simp only[H'];try omega))only[go_sem,P'k,C',D',E',e1,e2]
 refine⟨fun _=>⟨_,_,_,rfl,by omega,by omega,R'7 _ (by omega),.inr (R'8 _ (by omega))⟩,fun _=>⟨_,_,_,rfl,by omega,by omega,R'7 _ (by omega),.inr (R'8 _ (by omega))⟩⟩
theorem wkl(l:List Int)(x:Int)(hl:l.length<2^30):Lw (C wc4 [.ref 0 1 0 l.length,I x] [.row t_int true 1 (l.map I)]) fun r=>r=(.un t_int true 1 ((putI l x).map I),[.row t_int true 1 (l.map I)])\/(r=(.ref 0 1 0 l.length,[.row t_int true 1 (l.map I)])/\putI l x=l):=by
 refine w40 ?_
 simp(maxSteps:=9^9)(disch:=first|omega|(simp only[H'];try omega))only[wi1,go_sem,P'k,C',D',E']
 refine W_for l.length (fun k s=>s=⟨[.ref 0 1 0 l.length,I x,.any,I k,.any,.any,.any],[.row t_int true 1 (l.map I)]⟩/\(l.take k).all (fun y=>decide (y<x))=true) ?_ ?_ ?_
 ·simp(maxSteps:=9^9)(disch:=first|omega|(simp only[H'];try omega))only[go_sem,P'k,C',D',E']
  rfl
 ·rintro k s hk⟨rfl,hall⟩
  simp(maxSteps:=9^9)(disch:=first|omega|(simp only[H'];try omega))only[go_sem,P'k,C',D',E']
  refine⟨fun h=>⟨rfl,z2z hk hall (by simpa using h)⟩,fun h=>⟨fun h2=>.inr (z12x hk hall h2),fun h2=>.inl ?_⟩⟩
  rw[z12y hall (fun _=>by omega) (by omega)]
  simp
 ·rintro s⟨rfl,hall⟩
  simp(maxSteps:=9^9)(disch:=first|omega|(simp only[H'];try omega))only[go_sem,P'k,C',D',E']
  have e:=z12y hall (fun h=>by omega) (by omega)
  refine⟨fun h=>.inl ?_,fun h=>.inl ?_⟩
  ·rw[e];simp
  ·have:l=[]:=List.eq_nil_of_length_eq_zero (by omega)
   subst this;rfl
theorem wkk(x:Int):C wc4 [.nil true 1,I x] []=some (.un t_int true 1 [I x],[]):=by
 refine w2u ?_
 simp(maxSteps:=9^9)(disch:=first|omega|(simp only[H'];try omega))only[wi1,go_sem,P'k,C',D',E']
 refine W_for 0 (fun k s=>s=⟨[.nil true 1,I x,.any,I 0,.any,.any,.any],[]⟩) ?_ ?_ ?_
 ·simp(maxSteps:=9^9)(disch:=first|omega|(simp only[H'];try omega))only[go_sem,P'k,C',D',E']
 ·intro k s hk;omega
 ·rintro s rfl
  simp(maxSteps:=9^9)(disch:=first|omega|(simp only[H'];try omega))only[go_sem,P'k,C',D',E']
theorem wkm(l:List Int)(x:Int)(hl:l.length<2^30):Lw (C wc4 [ints l,I x] []) fun r=>r=(.un t_int true 1 ((putI l x).map I),[])\/(r=(ints l,[])/\putI l x=l):=by
 refine w40 ?_
 simp(maxSteps:=9^9)(disch:=first|omega|(simp only[H'];try omega))only[wi1,go_sem,P'k,C',D',E']
 refine W_for l.length (fun k s=>s=⟨[ints l,I x,.any,I k,.any,.any,.any],[]⟩/\(l.take k).all (fun y=>decide (y<x))=true) ?_ ?_ ?_
 ·simp(maxSteps:=9^9)(disch:=first|omega|(simp only[H'];try omega))only[go_sem,P'k,C',D',E']
  rfl
 ·rintro k s hk⟨rfl,hall⟩
  simp(maxSteps:=9^9)(disch:=first|omega|(simp only[H'];try omega))only[go_sem,P'k,C',D',E']
  refine⟨fun h=>⟨rfl,z2z hk hall (by simpa using h)⟩,fun h=>⟨fun h2=>.inr (z12x hk hall h2),fun h2=>.inl ?_⟩⟩
  rw[z12y hall (fun _=>by omega) (by omega)]
  simp
 ·rintro s⟨rfl,hall⟩
  simp(maxSteps:=9^9)(disch:=first|omega|(simp only[H'];try omega))only[go_sem,P'k,C',D',E']
  have e:=z12y hall (fun h=>by omega) (by omega)
  refine .inl ?_
  rw[e];simp
theorem wka(bs:List Int)(hl:bs.length<2^62)(hb:∀x∈bs,0<=x/\x<256):∀d:Nat,
  (∀(D a b pl at_ sd:Int),D=d->0<=pl->pl<=13->0<=at_->at_+growC d<2^60->growT d<=1000 ->
   Lw (C wbu [.ptr 0 0,.ptr 1 0,I a,I b,I D] [.box wlg [bys bs,I at_,.int .u64 sd],.box wl9 [I pl,.nil false 3]]) fun r=>∃(pl':Int) (tr':List Tr) (at' sd':Int),r=(.tup [],[.box wlg [bys bs,I at',.int .u64 sd'],.box wl9 [I pl',.ref 2 3 0 tr'.length],.row wlb false 3 (tr'.map encT)])/\pl<=pl'/\pl'<=13/\0<tr'.length/\tr'.length<=growT d/\smq 10 tr'/\at_<=at'/\at'<=at_+growC d) /\
  (∀(D a b pl at_ sd:Int) (tr:List Tr),D=d->0<=pl->pl<=13->0<=at_->at_+growC d<2^60->tr.length+growT d<=1000->smq 10 tr ->
   Lw (C wbu [.ptr 0 0,.ptr 1 0,I a,I b,I D] [.box wlg [bys bs,I at_,.int .u64 sd],.box wl9 [I pl,.ref 2 3 0 tr.length],.row wlb false 3 (tr.map encT)]) fun r=>∃(pl':Int) (tr':List Tr) (at' sd':Int),r=(.tup [],[.box wlg [bys bs,I at',.int .u64 sd'],.box wl9 [I pl',.ref 3 3 0 tr'.length],.dead,.row wlb false 3 (tr'.map encT)])/\pl<=pl'/\pl'<=13/\tr.length<tr'.length/\tr'.length<=tr.length+growT d/\smq 10 tr'/\at_<=at'/\at'<=at_+growC d):=by
 intro d
 induction d with
 |zero=>
  have c0:growT 0=1:=rfl
  refine⟨fun D a b pl at_ sd hD h1 h2 h3 h4 h5=>?_,fun D a b pl at_ sd tr hD h1 h2 h3 h4 h5 h6=>?_⟩
  ·obtain rfl:D=0:=by omega
   refine w3u ?_
   simp(maxSteps:=9^9)(disch:=first|omega|(simp only[H'];try omega))only[whq,go_sem,P'k,C',D',E']
   exact⟨pl,[⟨[a],[b],[]⟩],at_,sd,by simp,by omega,by omega,by simp,by simp only[L'x,M'2,M'7];omega,z1c3 z1c1 (by simp),by omega,by omega⟩
  ·obtain rfl:D=0:=by omega
   refine w3u ?_
   simp(maxSteps:=9^9)(disch:=first|omega|(simp only[H'];try omega))only[whq,go_sem,P'k,C',D',E']
   exact⟨pl,tr++[⟨[a],[b],[]⟩],at_,sd,by rw[M'r];simp,by omega,by omega,by simp,by simp only[L'x,M'2,M'7];omega,z1c3 h6 (by simp),by omega,by omega⟩
 |succ d ih=>
  obtain⟨ih1,ih2⟩:=ih
  have c1:growC (d+1)=2+2*growC d:=rfl
  have c0:growT (d+1)=2+2*growT d:=rfl
  refine⟨fun D a b pl at_ sd hD h1 h2 h3 h4 h5=>?_,fun D a b pl at_ sd tr hD h1 h2 h3 h4 h5 h6=>?_⟩
  ·have hD0:¬D=0:=by omega
   have hDT:=zke d
   have hD1:D<=1000:=by omega
   refine w3u ?_
   simp(maxSteps:=9^9)(disch:=first|omega|(simp only[H'];try omega))only[whq,go_sem,P'k,C',D',E']
   refine⟨fun h=>⟨pl,[⟨[a],[b],[]⟩],at_,sd,by simp,by omega,by omega,by simp,by simp only[L'x,M'2,M'7];omega,z1c3 z1c1 (by simp),by omega,by omega⟩,fun hp9=>?_⟩
   obtain⟨_,e1,x1,a1,s1,rfl,h7,h8,h9,h10⟩:=wkd 5 bs at_ sd (by omega) (by omega) hl hb
   obtain⟨_,fA,pA,tA,aA,sA,rfl,kA1,kA2,kA3,kA4,kA5,kA6,kA7⟩:=ih1 (D-1) a pl (pl+1) a1 s1 (by omega) (by omega) (by omega) (by omega) (by omega) (by omega)
   obtain⟨_,gA,pA',tA',aA',sA',rfl,lA1,lA2,lA3,lA4,lA5,lA6,lA7⟩:=ih2 (D-1) pl b pA aA sA tA (by omega) (by omega) (by omega) (by omega) (by omega) (by omega) kA5
   obtain⟨_,fB,pB,tB,aB,sB,rfl,kB1,kB2,kB3,kB4,kB5,kB6,kB7⟩:=ih1 (D-1) a b pl a1 s1 (by omega) (by omega) (by omega) (by omega) (by omega) (by omega)
   obtain⟨_,gB,pB',tB',aB',sB',rfl,lB1,lB2,lB3,lB4,lB5,lB6,lB7⟩:=ih2 (D-1) a b pB aB sB tB (by omega) (by omega) (by omega) (by omega) (by omega) (by omega) kB5
   obtain⟨_,fC,pC,tC,aC,sC,rfl,kC1,kC2,kC3,kC4,kC5,kC6,kC7⟩:=ih2 (D-1) pl (pl+2) (pl+4) a1 s1 ([]++[⟨[a],[pl,pl+1],[]⟩,⟨[pl+2,pl+3],[b],[]⟩]) (by omega) (by omega) (by omega) (by omega) (by omega) (by simp only[L'x,M'2,M'7];omega) (by have:=z1c3 (q:=10) (z1c3 (q:=10) z1c1 (t:=⟨[a],[pl,pl+1],[]⟩) (by simp)) (t:=⟨[pl+2,pl+3],[b],[]⟩) (by simp);simpa using this)
   obtain⟨_,gC,pC',tC',aC',sC',rfl,lC1,lC2,lC3,lC4,lC5,lC6,lC7⟩:=ih2 (D-1) (pl+1) (pl+3) pC aC sC tC (by omega) (by omega) (by omega) (by omega) (by omega) (by simp only[L'x,M'2,M'7]at kC4;omega) kC5
   obtain⟨_,fE,pE,tE,aE,sE,rfl,kE1,kE2,kE3,kE4,kE5,kE6,kE7⟩:=ih2 (D-1) pl (pl+1) (pl+2) a1 s1 ([]++[⟨[a],[pl],[]⟩,⟨[pl+1],[b],[]⟩]) (by omega) (by omega) (by omega) (by omega) (by omega) (by simp only[L'x,M'2,M'7];omega) (by have:=z1c3 (q:=10) (z1c3 (q:=10) z1c1 (t:=⟨[a],[pl],[]⟩) (by simp)) (t:=⟨[pl+1],[b],[]⟩) (by simp);simpa using this)
   obtain⟨_,gE,pE',tE',aE',sE',rfl,lE1,lE2,lE3,lE4,lE5,lE6,lE7⟩:=ih2 (D-1) (pl+1) pl pE aE sE tE (by omega) (by omega) (by omega) (by omega) (by omega) (by simp only[L'x,M'2,M'7]at kE4;omega) kE5
   simp only[L'x,M'2,M'7]at kC3 kC4 kE3 kE4
   simp only[encT,ints,M'r,M'n,R'4,L'x,M'2,M'7,M'3,P'k,M'6]at fC fE
   simp(maxSteps:=9^9)(disch:=first|omega|(simp only[H'];try omega))only[go_sem,P'k,C',D',E',e1,fA,gA,fB,gB,fC,gC,fE,gE,wkk]
   exact⟨fun _=>⟨pA',tA',aA',sA',rfl,by omega,by omega,by omega,by omega,lA5,by omega,by omega⟩,fun _=>⟨fun _=>⟨pA',tA',aA',sA',rfl,by omega,by omega,by omega,by omega,lA5,by omega,by omega⟩,fun _=>⟨fun _=>⟨pB',tB',aB',sB',rfl,by omega,by omega,by omega,by omega,lB5,by omega,by omega⟩,fun _=>⟨fun _=>⟨rfl,⟨pC',tC',aC',sC',rfl,by omega,by omega,by omega,by omega,lC5,by omega,by omega⟩⟩,fun _=>⟨pE',tE',aE',sE',rfl,by omega,by omega,by omega,by omega,lE5,by omega,by omega⟩⟩⟩⟩⟩
  ·have hD0:¬D=0:=by omega
   have hDT:=zke d
   have hD1:D<=1000:=by omega
   refine w3u ?_
   simp(maxSteps:=9^9)(disch:=first|omega|(simp only[H'];try omega))only[whq,go_sem,P'k,C',D',E']
   refine⟨fun h=>⟨pl,tr++[⟨[a],[b],[]⟩],at_,sd,by rw[M'r];simp,by omega,by omega,by simp,by simp only[L'x,M'2,M'7];omega,z1c3 h6 (by simp),by omega,by omega⟩,fun hp9=>⟨fun h=>⟨pl,tr++[⟨[a],[b],[]⟩],at_,sd,by rw[M'r];simp,by omega,by omega,by simp,by simp only[L'x,M'2,M'7];omega,z1c3 h6 (by simp),by omega,by omega⟩,fun hp12=>?_⟩⟩
   obtain⟨_,e1,x1,a1,s1,rfl,h7,h8,h9,h10⟩:=wkd 5 bs at_ sd (by omega) (by omega) hl hb
   obtain⟨_,fA,pA,tA,aA,sA,rfl,kA1,kA2,kA3,kA4,kA5,kA6,kA7⟩:=ih2 (D-1) a pl (pl+1) a1 s1 tr (by omega) (by omega) (by omega) (by omega) (by omega) (by omega) h6
   obtain⟨_,gA,pA',tA',aA',sA',rfl,lA1,lA2,lA3,lA4,lA5,lA6,lA7⟩:=ih2 (D-1) pl b pA aA sA tA (by omega) (by omega) (by omega) (by omega) (by omega) (by omega) kA5
   obtain⟨_,fB,pB,tB,aB,sB,rfl,kB1,kB2,kB3,kB4,kB5,kB6,kB7⟩:=ih2 (D-1) a b pl a1 s1 tr (by omega) (by omega) (by omega) (by omega) (by omega) (by omega) h6
   obtain⟨_,gB,pB',tB',aB',sB',rfl,lB1,lB2,lB3,lB4,lB5,lB6,lB7⟩:=ih2 (D-1) a b pB aB sB tB (by omega) (by omega) (by omega) (by omega) (by omega) (by omega) kB5
   obtain⟨_,fC,pC,tC,aC,sC,rfl,kC1,kC2,kC3,kC4,kC5,kC6,kC7⟩:=ih2 (D-1) pl (pl+2) (pl+4) a1 s1 (tr++[⟨[a],[pl,pl+1],[]⟩,⟨[pl+2,pl+3],[b],[]⟩]) (by omega) (by omega) (by omega) (by omega) (by omega) (by simp only[L'x,M'2,M'7];omega) (by have:=z1c3 (q:=10) (z1c3 (q:=10) h6 (t:=⟨[a],[pl,pl+1],[]⟩) (by simp)) (t:=⟨[pl+2,pl+3],[b],[]⟩) (by simp);simpa using this)
   obtain⟨_,gC,pC',tC',aC',sC',rfl,lC1,lC2,lC3,lC4,lC5,lC6,lC7⟩:=ih2 (D-1) (pl+1) (pl+3) pC aC sC tC (by omega) (by omega) (by omega) (by omega) (by omega) (by simp only[L'x,M'2,M'7]at kC4;omega) kC5
   obtain⟨_,fE,pE,tE,aE,sE,rfl,kE1,kE2,kE3,kE4,kE5,kE6,kE7⟩:=ih2 (D-1) pl (pl+1) (pl+2) a1 s1 (tr++[⟨[a],[pl],[]⟩,⟨[pl+1],[b],[]⟩]) (by omega) (by omega) (by omega) (by omega) (by omega) (by simp only[L'x,M'2,M'7];omega) (by have:=z1c3 (q:=10) (z1c3 (q:=10) h6 (t:=⟨[a],[pl],[]⟩) (by simp)) (t:=⟨[pl+1],[b],[]⟩) (by simp);simpa using this)
   obtain⟨_,gE,pE',tE',aE',sE',rfl,lE1,lE2,lE3,lE4,lE5,lE6,lE7⟩:=ih2 (D-1) (pl+1) pl pE aE sE tE (by omega) (by omega) (by omega) (by omega) (by omega) (by simp only[L'x,M'2,M'7]at kE4;omega) kE5
   simp only[L'x,M'2,M'7]at kC3 kC4 kE3 kE4
   simp only[encT,ints,M'r,M'n,R'4,L'x,M'2,M'7,M'3,P'k,M'6]at fC fE
   simp(maxSteps:=9^9)(disch:=first|omega|(simp only[H'];try omega))only[go_sem,P'k,C',D',E',e1,fA,gA,fB,gB,fC,gC,fE,gE,wkk]
   exact⟨fun _=>⟨pA',tA',aA',sA',rfl,by omega,by omega,by omega,by omega,lA5,by omega,by omega⟩,fun _=>⟨fun _=>⟨pA',tA',aA',sA',rfl,by omega,by omega,by omega,by omega,lA5,by omega,by omega⟩,fun _=>⟨fun _=>⟨pB',tB',aB',sB',rfl,by omega,by omega,by omega,by omega,lB5,by omega,by omega⟩,fun _=>⟨fun _=>⟨rfl,⟨pC',tC',aC',sC',rfl,by omega,by omega,by omega,by omega,lC5,by omega,by omega⟩⟩,fun _=>⟨pE',tE',aE',sE',rfl,by omega,by omega,by omega,by omega,lE5,by omega,by omega⟩⟩⟩⟩⟩
theorem wke(n least most:Int)(hlm:0<=least/\least<=most/\most<=20)(bs:List Int)(at_ sd:Int)(h0:0<=at_)(h1:at_<2^60)(hl:bs.length<2^62)(hb:∀x∈bs,0<=x/\x<256) :
  Lw (C wby [.ptr 0 0,I n,I least,I most] [.box wlg [bys bs,I at_,.int .u64 sd]]) fun r=>∃(l:List Int) (at' sd':Int),r=(.un t_int true 1 (l.map I),[.box wlg [bys bs,I at',.int .u64 sd']])/\at_<=at'/\at'<=at_+50/\l.length<=20/\∀x∈l,0<=x/\(x=0\/x<n):=by
 refine w3y ?_
 simp(maxSteps:=9^9)(disch:=first|omega|(simp only[H'];try omega))only[whu,go_sem,P'k,C',D',E']
 obtain⟨_,e1,x1,a1,s1,rfl,h3,h4,h5,h6⟩:=wkd (most-least+1) bs at_ sd h0 (by omega) hl hb
 simp(maxSteps:=9^9)(disch:=first|omega|(simp only[H'];try omega))only[go_sem,P'k,C',D',E',e1]
 refine W_for (least+x1).toNat (fun k s=>∃(l:List Int) (at' sd':Int),s=⟨[.ptr 0 0,I n,.any,.any,.any,.ref 1 1 0 l.length,I (least+x1-k),.any],[.box wlg [bys bs,I at',.int .u64 sd'],.row t_int true 1 (l.map I)]⟩/\l.length<=k/\at_<=at'/\at'<=at_+2+2*k/\∀x∈l,0<=x/\(x=0\/x<n)) ?_ ?_ ?_
 ·refine⟨[],a1,s1,?_,by simp,by omega,by omega,by simp⟩
  simp(maxSteps:=9^9)(disch:=first|omega|(simp only[H'];try omega))only[go_sem,P'k,C',D',E']
  rw[show least+x1-((0:Nat):Int)=least+x1 by omega]
 ·rintro k s hk⟨l,a,sd,rfl,h7,h8,h9,h10⟩
  obtain⟨_,e2,x2,a2,s2,rfl,h11,h12,h13,h14⟩:=wkd n bs a sd (by omega) (by omega) hl hb
  have e:least+x1-((k+1:Nat):Int)=least+x1-k-1:=by omega
  obtain⟨_,e3,rfl| ⟨rfl,e4⟩⟩:=wkl l x2 (by omega)
  ·simp(maxSteps:=9^9)(disch:=first|omega|(simp only[H'];try omega))only[go_sem,P'k,C',D',E',e2,e3]
   have:=z12z l x2
   refine⟨putI l x2,a2,s2,by rw[e],by omega,by omega,by omega,fun y hy=>?_⟩
   rcases z130 hy with hy|rfl
   ·exact h10 y hy
   ·exact⟨h13,h14⟩
  ·simp(maxSteps:=9^9)(disch:=first|omega|(simp only[H'];try omega))only[go_sem,P'k,C',D',E',e2,e3]
   exact⟨l,a2,s2,by rw[e],by omega,by omega,by omega,h10⟩
 ·rintro s⟨l,a,sd,rfl,h7,h8,h9,h10⟩
  simp(maxSteps:=9^9)(disch:=first|omega|(simp only[H'];try omega))only[go_sem,P'k,C',D',E']
  exact⟨l,a,sd,rfl,by omega,by omega,by omega,h10⟩
theorem wkc(n:Int)(bs:List Int)(at_ sd:Int)(h0:0<=at_)(h1:at_<2^61)(hl:bs.length<2^62)(hb:∀x∈bs,0<=x/\x<256) :
  Lw (C wbw [.ptr 0 0,I n] [.box wlg [bys bs,I at_,.int .u64 sd]]) fun r=>∃x at' sd',r=(.bool x,[.box wlg [bys bs,I at',.int .u64 sd']])/\at_<=at'/\at'<=at_+2:=by
 refine w3w ?_
 simp(maxSteps:=9^9)(disch:=first|omega|(simp only[H'];try omega))only[whs,go_sem,P'k,C',D',E']
 obtain⟨_,e1,x1,a1,s1,rfl,h3,h4,h5⟩:=wkd n bs at_ sd h0 h1 hl hb
 simp(maxSteps:=9^9)(disch:=first|omega|(simp only[H'];try omega))only[go_sem,P'k,C',D',E',e1]
 exact⟨fun _=>⟨_,_,_,rfl,h3,h4⟩,fun _=>⟨_,_,_,rfl,h3,h4⟩⟩
theorem wk7(l:List Int)(t:TypeId)(hne:0<l.length)(hln:l.length<2^30)(bs:List Int)(at_ sd:Int)(h0:0<=at_)(h1:at_<2^61)(hl:bs.length<2^62)(hb:∀x∈bs,0<=x/\x<256) :
  Lw (C wbr [.ptr 0 0,.ref 1 1 0 l.length] [.box wlg [bys bs,I at_,.int .u64 sd],.row t true 1 (l.map I)]) fun r=>∃x at' sd',r=(I x,[.box wlg [bys bs,I at',.int .u64 sd'],.row t true 1 (l.map I)])/\at_<=at'/\at'<=at_+2/\x∈l:=by
 refine w3r ?_
 simp(maxSteps:=9^9)(disch:=first|omega|(simp only[H'];try omega))only[whm,go_sem,P'k,C',D',E']
 obtain⟨_,e1,x1,a1,s1,rfl,h3,h4,h5,h6⟩:=wkd l.length bs at_ sd h0 h1 hl hb
 have h7:x1.toNat<l.length:=by omega
 simp(maxSteps:=9^9)(disch:=first|omega|(simp only[H'];try omega))only[go_sem,P'k,C',D',E',e1]
 exact⟨_,_,_,rfl,h3,h4,P'l h7⟩
theorem wk9(rs:Bool)(bs:List Int)(at_ sd:Int)(h0:0<=at_)(h1:at_<2^59)(hl:bs.length<2^62)(hb:∀x∈bs,0<=x/\x<256) :
  Lw (C wbt [.ptr 0 0,.bool rs] [.box wlg [bys bs,I at_,.int .u64 sd]]) fun r=>∃(f:Fl) (at' sd':Int),r=(.agg [I f.net.pl,.un wlb false 3 (f.net.tr.map encT),I f.src,I f.dst],[.box wlg [bys bs,I at',.int .u64 sd']])/\at_<=at'/\at'<=at_+200/\smNet f.net:=by
 obtain⟨_,e1,x1,a1,s1,rfl,h3,h4,h5,h6⟩:=wkd 3 bs at_ sd h0 (by omega) hl hb
 obtain⟨d,hd⟩:∃d:Nat,1+x1=d:=⟨(1+x1).toNat,by omega⟩
 have hd3:=zkf (d:=d) (by omega)
 obtain⟨_,e2,pl,tr,a2,s2,rfl,g1,g2,g3,g4,g5,g6,g7⟩:=(wka bs hl hb d).1 (1+x1) 0 1 2 a1 s1 hd (by omega) (by omega) (by omega) (by omega) (by omega)
 obtain⟨_,e3,x3,a3,s3,rfl,k1,k2,k3,k4⟩:=wkd tr.length bs a2 s2 (by omega) (by omega) hl hb
 obtain⟨_,e4,x4,a4,s4,rfl,k5,k6,k7,k8⟩:=wkd 9 bs a3 s3 (by omega) (by omega) hl hb
 have hx3:x3.toNat<tr.length:=by omega
 have hk:=g5 _ (P'l hx3)
 have g8:smq 20 tr:=z1c0 (by decide) g5
 have fin:∀(a sd:Int),a4<=a->a<=a4+150->∃(b:Bool) (y z:Int) (a' s' a'' s'':Int),C wbw [.ptr 0 0,I 30] [.box wlg [bys bs,I a,.int .u64 sd]]=some (.bool b,[.box wlg [bys bs,I a',.int .u64 s']])/\C wbr [.ptr 0 0,.ref 1 1 0 4] [.box wlg [bys bs,I a',.int .u64 s'],.row t_int true 1 [I 0,I (-1),I 2,I 17]]=some (I z,[.box wlg [bys bs,I a'',.int .u64 s''],.row t_int true 1 [I 0,I (-1),I 2,I 17]])/\a<=a'/\a'<=a+2/\a'<=a''/\a''<=a'+2:=by
  intro a sd ha1 ha2
  obtain⟨_,f1,b,a',s',rfl,j1,j2⟩:=wkc 30 bs a sd (by omega) (by omega) hl hb
  obtain⟨_,f2,z,a'',s'',rfl,j3,j4,j5⟩:=wk7 [0,-1,2,17] t_int (by decide) (by decide) bs a' s' (by omega) (by omega) hl hb
  exact⟨b,0,z,a',s',a'',s'',f1,f2,j1,j2,j3,j4⟩
 refine w3t ?_
 simp(maxSteps:=9^9)(disch:=first|omega|(simp only[H'];try omega))only[whp,go_sem,P'k,C',D',E']
 simp(maxSteps:=9^9)(disch:=first|omega|(simp only[H'];try omega))only[go_sem,P'k,C',D',E',e1,e2,e3,e4]
 refine⟨fun hx=>?_,fun hx0=>⟨fun hx=>?_,fun hx1=>⟨fun hx=>?_,fun hx2=>⟨fun hx=>⟨fun hr=>?_,fun hr=>?_⟩,fun hx3'=>?_⟩⟩⟩⟩
 ·obtain⟨_,f5,x5,a5,s5,rfl,j1,j2,j3,j4⟩:=wkd pl bs a4 s4 (by omega) (by omega) hl hb
  obtain⟨_,f6,x6,a6,s6,rfl,j5,j6,j7,j8⟩:=wkd pl bs a5 s5 (by omega) (by omega) hl hb
  obtain⟨b,y,z,a',s',a'',s'',t1,t2,t3,t4,t5,t6⟩:=fin a6 s6 (by omega) (by omega)
  simp(maxSteps:=9^9)(disch:=first|omega|(simp only[H'];try omega))only[go_sem,P'k,C',D',E',f5,f6,t1,t2]
  refine⟨rfl,?_⟩
  exact⟨fun _=>⟨⟨⟨pl,tr++[⟨[x5],[x6],[]⟩]⟩,0,z⟩,a'',s'',by simp[R'2];try rfl,by omega,by omega,⟨by simp;try omega,by simp only;omega,z1c3 g8 (by simp)⟩⟩,fun _=>⟨⟨⟨pl,tr++[⟨[x5],[x6],[]⟩]⟩,0,1⟩,a',s',by simp[R'2];try rfl,by omega,by omega,⟨by simp;try omega,by simp only;omega,z1c3 g8 (by simp)⟩⟩⟩
 ·obtain⟨_,f5,x5,a5,s5,rfl,j1,j2,j3,j4⟩:=wkd pl bs a4 s4 (by omega) (by omega) hl hb
  obtain⟨b,y,z,a',s',a'',s'',t1,t2,t3,t4,t5,t6⟩:=fin a5 s5 (by omega) (by omega)
  have hpl:=z12z tr[x3.toNat].out x5
  obtain⟨_,f6,rfl| ⟨rfl,f7⟩⟩:=wkm tr[x3.toNat].out x5 (by omega)
  ·simp(maxSteps:=9^9)(disch:=first|omega|(simp only[H'];try omega))only[go_sem,P'k,C',D',E',f5,f6,t1,t2]
   refine⟨rfl,?_⟩
   exact⟨fun _=>⟨⟨⟨pl,tr.set x3.toNat ⟨tr[x3.toNat].inn,putI tr[x3.toNat].out x5,tr[x3.toNat].rst⟩⟩,0,z⟩,a'',s'',by simp[R'2];try rfl,by omega,by omega,⟨by simp;try omega,by simp only;omega,z1c2 g8 (by simp only;omega)⟩⟩,fun _=>⟨⟨⟨pl,tr.set x3.toNat ⟨tr[x3.toNat].inn,putI tr[x3.toNat].out x5,tr[x3.toNat].rst⟩⟩,0,1⟩,a',s',by simp[R'2];try rfl,by omega,by omega,⟨by simp;try omega,by simp only;omega,z1c2 g8 (by simp only;omega)⟩⟩⟩
  ·simp(maxSteps:=9^9)(disch:=first|omega|(simp only[H'];try omega))only[go_sem,P'k,C',D',E',f5,f6,t1,t2]
   refine⟨rfl,?_⟩
   exact⟨fun _=>⟨⟨⟨pl,tr.set x3.toNat ⟨tr[x3.toNat].inn,tr[x3.toNat].out,tr[x3.toNat].rst⟩⟩,0,z⟩,a'',s'',by simp[R'2];try rfl,by omega,by omega,⟨by simp;try omega,by simp only;omega,z1c2 g8 (by simp only;omega)⟩⟩,fun _=>⟨⟨⟨pl,tr.set x3.toNat ⟨tr[x3.toNat].inn,tr[x3.toNat].out,tr[x3.toNat].rst⟩⟩,0,1⟩,a',s',by simp[R'2];try rfl,by omega,by omega,⟨by simp;try omega,by simp only;omega,z1c2 g8 (by simp only;omega)⟩⟩⟩
 ·obtain⟨_,f5,x5,a5,s5,rfl,j1,j2,j3,j4⟩:=wkd pl bs a4 s4 (by omega) (by omega) hl hb
  obtain⟨b,y,z,a',s',a'',s'',t1,t2,t3,t4,t5,t6⟩:=fin a5 s5 (by omega) (by omega)
  have hpl:=z12z tr[x3.toNat].inn x5
  obtain⟨_,f6,rfl| ⟨rfl,f7⟩⟩:=wkm tr[x3.toNat].inn x5 (by omega)
  ·simp(maxSteps:=9^9)(disch:=first|omega|(simp only[H'];try omega))only[go_sem,P'k,C',D',E',f5,f6,t1,t2]
   refine⟨rfl,?_⟩
   exact⟨fun _=>⟨⟨⟨pl,tr.set x3.toNat ⟨putI tr[x3.toNat].inn x5,tr[x3.toNat].out,tr[x3.toNat].rst⟩⟩,0,z⟩,a'',s'',by simp[R'2];try rfl,by omega,by omega,⟨by simp;try omega,by simp only;omega,z1c2 g8 (by simp only;omega)⟩⟩,fun _=>⟨⟨⟨pl,tr.set x3.toNat ⟨putI tr[x3.toNat].inn x5,tr[x3.toNat].out,tr[x3.toNat].rst⟩⟩,0,1⟩,a',s',by simp[R'2];try rfl,by omega,by omega,⟨by simp;try omega,by simp only;omega,z1c2 g8 (by simp only;omega)⟩⟩⟩
  ·simp(maxSteps:=9^9)(disch:=first|omega|(simp only[H'];try omega))only[go_sem,P'k,C',D',E',f5,f6,t1,t2]
   refine⟨rfl,?_⟩
   exact⟨fun _=>⟨⟨⟨pl,tr.set x3.toNat ⟨tr[x3.toNat].inn,tr[x3.toNat].out,tr[x3.toNat].rst⟩⟩,0,z⟩,a'',s'',by simp[R'2];try rfl,by omega,by omega,⟨by simp;try omega,by simp only;omega,z1c2 g8 (by simp only;omega)⟩⟩,fun _=>⟨⟨⟨pl,tr.set x3.toNat ⟨tr[x3.toNat].inn,tr[x3.toNat].out,tr[x3.toNat].rst⟩⟩,0,1⟩,a',s',by simp[R'2];try rfl,by omega,by omega,⟨by simp;try omega,by simp only;omega,z1c2 g8 (by simp only;omega)⟩⟩⟩
 ·obtain⟨_,f5,l5,a5,s5,rfl,j1,j2,j3,j4⟩:=wke pl 1 2 (by omega) bs a4 s4 (by omega) (by omega) hl hb
  obtain⟨b,y,z,a',s',a'',s'',t1,t2,t3,t4,t5,t6⟩:=fin a5 s5 (by omega) (by omega)
  simp(maxSteps:=9^9)(disch:=first|omega|(simp only[H'];try omega))only[go_sem,P'k,C',D',E',f5,t1,t2]
  exact⟨fun _=>⟨⟨⟨pl,tr.set x3.toNat ⟨tr[x3.toNat].inn,tr[x3.toNat].out,l5⟩⟩,0,z⟩,a'',s'',by simp[R'2];try rfl,by omega,by omega,⟨by simp;try omega,by simp only;omega,z1c2 g8 (by simp only;omega)⟩⟩,fun _=>⟨⟨⟨pl,tr.set x3.toNat ⟨tr[x3.toNat].inn,tr[x3.toNat].out,l5⟩⟩,0,1⟩,a',s',by simp[R'2];try rfl,by omega,by omega,⟨by simp;try omega,by simp only;omega,z1c2 g8 (by simp only;omega)⟩⟩⟩
 ·obtain⟨b,y,z,a',s',a'',s'',t1,t2,t3,t4,t5,t6⟩:=fin a4 s4 (by omega) (by omega)
  simp(maxSteps:=9^9)(disch:=first|omega|(simp only[H'];try omega))only[go_sem,P'k,C',D',E',t1,t2]
  exact⟨fun _=>⟨⟨⟨pl,tr⟩,0,z⟩,a'',s'',by simp[R'2];try rfl,by omega,by omega,⟨by simp;try omega,by simp only;omega,g8⟩⟩,fun _=>⟨⟨⟨pl,tr⟩,0,1⟩,a',s',by simp[R'2];try rfl,by omega,by omega,⟨by simp;try omega,by simp only;omega,g8⟩⟩⟩
 ·obtain⟨b,y,z,a',s',a'',s'',t1,t2,t3,t4,t5,t6⟩:=fin a4 s4 (by omega) (by omega)
  simp(maxSteps:=9^9)(disch:=first|omega|(simp only[H'];try omega))only[go_sem,P'k,C',D',E',t1,t2]
  exact⟨fun _=>⟨⟨⟨pl,tr⟩,0,z⟩,a'',s'',by simp[R'2];try rfl,by omega,by omega,⟨by simp;try omega,by simp only;omega,g8⟩⟩,fun _=>⟨⟨⟨pl,tr⟩,0,1⟩,a',s',by simp[R'2];try rfl,by omega,by omega,⟨by simp;try omega,by simp only;omega,g8⟩⟩⟩
theorem wk8(bs:List Int)(at_ sd:Int)(h0:0<=at_)(h1:at_<2^60)(hl:bs.length<2^62)(hb:∀x∈bs,0<=x/\x<256) :
  Lw (C wbs [.ptr 0 0] [.box wlg [bys bs,I at_,.int .u64 sd]]) fun r=>∃(x at' sd':Int),r=(I x,[.box wlg [bys bs,I at',.int .u64 sd']])/\at_<=at'/\at'<=at_+2/\0<=x/\x<=401:=by
 obtain⟨_,e3,x3,a3,s3,rfl,h11,h12,h13⟩:=wk7 [1,5,20,100,100,400,401,0] t_int (by decide) (by decide) bs at_ sd h0 (by omega) hl hb
 simp only[go_sem,P'k]at e3
 refine w3s ?_
 simp(maxSteps:=9^9)(disch:=first|omega|(simp only[H'];try omega))only[whn,go_sem,P'k,C',D',E']
 simp(maxSteps:=9^9)(disch:=first|omega|(simp only[H'];try omega))only[go_sem,P'k,C',D',E',e3]
 simp only[List.mem_cons,List.not_mem_nil,or_false]at h13
 exact⟨_,_,_,rfl,h11,h12,by omega,by omega⟩
theorem wjz(a:List Int)(hl:a.length<2^62)(hb:∀x∈a,0<=x/\x<256):Lw (C wbj [bys a] []) fun r=>∃(f:Fl) (k:Int),r=(.tup [.agg [I f.net.pl,.un wlb false 3 (f.net.tr.map encT),I f.src,I f.dst],I k],[])/\smNet f.net/\0<=k/\k<=401:=by
 obtain⟨_,e1,F,a1,s1,rfl,h3,h4,h5⟩:=wk9 true a 0 0 (by omega) (by omega) hl hb
 obtain⟨_,e2,x2,a2,s2,rfl,g3,g4,g5,g6⟩:=wk8 a a1 s1 (by omega) (by omega) hl hb
 refine w3q ?_
 simp(maxSteps:=9^9)(disch:=first|omega|(simp only[H'];try omega))only[whe,go_sem,P'k,C',D',E']
 simp(maxSteps:=9^9)(disch:=first|omega|(simp only[H'];try omega))only[go_sem,P'k,C',D',E',e1,e2]
 first| exact⟨rfl,F,x2,rfl,h5,g5,g6⟩|exact⟨F,x2,rfl,h5,g5,g6⟩
theorem web(n lo hi:Int):C wa2 [I n,I lo,I hi] []=some (.bool (inB lo hi n),[]):=by
 refine w1i ?_
 simp(maxSteps:=9^9)(disch:=first|omega|(simp only[H'];try omega))only[wg0,go_sem,P'k,C',D',E']
 unfold inB;grind
theorem wdv(l:List Int)(hl:l.length<2^62):C w9o [ints l] []=some (.bool (incr l),[]):=by
 refine w14 ?_
 simp(maxSteps:=9^9)(disch:=first|omega|(simp only[H'];try omega))only[wfl,go_sem,P'k,C',D',E']
 refine W_for (l.length-1) (fun k s=>s=⟨[ints l,.any,I (k+1:Int),.any,.any],[]⟩/\(l.take (k+1)).Pairwise (·<·)) ?_ ?_ ?_
 ·simp(maxSteps:=9^9)(disch:=first|omega|(simp only[H'];try omega))only[go_sem,P'k,C',D',E']
  exact⟨rfl,zn9⟩
 ·rintro k s hk⟨rfl,hp⟩
  simp(maxSteps:=9^9)(disch:=first|omega|(simp only[H'];try omega))only[go_sem,P'k,C',D',E']
  have e1:((k:Int)+1).toNat=k+1:=by omega
  have e2:((k:Int)+1-1).toNat=k:=by omega
  simp only[e1,e2]
  refine⟨fun h=>by rw[zn8 (k:=k) (by omega) (by omega)],fun h=>⟨rfl,znb (by omega) hp h⟩⟩
 ·rintro s⟨rfl,hp⟩
  simp(maxSteps:=9^9)(disch:=first|omega|(simp only[H'];try omega))only[go_sem,P'k,C',D',E']
  rw[z1fa (by omega)]at hp
  rw[show incr l=true by simpa [incr]using hp]
theorem wdd(l:List Int)(lo hi:Int)(hl:l.length<2^62):C w97 [ints l,I lo,I hi] []=some (.bool (l.all (inB lo hi)),[]):=by
 refine w0o ?_
 simp(maxSteps:=9^9)(disch:=first|omega|(simp only[H'];try omega))only[wf4,go_sem,P'k,C',D',E']
 refine W_for l.length (fun k s=>s=⟨[.any,I lo,I hi,.any,.any,ints l,I l.length,I k,.any,.any],[]⟩/\(l.take k).all (inB lo hi)=true) ?_ ?_ ?_
 ·simp(maxSteps:=9^9)(disch:=first|omega|(simp only[H'];try omega))only[go_sem,P'k,C',D',E']
  rfl
 ·rintro k s hk⟨rfl,hall⟩
  simp(maxSteps:=9^9)(disch:=first|omega|(simp only[H'];try omega))only[go_sem,P'k,C',D',E',web]
  exact⟨fun h=>⟨rfl,z2z hk hall h⟩,fun h=>by rw[z2y hk h]⟩
 ·rintro s⟨rfl,hall⟩
  simp(maxSteps:=9^9)(disch:=first|omega|(simp only[H'];try omega))only[go_sem,P'k,C',D',E']
  rw[M'i]at hall
  rw[hall]
theorem wde(n:Net)(l:List Int)(h:1<=n.pl/\n.pl<=16)(hl:l.length<2^62):C w98 [encN n,ints l] []=some (.bool (z11n n.pl l),[]):=by
 refine w0p ?_
 simp(maxSteps:=9^9)(disch:=first|omega|(simp only[H'];try omega))only[wf5,go_sem,P'k,C',D',E']
 simp(maxSteps:=9^9)(disch:=first|omega|(simp only[H'];try omega))only[go_sem,P'k,C',D',E',wdv l hl,wdd l _ _ hl]
 unfold z11n;grind
theorem wd3(n:Net)(t:Tr)(h:1<=n.pl/\n.pl<=16)(ht:smT t):C w8y [encT t,.pv (encN n) 0] []=some (.bool (!goodT n.pl t),[]):=by
 obtain⟨h1,h2,h3⟩:=ht
 refine w0f ?_
 simp(maxSteps:=9^9)(disch:=first|omega|(simp only[H'];try omega))only[wet,go_sem,P'k,C',D',E']
 simp(maxSteps:=9^9)(disch:=first|omega|(simp only[H'];try omega))only[go_sem,P'k,C',D',E',wde n _ h]
 refine⟨fun h6=>by rw[zk7 (by omega)];rfl,fun h6=>⟨fun h7=>⟨fun h8=>⟨fun h9=>by rw[zk1 (by omega) h7 h8 h9];rfl,fun h9=>by simp[goodT,h9]⟩,fun h8=>by simp[goodT,h8]⟩,fun h7=>by simp[goodT,h7]⟩⟩
theorem wj7(l:List Tr)(g:FuncId)(caps:List PV)(hc:refsL caps=[])(hcv:∀m h,z1gv [] m h caps=some caps)(p:Tr->Bool)(hp:∀x∈l,C g (encT x::caps) []=some (.bool (p x),[]))(hl:l.length<2^62) :
  C war [trs l,.clo g caps] []=some (I (idxI l p),[]):=by
 refine w23 ?_
 simp(maxSteps:=9^9)(disch:=first|omega|(simp only[H'];try omega))only[wgo,go_sem,P'k,C',D',E']
 refine W_for l.length (fun k s=>s=⟨[trs l,.clo g caps,.any,.any,I l.length,I k,.any,.any],[]⟩/\(l.take k).any p=false) ?_ ?_ ?_
 ·simp(maxSteps:=9^9)(disch:=first|omega|(simp only[H'];try omega))only[go_sem,P'k,C',D',E',hc]
  rfl
 ·rintro k s hk⟨rfl,hall⟩
  simp(maxSteps:=9^9)(disch:=first|omega|(simp only[H'];try omega))only[go_sem,P'k,C',D',E',hc,hcv,hp _ (P'l hk)]
  exact⟨fun h=>by rw[zl4 hk hall h],fun h=>⟨rfl,z3e hk hall h⟩⟩
 ·rintro s⟨rfl,hall⟩
  simp(maxSteps:=9^9)(disch:=first|omega|(simp only[H'];try omega))only[go_sem,P'k,C',D',E']
  rw[M'i]at hall
  rw[zl3 hall]
theorem wiz(l:List Tr)(g:FuncId)(caps:List PV)(hc:refsL caps=[])(hcv:∀m h,z1gv [] m h caps=some caps)(p:Tr->Bool)(hp:∀x∈l,C g (encT x::caps) []=some (.bool (p x),[]))(hl:l.length<2^62) :
  C waj [trs l,.clo g caps] []=some (.bool (l.any p),[]):=by
 refine w1v ?_
 simp(maxSteps:=9^9)(disch:=first|omega|(simp only[H'];try omega))only[wgg,go_sem,P'k,C',D',E']
 simp(maxSteps:=9^9)(disch:=first|omega|(simp only[H'];try omega))only[go_sem,P'k,C',D',E',hc,hcv,wj7 l g caps hc hcv p hp hl]
 have:=zl0 l p
 grind
theorem wd4(n:Net)(hn:smN n):C w8x [encN n] []=some (.bool (goodN n),[]):=by
 have h0:=hn.1
 refine w0e ?_
 simp(maxSteps:=9^9)(disch:=first|omega|(simp only[H'];try omega))only[wes,go_sem,P'k,C',D',E']
 simp(maxSteps:=9^9)(disch:=first|omega|(simp only[H'];try omega))only[go_sem,P'k,C',D',E',web]
 refine⟨fun h=>⟨fun h2=>?_,fun h2=>?_⟩,fun h=>by simp [goodN,h]⟩
 ·have hb:1<=n.pl/\n.pl<=16:=by simpa [inB]using h
  have h3:=wiz n.tr w8y [.pv (encN n) 0] rfl (fun _ _=>rfl) (fun t=>!goodT n.pl t) (fun x hx=>wd3 n x hb (hn.2 x hx)) (by omega)
  simp(maxSteps:=9^9)(disch:=first|omega|(simp only[H'];try omega))only[go_sem,P'k,C',D',E',h3]
  have:(n.tr.any fun t=>!goodT n.pl t)=!n.tr.all (goodT n.pl):=by rw[R'9];simp
  have h4:n.tr.length<=24:=by omega
  simp only[this]
  simp [goodN,h,h4]
 ·have:¬n.tr.length<=24:=by omega
  simp [goodN,this]
theorem wjb(l:List Int)(x:Int)(hl:l.length<2^62):C waw [ints l,I x] []=some (I (idxI l (fun y=>y==x)),[]):=by
 refine w27 ?_
 simp(maxSteps:=9^9)(disch:=first|omega|(simp only[H'];try omega))only[wgs,go_sem,P'k,C',D',E']
 refine W_for l.length (fun k s=>s=⟨[ints l,I x,.any,.any,I l.length,I k,.any,.any],[]⟩/\(l.take k).any (fun y=>y==x)=false) ?_ ?_ ?_
 ·simp(maxSteps:=9^9)(disch:=first|omega|(simp only[H'];try omega))only[go_sem,P'k,C',D',E']
  rfl
 ·rintro k s hk⟨rfl,hall⟩
  simp(maxSteps:=9^9)(disch:=first|omega|(simp only[H'];try omega))only[go_sem,P'k,C',D',E']
  refine⟨fun h=>?_,fun h=>⟨rfl,z3e hk hall (by simpa using fun e=>h e.symm)⟩⟩
  rw[zl4 hk hall (by simpa using h.symm)]
 ·rintro s⟨rfl,hall⟩
  simp(maxSteps:=9^9)(disch:=first|omega|(simp only[H'];try omega))only[go_sem,P'k,C',D',E']
  rw[M'i]at hall
  rw[zl3 hall]
theorem wj3(l:List Int)(x:Int)(hl:l.length<2^62):C wan [ints l,I x] []=some (.bool (hasB l x),[]):=by
 refine w1z ?_
 simp(maxSteps:=9^9)(disch:=first|omega|(simp only[H'];try omega))only[wgk,go_sem,P'k,C',D',E']
 simp(maxSteps:=9^9)(disch:=first|omega|(simp only[H'];try omega))only[go_sem,P'k,C',D',E',wjb l x hl]
 have:=zl0 l (fun y=>y==x)
 rw[zkm,this]
 exact⟨fun h=>by simp[h],fun h=>by rw[decide_eq_false (by omega)]⟩
theorem we3(x:Int)(P:List Bool)(h:0<=x/\x.toNat<P.length):C w9x [I x,.pv (.agg [bls P]) 0] []=some (.bool (P.getD x.toNat false),[]):=by
 obtain⟨h1,h2⟩:=h
 refine w1d ?_
 simp(maxSteps:=9^9)(disch:=first|omega|(simp only[H'];try omega))only[wfv,go_sem,P'k,C',D',E']
 rw[zj5 h2]
 grind
theorem wj8(l:List Int)(g:FuncId)(caps:List PV)(hc:refsL caps=[])(hcv:∀m h,z1gv [] m h caps=some caps)(p:Int->Bool)(hp:∀x∈l,C g (I x::caps) []=some (.bool (p x),[]))(hl:l.length<2^62) :
  C wat [ints l,.clo g caps] []=some (I (idxI l p),[]):=by
 refine w24 ?_
 simp(maxSteps:=9^9)(disch:=first|omega|(simp only[H'];try omega))only[wgp,go_sem,P'k,C',D',E']
 refine W_for l.length (fun k s=>s=⟨[ints l,.clo g caps,.any,.any,I l.length,I k,.any,.any],[]⟩/\(l.take k).any p=false) ?_ ?_ ?_
 ·simp(maxSteps:=9^9)(disch:=first|omega|(simp only[H'];try omega))only[go_sem,P'k,C',D',E',hc]
  rfl
 ·rintro k s hk⟨rfl,hall⟩
  simp(maxSteps:=9^9)(disch:=first|omega|(simp only[H'];try omega))only[go_sem,P'k,C',D',E',hc,hcv,hp _ (P'l hk)]
  exact⟨fun h=>by rw[zl4 hk hall h],fun h=>⟨rfl,z3e hk hall h⟩⟩
 ·rintro s⟨rfl,hall⟩
  simp(maxSteps:=9^9)(disch:=first|omega|(simp only[H'];try omega))only[go_sem,P'k,C',D',E']
  rw[M'i]at hall
  rw[zl3 hall]
theorem wj0(l:List Int)(g:FuncId)(caps:List PV)(hc:refsL caps=[])(hcv:∀m h,z1gv [] m h caps=some caps)(p:Int->Bool)(hp:∀x∈l,C g (I x::caps) []=some (.bool (p x),[]))(hl:l.length<2^62) :
  C wak [ints l,.clo g caps] []=some (.bool (l.any p),[]):=by
 refine w1w ?_
 simp(maxSteps:=9^9)(disch:=first|omega|(simp only[H'];try omega))only[wgh,go_sem,P'k,C',D',E']
 simp(maxSteps:=9^9)(disch:=first|omega|(simp only[H'];try omega))only[go_sem,P'k,C',D',E',hc,hcv,wj8 l g caps hc hcv p hp hl]
 have:=zl0 l p
 grind
theorem we4(n:Net)(p:Int)(hg:goodN n=true)(hp:0<=p/\p<n.pl):C w9w [encN n,I p,.bool false] []=some (.tup [.un wl5 true 1 ((z13q n false p).pl.map PV.bool),.un wl5 true 1 ((z13q n false p).tr.map PV.bool)],[]):=by
 have hb:=zjy hg
 have hlen:=z13t n false p
 rw[z13r]at hlen ⊢
 refine w1c ?_
 simp(maxSteps:=9^9)(disch:=first|omega|(simp only[H'];try omega))only[wfu,go_sem,P'k,C',D',E']
 simp(maxSteps:=9^9)(disch:=first|omega|(simp only[H'];try omega))only[go_sem,P'k,C',D',E',R'3]
 generalize hR:clRun n false (cntF (L'0 n.tr.length false)+1) ⟨(L'0 n.pl.toNat false).set p.toNat true,L'0 n.tr.length false,true⟩=R at *
 refine⟨rfl,?_⟩
 refine z1a (fun k s=>∃c:Cl,c.pl.length=n.pl.toNat/\c.tr.length=n.tr.length/\((k=cntF c.tr+1/\s=⟨[.any,.any,.bool false,.ptr 0 0,.any,.any,.ptr 1 0,.ref 2 1 0 n.tr.length,.bool true,.any,.any,.any,.any,.any,.any,.any,.any,.any,.any,.any,.any,.any,.any,.any,.any],[.box wl9 [I n.pl,trs n.tr],.box wld [.ref 3 1 0 n.pl.toNat],.row wl5 true 1 (c.tr.map PV.bool),.row wl5 true 1 (c.pl.map PV.bool)]⟩/\clRun n false (cntF c.tr+1) c=R)\/(k=0/\s=⟨[.any,.any,.bool false,.ptr 0 0,.any,.any,.ptr 1 0,.ref 2 1 0 n.tr.length,.bool false,.any,.any,.any,.any,.any,.any,.any,.any,.any,.any,.any,.any,.any,.any,.any,.any],[.box wl9 [I n.pl,trs n.tr],.box wld [.ref 3 1 0 n.pl.toNat],.row wl5 true 1 (c.tr.map PV.bool),.row wl5 true 1 (c.pl.map PV.bool)]⟩/\c=R))) (cntF (L'0 n.tr.length false)+1) ?_ ?_
 ·refine⟨⟨(L'0 n.pl.toNat false).set p.toNat true,L'0 n.tr.length false,true⟩,by simp,by simp,.inl ⟨rfl,?_,hR⟩⟩
  simp(maxSteps:=9^9)(disch:=first|omega|(simp only[H'];try omega))only[go_sem,P'k,C',D',E']
  simp
 ·rintro k0 s ⟨c,hc1,hc2,⟨rfl,rfl,hc⟩|⟨rfl,rfl,rfl⟩⟩
  ·have hcl:=fun k=>z9z n false c k
   simp(maxSteps:=9^9)(disch:=first|omega|(simp only[H'];try omega))only[go_sem,P'k,C',D',E']
   refine W_for n.tr.length (fun k s=>s=⟨[.any,.any,.bool false,.ptr 0 0,.any,.any,.ptr 1 0,.ref 2 1 0 n.tr.length,.bool (clK n false c k).ch,.any,.any,.any,.any,.any,.any,trs n.tr,I n.tr.length,I k,.any,.any,.any,.any,.any,.any,.any],[.box wl9 [I n.pl,trs n.tr],.box wld [.ref 3 1 0 n.pl.toNat],.row wl5 true 1 ((clK n false c k).tr.map PV.bool),.row wl5 true 1 ((clK n false c k).pl.map PV.bool)]⟩) ?_ ?_ ?_
   ·simp(maxSteps:=9^9)(disch:=first|omega|(simp only[H'];try omega))only[go_sem,P'k,C',D',E']
    rfl
   ·rintro k s hk rfl
    have hT:=hb.2.2.2 _ (P'l hk)
    have hLs:=zk4 hT (by omega)
    obtain⟨_,g1,g2,g3⟩:=zk8 hT
    have p1:=z11p g1
    have p2:=z11p g2
    have hd:=hcl k
    have hstep:=za1 n false c k
    have htr:n.tr[k]=trN n k:=(z1fx hk).symm
    rw[htr]at hLs p1 p2
    have s1:(clK n false c k).tr.getD k false=true->clK n false c (k+1)=clK n false c k:=fun h=>hstep.trans (zab (.inl h))
    have s2:hitB (clK n false c k).pl (sideI false (trN n k))=false->clK n false c (k+1)=clK n false c k:=fun h=>hstep.trans (zab (.inr h))
    have s3:(clK n false c k).tr.getD k false=false->hitB (clK n false c k).pl (sideI false (trN n k))=true->clK n false c (k+1)=⟨markB (clK n false c k).pl (sideO false (trN n k)),(clK n false c k).tr.set k true,true⟩:=fun h h2=>hstep.trans (zac h h2)
    simp only[sideI,sideO,M'w,if_false,if_true]at s2 s3
    clear hstep
    generalize clK n false c k=d at *
    generalize clK n false c (k+1)=d' at *
    have hcont:=wj0 (trN n k).inn w9x [.pv (.agg [bls d.pl]) 0] rfl (fun _ _=>rfl) (fun q=>d.pl.getD q.toNat false) (fun x hx=>we3 x d.pl (by have:=p1 x hx;omega)) (by omega)
    rw[show((trN n k).inn.any fun q=>d.pl.getD q.toNat false)=hitB d.pl (trN n k).inn from rfl]at hcont
    have hkd:k<d.tr.length:=by omega
    simp(maxSteps:=9^9)(disch:=first|omega|(simp only[H'];try omega))only[go_sem,P'k,C',D',E',htr,hcont]
    generalize trN n k=tr at *
    refine⟨fun h3=>?_,fun h3=>⟨fun h=>?_,fun h=>?_⟩⟩
    ·rw[s1 (by rw[<-zj5 hkd];exact h3)];rfl
    ·have e:=s3 (by rw[<-zj5 hkd];exact h3) h
     subst e
     refine W_for tr.out.length (fun j s=>s=⟨[.any,.any,.bool false,.ptr 0 0,.any,.any,.ptr 1 0,.ref 2 1 0 n.tr.length,.bool true,.any,.any,.any,.any,.any,.any,trs n.tr,I n.tr.length,I k,.any,.any,.any,ints tr.out,I tr.out.length,I j,.any],[.box wl9 [I n.pl,trs n.tr],.box wld [.ref 3 1 0 n.pl.toNat],.row wl5 true 1 ((d.tr.set k true).map PV.bool),.row wl5 true 1 ((markB d.pl (tr.out.take j)).map PV.bool)]⟩) ?_ ?_ ?_
     ·simp(maxSteps:=9^9)(disch:=first|omega|(simp only[H'];try omega))only[go_sem,P'k,C',D',E']
      rfl
     ·rintro j s hj rfl
      have h1:=p2 _ (P'l hj)
      have h2:tr.out[j].toNat<d.pl.length:=by omega
      have h4:=zsl d.pl (tr.out.take j)
      simp(maxSteps:=9^9)(disch:=first|omega|(simp only[H'];try omega))only[go_sem,P'k,C',D',E']
      rw[zsm hj];rfl
     ·rintro s rfl
      simp(maxSteps:=9^9)(disch:=first|omega|(simp only[H'];try omega))only[go_sem,P'k,C',D',E',M'i]
      rfl
    ·rw[s2 h];rfl
   ·rintro s rfl
    simp(maxSteps:=9^9)(disch:=first|omega|(simp only[H'];try omega))only[go_sem,P'k,C',D',E']
    have hn:=za7 (n:=n) (bk:=false) hc2
    rw[hc]at hn
    cases e:(za2 n false c).ch with
    |true=>
     have h1:=(z9y (n:=n) (bk:=false) (s:=c) (k:=n.tr.length) (by omega)).2 e
     simp only[e,if_true]at hn
     refine⟨cntF (za2 n false c).tr+1,by unfold za2;omega,za2 n false c,by unfold za2;have:=hcl n.tr.length;omega,by unfold za2;have:=hcl n.tr.length;omega,.inl ⟨rfl,?_,hn.symm⟩⟩
     unfold za2 at e ⊢
     rw[e]
    |false=>
     simp only[e,M'w,if_false]at hn
     refine⟨0,by omega,za2 n false c,by unfold za2;have:=hcl n.tr.length;omega,by unfold za2;have:=hcl n.tr.length;omega,.inr ⟨rfl,?_,hn.symm⟩⟩
     unfold za2 at e ⊢
     rw[e]
  ·simp(maxSteps:=9^9)(disch:=first|omega|(simp only[H'];try omega))only[go_sem,P'k,C',D',E']
theorem we5(n:Net)(p:Int)(hg:goodN n=true)(hp:0<=p/\p<n.pl):C w9w [encN n,I p,.bool true] []=some (.tup [.un wl5 true 1 ((z13q n true p).pl.map PV.bool),.un wl5 true 1 ((z13q n true p).tr.map PV.bool)],[]):=by
 have hb:=zjy hg
 have hlen:=z13t n true p
 rw[z13r]at hlen ⊢
 refine w1c ?_
 simp(maxSteps:=9^9)(disch:=first|omega|(simp only[H'];try omega))only[wfu,go_sem,P'k,C',D',E']
 simp(maxSteps:=9^9)(disch:=first|omega|(simp only[H'];try omega))only[go_sem,P'k,C',D',E',R'3]
 generalize hR:clRun n true (cntF (L'0 n.tr.length false)+1) ⟨(L'0 n.pl.toNat false).set p.toNat true,L'0 n.tr.length false,true⟩=R at *
 refine⟨rfl,?_⟩
 refine z1a (fun k s=>∃c:Cl,c.pl.length=n.pl.toNat/\c.tr.length=n.tr.length/\((k=cntF c.tr+1/\s=⟨[.any,.any,.bool true,.ptr 0 0,.any,.any,.ptr 1 0,.ref 2 1 0 n.tr.length,.bool true,.any,.any,.any,.any,.any,.any,.any,.any,.any,.any,.any,.any,.any,.any,.any,.any],[.box wl9 [I n.pl,trs n.tr],.box wld [.ref 3 1 0 n.pl.toNat],.row wl5 true 1 (c.tr.map PV.bool),.row wl5 true 1 (c.pl.map PV.bool)]⟩/\clRun n true (cntF c.tr+1) c=R)\/(k=0/\s=⟨[.any,.any,.bool true,.ptr 0 0,.any,.any,.ptr 1 0,.ref 2 1 0 n.tr.length,.bool false,.any,.any,.any,.any,.any,.any,.any,.any,.any,.any,.any,.any,.any,.any,.any,.any],[.box wl9 [I n.pl,trs n.tr],.box wld [.ref 3 1 0 n.pl.toNat],.row wl5 true 1 (c.tr.map PV.bool),.row wl5 true 1 (c.pl.map PV.bool)]⟩/\c=R))) (cntF (L'0 n.tr.length false)+1) ?_ ?_
 ·refine⟨⟨(L'0 n.pl.toNat false).set p.toNat true,L'0 n.tr.length false,true⟩,by simp,by simp,.inl ⟨rfl,?_,hR⟩⟩
  simp(maxSteps:=9^9)(disch:=first|omega|(simp only[H'];try omega))only[go_sem,P'k,C',D',E']
  simp
 ·rintro k0 s ⟨c,hc1,hc2,⟨rfl,rfl,hc⟩|⟨rfl,rfl,rfl⟩⟩
  ·have hcl:=fun k=>z9z n true c k
   simp(maxSteps:=9^9)(disch:=first|omega|(simp only[H'];try omega))only[go_sem,P'k,C',D',E']
   refine W_for n.tr.length (fun k s=>s=⟨[.any,.any,.bool true,.ptr 0 0,.any,.any,.ptr 1 0,.ref 2 1 0 n.tr.length,.bool (clK n true c k).ch,.any,.any,.any,.any,.any,.any,trs n.tr,I n.tr.length,I k,.any,.any,.any,.any,.any,.any,.any],[.box wl9 [I n.pl,trs n.tr],.box wld [.ref 3 1 0 n.pl.toNat],.row wl5 true 1 ((clK n true c k).tr.map PV.bool),.row wl5 true 1 ((clK n true c k).pl.map PV.bool)]⟩) ?_ ?_ ?_
   ·simp(maxSteps:=9^9)(disch:=first|omega|(simp only[H'];try omega))only[go_sem,P'k,C',D',E']
    rfl
   ·rintro k s hk rfl
    have hT:=hb.2.2.2 _ (P'l hk)
    have hLs:=zk4 hT (by omega)
    obtain⟨_,g1,g2,g3⟩:=zk8 hT
    have p1:=z11p g2
    have p2:=z11p g1
    have hd:=hcl k
    have hstep:=za1 n true c k
    have htr:n.tr[k]=trN n k:=(z1fx hk).symm
    rw[htr]at hLs p1 p2
    have s1:(clK n true c k).tr.getD k false=true->clK n true c (k+1)=clK n true c k:=fun h=>hstep.trans (zab (.inl h))
    have s2:hitB (clK n true c k).pl (sideI true (trN n k))=false->clK n true c (k+1)=clK n true c k:=fun h=>hstep.trans (zab (.inr h))
    have s3:(clK n true c k).tr.getD k false=false->hitB (clK n true c k).pl (sideI true (trN n k))=true->clK n true c (k+1)=⟨markB (clK n true c k).pl (sideO true (trN n k)),(clK n true c k).tr.set k true,true⟩:=fun h h2=>hstep.trans (zac h h2)
    simp only[sideI,sideO,M'w,if_false,if_true]at s2 s3
    clear hstep
    generalize clK n true c k=d at *
    generalize clK n true c (k+1)=d' at *
    have hcont:=wj0 (trN n k).out w9x [.pv (.agg [bls d.pl]) 0] rfl (fun _ _=>rfl) (fun q=>d.pl.getD q.toNat false) (fun x hx=>we3 x d.pl (by have:=p1 x hx;omega)) (by omega)
    rw[show((trN n k).out.any fun q=>d.pl.getD q.toNat false)=hitB d.pl (trN n k).out from rfl]at hcont
    have hkd:k<d.tr.length:=by omega
    simp(maxSteps:=9^9)(disch:=first|omega|(simp only[H'];try omega))only[go_sem,P'k,C',D',E',htr,hcont]
    generalize trN n k=tr at *
    refine⟨fun h3=>?_,fun h3=>⟨fun h=>?_,fun h=>?_⟩⟩
    ·rw[s1 (by rw[<-zj5 hkd];exact h3)];rfl
    ·have e:=s3 (by rw[<-zj5 hkd];exact h3) h
     subst e
     refine W_for tr.inn.length (fun j s=>s=⟨[.any,.any,.bool true,.ptr 0 0,.any,.any,.ptr 1 0,.ref 2 1 0 n.tr.length,.bool true,.any,.any,.any,.any,.any,.any,trs n.tr,I n.tr.length,I k,.any,.any,.any,ints tr.inn,I tr.inn.length,I j,.any],[.box wl9 [I n.pl,trs n.tr],.box wld [.ref 3 1 0 n.pl.toNat],.row wl5 true 1 ((d.tr.set k true).map PV.bool),.row wl5 true 1 ((markB d.pl (tr.inn.take j)).map PV.bool)]⟩) ?_ ?_ ?_
     ·simp(maxSteps:=9^9)(disch:=first|omega|(simp only[H'];try omega))only[go_sem,P'k,C',D',E']
      rfl
     ·rintro j s hj rfl
      have h1:=p2 _ (P'l hj)
      have h2:tr.inn[j].toNat<d.pl.length:=by omega
      have h4:=zsl d.pl (tr.inn.take j)
      simp(maxSteps:=9^9)(disch:=first|omega|(simp only[H'];try omega))only[go_sem,P'k,C',D',E']
      rw[zsm hj];rfl
     ·rintro s rfl
      simp(maxSteps:=9^9)(disch:=first|omega|(simp only[H'];try omega))only[go_sem,P'k,C',D',E',M'i]
      rfl
    ·rw[s2 h];rfl
   ·rintro s rfl
    simp(maxSteps:=9^9)(disch:=first|omega|(simp only[H'];try omega))only[go_sem,P'k,C',D',E']
    have hn:=za7 (n:=n) (bk:=true) hc2
    rw[hc]at hn
    cases e:(za2 n true c).ch with
    |true=>
     have h1:=(z9y (n:=n) (bk:=true) (s:=c) (k:=n.tr.length) (by omega)).2 e
     simp only[e,if_true]at hn
     refine⟨cntF (za2 n true c).tr+1,by unfold za2;omega,za2 n true c,by unfold za2;have:=hcl n.tr.length;omega,by unfold za2;have:=hcl n.tr.length;omega,.inl ⟨rfl,?_,hn.symm⟩⟩
     unfold za2 at e ⊢
     rw[e]
    |false=>
     simp only[e,M'w,if_false]at hn
     refine⟨0,by omega,za2 n true c,by unfold za2;have:=hcl n.tr.length;omega,by unfold za2;have:=hcl n.tr.length;omega,.inr ⟨rfl,?_,hn.symm⟩⟩
     unfold za2 at e ⊢
     rw[e]
  ·simp(maxSteps:=9^9)(disch:=first|omega|(simp only[H'];try omega))only[go_sem,P'k,C',D',E']
theorem wdg(a b:List Bool)(ha:a.length<2^30)(hab:a.length<=b.length):C w9a [bls a,bls b] []=some (.un t_int true 1 ((bothL a b).map I),[]):=by
 refine w0r ?_
 simp(maxSteps:=9^9)(disch:=first|omega|(simp only[H'];try omega))only[wf7,go_sem,P'k,C',D',E']
 refine W_for a.length (fun k s=>s=⟨[.any,bls b,.any,.ref 0 1 0 (bothK a b k).length,.any,.any,bls a,I a.length,I k,.any,.any],[.row t_int true 1 ((bothK a b k).map I)]⟩) ?_ ?_ ?_
 ·simp(maxSteps:=9^9)(disch:=first|omega|(simp only[H'];try omega))only[go_sem,P'k,C',D',E']
  rfl
 ·rintro k s hk rfl
  have h2:=z76 a b k
  have hkb:k<b.length:=by omega
  have e1:=zj5 hk
  have e2:=zj5 hkb
  simp(maxSteps:=9^9)(disch:=first|omega|(simp only[H'];try omega))only[go_sem,P'k,C',D',E']
  rw[e1,e2]
  refine⟨fun h=>⟨fun h3=>?_,fun h3=>?_⟩,fun h=>?_⟩
  ·rw[z77 h h3,M'r];simp
  ·rw[z75 (by rw[h,h3];rfl)];rfl
  ·rw[z75 (by rw[h];rfl)];rfl
 ·rintro s rfl
  simp(maxSteps:=9^9)(disch:=first|omega|(simp only[H'];try omega))only[go_sem,P'k,C',D',E']
  rfl
theorem we2(n:Net)(a b:Int)(hg:goodN n=true)(ha:0<=a/\a<n.pl)(hb2:0<=b/\b<n.pl):C w9v [encN n,I a,I b] []=some (.tup [.un t_int true 1 ((wayP n a b).map I),.un t_int true 1 ((wayT n a b).map I)],[]):=by
 have hb:=zjy hg
 have l1:=z13t n false a
 have l2:=z13t n true b
 refine w1b ?_
 simp(maxSteps:=9^9)(disch:=first|omega|(simp only[H'];try omega))only[wft,go_sem,P'k,C',D',E']
 simp(maxSteps:=9^9)(disch:=first|omega|(simp only[H'];try omega))only[go_sem,P'k,C',D',E',we4 n a hg ha,we5 n b hg hb2]
 simp(maxSteps:=9^9)(disch:=first|omega|(simp only[H'];try omega))only[go_sem,P'k,C',D',E',wdg (z13q n false a).pl (z13q n true b).pl (by omega) (by omega),wdg (z13q n false a).tr (z13q n true b).tr (by omega) (by omega)]
 rfl
theorem wd1(f:Fl)(hf:smN f.net):C w8v [encF f] []=some (.bool (zji f),[]):=by
 have hl:=hf.1
 refine w0c ?_
 simp(maxSteps:=9^9)(disch:=first|omega|(simp only[H'];try omega))only[weq,go_sem,P'k,C',D',E']
 simp(maxSteps:=9^9)(disch:=first|omega|(simp only[H'];try omega))only[go_sem,P'k,C',D',E',wd4 f.net hf,web]
 cases hg:goodN f.net with
 |false=>simp[zji,okWay,hg]
 |true=>
  have hb:=zjy hg
  cases h1:inB 0 (f.net.pl-1) f.src with
  |false=>simp(maxSteps:=9^9)(disch:=first|omega|(simp only[H'];try omega))only[go_sem,P'k,C',D',E',h1];simp[zji,okWay,hg,h1]
  |true=>
   cases h2:inB 0 (f.net.pl-1) f.dst with
   |false=>simp(maxSteps:=9^9)(disch:=first|omega|(simp only[H'];try omega))only[go_sem,P'k,C',D',E',h1,h2];simp[zji,okWay,hg,h1,h2]
   |true=>
    have hok:okWay f.net f.src f.dst=true:=by simp[okWay,hg,h1,h2]
    have ha:0<=f.src/\f.src<f.net.pl:=by simp[inB]at h1;omega
    have hb2:0<=f.dst/\f.dst<f.net.pl:=by simp[inB]at h2;omega
    have hP:(wayP f.net f.src f.dst).length<2^62:=by
     have h1:=z76 (z13q f.net false f.src).pl (z13q f.net true f.dst).pl (z13q f.net false f.src).pl.length
     have h2:=z13t f.net false f.src
     unfold wayP bothL;omega
    have hT:(wayT f.net f.src f.dst).length<2^62:=by
     have h1:=z76 (z13q f.net false f.src).tr (z13q f.net true f.dst).tr (z13q f.net false f.src).tr.length
     have h2:=z13t f.net false f.src
     unfold wayT bothL;omega
    simp(maxSteps:=9^9)(disch:=first|omega|(simp only[H'];try omega))only[go_sem,P'k,C',D',E',h1,h2]
    refine⟨fun h=>by simp[zji,h],fun hne=>?_⟩
    refine W_for f.net.tr.length (fun k s=>s=⟨[.any,.ptr 0 0,.any,.ptr 1 0,.any,.any,.any,.any,trs f.net.tr,I f.net.tr.length,I k,.any,.any],[.box wl8 [I f.net.pl,trs f.net.tr,I f.src,I f.dst],.box wl9 [I f.net.pl,trs f.net.tr]]⟩/\(f.net.tr.take k).all (fun t=>!z1cj f t)=true) ?_ ?_ ?_
    ·simp(maxSteps:=9^9)(disch:=first|omega|(simp only[H'];try omega))only[go_sem,P'k,C',D',E']
     rfl
    ·rintro k s hk⟨rfl,hall⟩
     have hT:=hb.2.2.2 _ (P'l hk)
     have hLs:=zk4 hT (by omega)
     simp(maxSteps:=9^9)(disch:=first|omega|(simp only[H'];try omega))only[go_sem,P'k,C',D',E',wj3]
     have gs:z1cj f f.net.tr[k]=true->zji f=false:=fun hs=>by
      have:(f.net.tr.all fun t=>!z1cj f t)=false:=z2y hk (by simp[hs])
      simp[zji,this]
     exact⟨fun a=>by rw[gs (by simp[z1cj,a])],fun a=>⟨fun b=>by rw[gs (by simp[z1cj,b])],fun b=>⟨fun c=>by rw[gs (by simp[z1cj,c])],fun c=>⟨fun d=>by rw[gs (by simp[z1cj,d])],fun d=>⟨rfl,z2z hk hall (by simp[z1cj,a,b,c,d])⟩⟩⟩⟩⟩
    ·rintro s⟨rfl,hall⟩
     rw[M'i]at hall
     simp(maxSteps:=9^9)(disch:=first|omega|(simp only[H'];try omega))only[go_sem,P'k,C',D',E',we2 f.net f.src f.dst hg ha hb2]
     have e:zji f=(decide (((wayP f.net f.src f.dst).length:Int)=f.net.pl)&&decide ((wayT f.net f.src f.dst).length=f.net.tr.length)):=by
      simp only[zji,hok,hne,hall,decide_false,Bool.not_false,Bool.true_and]
     refine⟨fun q1=>⟨fun q2=>?_,fun q2=>?_⟩,fun q1=>?_⟩
     ·rw[e,decide_eq_true q1,decide_eq_true (by omega)];rfl
     ·rw[e,decide_eq_true q1,decide_eq_false (by omega)];rfl
     ·rw[e,decide_eq_false q1];rfl
theorem wdw(f:Fl)(b:Int)(hf:smN f.net):C w9p [encF f,I b] []=some (.bool (zji f&&inB 1 400 b),[]):=by
 refine w15 ?_
 simp(maxSteps:=9^9)(disch:=first|omega|(simp only[H'];try omega))only[wfm,go_sem,P'k,C',D',E']
 simp(maxSteps:=9^9)(disch:=first|omega|(simp only[H'];try omega))only[go_sem,P'k,C',D',E',wd1 f hf,web]
 grind
theorem we8(n p:Int)(hn:0<=n/\n<2^30)(hp:0<=p/\p<n):C w9z [I n,I p] []=some (.un t_int true 1 ((oneM n.toNat p).map I),[]):=by
 refine w1f ?_
 simp(maxSteps:=9^9)(disch:=first|omega|(simp only[H'];try omega))only[wfx,go_sem,P'k,C',D',E']
 simp(maxSteps:=9^9)(disch:=first|omega|(simp only[H'];try omega))only[go_sem,P'k,C',D',E',R'3]
 simp[oneM,R'2]
theorem we9(f:Fl)(hg:zji f=true):C wa0 [encF f] []=some (.un t_int true 1 ((oneM f.net.pl.toNat f.src).map I),[]):=by
 obtain⟨g1,g2,g3,_⟩:=zjm hg
 have hn:=zjy g1
 refine w1g ?_
 simp(maxSteps:=9^9)(disch:=first|omega|(simp only[H'];try omega))only[wfy,go_sem,P'k,C',D',E']
 simp(maxSteps:=9^9)(disch:=first|omega|(simp only[H'];try omega))only[go_sem,P'k,C',D',E',we8 f.net.pl f.src (by omega) g2]
theorem wdx(m:List Int)(p:Int)(h:0<=p/\p.toNat<m.length):C w9r [I p,.pv (.agg [ints m]) 0] []=some (.bool (at_ m p==0),[]):=by
 obtain⟨h1,h2⟩:=h
 refine w17 ?_
 simp(maxSteps:=9^9)(disch:=first|omega|(simp only[H'];try omega))only[wfo,go_sem,P'k,C',D',E']
 simp only[at_eq h2]
 grind
theorem wdy(t:Tr)(m:List Int)(ht:∀q∈t.inn,0<=q/\q.toNat<m.length)(hl:t.inn.length<2^62):C w9q [encT t,ints m] []=some (.bool (canT t m),[]):=by
 refine w16 ?_
 simp(maxSteps:=9^9)(disch:=first|omega|(simp only[H'];try omega))only[wfn,go_sem,P'k,C',D',E']
 have h:=wj0 t.inn w9r [.pv (.agg [ints m]) 0] rfl (fun _ _=>rfl) (fun p=>at_ m p==0) (fun x hx=>wdx m x (ht x hx)) hl
 simp(maxSteps:=9^9)(disch:=first|omega|(simp only[H'];try omega))only[go_sem,P'k,C',D',E',h]
 have:(t.inn.any fun p=>at_ m p==0)=!canT t m:=by rw[canT,R'9]
 rw[this];simp
theorem wdr(n:Net)(m:List Int)(hg:goodN n=true)(hm:(m.length:Int)=n.pl):C w9k [encN n,ints m] []=some (.un t_int true 1 ((enabL n m).map I),[]):=by
 have hb:=zjy hg
 refine w10 ?_
 simp(maxSteps:=9^9)(disch:=first|omega|(simp only[H'];try omega))only[wfh,go_sem,P'k,C',D',E']
 refine W_for n.tr.length (fun k s=>s=⟨[.any,ints m,.any,.any,.ref 0 1 0 (enabK n m k).length,.any,.any,trs n.tr,I n.tr.length,I k,.any,.any],[.row t_int true 1 ((enabK n m k).map I)]⟩) ?_ ?_ ?_
 ·simp(maxSteps:=9^9)(disch:=first|omega|(simp only[H'];try omega))only[go_sem,P'k,C',D',E']
  rfl
 ·rintro k s hk rfl
  have hT:=hb.2.2.2 _ (P'l hk)
  have h2:=zdj n m k
  simp(maxSteps:=9^9)(disch:=first|omega|(simp only[H'];try omega))only[go_sem,P'k,C',D',E',wdy _ m (zk5 hT hm).1 (by have:=(zk4 hT (by omega)).1;omega)]
  refine⟨fun h=>?_,fun h=>?_⟩
  ·rw[zdk hk h,M'r];simp
  ·rw[zdi hk h];rfl
 ·rintro s rfl
  simp(maxSteps:=9^9)(disch:=first|omega|(simp only[H'];try omega))only[go_sem,P'k,C',D',E']
  rfl
theorem wdu(t:Tr)(m:List Int)(h1:∀q∈t.inn,0<=q/\q.toNat<m.length)(h2:∀q∈t.out,0<=q/\q.toNat<m.length)(h3:∀q∈t.rst,0<=q/\q.toNat<m.length)(hl:smT t)(hm:m.length<2^30)(hb:∀x∈m,0<=x/\x<=50) :
  C w9n [encT t,ints m] []=some (.un t_int true 1 ((zgw t m).map I),[]):=by
 obtain⟨g1,g2,g3⟩:=hl
 refine w13 ?_
 simp(maxSteps:=9^9)(disch:=first|omega|(simp only[H'];try omega))only[wfk,go_sem,P'k,C',D',E']
 simp(maxSteps:=9^9)(disch:=first|omega|(simp only[H'];try omega))only[go_sem,P'k,C',D',E',wiw]
 refine W_for t.inn.length (fun k s=>s=⟨[.any,.any,.ptr 0 0,.any,.ref 1 1 0 m.length,.any,.any,.any,ints t.inn,I t.inn.length,I k,.any,.any,.any,.any,.any,.any,.any,.any,.any],[.box wlb [ints t.inn,ints t.out,ints t.rst],.row t_int true 1 ((decL m (t.inn.take k)).map I)]⟩) ?_ ?_ ?_
 ·simp(maxSteps:=9^9)(disch:=first|omega|(simp only[H'];try omega))only[go_sem,P'k,C',D',E']
  rfl
 ·rintro k s hk rfl
  obtain⟨h4,h5⟩:=h1 _ (P'l hk)
  have h6:=zcc m (t.inn.take k)
  have h7:=z4o (p:=t.inn[k]) (zcb (l:=t.inn.take k) hb (fun p hp=>(h1 p (R'5 hp)).2)) (by omega)
  have h8:(t.inn.take k).length=k:=by simp;omega
  simp(maxSteps:=9^9)(disch:=first|omega|(simp only[H'];try omega))only[go_sem,P'k,C',D',E',at_eq]
  rw[zcd hk];rfl
 ·rintro s rfl
  simp(maxSteps:=9^9)(disch:=first|omega|(simp only[H'];try omega))only[go_sem,P'k,C',D',E',M'i]
  have b1:=zcb (l:=t.inn) hb (fun p hp=>(h1 p hp).2)
  have l1:=zcc m t.inn
  generalize e1:decL m t.inn=m1 at b1 l1 ⊢
  refine W_for t.rst.length (fun k s=>s=⟨[.any,.any,.ptr 0 0,.any,.ref 1 1 0 m.length,.any,.any,.any,.any,.any,.any,.any,ints t.rst,I t.rst.length,I k,.any,.any,.any,.any,.any],[.box wlb [ints t.inn,ints t.out,ints t.rst],.row t_int true 1 ((zerL m1 (t.rst.take k)).map I)]⟩) ?_ ?_ ?_
  ·simp(maxSteps:=9^9)(disch:=first|omega|(simp only[H'];try omega))only[go_sem,P'k,C',D',E']
   rfl
  ·rintro k s hk rfl
   obtain⟨h4,h5⟩:=h3 _ (P'l hk)
   have h6:=z1i1 m1 (t.rst.take k)
   simp(maxSteps:=9^9)(disch:=first|omega|(simp only[H'];try omega))only[go_sem,P'k,C',D',E']
   rw[z1i2 hk];rfl
  ·rintro s rfl
   simp(maxSteps:=9^9)(disch:=first|omega|(simp only[H'];try omega))only[go_sem,P'k,C',D',E',M'i]
   have b2:=z1i0 (l:=t.rst) b1 (by omega)
   have l2:=z1i1 m1 t.rst
   generalize e2:zerL m1 t.rst=m2 at b2 l2 ⊢
   refine W_for t.out.length (fun k s=>s=⟨[.any,.any,.any,.any,.ref 0 1 0 m.length,.any,.any,.any,.any,.any,.any,.any,.any,.any,.any,.any,ints t.out,I t.out.length,I k,.any],[.row t_int true 1 ((incL m2 (t.out.take k)).map I)]⟩) ?_ ?_ ?_
   ·simp(maxSteps:=9^9)(disch:=first|omega|(simp only[H'];try omega))only[go_sem,P'k,C',D',E']
    rfl
   ·rintro k s hk rfl
    obtain⟨h4,h5⟩:=h2 _ (P'l hk)
    have h6:=zn3 m2 (t.out.take k)
    have h7:=z4o (p:=t.out[k]) (zn2 (l:=t.out.take k) b2 (fun p hp=>by have:=(h2 p (R'5 hp)).2;omega)) (by omega)
    have h8:(t.out.take k).length=k:=by simp;omega
    simp(maxSteps:=9^9)(disch:=first|omega|(simp only[H'];try omega))only[go_sem,P'k,C',D',E',at_eq]
    rw[zn4 hk];rfl
   ·rintro s rfl
    have h6:=zn3 m2 t.out
    simp(maxSteps:=9^9)(disch:=first|omega|(simp only[H'];try omega))only[go_sem,P'k,C',D',E',M'i]
    subst e2 e1;rfl
theorem wj5(a b:List Int)(hl:a.length<2^62):C wap [ints a,ints b] []=some (.bool (decide (a=b)),[]):=by
 refine w21 ?_
 simp(maxSteps:=9^9)(disch:=first|omega|(simp only[H'];try omega))only[wgm,go_sem,P'k,C',D',E']
 refine⟨fun h=>?_,fun h=>?_⟩
 ·have:a≠b:=fun e=>h (by rw[e])
  simp[this]
 refine W_for a.length (fun k s=>s=⟨[ints a,ints b,.any,.any,.any,I a.length,I k,.any,.any],[]⟩/\a.take k=b.take k) ?_ ?_ ?_
 ·simp(maxSteps:=9^9)(disch:=first|omega|(simp only[H'];try omega))only[go_sem,P'k,C',D',E']
  rfl
 ·rintro k s hk⟨rfl,hall⟩
  simp(maxSteps:=9^9)(disch:=first|omega|(simp only[H'];try omega))only[go_sem,P'k,C',D',E']
  refine⟨fun h=>?_,fun h=>⟨rfl,?_⟩⟩
  ·have:a≠b:=fun e=>h (by simp[e])
   simp[this]
  ·rw[z1fe hk,z1fe (show k<b.length by omega),hall,h]
 ·rintro s⟨rfl,hall⟩
  simp(maxSteps:=9^9)(disch:=first|omega|(simp only[H'];try omega))only[go_sem,P'k,C',D',E']
  rw[M'i,L'e (by omega)]at hall
  simp[hall]
abbrev encA(a:Arc3):PV:=.agg [I a.src,I a.by_,I a.dst]
def arcPV(l:List Arc3):PV:=if l=[]then .nil true 3 else .un wl6 true 3 (l.map encA)
def exPV(r:Ex):PV:=if r.code=0 then .agg [.un wle false 1 (r.sp.ms.map ints),arcPV r.sp.ar]else .agg [.nil false 1,.nil true 3]
def w8c(r:Ex):Int:=if r.code=0 then 1 else r.code
theorem w8d{n:Net}{start:List Int}{b:Int}(hm:zss n start=true)(hb:1<=b):ExOk n start b ⟨⟨[start],[]⟩,0⟩:=by
 refine⟨rfl,fun m hm2=>?_,by simp;omega,by simp,fun a ha=>by simp at ha,fun j hj hl=>?_⟩
 ·simp only[List.mem_singleton]at hm2;subst hm2;exact hm
 ·simp only[M'2,M'7]at hl;omega
theorem wd8(x m:List Int)(hx:x.length<2^62):C w93 [ints x,.pv (.agg [ints m]) 0] []=some (.bool (decide (x=m)),[]):=by
 refine w0k ?_
 simp(maxSteps:=9^9)(disch:=first|omega|(simp only[H'];try omega))only[wey,go_sem,P'k,C',D',E']
 simp(maxSteps:=9^9)(disch:=first|omega|(simp only[H'];try omega))only[go_sem,P'k,C',D',E',wj5]
 grind
theorem wj9(l:List (List Int))(g:FuncId)(caps:List PV)(hc:refsL caps=[])(hcv:∀m h,z1gv [] m h caps=some caps)(p:List Int->Bool)(hp:∀x∈l,C g (ints x::caps) []=some (.bool (p x),[]))(hl:l.length<2^62) :
  C wau [rows l,.clo g caps] []=some (I (idxI l p),[]):=by
 refine w25 ?_
 simp(maxSteps:=9^9)(disch:=first|omega|(simp only[H'];try omega))only[wgq,go_sem,P'k,C',D',E']
 refine W_for l.length (fun k s=>s=⟨[rows l,.clo g caps,.any,.any,I l.length,I k,.any,.any],[]⟩/\(l.take k).any p=false) ?_ ?_ ?_
 ·simp(maxSteps:=9^9)(disch:=first|omega|(simp only[H'];try omega))only[go_sem,P'k,C',D',E',hc]
  rfl
 ·rintro k s hk⟨rfl,hall⟩
  simp(maxSteps:=9^9)(disch:=first|omega|(simp only[H'];try omega))only[go_sem,P'k,C',D',E',hc,hcv,hp _ (P'l hk)]
  exact⟨fun h=>by rw[zl4 hk hall h],fun h=>⟨rfl,z3e hk hall h⟩⟩
 ·rintro s⟨rfl,hall⟩
  simp(maxSteps:=9^9)(disch:=first|omega|(simp only[H'];try omega))only[go_sem,P'k,C',D',E']
  rw[M'i]at hall
  rw[zl3 hall]
theorem wd9(ms:List (List Int))(A:List PV)(m:List Int)(hl:ms.length<2^62)(hx:∀x∈ms,x.length<2^62):C w92 [.agg [rows ms,.sl true 3 A],ints m] []=some (I (findM ms m),[]):=by
 have h:=wj9 ms w93 [.pv (.agg [ints m]) 0] rfl (fun _ _=>rfl) (fun x=>decide (x=m)) (fun x h=>wd8 x m (hx x h)) hl
 refine w0j ?_
 simp(maxSteps:=9^9)(disch:=first|omega|(simp only[H'];try omega))only[wex,go_sem,P'k,C',D',E']
 simp(maxSteps:=9^9)(disch:=first|omega|(simp only[H'];try omega))only[go_sem,P'k,C',D',E',h]
 rfl
theorem wdt(n:Net)(start:List Int)(b:Int)(hm:zss n start=true)(hb:1<=b/\b<=400):C w9m [encN n,ints start,I b] []=some (.tup [exPV (exAll n start b),I (w8c (exAll n start b))],[]):=by
  obtain⟨hg,hmk⟩:=zst hm
  have hn:=zjy hg
  have hs:=zjq hmk
  refine w12 ?_
  simp(maxSteps:=9^9)(disch:=first|omega|(simp only[H'];try omega))only[wfj,go_sem,P'k,C',D',E']
  simp(maxSteps:=9^9)(disch:=first|omega|(simp only[H'];try omega))only[go_sem,P'k,C',D',E',wiw]
  generalize hR:exAll n start b=R
  refine z1a (fun d s=>∃(k:Nat) (c:Ex),d+k=b.toNat+1/\ExOk n start b c/\c.code=0/\k<=c.sp.ms.length/\c.sp.ar.length<=24*k/\exRun n b (d+1) k c=R/\((s=⟨[.any,.any,I b,.ptr 0 0,.ptr 1 0,.any,.ptr 2 0,I k,.any,.any,.any,.any,.any,.any,.any,.any,.any,.any,.any],[.box wl9 [I n.pl,trs n.tr],.box wla [.nil false 1,.nil true 3],.box wla [.ref 3 1 0 c.sp.ms.length,.nil true 3],.row wle false 1 (c.sp.ms.map ints)]⟩/\c.sp.ar=[])\/(s=⟨[.any,.any,I b,.ptr 0 0,.ptr 1 0,.any,.ptr 2 0,I k,.any,.any,.any,.any,.any,.any,.any,.any,.any,.any,.any],[.box wl9 [I n.pl,trs n.tr],.box wla [.nil false 1,.nil true 3],.box wla [.ref 3 1 0 c.sp.ms.length,.ref 4 3 0 c.sp.ar.length],.row wle false 1 (c.sp.ms.map ints),.row wl6 true 3 (c.sp.ar.map encA)]⟩/\c.sp.ar≠[]))) (b.toNat+1) ?_ ?_
  · refine⟨0,⟨⟨[start],[]⟩,0⟩,by omega,w8d hm hb.1,rfl,by omega,by simp,hR,.inl ⟨?_,rfl⟩⟩
    simp(maxSteps:=9^9)(disch:=first|omega|(simp only[H'];try omega))only[go_sem,P'k,C',D',E']
    rfl
  · rintro d s ⟨k,c,hd,hok,hc0,hk,hal,hrun,hcs⟩
    have hlb:=hok.lenb
    by_cases hkl:k<c.sp.ms.length
    · have hmem:=zj8 hkl
      have hmg:=zst (hok.good _ hmem)
      have hml:=zjq hmg.2
      have en:=wdr n (c.sp.ms.getD k []) hg hml.2.2.1
      have hLl:(enabL n (c.sp.ms.getD k [])).length<=n.tr.length:=zdj ..
      have er:exRun n b (d+1) k c=exRun n b d (k+1) (exL n b k c (enabL n (c.sp.ms.getD k []))):=by
        show(if c.code≠0 then c else if k<c.sp.ms.length then _ else c)=_
        rw[if_neg (by omega),if_pos hkl]
      rw[er]at hrun
      have hen:∀t∈enabL n (c.sp.ms.getD k []),t∈enabL n (c.sp.ms.getD k []):=fun t h=>h
      generalize hL:enabL n (c.sp.ms.getD k [])=L at *
      rcases hcs with⟨rfl,har⟩|⟨rfl,har⟩
      all_goals
        simp(maxSteps:=9^9)(disch:=first|omega|(simp only[H'];try omega))only[go_sem,P'k,C',D',E',zj9,en]
        refine W_for L.length (fun j s=>∃c':Ex,ExOk n start b c'/\c'.code=0/\k<c'.sp.ms.length/\enabL n (c'.sp.ms.getD k [])=L/\c'.sp.ar.length<=24*k+j/\exRun n b d (k+1) (exL n b k c' (L.drop j))=R/\((s=⟨[.any,.any,I b,.ptr 0 0,.ptr 1 0,.any,.ptr 2 0,I k,.any,.any,.any,.any,.ref 3 1 0 L.length,I L.length,I j,.any,.any,.any,.any],[.box wl9 [I n.pl,trs n.tr],.box wla [.nil false 1,.nil true 3],.box wla [.ref 4 1 0 c'.sp.ms.length,.nil true 3],.row t_int true 1 (L.map I),.row wle false 1 (c'.sp.ms.map ints)]⟩/\c'.sp.ar=[])\/(s=⟨[.any,.any,I b,.ptr 0 0,.ptr 1 0,.any,.ptr 2 0,I k,.any,.any,.any,.any,.ref 3 1 0 L.length,I L.length,I j,.any,.any,.any,.any],[.box wl9 [I n.pl,trs n.tr],.box wla [.nil false 1,.nil true 3],.box wla [.ref 4 1 0 c'.sp.ms.length,.ref 5 3 0 c'.sp.ar.length],.row t_int true 1 (L.map I),.row wle false 1 (c'.sp.ms.map ints),.row wl6 true 3 (c'.sp.ar.map encA)]⟩/\c'.sp.ar≠[]))) ?_ ?_ ?_
        · refine⟨c,hok,hc0,hkl,hL,by omega,hrun,?_⟩
          first
          | refine .inl ⟨?_,har⟩
            simp(maxSteps:=9^9)(disch:=first|omega|(simp only[H'];try omega))only[go_sem,P'k,C',D',E']
            done
          | refine .inl ⟨?_,har⟩
            simp(maxSteps:=9^9)(disch:=first|omega|(simp only[H'];try omega))only[go_sem,P'k,C',D',E']
            rfl
          | refine .inr ⟨?_,har⟩
            simp(maxSteps:=9^9)(disch:=first|omega|(simp only[H'];try omega))only[go_sem,P'k,C',D',E']
            done
          | refine .inr ⟨?_,har⟩
            simp(maxSteps:=9^9)(disch:=first|omega|(simp only[H'];try omega))only[go_sem,P'k,C',D',E']
            rfl
        · rintro j s hj ⟨c',hok',hc0',hkl',hL',hal',hrun',hcs'⟩
          have hlb':=hok'.lenb
          have ht:L[j]∈enabL n (c'.sp.ms.getD k []):=by rw[hL'];exact P'l hj
          obtain⟨t1,t2,t3⟩:=zdl.1 ht
          have hT:=hn.2.2.2 (trAt n L[j]) (by rw[<-z1fr t2];exact P'l _)
          have hm2:=zjq (zst (hok'.good _ (zj8 hkl'))).2
          have hx:=zk5 hT hm2.2.2.1
          have hy:=zk4 hT (by omega)
          have hfire:=wdu (trAt n L[j]) (c'.sp.ms.getD k []) hx.1 hx.2.1 hx.2.2 ⟨by omega,by omega,by omega⟩ (by omega) hm2.2.2.2.2
          have hMl:=zgy (trAt n L[j]) (c'.sp.ms.getD k [])
          have hok2:=zew hok' hkl' ht
          have hxs:∀x∈c'.sp.ms,x.length<2^62:=fun x hx=>by have:=zjq (zst (hok'.good x hx)).2;omega
          rw[zed hj]at hrun'
          have f1:=zf1 (n:=n) (b:=b) (k:=k) (s:=c') (t:=L[j]) hc0'
          have f2:=zex (n:=n) (b:=b) (k:=k) (s:=c') (t:=L[j]) hc0'
          have f3:=zet (n:=n) (b:=b) (k:=k) (s:=c') (t:=L[j]) hc0'
          have f4:=zev (n:=n) (b:=b) (k:=k) (s:=c') (t:=L[j]) hc0'
          generalize hM:zgw (trAt n L[j]) (c'.sp.ms.getD k [])=M at *
          have ck:C w97 [ints M,I 0,I 50] []=some (.bool (M.all (inB 0 50)),[]):=wdd M 0 50 (by omega)
          have fd:=fun A=>wd9 c'.sp.ms A M (by omega) hxs
          have hsl:∀c2:Ex,c2.code≠0->exRun n b d (k+1) (exL n b k c2 (L.drop (j+1)))=c2:=fun c2 h=>by rw[zef h,zem h]
          cases ha:M.all (inB 0 50)with
          | false=>
            rw[f1 ha,hsl _ (by simp)]at hrun'
            subst hrun'
            rw[ha]at ck
            rcases hcs' with⟨rfl,har'⟩|⟨rfl,har'⟩<;>simp(maxSteps:=9^9)(disch:=first|omega|(simp only[H'];try omega))only[go_sem,P'k,C',D',E',zj9,z1fr,hfire,ck,exPV,w8c]
          | true=>
            rw[ha]at ck
            by_cases h2:0<=findM c'.sp.ms M
            · rw[f2 ha h2]at hrun' hok2
              rcases hcs' with⟨rfl,har'⟩|⟨rfl,har'⟩
              · simp(maxSteps:=9^9)(disch:=first|omega|(simp only[H'];try omega))only[go_sem,P'k,C',D',E',zj9,z1fr,hfire,ck,fd]
                refine⟨_,hok2,rfl,hkl',hL',by simp only[L'x,M'2,M'7];omega,hrun',.inr ⟨?_,by simp⟩⟩
                simp[har']
              · simp(maxSteps:=9^9)(disch:=first|omega|(simp only[H'];try omega))only[go_sem,P'k,C',D',E',zj9,z1fr,hfire,ck,fd]
                refine⟨_,hok2,rfl,hkl',hL',by simp only[L'x,M'2,M'7];omega,hrun',.inr ⟨?_,by simp⟩⟩
                simp
            · by_cases h3:b<=c'.sp.ms.length
              · rw[f3 ha h2 h3,hsl _ (by simp)]at hrun'
                subst hrun'
                rcases hcs' with⟨rfl,har'⟩|⟨rfl,har'⟩<;>simp(maxSteps:=9^9)(disch:=first|omega|(simp only[H'];try omega))only[go_sem,P'k,C',D',E',zj9,z1fr,hfire,ck,fd,exPV,w8c]
              · rw[f4 ha h2 h3]at hrun' hok2
                rcases hcs' with⟨rfl,har'⟩|⟨rfl,har'⟩
                · simp(maxSteps:=9^9)(disch:=first|omega|(simp only[H'];try omega))only[go_sem,P'k,C',D',E',zj9,z1fr,hfire,ck,fd]
                  refine⟨_,hok2,rfl,by simp only[L'x];omega,by simp only;rw[zj4 hkl'];exact hL',by simp only[L'x,M'2,M'7];omega,hrun',.inr ⟨?_,by simp⟩⟩
                  simp[har']
                · simp(maxSteps:=9^9)(disch:=first|omega|(simp only[H'];try omega))only[go_sem,P'k,C',D',E',zj9,z1fr,hfire,ck,fd]
                  refine⟨_,hok2,rfl,by simp only[L'x];omega,by simp only;rw[zj4 hkl'];exact hL',by simp only[L'x,M'2,M'7];omega,hrun',.inr ⟨?_,by simp⟩⟩
                  simp
        · rintro s ⟨c',hok',hc0',hkl',hL',hal',hrun',hcs'⟩
          rw[List.drop_length]at hrun'
          have hlb':=hok'.lenb
          rcases hcs' with⟨rfl,har'⟩|⟨rfl,har'⟩
          · simp(maxSteps:=9^9)(disch:=first|omega|(simp only[H'];try omega))only[go_sem,P'k,C',D',E']
            refine⟨d-1,by omega,k+1,c',by omega,hok',hc0',by omega,by omega,by rw[show d-1+1=d by omega];exact hrun',.inl ⟨rfl,har'⟩⟩
          · simp(maxSteps:=9^9)(disch:=first|omega|(simp only[H'];try omega))only[go_sem,P'k,C',D',E']
            refine⟨d-1,by omega,k+1,c',by omega,hok',hc0',by omega,by omega,by rw[show d-1+1=d by omega];exact hrun',.inr ⟨rfl,har'⟩⟩
    · have er:exRun n b (d+1) k c=c:=by
        show(if c.code≠0 then c else if k<c.sp.ms.length then _ else c)=_
        rw[if_neg (by omega),if_neg hkl]
      rw[er]at hrun
      subst hrun
      rcases hcs with⟨rfl,har⟩|⟨rfl,har⟩
      · simp(maxSteps:=9^9)(disch:=first|omega|(simp only[H'];try omega))only[go_sem,P'k,C',D',E']
        simp[exPV,w8c,hc0,arcPV,har]
      · simp(maxSteps:=9^9)(disch:=first|omega|(simp only[H'];try omega))only[go_sem,P'k,C',D',E']
        simp[exPV,w8c,hc0,arcPV,har]
theorem wds(f:Fl)(hg:zji f=true):C w9l [encF f] []=some (.un t_int true 1 ((oneM f.net.pl.toNat f.dst).map I),[]):=by
 obtain⟨g1,g2,g3,_⟩:=zjm hg
 have hn:=zjy g1
 refine w11 ?_
 simp(maxSteps:=9^9)(disch:=first|omega|(simp only[H'];try omega))only[wfi,go_sem,P'k,C',D',E']
 simp(maxSteps:=9^9)(disch:=first|omega|(simp only[H'];try omega))only[go_sem,P'k,C',D',E',we8 f.net.pl f.dst (by omega) g3]
theorem wda(ms:List (List Int))(ar:List Arc3)(p:Int)(hm:ms.length<2^36)(hr:ar.length<2^35)(ha:z44 ar ms.length)(hk:0<=p/\p<ms.length) :
  C w94 [.agg [rows ms,.sl true 3 (ar.map encA)],ints [p]] []=some (.un wl5 true 1 ((toL ar ms.length [p]).map PV.bool),[]):=by
 refine w0l ?_
 simp(maxSteps:=9^9)(disch:=first|omega|(simp only[H'];try omega))only[wez,go_sem,P'k,C',D',E']
 generalize hn:ms.length=n at *
 refine W_for ar.length (fun k s=>s=⟨[.any,ints [p],.any,.any,.ref 0 1 0 n,.ref 1 1 0 n,.any,.any,.any,.any,.any,.sl true 3 (ar.map encA),I ar.length,I k,.any,.any,.any,.any,.any,.any,.any,.any,.any,.any,.any],[.row wl5 true 1 (L'0 n (.bool false)),.lin wle 1 (befP (ar.take k) n)]⟩) ?_ ?_ ?_
 ·simp(maxSteps:=9^9)(disch:=first|omega|(simp only[H'];try omega))only[go_sem,P'k,C',D',E']
  rw[z5f];rfl
 ·rintro k s hk2 rfl
  obtain⟨a1,a2,a3,a4⟩:=ha _ (P'l hk2)
  have h1:=z5d (ar.take k) n
  have h2:=z5c (ar:=ar.take k) (n:=n) a3 a4
  have h3:=z5e (n:=n) hk2 a3
  have h4:=z5g (ar.take k) ar[k].dst
  rw[L'w]at h4
  rw[h3]
  generalize befP (ar.take k) n=B at *
  generalize befs (ar.take k) ar[k].dst=L at *
  generalize hA:ar[k]=a at *
  by_cases hL:L=[]
  ·subst hL
   rw[show pvB []=PV.nil true 1 from rfl]at h2
   simp(maxSteps:=9^9)(disch:=first|omega|(simp only[H'];try omega))only[go_sem,P'k,C',D',E',hA,h1,h2]
   exact⟨by decide,rfl⟩
  ·have hpos:=M'5.2 hL
   rw[show pvB L=ints L by simp[pvB,hL]]at h2
   simp(maxSteps:=9^9)(disch:=first|omega|(simp only[H'];try omega))only[go_sem,P'k,C',D',E',hA,h1,h2,List.getElem_set_self,List.set_set]
   refine⟨by decide,?_⟩
   rw[show ints (L++[a.src])=.sl true 1 (L.map I++[I a.src])by show PV.sl true 1 ((L++[a.src]).map I)=_;rw[M'r];rfl];rfl
 ·rintro s rfl
  have hcl:=wiw (es:=[I p]) (by simp)
  rw[M'i]
  simp(maxSteps:=9^9)(disch:=first|omega|(simp only[H'];try omega))only[go_sem,P'k,C',D',E',hcl]
  refine W_for 1 (fun k s=>s=⟨[.any,.any,.any,.any,.ref 0 1 0 n,.ref 1 1 0 n,.any,.ref 2 1 0 1,.any,.any,.any,.any,.any,.any,.any,ints [p],I 1,I k,.any,.any,.any,.any,.any,.any,.any],[.row wl5 true 1 ((putS (L'0 n false) ([p].take k)).map PV.bool),.lin wle 1 (befP ar n),.row t_int true 1 [I p]]⟩) ?_ ?_ ?_
  ·simp(maxSteps:=9^9)(disch:=first|omega|(simp only[H'];try omega))only[go_sem,P'k,C',D',E']
   simp[putS]
  ·rintro k s hk2 rfl
   obtain rfl:k=0:=by omega
   have h5:(L'0 n false)[p.toNat]?=some false:=by rw[List.getElem?_replicate,if_pos (by omega)]
   have h6:(L'0 n false).length=n:=M'j
   show W _ _ _ ⟨_,[.row wl5 true 1 ((L'0 n false).map PV.bool),_,_]⟩ _
   rw[show putS (L'0 n false) ([p].take (0+1))=(L'0 n false).set p.toNat true from rfl]
   generalize L'0 n false=c at *
   simp(maxSteps:=9^9)(disch:=first|omega|(simp only[H'];try omega))only[go_sem,P'k,C',D',E',h5,h6]
   rw[R'2];rfl
  ·rintro s rfl
   have e0:putS (L'0 n false) ([p].take 1)=(L'0 n false).set p.toNat true:=rfl
   rw[e0]
   have hst:=BF.start (ar:=ar) hk.1 hk.2
   generalize(L'0 n false).set p.toNat true=c0 at *
   simp(maxSteps:=9^9)(disch:=first|omega|(simp only[H'];try omega))only[go_sem,P'k,C',D',E']
   refine z1a (fun j s=>∃(c:List Bool) (q:List Int) (i:Nat) (K:Blk),(K=.lin wle 1 (befP ar n)\/K=.fro false 1 (befP ar n))/\BF ar n [p] c q i/\j=cntF c+(q.length-i)/\s=⟨[.any,.any,.any,.any,.ref 0 1 0 n,.ref 1 1 0 n,.any,.ref 2 1 0 q.length,.any,I i,.any,.any,.any,.any,.any,.any,.any,.any,.any,.any,.any,.any,.any,.any,.any],[.row wl5 true 1 (c.map PV.bool),K,.row t_int true 1 (q.map I)]⟩) (cntF c0+1) ?_ ?_
   ·refine⟨c0,[p],0,_,.inl rfl,hst,rfl,?_⟩
    simp(maxSteps:=9^9)(disch:=first|omega|(simp only[H'];try omega))only[go_sem,P'k,C',D',E']
    rfl
   ·rintro j s ⟨c,q,i,K,hK,hB,rfl,rfl⟩
    have hqn:q.length<=n:=by have:=hB.cnt;omega
    by_cases hi:i<q.length
    case neg=>
     have hiq:i=q.length:=by have:=hB.le;omega
     subst hiq
     have hend:=hB.end_ ha (fun k hk'=>by simp at hk';subst hk';exact hk)
     have hcl:=hB.len
     rcases hK with rfl| rfl
     all_goals
      simp(maxSteps:=9^9)(disch:=first|omega|(simp only[H'];try omega))only[go_sem,P'k,C',D',E',hcl]
      rw[hend]
    case pos=>
     have hq:=hB.inn _ (P'l hi)
     have hlk:=hB.look hi
     have hget:=z5c (ar:=ar) (n:=n) hq.1 hq.2
     have hln:=z5d ar n
     have hbl:=z5g ar q[i]
     have hsrc:∀x∈befs ar q[i],0<=x/\x<n:=fun x hx=>by
      obtain⟨a,h1,_,rfl⟩:=z5h.1 hx
      exact⟨(ha a h1).1,(ha a h1).2.1⟩
     have hnext:=fun c' q'=>BG.next (ar:=ar) (n:=n) (S:=[p]) (i:=i) (x:=q[i]) (c:=c') (q:=q')
     have hold:=fun m c' q'=>BG.old (ar:=ar) (n:=n) (S:=[p]) (i:=i) (L:=befs ar q[i]) (m:=m) (x:=q[i]) (c:=c') (q:=q')
     have hnew:=fun m c' q' (h:BG ar n [p] i (befs ar q[i]) m q[i] c' q')=>h.new ha
     generalize befs ar q[i]=L at *
     generalize hqi:q[i]=x at *
     generalize befP ar n=B at *
     have hmeas:=hB.cnt
     by_cases hL:L=[]
     ·subst hL
      rw[show pvB []=PV.nil true 1 from rfl]at hget
      rcases hK with rfl| rfl
      all_goals
       simp(maxSteps:=9^9)(disch:=first|omega|(simp only[H'];try omega))only[go_sem,P'k,C',D',E',hqi,hln,hget]
       refine W_for 0 (fun m s=>m=0/\s=⟨[.any,.any,.any,.any,.ref 0 1 0 n,.ref 1 1 0 n,.any,.ref 2 1 0 q.length,.any,I i,.any,.any,.any,.any,.any,.any,.any,.any,.any,.any,.nil true 1,I 0,I 0,.any,.any],[.row wl5 true 1 (c.map PV.bool),.fro false 1 B,.row t_int true 1 (q.map I)]⟩) ?_ ?_ ?_
       ·simp(maxSteps:=9^9)(disch:=first|omega|(simp only[H'];try omega))only[go_sem,P'k,C',D',E']
        first| done| rfl| exact⟨rfl,rfl⟩
       ·intro m s hm2;omega
       ·rintro s ⟨_,rfl⟩
        simp(maxSteps:=9^9)(disch:=first|omega|(simp only[H'];try omega))only[go_sem,P'k,C',D',E']
        exact⟨cntF c+(q.length-(i+1)),by omega,c,q,i+1,_,.inr rfl,hnext c q hlk,rfl,rfl⟩
     ·have hpos:=M'5.2 hL
      rw[show pvB L=ints L by simp[pvB,hL]]at hget
      rcases hK with rfl| rfl
      all_goals
       simp(maxSteps:=9^9)(disch:=first|omega|(simp only[H'];try omega))only[go_sem,P'k,C',D',E',hqi,hln,hget]
       refine W_for L.length (fun m s=>∃(c':List Bool) (q':List Int),BG ar n [p] i L m x c' q'/\cntF c'+q'.length<=cntF c+q.length/\s=⟨[.any,.any,.any,.any,.ref 0 1 0 n,.ref 1 1 0 n,.any,.ref 2 1 0 q'.length,.any,I i,.any,.any,.any,.any,.any,.any,.any,.any,.any,.any,ints L,I L.length,I m,.any,.any],[.row wl5 true 1 (c'.map PV.bool),.fro false 1 B,.row t_int true 1 (q'.map I)]⟩) ?_ ?_ ?_
       ·refine⟨c,q,hlk,Nat.le_refl _,?_⟩
        simp(maxSteps:=9^9)(disch:=first|omega|(simp only[H'];try omega))only[go_sem,P'k,C',D',E']
        first| done| rfl
       ·rintro m s hm2 ⟨c',q',h1,h2,rfl⟩
        have hy:=hsrc _ (P'l hm2)
        have hcl:=h1.len
        have hcn:=h1.cnt
        have g1:c'[L[m].toNat]?=some (c'[L[m].toNat]'(by omega)):=L'v (by omega)
        have o1:=hold m c' q' h1 hm2
        have o2:=hnew m c' q' h1 hm2
        have hcs:=zb4 (l:=c') (k:=L[m].toNat) (by omega)
        rw[List.getD_eq_getElem?_getD]at hcs
        rw[g1]at o1 o2 hcs
        generalize c'[L[m].toNat]'(by omega)=b at *
        generalize hy2:L[m]=y at *
        simp(maxSteps:=9^9)(disch:=first|omega|(simp only[H'];try omega))only[go_sem,P'k,C',D',E',hy2,hcl,g1]
        refine⟨fun e=>?_,fun e=>?_⟩
        ·subst e
         exact⟨c',q',o1 rfl,h2,rfl⟩
        ·subst e
         have:=hcs rfl
         refine⟨_,_,o2 rfl,by rw[L'x];simp only[M'2,M'7];omega,?_⟩
         rw[M'r,R'2,L'x];rfl
       ·rintro s ⟨c',q',h1,h2,rfl⟩
        simp(maxSteps:=9^9)(disch:=first|omega|(simp only[H'];try omega))only[go_sem,P'k,C',D',E']
        exact⟨cntF c'+(q'.length-(i+1)),by have:=h1.lt;omega,c',q',i+1,_,.inr rfl,hnext c' q' h1,rfl,rfl⟩
theorem wja(c:List Bool)(b:Bool)(hl:c.length<2^62):C wav [.sl true 1 (c.map PV.bool),.bool b] []=some (I (idxI c (fun x=>x==b)),[]):=by
 refine w26 ?_
 simp(maxSteps:=9^9)(disch:=first|omega|(simp only[H'];try omega))only[wgr,go_sem,P'k,C',D',E']
 refine W_for c.length (fun k s=>s=⟨[.sl true 1 (c.map PV.bool),.bool b,.any,.any,I c.length,I k,.any,.any],[]⟩/\(c.take k).any (fun x=>x==b)=false) ?_ ?_ ?_
 ·simp(maxSteps:=9^9)(disch:=first|omega|(simp only[H'];try omega))only[go_sem,P'k,C',D',E']
  simp
 ·rintro k s hk⟨rfl,h⟩
  have h1:=fun e=>zl4 (p:=fun x=>x==b) hk h e
  have h2:=fun e=>z3e (p:=fun x=>x==b) hk h e
  cases b
  all_goals
   simp(maxSteps:=9^9)(disch:=first|omega|(simp only[H'];try omega))only[go_sem,P'k,C',D',E']
   refine⟨fun e=>?_,fun e=>?_⟩
   all_goals first
    |(rw[h1 (by simp[e])])
    |exact⟨rfl,h2 (by simp[e])⟩
 ·rintro s⟨rfl,h⟩
  rw[M'i]at h
  simp(maxSteps:=9^9)(disch:=first|omega|(simp only[H'];try omega))only[go_sem,P'k,C',D',E']
  rw[zl3 h]
theorem wdp(a b:List Int)(hl:a.length=b.length)(hb:b.length<2^62):C w9i [ints a,ints b] []=some (.bool (zby a b),[]):=by
 refine w0z ?_
 simp(maxSteps:=9^9)(disch:=first|omega|(simp only[H'];try omega))only[wff,go_sem,P'k,C',D',E']
 refine W_for a.length (fun k s=>s=⟨[.any,ints b,.any,.any,.any,ints a,I a.length,I k,.any,.any],[]⟩/\((a.zip b).take k).all (fun p=>decide (p.2<=p.1))=true) ?_ ?_ ?_
 ·simp(maxSteps:=9^9)(disch:=first|omega|(simp only[H'];try omega))only[go_sem,P'k,C',D',E']
  rfl
 ·rintro k s hk⟨rfl,hall⟩
  simp(maxSteps:=9^9)(disch:=first|omega|(simp only[H'];try omega))only[go_sem,P'k,C',D',E']
  have hz:k<(a.zip b).length:=by simp;omega
  refine⟨fun h=>?_,fun h=>⟨rfl,z2z hz hall (by simp;omega)⟩⟩
  have:zby a b=false:=z2y hz (by simp;omega)
  rw[this]
 ·rintro s⟨rfl,hall⟩
  simp(maxSteps:=9^9)(disch:=first|omega|(simp only[H'];try omega))only[go_sem,P'k,C',D',E']
  rw[L'e (by simp;omega)]at hall
  unfold zby
  rw[hall]
theorem we0(a b:List Int)(hl:a.length=b.length)(hb:b.length<2^62):C w9t [ints a,ints b] []=some (.bool (overB a b),[]):=by
 have h1:=wdp a b hl hb
 have h2:=wj5 a b (by omega)
 unfold overB
 generalize zby a b=c at *
 refine w19 ?_
 simp(maxSteps:=9^9)(disch:=first|omega|(simp only[H'];try omega))only[wfq,go_sem,P'k,C',D',E']
 simp(maxSteps:=9^9)(disch:=first|omega|(simp only[H'];try omega))only[go_sem,P'k,C',D',E',h1,h2]
 grind
theorem wdl(a b:List Int)(hl:a.length=b.length)(hb:b.length<2^62):C w9g [ints a,.pv (.agg [ints b]) 0] []=some (.bool (overB a b),[]):=by
 have h1:=we0 a b hl hb
 generalize overB a b=c at *
 refine w0x ?_
 simp(maxSteps:=9^9)(disch:=first|omega|(simp only[H'];try omega))only[wfd,go_sem,P'k,C',D',E']
 simp(maxSteps:=9^9)(disch:=first|omega|(simp only[H'];try omega))only[go_sem,P'k,C',D',E',h1]
 cases c<;>simp
theorem wdb(a:Arc3)(p:Int):C w96 [encA a,.pv (.agg [I p]) 0] []=some (.bool (decide (a.dst=p)),[]):=by
 refine w0n ?_
 simp(maxSteps:=9^9)(disch:=first|omega|(simp only[H'];try omega))only[wf3,go_sem,P'k,C',D',E']
 grind
theorem wj6(l:List Arc3)(g:FuncId)(caps:List PV)(hc:refsL caps=[])(hcv:∀m h,z1gv [] m h caps=some caps)(p:Arc3->Bool)(hp:∀x∈l,C g (encA x::caps) []=some (.bool (p x),[]))(hl:l.length<2^62) :
  C waq [.sl true 3 (l.map encA),.clo g caps] []=some (I (idxI l p),[]):=by
 refine w22 ?_
 simp(maxSteps:=9^9)(disch:=first|omega|(simp only[H'];try omega))only[wgn,go_sem,P'k,C',D',E']
 refine W_for l.length (fun k s=>s=⟨[.sl true 3 (l.map encA),.clo g caps,.any,.any,I l.length,I k,.any,.any],[]⟩/\(l.take k).any p=false) ?_ ?_ ?_
 ·simp(maxSteps:=9^9)(disch:=first|omega|(simp only[H'];try omega))only[go_sem,P'k,C',D',E',hc]
  rfl
 ·rintro k s hk⟨rfl,hall⟩
  simp(maxSteps:=9^9)(disch:=first|omega|(simp only[H'];try omega))only[go_sem,P'k,C',D',E',hc,hcv,hp _ (P'l hk)]
  exact⟨fun h=>by rw[zl4 hk hall h],fun h=>⟨rfl,z3e hk hall h⟩⟩
 ·rintro s⟨rfl,hall⟩
  simp(maxSteps:=9^9)(disch:=first|omega|(simp only[H'];try omega))only[go_sem,P'k,C',D',E']
  rw[M'i]at hall
  rw[zl3 hall]
theorem wje(l:List Int)(hl:l.length<2^60):C wb0 [.ref 0 1 0 l.length] [.row t_int true 1 (l.map I)]=some (.tup [],[.row t_int true 1 (l.reverse.map I)]):=by
 refine w2a ?_
 simp(maxSteps:=9^9)(disch:=first|omega|(simp only[H'];try omega))only[wgv,go_sem,P'k,C',D',E']
 refine z1a (fun k s=>∃(i:Nat) (c:List Int),k+2*i=l.length+1/\revI l c i/\s=⟨[.ref 0 1 0 l.length,I i,I (l.length-1-i:Int),.any],[.row t_int true 1 (c.map I)]⟩) (l.length+1) ?_ ?_
 ·refine⟨0,l,by omega,z16p l,?_⟩
  simp(maxSteps:=9^9)(disch:=first|omega|(simp only[H'];try omega))only[go_sem,P'k,C',D',E']
  simp
 ·rintro k s⟨i,c,hk,hr,rfl⟩
  have hcl:=hr.1
  by_cases hi:2*i+1<l.length
  ·have e1:((l.length:Int)-1-i).toNat=l.length-1-i:=by omega
   have hst:=z16o hr hi
   simp(maxSteps:=9^9)(disch:=first|omega|(simp only[H'];try omega))only[go_sem,P'k,C',D',E',e1]
   refine⟨k-2,by omega,i+1,_,by omega,hst,?_⟩
   rw[show(l.length:Int)-1-((i+1:Nat):Int)=l.length-1-i-1 by omega]
   rfl
  ·have:=z16n hr (by omega)
   subst this
   simp(maxSteps:=9^9)(disch:=first|omega|(simp only[H'];try omega))only[go_sem,P'k,C',D',E']
theorem wd6(a:Arc3)(t:Int):C w91 [encA a,.pv (.agg [I t]) 0] []=some (.bool (decide (a.by_=t)),[]):=by
 refine w0i ?_
 simp(maxSteps:=9^9)(disch:=first|omega|(simp only[H'];try omega))only[wew,go_sem,P'k,C',D',E']
 grind
theorem wiy(l:List Arc3)(g:FuncId)(caps:List PV)(hc:refsL caps=[])(hcv:∀m h,z1gv [] m h caps=some caps)(p:Arc3->Bool)(hp:∀x∈l,C g (encA x::caps) []=some (.bool (p x),[]))(hl:l.length<2^62) :
  C wai [.sl true 3 (l.map encA),.clo g caps] []=some (.bool (l.any p),[]):=by
 refine w1u ?_
 simp(maxSteps:=9^9)(disch:=first|omega|(simp only[H'];try omega))only[wgf,go_sem,P'k,C',D',E']
 simp(maxSteps:=9^9)(disch:=first|omega|(simp only[H'];try omega))only[go_sem,P'k,C',D',E',hc,hcv,wj6 l g caps hc hcv p hp hl]
 have:=zl0 l p
 grind
theorem wd7(ms:List (List Int))(ar:List Arc3)(n:Net)(hr:ar.length<2^35)(ht:n.tr.length<2^20):C w90 [.agg [rows ms,.sl true 3 (ar.map encA)],encN n] []=some (.un t_int true 1 ((deadK ar n.tr.length).map I),[]):=by
 refine w0h ?_
 simp(maxSteps:=9^9)(disch:=first|omega|(simp only[H'];try omega))only[wev,go_sem,P'k,C',D',E']
 refine W_for n.tr.length (fun k s=>s=⟨[.any,.any,.ptr 0 0,.any,.any,.ref 1 1 0 (deadK ar k).length,.any,I n.tr.length,I k,.any,.any],[.box wla [rows ms,.sl true 3 (ar.map encA)],.row t_int true 1 ((deadK ar k).map I)]⟩) ?_ ?_ ?_
 ·simp(maxSteps:=9^9)(disch:=first|omega|(simp only[H'];try omega))only[go_sem,P'k,C',D',E']
  rfl
 ·rintro k s hk rfl
  have ix:=wiy ar w91 [.pv (.agg [I k]) 0] rfl (fun _ _=>rfl) (fun a=>decide (a.by_=k)) (fun x _=>wd6 x k) (by omega)
  have hl:=zc6 ar k
  have hst:=zc7 ar k
  rw[hst]
  generalize deadK ar k=D at *
  cases ha:ar.any fun a=>decide (a.by_=(k:Int))with
  |true=>
   rw[ha]at ix
   simp(maxSteps:=9^9)(disch:=first|omega|(simp only[H'];try omega))only[go_sem,P'k,C',D',E',ix]
   simp
  |false=>
   rw[ha]at ix
   simp(maxSteps:=9^9)(disch:=first|omega|(simp only[H'];try omega))only[go_sem,P'k,C',D',E',ix]
   simp
 ·rintro s rfl
  simp(maxSteps:=9^9)(disch:=first|omega|(simp only[H'];try omega))only[go_sem,P'k,C',D',E']
theorem wdc(ms:List (List Int))(ar:List Arc3)(m:List Int)(hm:ms.length<2^30)(hr:ar.length<2^35)(hb:Bfs ar ms.length)(hxs:∀x∈ms,x.length<2^62)(K:Nat)(hK:K<ms.length)(hf:findM ms m=K) :
  C w95 [.agg [rows ms,.sl true 3 (ar.map encA)],ints m] []=some (.tup [.un t_int true 1 ((tw ar K).map I),.bool true],[]):=by
 have fd:=wd9 ms (ar.map encA) m (by omega) hxs
 rw[hf]at fd
 refine w0m ?_
 simp(maxSteps:=9^9)(disch:=first|omega|(simp only[H'];try omega))only[wf2,go_sem,P'k,C',D',E']
 simp(maxSteps:=9^9)(disch:=first|omega|(simp only[H'];try omega))only[go_sem,P'k,C',D',E',fd]
 refine z1a (fun k s=>∃W:List Int,k<ms.length/\tw ar K=tw ar k++W.reverse/\s=⟨[.any,.any,.ptr 0 0,.any,.any,.ptr 1 0,.ref 2 1 0 W.length,.any,.any,.any],[.box wla [rows ms,.sl true 3 (ar.map encA)],.box t_int [I k],.row t_int true 1 (W.map I)]⟩) K ?_ ?_
 ·refine⟨[],hK,by simp,?_⟩
  simp(maxSteps:=9^9)(disch:=first|omega|(simp only[H'];try omega))only[go_sem,P'k,C',D',E']
  first|done|rfl
 ·rintro k s⟨W,hk,hW,rfl⟩
  have hlW:=congrArg List.length hW
  rw[L'x,R'a]at hlW
  have hlK:=z1gc hb K hK
  by_cases h0:0<k
  ·obtain⟨i,hi,a1,a2,a3,a4,a5⟩:=hb.arc h0 hk
   have ix:=wj6 ar w96 [.pv (.agg [I k]) 0] rfl (fun _ _=>rfl) (fun a=>decide (a.dst=k)) (fun x _=>wdb x k) (by omega)
   rw[show idxI ar (fun a=>decide (a.dst=k))=i from a1]at ix
   have hst:=z1gf hb h0 hk hi a1
   rw[hst]at hW
   simp(maxSteps:=9^9)(disch:=first|omega|(simp only[H'];try omega))only[go_sem,P'k,C',D',E',ix]
   have e2:((ar[i].src.toNat:Nat):Int)=ar[i].src:=by omega
   refine⟨ar[i].src.toNat,by omega,W++[ar[i].by_],by omega,by rw[hW,List.reverse_append];simp,?_⟩
   rw[e2,M'r,L'x];rfl
  ·have:k=0:=by omega
   subst this
   rw[z1gh,M'3]at hW
   have rv:=wje W (by omega)
   rw[<-hW]at rv
   have hl2:W.length=(tw ar K).length:=by rw[hW,R'a]
   rw[hl2]at rv
   generalize tw ar K=T at *
   simp(maxSteps:=9^9)(disch:=first|omega|(simp only[H'];try omega))only[go_sem,P'k,C',D',E',rv,hl2]
def vdPV(v:Vd):PV:=.agg [I v.ok,I v.kind,if v.kind=1\/v.kind=2 then .un t_int true 1 (v.way.map I)else .nil true 1,I v.dead]
theorem w8e{f:Fl}{b:Int}(hg:zji f=true)(hb:inB 1 400 b=true):ExOk f.net (oneM f.net.pl.toNat f.src) b (exAll f.net (oneM f.net.pl.toNat f.src) b)/\(exAll f.net (oneM f.net.pl.toNat f.src) b).sp.ms.length<=400/\(exAll f.net (oneM f.net.pl.toNat f.src) b).sp.ar.length<=20000/\Bfs (exAll f.net (oneM f.net.pl.toNat f.src) b).sp.ar (exAll f.net (oneM f.net.pl.toNat f.src) b).sp.ms.length/\0<(exAll f.net (oneM f.net.pl.toNat f.src) b).sp.ms.length/\∀x∈(exAll f.net (oneM f.net.pl.toNat f.src) b).sp.ms,x.length=f.net.pl.toNat:=by
 have h1:=zxf hg
 simp only[inB,L'c,decide_eq_true_eq]at hb
 have f1:=(ze7 h1 hb.1).1
 have hl:=f1.lenb
 refine⟨f1,by omega,ze4 (zjy (zst h1).1).2.2.1 hb.2,ze5 h1 hb.1,?_,fun x hx=>?_⟩
 ·have:=f1.first
  rcases Nat.eq_zero_or_pos (exAll f.net (oneM f.net.pl.toNat f.src) b).sp.ms.length with h|h
  ·rw[List.length_eq_zero_iff.1 h]at this;simp at this
  ·exact h
 ·have:=zjq (zst (f1.good x hx)).2
  omega
theorem wlh(ar:List Arc3)(n:Nat):toL ar n []=L'0 n false:=by
 have hno:∀k,¬Rk ar [] k:=by
  intro k hk
  induction hk with
  |base h=>simp at h
  |step _ _ ih=>exact ih
 unfold toL
 rw[List.eq_replicate_iff]
 refine⟨by simp,fun b hb=>?_⟩
 obtain⟨k,_,rfl⟩:=List.mem_map.1 hb
 simp[hno k]
theorem wli(k:Int)(W:List Int)(hk:k=1\/k=2):vdPV ⟨2,k,W,0⟩=.agg [I 2,I k,.un t_int true 1 (W.map I),I 0]:=by
 unfold vdPV;rw[if_pos hk]
theorem wdm(f:Fl)(b:Int)(hg:zji f=true)(hb:inB 1 400 b=true):C w9f [encF f,I b] []=some (.tup [vdPV (sndV f b),exPV (exAll f.net (oneM f.net.pl.toNat f.src) b)],[]):=by
 have hs0:=we9 f hg
 have he0:=wds f hg
 have hx:=wdt f.net (oneM f.net.pl.toNat f.src) b (zxf hg) (by simp only[inB,L'c,decide_eq_true_eq]at hb;omega)
 obtain⟨f1,f2,f3,f4,f5,f6⟩:=w8e hg hb
 unfold sndV
 have hcd:=ze6 f.net (oneM f.net.pl.toNat f.src) b
 have hEl:(oneM f.net.pl.toNat f.dst).length=f.net.pl.toNat:=by simp [oneM]
 have hnd:=f1.nodup
 obtain⟨g1,_⟩:=zjm hg
 have hn:=zjy g1
 generalize exAll f.net (oneM f.net.pl.toNat f.src) b=R at *
 generalize oneM f.net.pl.toNat f.src=E0 at *
 generalize oneM f.net.pl.toNat f.dst=E at *
 have hdd:=wd7 R.sp.ms R.sp.ar f.net (by omega) (by omega)
 have hdl:=zc6 R.sp.ar f.net.tr.length
 have fd:=wd9 R.sp.ms (R.sp.ar.map encA) E (by omega) (fun x hx=>by have:=f6 x hx;omega)
 have hfg:=fun h=>(zgl (l:=R.sp.ms) (m:=E) h).1
 have hcl:=z1fo R.sp.ar R.sp.ms.length (endS R.sp.ms E)
 have hct:=wja (toL R.sp.ar R.sp.ms.length (endS R.sp.ms E)) false (by omega)
 have hil:=zl2 (toL R.sp.ar R.sp.ms.length (endS R.sp.ms E)) (fun x=>x==false)
 rw[hcl]at hil
 have hov:=wj9 R.sp.ms w9g [.pv (.agg [ints E]) 0] rfl (fun _ _=>rfl) (fun m=>overB m E) (fun x hx=>wdl x E (by have:=f6 x hx;omega) (by omega)) (by omega)
 have hol:=zl2 R.sp.ms (fun m=>overB m E)
 by_cases hc:R.code=0
 ·rw[if_pos hc]
  have hec:w8c R=1:=by simp only[w8c,hc,if_true]
  rw[hec]at hx
  have hls:∀x∈R.sp.ms,x.length<2^62:=fun x hx=>by have:=f6 x hx;omega
  have hway:∀A,A=R.sp.ar.map encA->∀K:Nat,(hK:K<R.sp.ms.length)->C w95 [.agg [rows R.sp.ms,.sl true 3 A],ints R.sp.ms[K]] []=some (.tup [.un t_int true 1 ((tw R.sp.ar K).map I),.bool true],[]):=fun A hA K hK=>by subst hA;exact wdc R.sp.ms R.sp.ar R.sp.ms[K] (by omega) (by omega) f4 hls K hK (by rw[zj9 hK];exact zgk hnd hK)
  unfold chkV
  have hend:endS R.sp.ms E=if 0<=findM R.sp.ms E then [findM R.sp.ms E]else []:=rfl
  have hlt0:=fun h:0<=findM R.sp.ms E=>wda R.sp.ms R.sp.ar (findM R.sp.ms E) (by omega) (by omega) f4.inn ⟨h,by have:=hfg h;omega⟩
  generalize endS R.sp.ms E=S at *
  generalize findM R.sp.ms E=z at *
  by_cases hz:0<=z
  ·rw[if_pos hz]at hend
   have hlt:=hlt0 hz
   subst hend
   generalize toL R.sp.ar R.sp.ms.length [z]=c at *
   generalize deadK R.sp.ar f.net.tr.length=D at *
   generalize idxI c (fun x=>x==false)=k1 at *
   generalize idxI R.sp.ms (fun m=>overB m E)=k2 at *
   generalize hV:(if 0<=k1 then(⟨2,1,tw R.sp.ar k1.toNat,0⟩:Vd)else if 0<=k2 then⟨2,2,tw R.sp.ar k2.toNat,0⟩else if 0<D.length then⟨2,3,[],D.getD 0 0⟩else⟨1,0,[],0⟩)=V
   simp only[ints,M'n,R'4]at hlt
   by_cases har:R.sp.ar=[]
   ·have hPV:exPV R=.agg [.un wle false 1 (R.sp.ms.map ints),.nil true 3]:=by simp only[exPV,arcPV,hc,har,if_true]
    rw[hPV]at hx ⊢
    have hway:=hway [] (by rw[har];rfl)
    simp only[har,R'4]at hlt fd hdd
    by_cases h1:0<=k1
    ·obtain⟨K,rfl⟩:∃K:Nat,k1=K:=⟨k1.toNat,by omega⟩
     have hKl:K<R.sp.ms.length:=by omega
     have hVe:V=⟨2,1,tw R.sp.ar K,0⟩:=by rw[<-hV,if_pos h1,P'm]
     have hwt:=hway K hKl
     have e3:R.sp.ms[K]?=some R.sp.ms[K]:=L'v hKl
     have htl:=z1gc f4 K hKl
     rw[hVe]
     simp only
     generalize R.sp.ms[K]=x at *
     generalize tw R.sp.ar K=W at *
     by_cases hl:W.length<=60
     ·rw[if_pos hl,wli 1 W (.inl rfl)]
      refine w0w ?_
      simp(maxSteps:=9^9)(disch:=first|omega|(simp only[H'];try omega))only[wfc,go_sem,P'k,C',D',E']
      simp(maxSteps:=9^9)(disch:=first|omega|(simp only[H'];try omega))only[go_sem,P'k,C',D',E',hs0,he0,hx,fd,hz,hlt,hct,e3,hwt,hdd]
      first|done|rfl|exact⟨rfl,rfl⟩
     ·rw[if_neg hl]
      refine w0w ?_
      simp(maxSteps:=9^9)(disch:=first|omega|(simp only[H'];try omega))only[wfc,go_sem,P'k,C',D',E']
      simp(maxSteps:=9^9)(disch:=first|omega|(simp only[H'];try omega))only[go_sem,P'k,C',D',E',hs0,he0,hx,fd,hz,hlt,hct,e3,hwt,hdd]
      first|done|rfl|exact⟨rfl,rfl⟩
    ·by_cases h2:0<=k2
     ·obtain⟨K,rfl⟩:∃K:Nat,k2=K:=⟨k2.toNat,by omega⟩
      have hKl:K<R.sp.ms.length:=by omega
      have hVe:V=⟨2,2,tw R.sp.ar K,0⟩:=by rw[<-hV,if_neg h1,if_pos h2,P'm]
      have hwt:=hway K hKl
      have e3:R.sp.ms[K]?=some R.sp.ms[K]:=L'v hKl
      have htl:=z1gc f4 K hKl
      rw[hVe]
      simp only
      generalize R.sp.ms[K]=x at *
      generalize tw R.sp.ar K=W at *
      by_cases hl:W.length<=60
      ·rw[if_pos hl,wli 2 W (.inr rfl)]
       refine w0w ?_
       simp(maxSteps:=9^9)(disch:=first|omega|(simp only[H'];try omega))only[wfc,go_sem,P'k,C',D',E']
       simp(maxSteps:=9^9)(disch:=first|omega|(simp only[H'];try omega))only[go_sem,P'k,C',D',E',hs0,he0,hx,fd,hz,hlt,hct,h1,hov,e3,hwt,hdd]
       first|done|rfl|exact⟨rfl,rfl⟩
      ·rw[if_neg hl]
       refine w0w ?_
       simp(maxSteps:=9^9)(disch:=first|omega|(simp only[H'];try omega))only[wfc,go_sem,P'k,C',D',E']
       simp(maxSteps:=9^9)(disch:=first|omega|(simp only[H'];try omega))only[go_sem,P'k,C',D',E',hs0,he0,hx,fd,hz,hlt,hct,h1,hov,e3,hwt,hdd]
       first|done|rfl|exact⟨rfl,rfl⟩
     ·cases D with
      |nil=>
       have hVe:V=⟨1,0,[],0⟩:=by rw[<-hV,if_neg h1,if_neg h2];rfl
       rw[hVe]
       refine w0w ?_
       simp(maxSteps:=9^9)(disch:=first|omega|(simp only[H'];try omega))only[wfc,go_sem,P'k,C',D',E']
       simp(maxSteps:=9^9)(disch:=first|omega|(simp only[H'];try omega))only[go_sem,P'k,C',D',E',hs0,he0,hx,fd,hz,hlt,hct,h1,hov,h2,hdd]
       first|done|rfl|exact⟨rfl,rfl⟩
      |cons d D=>
       have hVe:V=⟨2,3,[],d⟩:=by rw[<-hV,if_neg h1,if_neg h2];rfl
       rw[hVe]
       refine w0w ?_
       simp(maxSteps:=9^9)(disch:=first|omega|(simp only[H'];try omega))only[wfc,go_sem,P'k,C',D',E']
       simp(maxSteps:=9^9)(disch:=first|omega|(simp only[H'];try omega))only[go_sem,P'k,C',D',E',hs0,he0,hx,fd,hz,hlt,hct,h1,hov,h2,hdd,R'6,Q'n]
       first|done|rfl|exact⟨rfl,rfl⟩
   ·have hPV:exPV R=.agg [.un wle false 1 (R.sp.ms.map ints),.un wl6 true 3 (R.sp.ar.map encA)]:=by simp only[exPV,arcPV,hc,har,if_true,if_false]
    rw[hPV]at hx ⊢
    have hway:=hway _ rfl
    by_cases h1:0<=k1
    ·obtain⟨K,rfl⟩:∃K:Nat,k1=K:=⟨k1.toNat,by omega⟩
     have hKl:K<R.sp.ms.length:=by omega
     have hVe:V=⟨2,1,tw R.sp.ar K,0⟩:=by rw[<-hV,if_pos h1,P'm]
     have hwt:=hway K hKl
     have e3:R.sp.ms[K]?=some R.sp.ms[K]:=L'v hKl
     have htl:=z1gc f4 K hKl
     rw[hVe]
     simp only
     generalize R.sp.ms[K]=x at *
     generalize tw R.sp.ar K=W at *
     by_cases hl:W.length<=60
     ·rw[if_pos hl,wli 1 W (.inl rfl)]
      refine w0w ?_
      simp(maxSteps:=9^9)(disch:=first|omega|(simp only[H'];try omega))only[wfc,go_sem,P'k,C',D',E']
      simp(maxSteps:=9^9)(disch:=first|omega|(simp only[H'];try omega))only[go_sem,P'k,C',D',E',hs0,he0,hx,fd,hz,hlt,hct,e3,hwt,hdd]
      first|done|rfl|exact⟨rfl,rfl⟩
     ·rw[if_neg hl]
      refine w0w ?_
      simp(maxSteps:=9^9)(disch:=first|omega|(simp only[H'];try omega))only[wfc,go_sem,P'k,C',D',E']
      simp(maxSteps:=9^9)(disch:=first|omega|(simp only[H'];try omega))only[go_sem,P'k,C',D',E',hs0,he0,hx,fd,hz,hlt,hct,e3,hwt,hdd]
      first|done|rfl|exact⟨rfl,rfl⟩
    ·by_cases h2:0<=k2
     ·obtain⟨K,rfl⟩:∃K:Nat,k2=K:=⟨k2.toNat,by omega⟩
      have hKl:K<R.sp.ms.length:=by omega
      have hVe:V=⟨2,2,tw R.sp.ar K,0⟩:=by rw[<-hV,if_neg h1,if_pos h2,P'm]
      have hwt:=hway K hKl
      have e3:R.sp.ms[K]?=some R.sp.ms[K]:=L'v hKl
      have htl:=z1gc f4 K hKl
      rw[hVe]
      simp only
      generalize R.sp.ms[K]=x at *
      generalize tw R.sp.ar K=W at *
      by_cases hl:W.length<=60
      ·rw[if_pos hl,wli 2 W (.inr rfl)]
       refine w0w ?_
       simp(maxSteps:=9^9)(disch:=first|omega|(simp only[H'];try omega))only[wfc,go_sem,P'k,C',D',E']
       simp(maxSteps:=9^9)(disch:=first|omega|(simp only[H'];try omega))only[go_sem,P'k,C',D',E',hs0,he0,hx,fd,hz,hlt,hct,h1,hov,e3,hwt,hdd]
       first|done|rfl|exact⟨rfl,rfl⟩
      ·rw[if_neg hl]
       refine w0w ?_
       simp(maxSteps:=9^9)(disch:=first|omega|(simp only[H'];try omega))only[wfc,go_sem,P'k,C',D',E']
       simp(maxSteps:=9^9)(disch:=first|omega|(simp only[H'];try omega))only[go_sem,P'k,C',D',E',hs0,he0,hx,fd,hz,hlt,hct,h1,hov,e3,hwt,hdd]
       first|done|rfl|exact⟨rfl,rfl⟩
     ·cases D with
      |nil=>
       have hVe:V=⟨1,0,[],0⟩:=by rw[<-hV,if_neg h1,if_neg h2];rfl
       rw[hVe]
       refine w0w ?_
       simp(maxSteps:=9^9)(disch:=first|omega|(simp only[H'];try omega))only[wfc,go_sem,P'k,C',D',E']
       simp(maxSteps:=9^9)(disch:=first|omega|(simp only[H'];try omega))only[go_sem,P'k,C',D',E',hs0,he0,hx,fd,hz,hlt,hct,h1,hov,h2,hdd]
       first|done|rfl|exact⟨rfl,rfl⟩
      |cons d D=>
       have hVe:V=⟨2,3,[],d⟩:=by rw[<-hV,if_neg h1,if_neg h2];rfl
       rw[hVe]
       refine w0w ?_
       simp(maxSteps:=9^9)(disch:=first|omega|(simp only[H'];try omega))only[wfc,go_sem,P'k,C',D',E']
       simp(maxSteps:=9^9)(disch:=first|omega|(simp only[H'];try omega))only[go_sem,P'k,C',D',E',hs0,he0,hx,fd,hz,hlt,hct,h1,hov,h2,hdd,R'6,Q'n]
       first|done|rfl|exact⟨rfl,rfl⟩
  ·rw[if_neg hz]at hend
   have hlt:=hcl
   subst hend
   have hrp:=wlh R.sp.ar R.sp.ms.length
   rw[hrp,List.map_replicate]at hct
   rw[hrp]at hil ⊢
   generalize deadK R.sp.ar f.net.tr.length=D at *
   generalize idxI (L'0 R.sp.ms.length false) (fun x=>x==false)=k1 at *
   generalize idxI R.sp.ms (fun m=>overB m E)=k2 at *
   generalize hV:(if 0<=k1 then(⟨2,1,tw R.sp.ar k1.toNat,0⟩:Vd)else if 0<=k2 then⟨2,2,tw R.sp.ar k2.toNat,0⟩else if 0<D.length then⟨2,3,[],D.getD 0 0⟩else⟨1,0,[],0⟩)=V
   clear hlt hcl
   have hlt:True:=trivial
   by_cases har:R.sp.ar=[]
   ·have hPV:exPV R=.agg [.un wle false 1 (R.sp.ms.map ints),.nil true 3]:=by simp only[exPV,arcPV,hc,har,if_true]
    rw[hPV]at hx ⊢
    have hway:=hway [] (by rw[har];rfl)
    simp only[har,R'4]at hlt fd hdd
    by_cases h1:0<=k1
    ·obtain⟨K,rfl⟩:∃K:Nat,k1=K:=⟨k1.toNat,by omega⟩
     have hKl:K<R.sp.ms.length:=by omega
     have hVe:V=⟨2,1,tw R.sp.ar K,0⟩:=by rw[<-hV,if_pos h1,P'm]
     have hwt:=hway K hKl
     have e3:R.sp.ms[K]?=some R.sp.ms[K]:=L'v hKl
     have htl:=z1gc f4 K hKl
     rw[hVe]
     simp only
     generalize R.sp.ms[K]=x at *
     generalize tw R.sp.ar K=W at *
     by_cases hl:W.length<=60
     ·rw[if_pos hl,wli 1 W (.inl rfl)]
      refine w0w ?_
      simp(maxSteps:=9^9)(disch:=first|omega|(simp only[H'];try omega))only[wfc,go_sem,P'k,C',D',E']
      simp(maxSteps:=9^9)(disch:=first|omega|(simp only[H'];try omega))only[go_sem,P'k,C',D',E',hs0,he0,hx,fd,hz,hlt,hct,e3,hwt,hdd]
      first|done|rfl|exact⟨rfl,rfl⟩
     ·rw[if_neg hl]
      refine w0w ?_
      simp(maxSteps:=9^9)(disch:=first|omega|(simp only[H'];try omega))only[wfc,go_sem,P'k,C',D',E']
      simp(maxSteps:=9^9)(disch:=first|omega|(simp only[H'];try omega))only[go_sem,P'k,C',D',E',hs0,he0,hx,fd,hz,hlt,hct,e3,hwt,hdd]
      first|done|rfl|exact⟨rfl,rfl⟩
    ·by_cases h2:0<=k2
     ·obtain⟨K,rfl⟩:∃K:Nat,k2=K:=⟨k2.toNat,by omega⟩
      have hKl:K<R.sp.ms.length:=by omega
      have hVe:V=⟨2,2,tw R.sp.ar K,0⟩:=by rw[<-hV,if_neg h1,if_pos h2,P'm]
      have hwt:=hway K hKl
      have e3:R.sp.ms[K]?=some R.sp.ms[K]:=L'v hKl
      have htl:=z1gc f4 K hKl
      rw[hVe]
      simp only
      generalize R.sp.ms[K]=x at *
      generalize tw R.sp.ar K=W at *
      by_cases hl:W.length<=60
      ·rw[if_pos hl,wli 2 W (.inr rfl)]
       refine w0w ?_
       simp(maxSteps:=9^9)(disch:=first|omega|(simp only[H'];try omega))only[wfc,go_sem,P'k,C',D',E']
       simp(maxSteps:=9^9)(disch:=first|omega|(simp only[H'];try omega))only[go_sem,P'k,C',D',E',hs0,he0,hx,fd,hz,hlt,hct,h1,hov,e3,hwt,hdd]
       first|done|rfl|exact⟨rfl,rfl⟩
      ·rw[if_neg hl]
       refine w0w ?_
       simp(maxSteps:=9^9)(disch:=first|omega|(simp only[H'];try omega))only[wfc,go_sem,P'k,C',D',E']
       simp(maxSteps:=9^9)(disch:=first|omega|(simp only[H'];try omega))only[go_sem,P'k,C',D',E',hs0,he0,hx,fd,hz,hlt,hct,h1,hov,e3,hwt,hdd]
       first|done|rfl|exact⟨rfl,rfl⟩
     ·cases D with
      |nil=>
       have hVe:V=⟨1,0,[],0⟩:=by rw[<-hV,if_neg h1,if_neg h2];rfl
       rw[hVe]
       refine w0w ?_
       simp(maxSteps:=9^9)(disch:=first|omega|(simp only[H'];try omega))only[wfc,go_sem,P'k,C',D',E']
       simp(maxSteps:=9^9)(disch:=first|omega|(simp only[H'];try omega))only[go_sem,P'k,C',D',E',hs0,he0,hx,fd,hz,hlt,hct,h1,hov,h2,hdd]
       first|done|rfl|exact⟨rfl,rfl⟩
      |cons d D=>
       have hVe:V=⟨2,3,[],d⟩:=by rw[<-hV,if_neg h1,if_neg h2];rfl
       rw[hVe]
       refine w0w ?_
       simp(maxSteps:=9^9)(disch:=first|omega|(simp only[H'];try omega))only[wfc,go_sem,P'k,C',D',E']
       simp(maxSteps:=9^9)(disch:=first|omega|(simp only[H'];try omega))only[go_sem,P'k,C',D',E',hs0,he0,hx,fd,hz,hlt,hct,h1,hov,h2,hdd,R'6,Q'n]
       first|done|rfl|exact⟨rfl,rfl⟩
   ·have hPV:exPV R=.agg [.un wle false 1 (R.sp.ms.map ints),.un wl6 true 3 (R.sp.ar.map encA)]:=by simp only[exPV,arcPV,hc,har,if_true,if_false]
    rw[hPV]at hx ⊢
    have hway:=hway _ rfl
    by_cases h1:0<=k1
    ·obtain⟨K,rfl⟩:∃K:Nat,k1=K:=⟨k1.toNat,by omega⟩
     have hKl:K<R.sp.ms.length:=by omega
     have hVe:V=⟨2,1,tw R.sp.ar K,0⟩:=by rw[<-hV,if_pos h1,P'm]
     have hwt:=hway K hKl
     have e3:R.sp.ms[K]?=some R.sp.ms[K]:=L'v hKl
     have htl:=z1gc f4 K hKl
     rw[hVe]
     simp only
     generalize R.sp.ms[K]=x at *
     generalize tw R.sp.ar K=W at *
     by_cases hl:W.length<=60
     ·rw[if_pos hl,wli 1 W (.inl rfl)]
      refine w0w ?_
      simp(maxSteps:=9^9)(disch:=first|omega|(simp only[H'];try omega))only[wfc,go_sem,P'k,C',D',E']
      simp(maxSteps:=9^9)(disch:=first|omega|(simp only[H'];try omega))only[go_sem,P'k,C',D',E',hs0,he0,hx,fd,hz,hlt,hct,e3,hwt,hdd]
      first|done|rfl|exact⟨rfl,rfl⟩
     ·rw[if_neg hl]
      refine w0w ?_
      simp(maxSteps:=9^9)(disch:=first|omega|(simp only[H'];try omega))only[wfc,go_sem,P'k,C',D',E']
      simp(maxSteps:=9^9)(disch:=first|omega|(simp only[H'];try omega))only[go_sem,P'k,C',D',E',hs0,he0,hx,fd,hz,hlt,hct,e3,hwt,hdd]
      first|done|rfl|exact⟨rfl,rfl⟩
    ·by_cases h2:0<=k2
     ·obtain⟨K,rfl⟩:∃K:Nat,k2=K:=⟨k2.toNat,by omega⟩
      have hKl:K<R.sp.ms.length:=by omega
      have hVe:V=⟨2,2,tw R.sp.ar K,0⟩:=by rw[<-hV,if_neg h1,if_pos h2,P'm]
      have hwt:=hway K hKl
      have e3:R.sp.ms[K]?=some R.sp.ms[K]:=L'v hKl
      have htl:=z1gc f4 K hKl
      rw[hVe]
      simp only
      generalize R.sp.ms[K]=x at *
      generalize tw R.sp.ar K=W at *
      by_cases hl:W.length<=60
      ·rw[if_pos hl,wli 2 W (.inr rfl)]
       refine w0w ?_
       simp(maxSteps:=9^9)(disch:=first|omega|(simp only[H'];try omega))only[wfc,go_sem,P'k,C',D',E']
       simp(maxSteps:=9^9)(disch:=first|omega|(simp only[H'];try omega))only[go_sem,P'k,C',D',E',hs0,he0,hx,fd,hz,hlt,hct,h1,hov,e3,hwt,hdd]
       first|done|rfl|exact⟨rfl,rfl⟩
      ·rw[if_neg hl]
       refine w0w ?_
       simp(maxSteps:=9^9)(disch:=first|omega|(simp only[H'];try omega))only[wfc,go_sem,P'k,C',D',E']
       simp(maxSteps:=9^9)(disch:=first|omega|(simp only[H'];try omega))only[go_sem,P'k,C',D',E',hs0,he0,hx,fd,hz,hlt,hct,h1,hov,e3,hwt,hdd]
       first|done|rfl|exact⟨rfl,rfl⟩
     ·cases D with
      |nil=>
       have hVe:V=⟨1,0,[],0⟩:=by rw[<-hV,if_neg h1,if_neg h2];rfl
       rw[hVe]
       refine w0w ?_
       simp(maxSteps:=9^9)(disch:=first|omega|(simp only[H'];try omega))only[wfc,go_sem,P'k,C',D',E']
       simp(maxSteps:=9^9)(disch:=first|omega|(simp only[H'];try omega))only[go_sem,P'k,C',D',E',hs0,he0,hx,fd,hz,hlt,hct,h1,hov,h2,hdd]
       first|done|rfl|exact⟨rfl,rfl⟩
      |cons d D=>
       have hVe:V=⟨2,3,[],d⟩:=by rw[<-hV,if_neg h1,if_neg h2];rfl
       rw[hVe]
       refine w0w ?_
       simp(maxSteps:=9^9)(disch:=first|omega|(simp only[H'];try omega))only[wfc,go_sem,P'k,C',D',E']
       simp(maxSteps:=9^9)(disch:=first|omega|(simp only[H'];try omega))only[go_sem,P'k,C',D',E',hs0,he0,hx,fd,hz,hlt,hct,h1,hov,h2,hdd,R'6,Q'n]
       first|done|rfl|exact⟨rfl,rfl⟩
 ·rw[if_neg hc]
  simp only[exPV,w8c,hc,if_false]at hx ⊢
  have hc1:¬R.code=1:=by omega
  refine w0w ?_
  simp(maxSteps:=9^9)(disch:=first|omega|(simp only[H'];try omega))only[wfc,go_sem,P'k,C',D',E']
  simp(maxSteps:=9^9)(disch:=first|omega|(simp only[H'];try omega))only[go_sem,P'k,C',D',E',hs0,hx,hc1]
  first|done|rfl
theorem wjv(f:Fl)(b:Int):(sndV f b).way.length<=60:=by
 unfold sndV
 split
 ·split
  ·assumption
  ·simp
 ·simp
theorem wcu(f:Fl)(b:Int)(hg:zji f=true)(hb:inB 1 400 b=true)(hf:smN f.net):C w8p [encF f,I b] []=some (.tup [vdPV (sndV f b),.bool true],[]):=by
 have h0:=wdw f b hf
 rw[hg,hb]at h0
 have h1:=wdm f b hg hb
 have hw:=wjv f b
 have hgn:=zjy (zjm hg).1
 obtain⟨f1,f2,f3,f4,f5,f6⟩:=w8e hg hb
 generalize sndV f b=V at *
 generalize exAll f.net (oneM f.net.pl.toNat f.src) b=R at *
 obtain⟨vo,vk,vw,vd⟩:=V
 unfold vdPV at h1 ⊢
 simp only at h1 hw ⊢
 by_cases hc:R.code=0
 ·by_cases har:R.sp.ar=[]
  ·simp only[exPV,arcPV,hc,har,if_true]at h1
   by_cases hk:vk=1\/vk=2
   ·simp only[hk,if_true]at h1 ⊢
    refine w07 ?_
    simp(maxSteps:=9^9)(disch:=first|omega|(simp only[H'];try omega))only[wek,go_sem,P'k,C',D',E']
    simp(maxSteps:=9^9)(disch:=first|omega|(simp only[H'];try omega))only[go_sem,P'k,C',D',E',h0,h1]
    first| done| rfl
   ·simp only[hk,if_false]at h1 ⊢
    refine w07 ?_
    simp(maxSteps:=9^9)(disch:=first|omega|(simp only[H'];try omega))only[wek,go_sem,P'k,C',D',E']
    simp(maxSteps:=9^9)(disch:=first|omega|(simp only[H'];try omega))only[go_sem,P'k,C',D',E',h0,h1]
    first| done| rfl
  ·simp only[exPV,arcPV,hc,har,if_true,if_false]at h1
   by_cases hk:vk=1\/vk=2
   ·simp only[hk,if_true]at h1 ⊢
    refine w07 ?_
    simp(maxSteps:=9^9)(disch:=first|omega|(simp only[H'];try omega))only[wek,go_sem,P'k,C',D',E']
    simp(maxSteps:=9^9)(disch:=first|omega|(simp only[H'];try omega))only[go_sem,P'k,C',D',E',h0,h1]
    first| done| rfl
   ·simp only[hk,if_false]at h1 ⊢
    refine w07 ?_
    simp(maxSteps:=9^9)(disch:=first|omega|(simp only[H'];try omega))only[wek,go_sem,P'k,C',D',E']
    simp(maxSteps:=9^9)(disch:=first|omega|(simp only[H'];try omega))only[go_sem,P'k,C',D',E',h0,h1]
    first| done| rfl
 ·simp only[exPV,hc,if_false]at h1
  by_cases hk:vk=1\/vk=2
  ·simp only[hk,if_true]at h1 ⊢
   refine w07 ?_
   simp(maxSteps:=9^9)(disch:=first|omega|(simp only[H'];try omega))only[wek,go_sem,P'k,C',D',E']
   simp(maxSteps:=9^9)(disch:=first|omega|(simp only[H'];try omega))only[go_sem,P'k,C',D',E',h0,h1]
   first| done| rfl
  ·simp only[hk,if_false]at h1 ⊢
   refine w07 ?_
   simp(maxSteps:=9^9)(disch:=first|omega|(simp only[H'];try omega))only[wek,go_sem,P'k,C',D',E']
   simp(maxSteps:=9^9)(disch:=first|omega|(simp only[H'];try omega))only[go_sem,P'k,C',D',E',h0,h1]
   first| done| rfl
theorem wkh(n lo hi:Int):C wc0 [I n,I lo,I hi] []=some (.bool (inB lo hi n),[]):=by
 refine w2r ?_
 simp(maxSteps:=9^9)(disch:=first|omega|(simp only[H'];try omega))only[whw,go_sem,P'k,C',D',E']
 unfold inB;grind
theorem wkj(n:Int):C wc3 [I n] []=some (.bool (inB 1 16 n),[]):=by
 refine w2t ?_
 simp(maxSteps:=9^9)(disch:=first|omega|(simp only[H'];try omega))only[wi0,go_sem,P'k,C',D',E']
 simp(maxSteps:=9^9)(disch:=first|omega|(simp only[H'];try omega))only[go_sem,P'k,C',D',E',wkh]
 grind
theorem wkn(l:List Int)(lo hi:Int)(hl:l.length<2^62):C wc5 [ints l,I lo,I hi] []=some (.bool (incr l&&l.all (inB lo hi)),[]):=by
 refine w2v ?_
 simp(maxSteps:=9^9)(disch:=first|omega|(simp only[H'];try omega))only[wi2,go_sem,P'k,C',D',E']
 refine W_for l.length (fun k s=>s=⟨[ints l,I lo,I hi,.any,.any,.any,ints l,I l.length,I k,.any,.any],[]⟩/\(l.take k).Pairwise (·<·)/\(l.take k).all (inB lo hi)=true) ?_ ?_ ?_
 ·simp(maxSteps:=9^9)(disch:=first|omega|(simp only[H'];try omega))only[go_sem,P'k,C',D',E']
  exact⟨rfl,List.Pairwise.nil⟩
 ·rintro k s hk⟨rfl,hp,hall⟩
  simp(maxSteps:=9^9)(disch:=first|omega|(simp only[H'];try omega))only[go_sem,P'k,C',D',E',wkh]
  refine⟨fun h=>⟨fun h2=>?_,fun h2=>?_⟩,fun h=>by rw[z2y hk h];simp⟩
  ·simp(maxSteps:=9^9)(disch:=first|omega|(simp only[H'];try omega))only[go_sem,P'k,C',D',E']
   obtain⟨j,rfl⟩:∃j,k=j+1:=⟨k-1,by omega⟩
   have e:(((j+1:Nat):Int)-1).toNat=j:=by omega
   refine⟨fun h3=>?_,fun h3=>⟨rfl,?_,z2z hk hall h⟩⟩
   ·rw[zn8 hk (by simp only[e]at h3;omega)];rfl
   ·exact znb hk hp (by simp only[e]at h3;omega)
  ·obtain rfl:k=0:=by omega
   exact⟨rfl,zn9,z2z hk hall h⟩
 ·rintro s⟨rfl,hp,hall⟩
  simp(maxSteps:=9^9)(disch:=first|omega|(simp only[H'];try omega))only[go_sem,P'k,C',D',E']
  rw[M'i]at hp hall
  rw[hall,show incr l=true by simpa [incr]using hp]
  rfl
theorem wk2(n:Net)(hn:smN n):C wbm [encN n] []=some (.bool (goodN n),[]):=by
 have h0:=hn.1
 refine w2l ?_
 simp(maxSteps:=9^9)(disch:=first|omega|(simp only[H'];try omega))only[whh,go_sem,P'k,C',D',E']
 simp(maxSteps:=9^9)(disch:=first|omega|(simp only[H'];try omega))only[go_sem,P'k,C',D',E',wkj]
 refine⟨fun h=>⟨fun h2=>?_,fun h2=>?_⟩,fun h=>by simp[goodN,h]⟩
 ·have:¬n.tr.length<=24:=by omega
  simp[goodN,this]
 have hb:1<=n.pl/\n.pl<=16:=by simpa [inB]using h
 refine W_for n.tr.length (fun k s=>s=⟨[.any,.ptr 0 0,.any,.any,.any,trs n.tr,I n.tr.length,I k,.any,.any],[.box wl9 [I n.pl,trs n.tr]]⟩/\(n.tr.take k).all (goodT n.pl)=true) ?_ ?_ ?_
 ·simp(maxSteps:=9^9)(disch:=first|omega|(simp only[H'];try omega))only[go_sem,P'k,C',D',E']
  rfl
 ·rintro k s hk⟨rfl,hall⟩
  obtain⟨h3,h4,h5⟩:=hn.2 _ (P'l hk)
  simp(maxSteps:=9^9)(disch:=first|omega|(simp only[H'];try omega))only[go_sem,P'k,C',D',E',wkn]
  simp only[z11o]
  refine⟨fun h6=>by rw[zjw hk (zk7 (by omega))],fun h6=>⟨fun h7=>⟨fun h8=>⟨fun h9=>⟨rfl,z2z hk hall (zk1 (by omega) h7 h8 h9)⟩,fun h9=>by rw[zjw hk (by simp[goodT,h9])]⟩,fun h8=>by rw[zjw hk (by simp[goodT,h8])]⟩,fun h7=>by rw[zjw hk (by simp[goodT,h7])]⟩⟩
 ·rintro s⟨rfl,hall⟩
  simp(maxSteps:=9^9)(disch:=first|omega|(simp only[H'];try omega))only[go_sem,P'k,C',D',E']
  rw[M'i]at hall
  simp[goodN,hall,h,show n.tr.length<=24 by omega]
theorem wku(n:Net)(p:Int)(hg:goodN n=true)(hp:0<=p/\p<n.pl):C wcc [encN n,I p] []=some (.tup [.un wl5 true 1 ((z13q n false p).pl.map PV.bool),.un wl5 true 1 ((z13q n false p).tr.map PV.bool)],[]):=by
 have hb:=zjy hg
 have hlen:=z13t n false p
 rw[z13r]at hlen ⊢
 refine w32 ?_
 simp(maxSteps:=9^9)(disch:=first|omega|(simp only[H'];try omega))only[wi9,go_sem,P'k,C',D',E']
 simp(maxSteps:=9^9)(disch:=first|omega|(simp only[H'];try omega))only[go_sem,P'k,C',D',E',R'3]
 generalize hR:clRun n false (cntF (L'0 n.tr.length false)+1) ⟨(L'0 n.pl.toNat false).set p.toNat true,L'0 n.tr.length false,true⟩=R at *
 refine z1a (fun k s=>∃c:Cl,c.pl.length=n.pl.toNat/\c.tr.length=n.tr.length/\((k=cntF c.tr+1/\s=⟨[.any,.any,.ptr 0 0,.any,.any,.ref 1 1 0 n.pl.toNat,.ref 2 1 0 n.tr.length,.bool true,.any,.any,.any,.any,.any,.any,.any,.any,.any,.any,.any,.any,.any,.any,.any,.any,.any,.any,.any],[.box wl9 [I n.pl,trs n.tr],.row wl5 true 1 (c.pl.map PV.bool),.row wl5 true 1 (c.tr.map PV.bool)]⟩/\clRun n false (cntF c.tr+1) c=R)\/(k=0/\s=⟨[.any,.any,.ptr 0 0,.any,.any,.ref 1 1 0 n.pl.toNat,.ref 2 1 0 n.tr.length,.bool false,.any,.any,.any,.any,.any,.any,.any,.any,.any,.any,.any,.any,.any,.any,.any,.any,.any,.any,.any],[.box wl9 [I n.pl,trs n.tr],.row wl5 true 1 (c.pl.map PV.bool),.row wl5 true 1 (c.tr.map PV.bool)]⟩/\c=R))) (cntF (L'0 n.tr.length false)+1) ?_ ?_
 ·refine⟨⟨(L'0 n.pl.toNat false).set p.toNat true,L'0 n.tr.length false,true⟩,by simp,by simp,.inl ⟨rfl,?_,hR⟩⟩
  simp(maxSteps:=9^9)(disch:=first|omega|(simp only[H'];try omega))only[go_sem,P'k,C',D',E']
  simp
 ·rintro k0 s ⟨c,hc1,hc2,⟨rfl,rfl,hc⟩|⟨rfl,rfl,rfl⟩⟩
  ·have hcl:=fun k=>z9z n false c k
   simp(maxSteps:=9^9)(disch:=first|omega|(simp only[H'];try omega))only[go_sem,P'k,C',D',E']
   refine W_for n.tr.length (fun k s=>s=⟨[.any,.any,.ptr 0 0,.any,.any,.ref 1 1 0 n.pl.toNat,.ref 2 1 0 n.tr.length,.bool (clK n false c k).ch,.any,.any,.any,.any,.any,.any,trs n.tr,I n.tr.length,I k,.any,.any,.any,.any,.any,.any,.any,.any,.any,.any],[.box wl9 [I n.pl,trs n.tr],.row wl5 true 1 ((clK n false c k).pl.map PV.bool),.row wl5 true 1 ((clK n false c k).tr.map PV.bool)]⟩) ?_ ?_ ?_
   ·simp(maxSteps:=9^9)(disch:=first|omega|(simp only[H'];try omega))only[go_sem,P'k,C',D',E']
    rfl
   ·rintro k s hk rfl
    have hT:=hb.2.2.2 _ (P'l hk)
    have hLs:=zk4 hT (by omega)
    obtain⟨_,g1,g2,g3⟩:=zk8 hT
    have p1:=z11p g1
    have p2:=z11p g2
    have hd:=hcl k
    have hstep:=za1 n false c k
    have htr:n.tr[k]=trN n k:=(z1fx hk).symm
    rw[htr]at hLs p1 p2
    have s1:(clK n false c k).tr.getD k false=true->clK n false c (k+1)=clK n false c k:=fun h=>hstep.trans (zab (.inl h))
    have s2:hitB (clK n false c k).pl (sideI false (trN n k))=false->clK n false c (k+1)=clK n false c k:=fun h=>hstep.trans (zab (.inr h))
    have s3:(clK n false c k).tr.getD k false=false->hitB (clK n false c k).pl (sideI false (trN n k))=true->clK n false c (k+1)=⟨markB (clK n false c k).pl (sideO false (trN n k)),(clK n false c k).tr.set k true,true⟩:=fun h h2=>hstep.trans (zac h h2)
    simp only[sideI,sideO,M'w,if_false,if_true]at s2 s3
    clear hstep
    generalize clK n false c k=d at *
    generalize clK n false c (k+1)=d' at *
    simp(maxSteps:=9^9)(disch:=first|omega|(simp only[H'];try omega))only[go_sem,P'k,C',D',E']
    simp only[htr]
    generalize trN n k=tr at *
    refine W_for tr.inn.length (fun j s=>s=⟨[.any,.any,.ptr 0 0,.any,.any,.ref 1 1 0 n.pl.toNat,.ref 2 1 0 n.tr.length,.bool d.ch,I k,.ptr 3 0,.bool ((tr.inn.take j).any fun p=>d.pl.getD p.toNat false),.any,.any,.any,trs n.tr,I n.tr.length,I k,.any,ints tr.inn,I tr.inn.length,I j,.any,.any,.any,.any,.any,.any],[.box wl9 [I n.pl,trs n.tr],.row wl5 true 1 (d.pl.map PV.bool),.row wl5 true 1 (d.tr.map PV.bool),.box wlb [ints tr.inn,ints tr.out,ints tr.rst]]⟩) ?_ ?_ ?_
    ·simp(maxSteps:=9^9)(disch:=first|omega|(simp only[H'];try omega))only[go_sem,P'k,C',D',E']
     rfl
    ·rintro j s hj rfl
     have h1:=p1 _ (P'l hj)
     have h2:tr.inn[j].toNat<d.pl.length:=by omega
     simp(maxSteps:=9^9)(disch:=first|omega|(simp only[H'];try omega))only[go_sem,P'k,C',D',E']
     refine⟨fun h=>?_,fun h=>⟨fun h3=>?_,fun h3=>?_⟩⟩
     ·rw[z3b hj h];rfl
     ·rw[z39 hj (by rw[<-zj5 h2];exact h3)];rfl
     ·rw[z3e hj h (by rw[<-zj5 h2];exact h3)];rfl
    ·rintro s rfl
     have hkd:k<d.tr.length:=by omega
     simp(maxSteps:=9^9)(disch:=first|omega|(simp only[H'];try omega))only[go_sem,P'k,C',D',E',M'i]
     refine⟨fun h=>⟨fun h3=>?_,fun h3=>?_⟩,fun h=>?_⟩
     ·rw[s1 (by rw[<-zj5 hkd];exact h3)];rfl
     ·have e:=s3 (by rw[<-zj5 hkd];exact h3) h
      subst e
      refine W_for tr.out.length (fun j s=>s=⟨[.any,.any,.ptr 0 0,.any,.any,.ref 1 1 0 n.pl.toNat,.ref 2 1 0 n.tr.length,.bool true,.any,.any,.any,.any,.any,.any,trs n.tr,I n.tr.length,I k,.any,.any,.any,.any,.any,.any,ints tr.out,I tr.out.length,I j,.any],[.box wl9 [I n.pl,trs n.tr],.row wl5 true 1 ((markB d.pl (tr.out.take j)).map PV.bool),.row wl5 true 1 ((d.tr.set k true).map PV.bool)]⟩) ?_ ?_ ?_
      ·simp(maxSteps:=9^9)(disch:=first|omega|(simp only[H'];try omega))only[go_sem,P'k,C',D',E']
       rfl
      ·rintro j s hj rfl
       have h1:=p2 _ (P'l hj)
       have h2:tr.out[j].toNat<d.pl.length:=by omega
       have h4:=zsl d.pl (tr.out.take j)
       simp(maxSteps:=9^9)(disch:=first|omega|(simp only[H'];try omega))only[go_sem,P'k,C',D',E']
       rw[zsm hj];rfl
      ·rintro s rfl
       simp(maxSteps:=9^9)(disch:=first|omega|(simp only[H'];try omega))only[go_sem,P'k,C',D',E',M'i]
       rfl
     ·rw[s2 h];rfl
   ·rintro s rfl
    simp(maxSteps:=9^9)(disch:=first|omega|(simp only[H'];try omega))only[go_sem,P'k,C',D',E']
    have hn:=za7 (n:=n) (bk:=false) hc2
    rw[hc]at hn
    cases e:(za2 n false c).ch with
    |true=>
     have h1:=(z9y (n:=n) (bk:=false) (s:=c) (k:=n.tr.length) (by omega)).2 e
     simp only[e,if_true]at hn
     refine⟨cntF (za2 n false c).tr+1,by unfold za2;omega,za2 n false c,by unfold za2;have:=hcl n.tr.length;omega,by unfold za2;have:=hcl n.tr.length;omega,.inl ⟨rfl,?_,hn.symm⟩⟩
     unfold za2 at e ⊢
     rw[e]
    |false=>
     simp only[e,M'w,if_false]at hn
     refine⟨0,by omega,za2 n false c,by unfold za2;have:=hcl n.tr.length;omega,by unfold za2;have:=hcl n.tr.length;omega,.inr ⟨rfl,?_,hn.symm⟩⟩
     unfold za2 at e ⊢
     rw[e]
  ·simp(maxSteps:=9^9)(disch:=first|omega|(simp only[H'];try omega))only[go_sem,P'k,C',D',E']
theorem wks(n:Net)(p:Int)(hg:goodN n=true)(hp:0<=p/\p<n.pl):C wca [encN n,I p] []=some (.tup [.un wl5 true 1 ((z13q n true p).pl.map PV.bool),.un wl5 true 1 ((z13q n true p).tr.map PV.bool)],[]):=by
 have hb:=zjy hg
 have hlen:=z13t n true p
 rw[z13r]at hlen ⊢
 refine w30 ?_
 simp(maxSteps:=9^9)(disch:=first|omega|(simp only[H'];try omega))only[wi7,go_sem,P'k,C',D',E']
 simp(maxSteps:=9^9)(disch:=first|omega|(simp only[H'];try omega))only[go_sem,P'k,C',D',E',R'3]
 generalize hR:clRun n true (cntF (L'0 n.tr.length false)+1) ⟨(L'0 n.pl.toNat false).set p.toNat true,L'0 n.tr.length false,true⟩=R at *
 refine z1a (fun k s=>∃c:Cl,c.pl.length=n.pl.toNat/\c.tr.length=n.tr.length/\((k=cntF c.tr+1/\s=⟨[.any,.any,.ptr 0 0,.any,.any,.ref 1 1 0 n.pl.toNat,.ref 2 1 0 n.tr.length,.bool true,.any,.any,.any,.any,.any,.any,.any,.any,.any,.any,.any,.any,.any,.any,.any,.any,.any,.any,.any],[.box wl9 [I n.pl,trs n.tr],.row wl5 true 1 (c.pl.map PV.bool),.row wl5 true 1 (c.tr.map PV.bool)]⟩/\clRun n true (cntF c.tr+1) c=R)\/(k=0/\s=⟨[.any,.any,.ptr 0 0,.any,.any,.ref 1 1 0 n.pl.toNat,.ref 2 1 0 n.tr.length,.bool false,.any,.any,.any,.any,.any,.any,.any,.any,.any,.any,.any,.any,.any,.any,.any,.any,.any,.any,.any],[.box wl9 [I n.pl,trs n.tr],.row wl5 true 1 (c.pl.map PV.bool),.row wl5 true 1 (c.tr.map PV.bool)]⟩/\c=R))) (cntF (L'0 n.tr.length false)+1) ?_ ?_
 ·refine⟨⟨(L'0 n.pl.toNat false).set p.toNat true,L'0 n.tr.length false,true⟩,by simp,by simp,.inl ⟨rfl,?_,hR⟩⟩
  simp(maxSteps:=9^9)(disch:=first|omega|(simp only[H'];try omega))only[go_sem,P'k,C',D',E']
  simp
 ·rintro k0 s ⟨c,hc1,hc2,⟨rfl,rfl,hc⟩|⟨rfl,rfl,rfl⟩⟩
  ·have hcl:=fun k=>z9z n true c k
   simp(maxSteps:=9^9)(disch:=first|omega|(simp only[H'];try omega))only[go_sem,P'k,C',D',E']
   refine W_for n.tr.length (fun k s=>s=⟨[.any,.any,.ptr 0 0,.any,.any,.ref 1 1 0 n.pl.toNat,.ref 2 1 0 n.tr.length,.bool (clK n true c k).ch,.any,.any,.any,.any,.any,.any,trs n.tr,I n.tr.length,I k,.any,.any,.any,.any,.any,.any,.any,.any,.any,.any],[.box wl9 [I n.pl,trs n.tr],.row wl5 true 1 ((clK n true c k).pl.map PV.bool),.row wl5 true 1 ((clK n true c k).tr.map PV.bool)]⟩) ?_ ?_ ?_
   ·simp(maxSteps:=9^9)(disch:=first|omega|(simp only[H'];try omega))only[go_sem,P'k,C',D',E']
    rfl
   ·rintro k s hk rfl
    have hT:=hb.2.2.2 _ (P'l hk)
    have hLs:=zk4 hT (by omega)
    obtain⟨_,g1,g2,g3⟩:=zk8 hT
    have p1:=z11p g2
    have p2:=z11p g1
    have hd:=hcl k
    have hstep:=za1 n true c k
    have htr:n.tr[k]=trN n k:=(z1fx hk).symm
    rw[htr]at hLs p1 p2
    have s1:(clK n true c k).tr.getD k false=true->clK n true c (k+1)=clK n true c k:=fun h=>hstep.trans (zab (.inl h))
    have s2:hitB (clK n true c k).pl (sideI true (trN n k))=false->clK n true c (k+1)=clK n true c k:=fun h=>hstep.trans (zab (.inr h))
    have s3:(clK n true c k).tr.getD k false=false->hitB (clK n true c k).pl (sideI true (trN n k))=true->clK n true c (k+1)=⟨markB (clK n true c k).pl (sideO true (trN n k)),(clK n true c k).tr.set k true,true⟩:=fun h h2=>hstep.trans (zac h h2)
    simp only[sideI,sideO,M'w,if_false,if_true]at s2 s3
    clear hstep
    generalize clK n true c k=d at *
    generalize clK n true c (k+1)=d' at *
    simp(maxSteps:=9^9)(disch:=first|omega|(simp only[H'];try omega))only[go_sem,P'k,C',D',E']
    simp only[htr]
    generalize trN n k=tr at *
    refine W_for tr.out.length (fun j s=>s=⟨[.any,.any,.ptr 0 0,.any,.any,.ref 1 1 0 n.pl.toNat,.ref 2 1 0 n.tr.length,.bool d.ch,I k,.ptr 3 0,.bool ((tr.out.take j).any fun p=>d.pl.getD p.toNat false),.any,.any,.any,trs n.tr,I n.tr.length,I k,.any,ints tr.out,I tr.out.length,I j,.any,.any,.any,.any,.any,.any],[.box wl9 [I n.pl,trs n.tr],.row wl5 true 1 (d.pl.map PV.bool),.row wl5 true 1 (d.tr.map PV.bool),.box wlb [ints tr.inn,ints tr.out,ints tr.rst]]⟩) ?_ ?_ ?_
    ·simp(maxSteps:=9^9)(disch:=first|omega|(simp only[H'];try omega))only[go_sem,P'k,C',D',E']
     rfl
    ·rintro j s hj rfl
     have h1:=p1 _ (P'l hj)
     have h2:tr.out[j].toNat<d.pl.length:=by omega
     simp(maxSteps:=9^9)(disch:=first|omega|(simp only[H'];try omega))only[go_sem,P'k,C',D',E']
     refine⟨fun h=>?_,fun h=>⟨fun h3=>?_,fun h3=>?_⟩⟩
     ·rw[z3b hj h];rfl
     ·rw[z39 hj (by rw[<-zj5 h2];exact h3)];rfl
     ·rw[z3e hj h (by rw[<-zj5 h2];exact h3)];rfl
    ·rintro s rfl
     have hkd:k<d.tr.length:=by omega
     simp(maxSteps:=9^9)(disch:=first|omega|(simp only[H'];try omega))only[go_sem,P'k,C',D',E',M'i]
     refine⟨fun h=>⟨fun h3=>?_,fun h3=>?_⟩,fun h=>?_⟩
     ·rw[s1 (by rw[<-zj5 hkd];exact h3)];rfl
     ·have e:=s3 (by rw[<-zj5 hkd];exact h3) h
      subst e
      refine W_for tr.inn.length (fun j s=>s=⟨[.any,.any,.ptr 0 0,.any,.any,.ref 1 1 0 n.pl.toNat,.ref 2 1 0 n.tr.length,.bool true,.any,.any,.any,.any,.any,.any,trs n.tr,I n.tr.length,I k,.any,.any,.any,.any,.any,.any,ints tr.inn,I tr.inn.length,I j,.any],[.box wl9 [I n.pl,trs n.tr],.row wl5 true 1 ((markB d.pl (tr.inn.take j)).map PV.bool),.row wl5 true 1 ((d.tr.set k true).map PV.bool)]⟩) ?_ ?_ ?_
      ·simp(maxSteps:=9^9)(disch:=first|omega|(simp only[H'];try omega))only[go_sem,P'k,C',D',E']
       rfl
      ·rintro j s hj rfl
       have h1:=p2 _ (P'l hj)
       have h2:tr.inn[j].toNat<d.pl.length:=by omega
       have h4:=zsl d.pl (tr.inn.take j)
       simp(maxSteps:=9^9)(disch:=first|omega|(simp only[H'];try omega))only[go_sem,P'k,C',D',E']
       rw[zsm hj];rfl
      ·rintro s rfl
       simp(maxSteps:=9^9)(disch:=first|omega|(simp only[H'];try omega))only[go_sem,P'k,C',D',E',M'i]
       rfl
     ·rw[s2 h];rfl
   ·rintro s rfl
    simp(maxSteps:=9^9)(disch:=first|omega|(simp only[H'];try omega))only[go_sem,P'k,C',D',E']
    have hn:=za7 (n:=n) (bk:=true) hc2
    rw[hc]at hn
    cases e:(za2 n true c).ch with
    |true=>
     have h1:=(z9y (n:=n) (bk:=true) (s:=c) (k:=n.tr.length) (by omega)).2 e
     simp only[e,if_true]at hn
     refine⟨cntF (za2 n true c).tr+1,by unfold za2;omega,za2 n true c,by unfold za2;have:=hcl n.tr.length;omega,by unfold za2;have:=hcl n.tr.length;omega,.inl ⟨rfl,?_,hn.symm⟩⟩
     unfold za2 at e ⊢
     rw[e]
    |false=>
     simp only[e,M'w,if_false]at hn
     refine⟨0,by omega,za2 n true c,by unfold za2;have:=hcl n.tr.length;omega,by unfold za2;have:=hcl n.tr.length;omega,.inr ⟨rfl,?_,hn.symm⟩⟩
     unfold za2 at e ⊢
     rw[e]
  ·simp(maxSteps:=9^9)(disch:=first|omega|(simp only[H'];try omega))only[go_sem,P'k,C',D',E']
theorem wkt(a b:List Bool)(ha:a.length<2^30)(hab:a.length<=b.length):C wcb [bls a,bls b] []=some (.un t_int true 1 ((bothL a b).map I),[]):=by
 refine w31 ?_
 simp(maxSteps:=9^9)(disch:=first|omega|(simp only[H'];try omega))only[wi8,go_sem,P'k,C',D',E']
 refine W_for a.length (fun k s=>s=⟨[bls a,bls b,.any,.ref 0 1 0 (bothK a b k).length,.any,I a.length,I k,.any,.any],[.row t_int true 1 ((bothK a b k).map I)]⟩) ?_ ?_ ?_
 ·simp(maxSteps:=9^9)(disch:=first|omega|(simp only[H'];try omega))only[go_sem,P'k,C',D',E']
  rfl
 ·rintro k s hk rfl
  have h2:=z76 a b k
  have hkb:k<b.length:=by omega
  have e1:=zj5 hk
  have e2:=zj5 hkb
  simp(maxSteps:=9^9)(disch:=first|omega|(simp only[H'];try omega))only[go_sem,P'k,C',D',E']
  rw[e1,e2]
  refine⟨fun h=>⟨fun h3=>?_,fun h3=>?_⟩,fun h=>?_⟩
  ·rw[z77 h h3,M'r];simp
  ·rw[z75 (by rw[h,h3];rfl)];rfl
  ·rw[z75 (by rw[h];rfl)];rfl
 ·rintro s rfl
  simp(maxSteps:=9^9)(disch:=first|omega|(simp only[H'];try omega))only[go_sem,P'k,C',D',E']
  rfl
theorem wk3(n:Net)(a b:Int)(hn:smN n):C wbn [encN n,I a,I b] []=some (.tup [.un t_int true 1 ((if okWay n a b then wayP n a b else[]).map I),.un t_int true 1 ((if okWay n a b then wayT n a b else[]).map I),.bool (okWay n a b)],[]):=by
 refine w2m ?_
 simp(maxSteps:=9^9)(disch:=first|omega|(simp only[H'];try omega))only[whi,go_sem,P'k,C',D',E']
 simp(maxSteps:=9^9)(disch:=first|omega|(simp only[H'];try omega))only[go_sem,P'k,C',D',E',wk2 n hn,wkh]
 cases hg:goodN n with
 |false=>simp[okWay,hg]
 |true=>
  have hb:=zjy hg
  cases h1:inB 0 (n.pl-1) a with
  |false=>simp(maxSteps:=9^9)(disch:=first|omega|(simp only[H'];try omega))only[go_sem,P'k,C',D',E',h1];simp[okWay,hg,h1]
  |true=>
   cases h2:inB 0 (n.pl-1) b with
   |false=>simp(maxSteps:=9^9)(disch:=first|omega|(simp only[H'];try omega))only[go_sem,P'k,C',D',E',h1,h2];simp[okWay,hg,h1,h2]
   |true=>
    have hok:okWay n a b=true:=by simp[okWay,hg,h1,h2]
    have ha:0<=a/\a<n.pl:=by simp[inB]at h1;omega
    have hb2:0<=b/\b<n.pl:=by simp[inB]at h2;omega
    have l1:=z13t n false a
    have l2:=z13t n true b
    simp(maxSteps:=9^9)(disch:=first|omega|(simp only[H'];try omega))only[go_sem,P'k,C',D',E',h1,h2,wku n a hg ha,wks n b hg hb2,hok]
    simp(maxSteps:=9^9)(disch:=first|omega|(simp only[H'];try omega))only[go_sem,P'k,C',D',E',wkt (z13q n false a).pl (z13q n true b).pl (by omega) (by omega),wkt (z13q n false a).tr (z13q n true b).tr (by omega) (by omega)]
    rfl
theorem wkf(l:List Int)(x:Int)(hl:l.length<2^62):C wbz [ints l,I x] []=some (.bool (hasB l x),[]):=by
 refine w2q ?_
 simp(maxSteps:=9^9)(disch:=first|omega|(simp only[H'];try omega))only[whv,go_sem,P'k,C',D',E']
 refine W_for l.length (fun k s=>s=⟨[.any,I x,.any,.any,ints l,I l.length,I k,.any,.any],[]⟩/\(l.take k).any (fun y=>y==x)=false) ?_ ?_ ?_
 ·simp(maxSteps:=9^9)(disch:=first|omega|(simp only[H'];try omega))only[go_sem,P'k,C',D',E']
  rfl
 ·rintro k s hk⟨rfl,hall⟩
  simp(maxSteps:=9^9)(disch:=first|omega|(simp only[H'];try omega))only[go_sem,P'k,C',D',E']
  refine⟨fun h=>?_,fun h=>⟨rfl,z3e hk hall (by simpa using h)⟩⟩
  rw[zkp hk h]
 ·rintro s⟨rfl,hall⟩
  simp(maxSteps:=9^9)(disch:=first|omega|(simp only[H'];try omega))only[go_sem,P'k,C',D',E']
  rw[M'i]at hall
  rw[zko hall]
theorem wk0(f:Fl)(hf:smN f.net):C wbk [encF f] []=some (.bool (zji f),[]):=by
 have hl:=hf.1
 have hw:=wk3 f.net f.src f.dst hf
 have hP:(wayP f.net f.src f.dst).length<2^62\/goodN f.net=false:=by
  cases hg:goodN f.net with
  |false=>exact .inr rfl
  |true=>
   have:=zjy hg
   have h1:=z76 (z13q f.net false f.src).pl (z13q f.net true f.dst).pl (z13q f.net false f.src).pl.length
   have h2:=z13t f.net false f.src
   exact .inl (by unfold wayP bothL;omega)
 have hT:(wayT f.net f.src f.dst).length<2^62:=by
  have h1:=z76 (z13q f.net false f.src).tr (z13q f.net true f.dst).tr (z13q f.net false f.src).tr.length
  have h2:=z13t f.net false f.src
  unfold wayT bothL;omega
 refine w2j ?_
 simp(maxSteps:=9^9)(disch:=first|omega|(simp only[H'];try omega))only[whf,go_sem,P'k,C',D',E']
 cases hok:okWay f.net f.src f.dst with
 |false=>
  simp only[hok]at hw
  simp(maxSteps:=9^9)(disch:=first|omega|(simp only[H'];try omega))only[go_sem,P'k,C',D',E',hw]
  simp[zji,hok]
 |true=>
  have hg:goodN f.net=true:=by simp only[okWay,L'c]at hok;exact hok.1.1
  have hb:=zjy hg
  have hP:(wayP f.net f.src f.dst).length<2^62:=by
   rcases hP with h|h
   ·exact h
   ·rw[hg]at h;cases h
  simp only[hok,if_true]at hw
  simp(maxSteps:=9^9)(disch:=first|omega|(simp only[H'];try omega))only[go_sem,P'k,C',D',E',hw]
  refine⟨fun h=>by simp[zji,h],fun h=>⟨fun h2=>by simp[zji,h2],fun h2=>⟨fun h3=>?_,fun h3=>?_⟩⟩⟩
  ·have:¬(wayT f.net f.src f.dst).length=f.net.tr.length:=by omega
   simp[zji,this]
  refine W_for f.net.tr.length (fun k s=>s=⟨[.any,.ptr 0 0,.any,.any,.any,.any,.any,.any,trs f.net.tr,I f.net.tr.length,I k,.any,.any],[.box wl8 [I f.net.pl,trs f.net.tr,I f.src,I f.dst]]⟩/\(f.net.tr.take k).all (fun t=>!z1cj f t)=true) ?_ ?_ ?_
  ·simp(maxSteps:=9^9)(disch:=first|omega|(simp only[H'];try omega))only[go_sem,P'k,C',D',E']
   rfl
  ·rintro k s hk⟨rfl,hall⟩
   have hT:=hb.2.2.2 _ (P'l hk)
   have hLs:=zk4 hT (by omega)
   simp(maxSteps:=9^9)(disch:=first|omega|(simp only[H'];try omega))only[go_sem,P'k,C',D',E',wkf]
   have gs:z1cj f f.net.tr[k]=true->zji f=false:=fun hs=>by
    have:(f.net.tr.all fun t=>!z1cj f t)=false:=z2y hk (by simp[hs])
    simp[zji,this]
   exact⟨fun a=>by rw[gs (by simp[z1cj,a])],fun a=>⟨fun b=>by rw[gs (by simp[z1cj,b])],fun b=>⟨fun c=>by rw[gs (by simp[z1cj,c])],fun c=>⟨fun d=>by rw[gs (by simp[z1cj,d])],fun d=>⟨rfl,z2z hk hall (by simp[z1cj,a,b,c,d])⟩⟩⟩⟩⟩
  ·rintro s⟨rfl,hall⟩
   simp(maxSteps:=9^9)(disch:=first|omega|(simp only[H'];try omega))only[go_sem,P'k,C',D',E']
   rw[M'i]at hall
   have h4:(wayT f.net f.src f.dst).length=f.net.tr.length:=by omega
   simp[zji,hok,h,h2,h4]
   simpa using hall
theorem wl1(f:Fl)(b:Int)(hf:smN f.net):C wcj [encF f,I b] []=some (.bool (zji f&&inB 1 400 b),[]):=by
 refine w39 ?_
 simp(maxSteps:=9^9)(disch:=first|omega|(simp only[H'];try omega))only[wig,go_sem,P'k,C',D',E']
 simp(maxSteps:=9^9)(disch:=first|omega|(simp only[H'];try omega))only[go_sem,P'k,C',D',E',wk0 f hf,wkh]
 grind
theorem wkv(n p:Int)(hn:0<=n/\n<2^30)(hp:0<=p/\p<n):C wcd [I n,I p] []=some (.un t_int true 1 ((oneM n.toNat p).map I),[]):=by
 refine w33 ?_
 simp(maxSteps:=9^9)(disch:=first|omega|(simp only[H'];try omega))only[wia,go_sem,P'k,C',D',E']
 simp(maxSteps:=9^9)(disch:=first|omega|(simp only[H'];try omega))only[go_sem,P'k,C',D',E',R'3]
 simp[oneM,R'2]
theorem wl3(f:Fl)(hg:zji f=true):C wcl [encF f] []=some (.tup [.un t_int true 1 ((oneM f.net.pl.toNat f.src).map I),.un t_int true 1 ((oneM f.net.pl.toNat f.dst).map I)],[]):=by
 obtain⟨g1,g2,g3,_⟩:=zjm hg
 have hn:=zjy g1
 refine w3b ?_
 simp(maxSteps:=9^9)(disch:=first|omega|(simp only[H'];try omega))only[wii,go_sem,P'k,C',D',E']
 simp(maxSteps:=9^9)(disch:=first|omega|(simp only[H'];try omega))only[go_sem,P'k,C',D',E',wkv f.net.pl f.src (by omega) g2,wkv f.net.pl f.dst (by omega) g3]
theorem wki(l:List Int)(h:l.length<2^36):C wc2 [ints l] []=some (.un t_int true 1 (l.map I),[]):=by
 refine w2s ?_
 simp(maxSteps:=9^9)(disch:=first|omega|(simp only[H'];try omega))only[whz,go_sem,P'k,C',D',E']
theorem wkp(t:Tr)(m:List Int)(ht:∀q∈t.inn,0<=q/\q.toNat<m.length)(hl:t.inn.length<2^62):C wc7 [encT t,ints m] []=some (.bool (canT t m),[]):=by
 refine w2x ?_
 simp(maxSteps:=9^9)(disch:=first|omega|(simp only[H'];try omega))only[wi4,go_sem,P'k,C',D',E']
 refine W_for t.inn.length (fun k s=>s=⟨[.any,ints m,.any,.any,.any,ints t.inn,I t.inn.length,I k,.any,.any],[]⟩/\(t.inn.take k).all (fun p=>!(at_ m p==0))=true) ?_ ?_ ?_
 ·simp(maxSteps:=9^9)(disch:=first|omega|(simp only[H'];try omega))only[go_sem,P'k,C',D',E']
  rfl
 ·rintro k s hk⟨rfl,hall⟩
  obtain⟨h1,h2⟩:=ht _ (P'l hk)
  simp(maxSteps:=9^9)(disch:=first|omega|(simp only[H'];try omega))only[go_sem,P'k,C',D',E']
  refine⟨fun h=>?_,fun h=>⟨rfl,z2z hk hall ?_⟩⟩
  ·have:canT t m=false:=z2y hk (by rw[at_eq h2]at h;simp[h])
   rw[this]
  ·rw[at_eq h2]at h;simp[h]
 ·rintro s⟨rfl,hall⟩
  simp(maxSteps:=9^9)(disch:=first|omega|(simp only[H'];try omega))only[go_sem,P'k,C',D',E']
  rw[M'i]at hall
  unfold canT;rw[hall]
theorem wkq(n:Net)(m:List Int)(hg:goodN n=true)(hm:(m.length:Int)=n.pl):C wc8 [encN n,ints m] []=some (.un t_int true 1 ((enabL n m).map I),[]):=by
 have hb:=zjy hg
 refine w2y ?_
 simp(maxSteps:=9^9)(disch:=first|omega|(simp only[H'];try omega))only[wi5,go_sem,P'k,C',D',E']
 refine W_for n.tr.length (fun k s=>s=⟨[.any,ints m,.any,.any,.ref 0 1 0 (enabK n m k).length,.any,.any,trs n.tr,I n.tr.length,I k,.any,.any],[.row t_int true 1 ((enabK n m k).map I)]⟩) ?_ ?_ ?_
 ·simp(maxSteps:=9^9)(disch:=first|omega|(simp only[H'];try omega))only[go_sem,P'k,C',D',E']
  rfl
 ·rintro k s hk rfl
  have hT:=hb.2.2.2 _ (P'l hk)
  have h2:=zdj n m k
  simp(maxSteps:=9^9)(disch:=first|omega|(simp only[H'];try omega))only[go_sem,P'k,C',D',E',wkp _ m (zk5 hT hm).1 (by have:=(zk4 hT (by omega)).1;omega)]
  refine⟨fun h=>?_,fun h=>?_⟩
  ·rw[zdk hk h,M'r];simp
  ·rw[zdi hk h];rfl
 ·rintro s rfl
  simp(maxSteps:=9^9)(disch:=first|omega|(simp only[H'];try omega))only[go_sem,P'k,C',D',E']
  rfl
theorem wkr(t:Tr)(m:List Int)(h1:∀q∈t.inn,0<=q/\q.toNat<m.length)(h2:∀q∈t.out,0<=q/\q.toNat<m.length)(h3:∀q∈t.rst,0<=q/\q.toNat<m.length)(hl:smT t)(hm:m.length<2^30)(hb:∀x∈m,0<=x/\x<=50) :
  C wc9 [encT t,ints m] []=some (.un t_int true 1 ((zgw t m).map I),[]):=by
 obtain⟨g1,g2,g3⟩:=hl
 refine w2z ?_
 simp(maxSteps:=9^9)(disch:=first|omega|(simp only[H'];try omega))only[wi6,go_sem,P'k,C',D',E']
 simp(maxSteps:=9^9)(disch:=first|omega|(simp only[H'];try omega))only[go_sem,P'k,C',D',E',wki m (by omega)]
 refine W_for t.inn.length (fun k s=>s=⟨[.any,.any,.ptr 0 0,.any,.ref 1 1 0 m.length,.any,.any,.any,ints t.inn,I t.inn.length,I k,.any,.any,.any,.any,.any,.any,.any,.any,.any],[.box wlb [ints t.inn,ints t.out,ints t.rst],.row t_int true 1 ((decL m (t.inn.take k)).map I)]⟩) ?_ ?_ ?_
 ·simp(maxSteps:=9^9)(disch:=first|omega|(simp only[H'];try omega))only[go_sem,P'k,C',D',E']
  rfl
 ·rintro k s hk rfl
  obtain⟨h4,h5⟩:=h1 _ (P'l hk)
  have h6:=zcc m (t.inn.take k)
  have h7:=z4o (p:=t.inn[k]) (zcb (l:=t.inn.take k) hb (fun p hp=>(h1 p (R'5 hp)).2)) (by omega)
  have h8:(t.inn.take k).length=k:=by simp;omega
  simp(maxSteps:=9^9)(disch:=first|omega|(simp only[H'];try omega))only[go_sem,P'k,C',D',E',at_eq]
  rw[zcd hk];rfl
 ·rintro s rfl
  simp(maxSteps:=9^9)(disch:=first|omega|(simp only[H'];try omega))only[go_sem,P'k,C',D',E',M'i]
  have b1:=zcb (l:=t.inn) hb (fun p hp=>(h1 p hp).2)
  have l1:=zcc m t.inn
  generalize e1:decL m t.inn=m1 at b1 l1 ⊢
  refine W_for t.rst.length (fun k s=>s=⟨[.any,.any,.ptr 0 0,.any,.ref 1 1 0 m.length,.any,.any,.any,.any,.any,.any,.any,ints t.rst,I t.rst.length,I k,.any,.any,.any,.any,.any],[.box wlb [ints t.inn,ints t.out,ints t.rst],.row t_int true 1 ((zerL m1 (t.rst.take k)).map I)]⟩) ?_ ?_ ?_
  ·simp(maxSteps:=9^9)(disch:=first|omega|(simp only[H'];try omega))only[go_sem,P'k,C',D',E']
   rfl
  ·rintro k s hk rfl
   obtain⟨h4,h5⟩:=h3 _ (P'l hk)
   have h6:=z1i1 m1 (t.rst.take k)
   simp(maxSteps:=9^9)(disch:=first|omega|(simp only[H'];try omega))only[go_sem,P'k,C',D',E']
   rw[z1i2 hk];rfl
  ·rintro s rfl
   simp(maxSteps:=9^9)(disch:=first|omega|(simp only[H'];try omega))only[go_sem,P'k,C',D',E',M'i]
   have b2:=z1i0 (l:=t.rst) b1 (by omega)
   have l2:=z1i1 m1 t.rst
   generalize e2:zerL m1 t.rst=m2 at b2 l2 ⊢
   refine W_for t.out.length (fun k s=>s=⟨[.any,.any,.any,.any,.ref 0 1 0 m.length,.any,.any,.any,.any,.any,.any,.any,.any,.any,.any,.any,ints t.out,I t.out.length,I k,.any],[.row t_int true 1 ((incL m2 (t.out.take k)).map I)]⟩) ?_ ?_ ?_
   ·simp(maxSteps:=9^9)(disch:=first|omega|(simp only[H'];try omega))only[go_sem,P'k,C',D',E']
    rfl
   ·rintro k s hk rfl
    obtain⟨h4,h5⟩:=h2 _ (P'l hk)
    have h6:=zn3 m2 (t.out.take k)
    have h7:=z4o (p:=t.out[k]) (zn2 (l:=t.out.take k) b2 (fun p hp=>by have:=(h2 p (R'5 hp)).2;omega)) (by omega)
    have h8:(t.out.take k).length=k:=by simp;omega
    simp(maxSteps:=9^9)(disch:=first|omega|(simp only[H'];try omega))only[go_sem,P'k,C',D',E',at_eq]
    rw[zn4 hk];rfl
   ·rintro s rfl
    have h6:=zn3 m2 t.out
    simp(maxSteps:=9^9)(disch:=first|omega|(simp only[H'];try omega))only[go_sem,P'k,C',D',E',M'i]
    subst e2 e1;rfl
theorem wk4(l:List Int)(lo hi:Int)(hl:l.length<2^62):C wbo [ints l,I lo,I hi] []=some (.bool (l.all (inB lo hi)),[]):=by
 refine w2n ?_
 simp(maxSteps:=9^9)(disch:=first|omega|(simp only[H'];try omega))only[whj,go_sem,P'k,C',D',E']
 refine W_for l.length (fun k s=>s=⟨[.any,I lo,I hi,.any,.any,ints l,I l.length,I k,.any,.any],[]⟩/\(l.take k).all (inB lo hi)=true) ?_ ?_ ?_
 ·simp(maxSteps:=9^9)(disch:=first|omega|(simp only[H'];try omega))only[go_sem,P'k,C',D',E']
  rfl
 ·rintro k s hk⟨rfl,hall⟩
  simp(maxSteps:=9^9)(disch:=first|omega|(simp only[H'];try omega))only[go_sem,P'k,C',D',E',wkh]
  exact⟨fun h=>⟨rfl,z2z hk hall h⟩,fun h=>by rw[z2y hk h]⟩
 ·rintro s⟨rfl,hall⟩
  simp(maxSteps:=9^9)(disch:=first|omega|(simp only[H'];try omega))only[go_sem,P'k,C',D',E']
  rw[M'i]at hall
  rw[hall]
theorem wk1(p:Int)(m:List Int)(hl:m.length<2^62):C wbl [I p,ints m] []=some (.bool (goodM p m),[]):=by
 refine w2k ?_
 simp(maxSteps:=9^9)(disch:=first|omega|(simp only[H'];try omega))only[whg,go_sem,P'k,C',D',E']
 simp(maxSteps:=9^9)(disch:=first|omega|(simp only[H'];try omega))only[go_sem,P'k,C',D',E',wkj,wk4 m _ _ hl]
 unfold goodM;grind
theorem wko(a b:List Int)(hl:a.length<2^62):C wc6 [ints a,ints b] []=some (.bool (decide (a=b)),[]):=by
 refine w2w ?_
 simp(maxSteps:=9^9)(disch:=first|omega|(simp only[H'];try omega))only[wi3,go_sem,P'k,C',D',E']
 refine⟨fun h=>?_,fun h=>?_⟩
 ·have:a≠b:=fun e=>h (by rw[e])
  simp[this]
 refine W_for a.length (fun k s=>s=⟨[ints a,ints b,.any,.any,.any,I a.length,I k,.any,.any],[]⟩/\a.take k=b.take k) ?_ ?_ ?_
 ·simp(maxSteps:=9^9)(disch:=first|omega|(simp only[H'];try omega))only[go_sem,P'k,C',D',E']
  rfl
 ·rintro k s hk⟨rfl,hall⟩
  simp(maxSteps:=9^9)(disch:=first|omega|(simp only[H'];try omega))only[go_sem,P'k,C',D',E']
  refine⟨fun h=>?_,fun h=>⟨rfl,?_⟩⟩
  ·have:a≠b:=fun e=>h (by simp[e])
   simp[this]
  ·rw[z1fe hk,z1fe (show k<b.length by omega),hall,h]
 ·rintro s⟨rfl,hall⟩
  simp(maxSteps:=9^9)(disch:=first|omega|(simp only[H'];try omega))only[go_sem,P'k,C',D',E']
  rw[M'i,L'e (by omega)]at hall
  simp[hall]
theorem wky(ms:List (List Int))(m:List Int)(hl:ms.length<2^62)(hx:∀x∈ms,x.length<2^62):C wcg [rows ms,ints m] []=some (I (findM ms m),[]):=by
 refine w36 ?_
 simp(maxSteps:=9^9)(disch:=first|omega|(simp only[H'];try omega))only[wid,go_sem,P'k,C',D',E']
 refine W_for ms.length (fun k s=>s=⟨[.any,ints m,.any,.any,.any,rows ms,I ms.length,I k,.any,.any],[]⟩/\(ms.take k).any (fun x=>decide (x=m))=false) ?_ ?_ ?_
 ·simp(maxSteps:=9^9)(disch:=first|omega|(simp only[H'];try omega))only[go_sem,P'k,C',D',E']
  rfl
 ·rintro k s hk⟨rfl,hall⟩
  have hxk:=hx _ (P'l hk)
  simp(maxSteps:=9^9)(disch:=first|omega|(simp only[H'];try omega))only[go_sem,P'k,C',D',E',wko]
  refine⟨fun h=>?_,fun h=>⟨rfl,z3e hk hall (decide_eq_false h)⟩⟩
  unfold findM
  rw[zl4 hk hall (decide_eq_true h)]
 ·rintro s⟨rfl,hall⟩
  simp(maxSteps:=9^9)(disch:=first|omega|(simp only[H'];try omega))only[go_sem,P'k,C',D',E']
  rw[M'i]at hall
  unfold findM
  rw[zl3 hall]
end Go.Proofs.YtbaclnecajkknaaGreat.Pi

