/- The functions that the law reaches: what they answer. Conditions: those that each theorem names. -/
import Derived.Test.YtbaclnecajkknaaGreatIrFnSilent
import Derived.Test.YtbaclnecajkknaaGreatPlFnSilent
import Derived.Test.YtbaclnecajkknaaGreatFnFnSilent0
namespace Go.Proofs.YtbaclnecajkknaaGreat.Pi
open Go
set_option linter.all false
open Nat (reduceAdd reduceEqDiff reduceLeDiff reduceSub)
set_option maxHeartbeats 40000000
set_option maxRecDepth 20000
theorem wel{α:Type}[Inhabited α](g:α→List Int)(cm:α→α→Int)(H : ∀ x y,C w7h [ints (g x),ints (g y)] []=some (I (cm x y),[]))(t:TypeId)(d:Array α)(lo hi f:Nat)(hlo:lo≤d.size)(hb:f+hi≤d.size)(hs:d.size<2^40) :
  C w84 [.ref 0 1 0 d.size,I lo,I hi,I f,.clo w7h []] (.row t false 1 (d.toList.map fun x=>ints (g x)) :: [])=some (.tup [],.row t false 1 ((Sort.siftDown (ltC cm) hi f lo d).toList.map fun x=>ints (g x)) :: []):=by
 refine w1c ?_
 simp (maxSteps:=2000000) (disch:=first|omega|(simp only[lenS];try omega)) only[wc4,go_sem,reduceAdd,reduceEqDiff,reduceLeDiff,reduceSub]
 refine z1a (fun k s=>∃ (r:Nat) (E:Array α),k=hi-r∧r≤d.size∧E.size=d.size∧Sort.siftDown (ltC cm) hi f r E=Sort.siftDown (ltC cm) hi f lo d∧s=⟨[.ref 0 1 0 d.size,.any,I hi,I f,.clo w7h [],I r,.any,.any,.any,.any],.row t false 1 (E.toList.map fun x=>ints (g x)) :: []⟩) (hi-lo) ?_ ?_
 ·simp (maxSteps:=2000000) (disch:=first|omega|(simp only[lenS];try omega)) only[go_sem,reduceAdd,reduceEqDiff,reduceLeDiff,reduceSub]
  exact⟨lo,d,rfl,by omega,rfl,rfl,rfl⟩
 ·rintro k s ⟨r,E,rfl,k1,k3,k4,rfl⟩
  have e7:E.toList.length=d.size:=by simp [k3]
  obtain⟨c1,hc1⟩ : ∃ c:Nat,2*(r:Int)+1=c:=⟨2*r+1,by omega⟩
  obtain⟨c2,hc2⟩ : ∃ c:Nat,(c1:Int)+1=c:=⟨2*r+2,by omega⟩
  by_cases h1:(c1:Int)<hi
  ·obtain⟨p1,hp1⟩ : ∃ p:Nat,(f:Int)+(c1:Int)=p:=⟨f+c1,by omega⟩
   have z1:f+(2*r+1)=p1:=by omega
   have e2:=z17q E (i:=p1) (by omega)
   by_cases h2:(c2:Int)<hi
   ·obtain⟨p2,hp2⟩ : ∃ p:Nat,(f:Int)+(c2:Int)=p:=⟨f+c2,by omega⟩
    have hp3:(p1:Int)+1=p2:=by omega
    have z2:f+(2*r+2)=p2:=by omega
    have e3:=z17q E (i:=p2) (by omega)
    by_cases hlt:cm E[p1]! E[p2]! < 0
    ·have hcc:(c2=2*r+2∧2*r+2<hi∧ltC cm E[f+(2*r+1)]! E[f+(2*r+2)]! = true)∨(c2=2*r+1∧¬(2*r+2<hi∧ltC cm E[f+(2*r+1)]! E[f+(2*r+2)]! = true)):=.inl ⟨by omega,by omega,by rw[z1,z2];simpa [ltC] using hlt⟩
     generalize E[p1]! = a1 at *
     have hq:=hp2
     generalize c2=c at *
     generalize p2=q at *
     obtain⟨p,hp⟩ : ∃ p:Nat,(f:Int)+(r:Int)=p:=⟨f+r,by omega⟩
     have hs0:=z19q (ltC cm) (f:=f) (c:=c) E (show 2*r+1<hi by omega) hcc
     have hs1:=z19o (ltC cm) (f:=f) (c:=c) E (show 2*r+1<hi by omega) hcc
     have hcl:r<c∧c<hi:=by rcases hcc with⟨h,_⟩ | ⟨h,_⟩<;>omega
     clear hcc
     rw[show f+c=q by omega,show f+r=p by omega] at hs0 hs1
     have w3:=z17q E (i:=p) (by omega)
     have w4:=z17u (fun x=>ints (g x)) E p q
     simp only[ltC] at hs0 hs1
     generalize E[q]! = y at *
     generalize E[p]! = x at *
     by_cases hs2:cm x y<0
     simp (maxSteps:=2000000) (disch:=first|omega|(simp only[lenS];try omega)) only[go_sem,reduceAdd,reduceEqDiff,reduceLeDiff,reduceSub,H,e2,e3,w3,e7,hc1,hc2,hp1,hp2,hp3,hp,hlt,hs2,List.getElem?_set_ne,List.getElem_set_ne,List.getElem_map]
     rotate_left
     simp (maxSteps:=2000000) (disch:=first|omega|(simp only[lenS];try omega)) only[go_sem,reduceAdd,reduceEqDiff,reduceLeDiff,reduceSub,H,e2,e3,w3,e7,hc1,hc2,hp1,hp2,hp3,hp,hlt,hs2,List.getElem?_set_ne,List.getElem_set_ne,List.getElem_map]
     rotate_left
     ·refine⟨hi-c,by omega,c,Sort.swp E p q,rfl,by omega,?_,?_,?_⟩
      ·rw[Sort.size_swp];exact k3
      ·rw[←k4,hs1 (by simp [hs2])]
      ·rw[w4]
     ·rw[←k4,hs0 (by simp [hs2])]
    ·have hcc:(c1=2*r+2∧2*r+2<hi∧ltC cm E[f+(2*r+1)]! E[f+(2*r+2)]! = true)∨(c1=2*r+1∧¬(2*r+2<hi∧ltC cm E[f+(2*r+1)]! E[f+(2*r+2)]! = true)):=.inr ⟨by omega,by rw[z1,z2];simpa [ltC] using fun _=>hlt⟩
     generalize E[p2]! = a2 at *
     have hq:=hp1
     generalize c1=c at *
     generalize p1=q at *
     obtain⟨p,hp⟩ : ∃ p:Nat,(f:Int)+(r:Int)=p:=⟨f+r,by omega⟩
     have hs0:=z19q (ltC cm) (f:=f) (c:=c) E (show 2*r+1<hi by omega) hcc
     have hs1:=z19o (ltC cm) (f:=f) (c:=c) E (show 2*r+1<hi by omega) hcc
     have hcl:r<c∧c<hi:=by rcases hcc with⟨h,_⟩ | ⟨h,_⟩<;>omega
     clear hcc
     rw[show f+c=q by omega,show f+r=p by omega] at hs0 hs1
     have w3:=z17q E (i:=p) (by omega)
     have w4:=z17u (fun x=>ints (g x)) E p q
     simp only[ltC] at hs0 hs1
     generalize E[q]! = y at *
     generalize E[p]! = x at *
     by_cases hs2:cm x y<0
     simp (maxSteps:=2000000) (disch:=first|omega|(simp only[lenS];try omega)) only[go_sem,reduceAdd,reduceEqDiff,reduceLeDiff,reduceSub,H,e2,e3,w3,e7,hc1,hc2,hp1,hp2,hp3,hp,hlt,hs2,List.getElem?_set_ne,List.getElem_set_ne,List.getElem_map]
     rotate_left
     simp (maxSteps:=2000000) (disch:=first|omega|(simp only[lenS];try omega)) only[go_sem,reduceAdd,reduceEqDiff,reduceLeDiff,reduceSub,H,e2,e3,w3,e7,hc1,hc2,hp1,hp2,hp3,hp,hlt,hs2,List.getElem?_set_ne,List.getElem_set_ne,List.getElem_map]
     rotate_left
     ·refine⟨hi-c,by omega,c,Sort.swp E p q,rfl,by omega,?_,?_,?_⟩
      ·rw[Sort.size_swp];exact k3
      ·rw[←k4,hs1 (by simp [hs2])]
      ·rw[w4]
     ·rw[←k4,hs0 (by simp [hs2])]
   ·have hcc:(c1=2*r+2∧2*r+2<hi∧ltC cm E[f+(2*r+1)]! E[f+(2*r+2)]! = true)∨(c1=2*r+1∧¬(2*r+2<hi∧ltC cm E[f+(2*r+1)]! E[f+(2*r+2)]! = true)):=.inr ⟨by omega,by omega⟩
    have hq:=hp1
    generalize c1=c at *
    generalize p1=q at *
    obtain⟨p,hp⟩ : ∃ p:Nat,(f:Int)+(r:Int)=p:=⟨f+r,by omega⟩
    have hs0:=z19q (ltC cm) (f:=f) (c:=c) E (show 2*r+1<hi by omega) hcc
    have hs1:=z19o (ltC cm) (f:=f) (c:=c) E (show 2*r+1<hi by omega) hcc
    have hcl:r<c∧c<hi:=by rcases hcc with⟨h,_⟩ | ⟨h,_⟩<;>omega
    clear hcc
    rw[show f+c=q by omega,show f+r=p by omega] at hs0 hs1
    have w3:=z17q E (i:=p) (by omega)
    have w4:=z17u (fun x=>ints (g x)) E p q
    simp only[ltC] at hs0 hs1
    generalize E[q]! = y at *
    generalize E[p]! = x at *
    by_cases hs2:cm x y<0
    simp (maxSteps:=2000000) (disch:=first|omega|(simp only[lenS];try omega)) only[go_sem,reduceAdd,reduceEqDiff,reduceLeDiff,reduceSub,H,e2,w3,e7,hc1,hc2,hp1,hp,hs2,List.getElem?_set_ne,List.getElem_set_ne,List.getElem_map]
    rotate_left
    simp (maxSteps:=2000000) (disch:=first|omega|(simp only[lenS];try omega)) only[go_sem,reduceAdd,reduceEqDiff,reduceLeDiff,reduceSub,H,e2,w3,e7,hc1,hc2,hp1,hp,hs2,List.getElem?_set_ne,List.getElem_set_ne,List.getElem_map]
    rotate_left
    ·refine⟨hi-c,by omega,c,Sort.swp E p q,rfl,by omega,?_,?_,?_⟩
     ·rw[Sort.size_swp];exact k3
     ·rw[←k4,hs1 (by simp [hs2])]
     ·rw[w4]
    ·rw[←k4,hs0 (by simp [hs2])]
  ·simp (maxSteps:=2000000) (disch:=first|omega|(simp only[lenS];try omega)) only[go_sem,reduceAdd,reduceEqDiff,reduceLeDiff,reduceSub,hc1]
   rw[←k4,z19n _ _ (by omega)]
theorem wea{α:Type}[Inhabited α](g:α→List Int)(cm:α→α→Int)(H : ∀ x y,C w7h [ints (g x),ints (g y)] []=some (I (cm x y),[]))(t:TypeId)(d:Array α)(a b:Nat)(hab:a≤b)(hb:b≤d.size)(hs:d.size<2^40) :
  C w7t [.ref 0 1 0 d.size,I a,I b,.clo w7h []] (.row t false 1 (d.toList.map fun x=>ints (g x)) :: [])=some (.tup [],.row t false 1 ((Sort.heapSort (ltC cm) d a b).toList.map fun x=>ints (g x)) :: []):=by
 obtain⟨n,hn⟩ : ∃ n:Nat,(b:Int)-(a:Int)=n:=⟨b-a,by omega⟩
 obtain⟨K,hK⟩ : ∃ K:Nat,((n:Int)-1).tdiv 2=(K:Int)-1∧K=(b-a-1) / 2+1∧K≤n+1:=by
  rcases Nat.eq_zero_or_pos n with h | h
  ·subst h;exact⟨1,by decide,by omega,by omega⟩
  ·obtain⟨q,rfl⟩ : ∃ q,n=q+1:=⟨n-1,by omega⟩
   have:(((q+1:Nat):Int)-1).tdiv 2=((q / 2:Nat):Int):=by
    rw[show(((q+1:Nat):Int)-1)=(q:Int) by omega]
    exact(Int.ofNat_tdiv q 2).symm
   refine⟨q / 2+1,by rw[this];omega,by omega,by omega⟩
 unfold Sort.heapSort
 rw[←hK.2.1,show b-a=n by omega]
 have hK1:=hK.1
 have hK2:=hK.2.2
 refine w16 ?_
 simp (maxSteps:=2000000) (disch:=first|omega|(simp only[lenS];try omega)) only[wbt,go_sem,reduceAdd,reduceEqDiff,reduceLeDiff,reduceSub]
 simp (maxSteps:=2000000) (disch:=first|omega|(simp only[lenS];try omega)) only[go_sem,reduceAdd,reduceEqDiff,reduceLeDiff,reduceSub,hn,hK1]
 refine z1a (fun k s=>∃ (E:Array α),k≤K∧E.size=d.size∧Sort.heapBuild (ltC cm) n a k E=Sort.heapBuild (ltC cm) n a K d∧s=⟨[.ref 0 1 0 d.size,.any,.any,.clo w7h [],I a,I 0,I n,I ((k:Int)-1),.any,.any,.any],.row t false 1 (E.toList.map fun x=>ints (g x)) :: []⟩) K ?_ ?_
 ·simp (maxSteps:=2000000) (disch:=first|omega|(simp only[lenS];try omega)) only[go_sem,reduceAdd,reduceEqDiff,reduceLeDiff,reduceSub]
  exact⟨d,rfl,rfl,rfl⟩
 ·rintro k s ⟨E,k1,k3,k4,rfl⟩
  rcases Nat.eq_zero_or_pos k with rfl | hk
  ·simp (maxSteps:=2000000) (disch:=first|omega|(simp only[lenS];try omega)) only[go_sem,reduceAdd,reduceEqDiff,reduceLeDiff,reduceSub]
   rw[←show E=_ from k4]
   refine z1a (fun k s=>∃ (G:Array α),k≤n∧G.size=d.size∧Sort.heapPop (ltC cm) a k G=Sort.heapPop (ltC cm) a n E∧s=⟨[.ref 0 1 0 d.size,.any,.any,.clo w7h [],I a,I 0,.any,.any,I ((k:Int)-1),.any,.any],.row t false 1 (G.toList.map fun x=>ints (g x)) :: []⟩) n ?_ ?_
   ·simp (maxSteps:=2000000) (disch:=first|omega|(simp only[lenS];try omega)) only[go_sem,reduceAdd,reduceEqDiff,reduceLeDiff,reduceSub]
    exact⟨E,k3,rfl,rfl⟩
   ·rintro k s ⟨G,g1,g3,g4,rfl⟩
    rcases Nat.eq_zero_or_pos k with rfl | hk
    ·simp (maxSteps:=2000000) (disch:=first|omega|(simp only[lenS];try omega)) only[go_sem,reduceAdd,reduceEqDiff,reduceLeDiff,reduceSub]
     rw[←g4];rfl
    ·obtain⟨j,hj⟩ : ∃ j:Nat,(k:Int)-1=j:=⟨k-1,by omega⟩
     obtain⟨q,hq⟩ : ∃ q:Nat,(a:Int)+(j:Int)=q:=⟨a+j,by omega⟩
     obtain rfl:k=j+1:=by omega
     have h1:=wel g cm H t (Sort.swp G a q) 0 j a (by omega) (by rw[Sort.size_swp];omega) (by rw[Sort.size_swp];omega)
     rw[Sort.size_swp,g3,z17u,show((0:Nat):Int)=0 from rfl] at h1
     have e7:G.toList.length=d.size:=by simp [g3]
     have w2:=z17q G (i:=a) (by omega)
     have w3:=z17q G (i:=q) (by omega)
     have e5:=z17t (fun x=>ints (g x)) G (i:=a) (j:=q) G[q]! (by omega) (by omega)
     have e6:Sort.heapPop (ltC cm) a (j+1) G=Sort.heapPop (ltC cm) a j (Sort.siftDown (ltC cm) j a 0 (Sort.swp G a q)):=by rw[Sort.heapPop,show a+j=q by omega]
     have e8:(Sort.siftDown (ltC cm) j a 0 (Sort.swp G a q)).size=d.size:=by rw[z19p _ _ _ _ _ _ (Nat.le_refl _),Sort.size_swp,g3]
     generalize Sort.siftDown (ltC cm) j a 0 (Sort.swp G a q)=Z at *
     generalize (if a=q then G[q]! else G[q]!)=z at *
     generalize G[q]! = y at *
     generalize G[a]! = x at *
     simp (maxSteps:=2000000) (disch:=first|omega|(simp only[lenS];try omega)) only[go_sem,reduceAdd,reduceEqDiff,reduceLeDiff,reduceSub,hj,hq,w2,w3,e5,e7,h1]
     exact⟨j,by omega,Z,by omega,e8,by rw[←e6,g4],rfl⟩
  ·obtain⟨j,hj⟩ : ∃ j:Nat,(k:Int)-1=j:=⟨k-1,by omega⟩
   have h1:=wel g cm H t E j n a (by omega) (by omega) (by omega)
   rw[k3] at h1
   obtain rfl:k=j+1:=by omega
   simp (maxSteps:=2000000) (disch:=first|omega|(simp only[lenS];try omega)) only[go_sem,reduceAdd,reduceEqDiff,reduceLeDiff,reduceSub,hj,h1]
   refine⟨j,by omega,Sort.siftDown (ltC cm) n a j E,by omega,?_,k4,rfl⟩
   rw[z19p _ _ _ _ _ _ (Nat.le_refl _),k3]
theorem wee(n:Nat)(hn:n<65536):C w7x [I n] []=some (.int .u64 ((2 ^ Sort.bitsLen n:Nat):Int),[]):=by
 have h:=wdw n hn
 have h1:=(Sort.bitsLen_le_iff n 16).2 (by omega)
 have h3:(2:Nat) ^ Sort.bitsLen n≤2 ^ 16:=Nat.pow_le_pow_right (by decide) h1
 have h2:IntKind.u64.wrap (1*(2:Int) ^ min (Sort.bitsLen n) 64)=((2 ^ Sort.bitsLen n:Nat):Int):=by
  rw[Nat.min_eq_left (by omega),Int.one_mul,IntKind.wrap_u64,show(2:Int) ^ Sort.bitsLen n=((2 ^ Sort.bitsLen n:Nat):Int) by simp]
  generalize (2:Nat) ^ Sort.bitsLen n=w at *
  omega
 have h0:IntKind.u64.wrap (n:Int)=n:=by rw[IntKind.wrap_u64];omega
 refine w18 ?_
 simp (maxSteps:=2000000) (disch:=first|omega|(simp only[lenS];try omega)) only[wbx,go_sem,reduceAdd,reduceEqDiff,reduceLeDiff,reduceSub]
 generalize Sort.bitsLen n=z at *
 simp (maxSteps:=2000000) (disch:=first|omega|(simp only[lenS];try omega)) only[go_sem,reduceAdd,reduceEqDiff,reduceLeDiff,reduceSub,h0,h,h2]
theorem wem(x:Int)(hx:0≤x∧x<18446744073709551616):Lw (C w85 [.ptr 0 0] [.box wgl [.int .u64 x]]) fun r=>∃ y:Int,r=(.int .u64 y,[.box wgl [.int .u64 y]])∧0≤y∧y<18446744073709551616:=by
 refine w2o ?_
 simp (maxSteps:=2000000) (disch:=first|omega|(simp only[lenS];try omega)) only[wc5,go_sem,reduceAdd,reduceEqDiff,reduceLeDiff,reduceSub]
 have h1:=z1h5 hx (z1fp (x*2 ^ min (Int.toNat 13) 64))
 have h2:=z1h5 h1 (z19g (min (Int.toNat 7) 64) h1)
 exact⟨_,rfl,z1h5 h2 (z1fp _)⟩
theorem we8{α:Type}[Inhabited α](g:α→List Int)(cm:α→α→Int)(H : ∀ x y,C w7h [ints (g x),ints (g y)] []=some (I (cm x y),[]))(t:TypeId)(d:Array α)(a b:Nat)(hab:a<b)(hb:b≤d.size)(hs:d.size<65536) :
  Lw (C w7r [.ref 0 1 0 d.size,I a,I b,.clo w7h []] (.row t false 1 (d.toList.map fun x=>ints (g x)) :: [])) fun r=>∃ E:Array α,r=(.tup [],.row t false 1 (E.toList.map fun x=>ints (g x)) :: [])∧Sort.PermIn a b d E:=by
 obtain⟨n,hn⟩ : ∃ n:Nat,(b:Int)-(a:Int)=n:=⟨b-a,by omega⟩
 obtain⟨q,hq,hq2⟩ : ∃ q:Nat,(n:Int).tdiv 4=q∧q=n / 4:=⟨n / 4,(Int.ofNat_tdiv n 4).symm,rfl⟩
 have hp:=wee n (by omega)
 have hp1:=Sort.lt_two_pow_bitsLen n
 have hp2:=fun h=>Sort.two_pow_bitsLen_le (n:=n) h
 obtain⟨i,hi⟩ : ∃ i:Nat,(a:Int)+(q:Int)*2=i:=⟨a+q*2,by omega⟩
 refine w2h ?_
 simp (maxSteps:=2000000) (disch:=first|omega|(simp only[lenS];try omega)) only[wbr,go_sem,reduceAdd,reduceEqDiff,reduceLeDiff,reduceSub]
 by_cases h8:(8:Int)≤n
 ·have hp3:=hp2 (by omega)
  clear hp2
  generalize 2 ^ Sort.bitsLen n=p at *
  obtain⟨m,hm⟩ : ∃ m:Nat,(p:Int)-1=m:=⟨p-1,by omega⟩
  have e0:IntKind.u64.wrap (n:Int)=n:=by rw[IntKind.wrap_u64];omega
  simp (maxSteps:=2000000) (disch:=first|omega|(simp only[lenS];try omega)) only[go_sem,reduceAdd,reduceEqDiff,reduceLeDiff,reduceSub,hn,hq,hi,h8,Int.not_lt.2 h8,hp,e0,false_implies,and_true]
  refine z1a (fun k s=>∃ (j:Nat) (E:Array α) (x:Int),i≤j+1∧j≤i+2∧k=i+2-j∧(0≤x∧x<18446744073709551616)∧Sort.PermIn a b d E∧s=⟨[.ref 0 1 0 d.size,I a,.any,I n,.ptr 1 0,.int .u64 p,I j,.any,.any,.any,.any],.row t false 1 (E.toList.map fun x=>ints (g x)) :: [.box wgl [.int .u64 x]]⟩) 3 ?_ ?_
  ·simp (maxSteps:=2000000) (disch:=first|omega|(simp only[lenS];try omega)) only[go_sem,reduceAdd,reduceEqDiff,reduceLeDiff,reduceSub]
   exact⟨i-1,d,n,by omega,by omega,by omega,by omega,Sort.permIn_refl d a b,by rw[show((i-1:Nat):Int)=(i:Int)-1 by omega]⟩
  ·rintro k s ⟨j,E,x,h1,h2,rfl,h3,h4,rfl⟩
   have k3:=z10w h4
   have e7:E.toList.length=d.size:=by simp [k3]
   by_cases hj:(j:Int)≤(i:Int)+1
   ·obtain⟨_,e1,y,rfl,y1,y2⟩:=wem x h3
    have ha:=z37 (x:=y) (y:=m) (by omega) (by omega)
    have e5:IntKind.u64.wrap ((p:Int)-1)=m:=by rw[IntKind.wrap_u64];omega
    have e6:IntKind.i64.wrap (bits .and .u64 y m)=bits .and .u64 y m:=by rw[IntKind.wrap_i64];omega
    obtain⟨o,ho⟩ : ∃ o:Nat,bits .and .u64 y m=o:=⟨(bits .and .u64 y m).toNat,by omega⟩
    rw[ho] at ha e6
    obtain⟨u,hu⟩ : ∃ u:Nat,(a:Int)+(o:Int)=u:=⟨a+o,by omega⟩
    have w2:=z17q E (i:=j) (by omega)
    by_cases hon:(n:Int)≤o
    ·obtain⟨o2,ho2⟩ : ∃ o2:Nat,(o:Int)-n=o2:=⟨o-n,by omega⟩
     obtain⟨v,hv⟩ : ∃ v:Nat,(a:Int)+(o2:Int)=v:=⟨a+o2,by omega⟩
     have w3:=z17q E (i:=v) (by omega)
     have w4:=z17u (fun x=>ints (g x)) E j v
     have w5:=Sort.permIn_trans d E (Sort.swp E j v) a b h4 (Sort.swp_permIn E a b j v (by omega) (by omega) (by omega) (by omega) (by omega))
     have w6:=z17t (fun x=>ints (g x)) E (i:=j) (j:=v) E[v]! (by omega) (by omega)
     generalize (if j=v then E[v]! else E[v]!)=z at *
     generalize E[j]! = x at *
     generalize E[v]! = w at *
     simp (maxSteps:=2000000) (disch:=first|omega|(simp only[lenS];try omega)) only[go_sem,reduceAdd,reduceEqDiff,reduceLeDiff,reduceSub,hq,hi,e1,e5,ho,e6,hon,Int.not_lt.2 hon,ho2,hv,w2,w3,w6,e7,false_implies,and_true]
     exact⟨i+2-(j+1),by omega,j+1,Sort.swp E j v,y,by omega,by omega,rfl,⟨y1,y2⟩,w5,by rw[w4];rfl⟩
    ·obtain⟨v,hv⟩ : ∃ v:Nat,(a:Int)+(o:Int)=v:=⟨a+o,by omega⟩
     have w3:=z17q E (i:=v) (by omega)
     have w4:=z17u (fun x=>ints (g x)) E j v
     have w5:=Sort.permIn_trans d E (Sort.swp E j v) a b h4 (Sort.swp_permIn E a b j v (by omega) (by omega) (by omega) (by omega) (by omega))
     have w6:=z17t (fun x=>ints (g x)) E (i:=j) (j:=v) E[v]! (by omega) (by omega)
     generalize (if j=v then E[v]! else E[v]!)=z at *
     generalize E[j]! = x at *
     generalize E[v]! = w at *
     simp (maxSteps:=2000000) (disch:=first|omega|(simp only[lenS];try omega)) only[go_sem,reduceAdd,reduceEqDiff,reduceLeDiff,reduceSub,hq,hi,e1,e5,ho,e6,hon,Int.not_le.1 hon,hv,w2,w3,w6,e7,false_implies,true_and,forall_const]
     exact⟨i+2-(j+1),by omega,j+1,Sort.swp E j v,y,by omega,by omega,rfl,⟨y1,y2⟩,w5,by rw[w4];rfl⟩
   ·simp (maxSteps:=2000000) (disch:=first|omega|(simp only[lenS];try omega)) only[go_sem,reduceAdd,reduceEqDiff,reduceLeDiff,reduceSub,hq,hi]
    exact⟨E,rfl,h4⟩
 ·simp (maxSteps:=2000000) (disch:=first|omega|(simp only[lenS];try omega)) only[go_sem,reduceAdd,reduceEqDiff,reduceLeDiff,reduceSub,hn,hq,hi,h8,Int.not_le.1 h8,false_implies,true_and,forall_const]
  exact⟨d,rfl,Sort.permIn_refl d a b⟩
theorem wef{α:Type}[Inhabited α](g:α→List Int)(cm:α→α→Int)(H : ∀ x y,C w7h [ints (g x),ints (g y)] []=some (I (cm x y),[]))(t:TypeId)(d:Array α)(a b:Nat)(k:Int)(ha:a<d.size)(hb:b<d.size)(hk:0≤k∧k<2^40)(hs:d.size<2^40) :
  Lw (C w7y [.ref 0 1 0 d.size,I a,I b,.ptr 1 0,.clo w7h []] (.row t false 1 (d.toList.map fun x=>ints (g x)) :: .box t_int [I k] :: [])) fun r=>∃ (x y:Nat) (k':Int),r=(.tup [I x,I y],.row t false 1 (d.toList.map fun x=>ints (g x)) :: .box t_int [I k'] :: [])∧((x=a∧y=b)∨(x=b∧y=a))∧k≤k'∧k'≤k+1:=by
 have e7:d.toList.length=d.size:=by simp
 refine w2l ?_
 simp (maxSteps:=2000000) (disch:=first|omega|(simp only[lenS];try omega)) only[wby,go_sem,reduceAdd,reduceEqDiff,reduceLeDiff,reduceSub]
 simp (maxSteps:=2000000) (disch:=first|omega|(simp only[lenS];try omega)) only[go_sem,reduceAdd,reduceEqDiff,reduceLeDiff,reduceSub,H,e7]
 exact⟨fun _=>⟨b,a,k+1,rfl,by omega⟩,fun _=>⟨a,b,k,rfl,by omega⟩⟩
theorem wed{α:Type}[Inhabited α](g:α→List Int)(cm:α→α→Int)(H : ∀ x y,C w7h [ints (g x),ints (g y)] []=some (I (cm x y),[]))(t:TypeId)(d:Array α)(a b c:Nat)(k:Int)(ha:a<d.size)(hb:b<d.size)(hc:c<d.size)(hk:0≤k∧k<2^39)(hs:d.size<2^40) :
  Lw (C w7w [.ref 0 1 0 d.size,I a,I b,I c,.ptr 1 0,.clo w7h []] (.row t false 1 (d.toList.map fun x=>ints (g x)) :: .box t_int [I k] :: [])) fun r=>∃ (x:Nat) (k':Int),r=(I x,.row t false 1 (d.toList.map fun x=>ints (g x)) :: .box t_int [I k'] :: [])∧(x=a∨x=b∨x=c)∧k≤k'∧k'≤k+3:=by
 obtain⟨_,e1,x1,y1,k1,rfl,h1,h2,h3⟩:=wef g cm H t d a b k ha hb (by omega) hs
 obtain⟨_,e2,x2,y2,k2,rfl,g1,g2,g3⟩:=wef g cm H t d y1 c k1 (by omega) hc (by omega) hs
 obtain⟨_,e3,x3,y3,k3,rfl,f1,f2,f3⟩:=wef g cm H t d x1 x2 k2 (by omega) (by omega) (by omega) hs
 refine w2k ?_
 simp (maxSteps:=2000000) (disch:=first|omega|(simp only[lenS];try omega)) only[wbw,go_sem,reduceAdd,reduceEqDiff,reduceLeDiff,reduceSub]
 simp (maxSteps:=2000000) (disch:=first|omega|(simp only[lenS];try omega)) only[go_sem,reduceAdd,reduceEqDiff,reduceLeDiff,reduceSub,e1,e2,e3]
 exact⟨y3,k3,rfl,by omega⟩
theorem wec{α:Type}[Inhabited α](g:α→List Int)(cm:α→α→Int)(H : ∀ x y,C w7h [ints (g x),ints (g y)] []=some (I (cm x y),[]))(t:TypeId)(d:Array α)(a:Nat)(k:Int)(ha:0<a∧a+1<d.size)(hk:0≤k∧k<2^39)(hs:d.size<2^40) :
  Lw (C w7v [.ref 0 1 0 d.size,I a,.ptr 1 0,.clo w7h []] (.row t false 1 (d.toList.map fun x=>ints (g x)) :: .box t_int [I k] :: [])) fun r=>∃ (x:Nat) (k':Int),r=(I x,.row t false 1 (d.toList.map fun x=>ints (g x)) :: .box t_int [I k'] :: [])∧(a≤x+1∧x≤a+1)∧k≤k'∧k'≤k+3:=by
 obtain⟨_,e1,x1,k1,rfl,h1,h2,h3⟩:=wed g cm H t d (a-1) a (a+1) k (by omega) (by omega) (by omega) hk hs
 rw[show((a-1:Nat):Int)=(a:Int)-1 by omega,show((a+1:Nat):Int)=(a:Int)+1 by omega] at e1
 refine w2j ?_
 simp (maxSteps:=2000000) (disch:=first|omega|(simp only[lenS];try omega)) only[wbv,go_sem,reduceAdd,reduceEqDiff,reduceLeDiff,reduceSub]
 simp (maxSteps:=2000000) (disch:=first|omega|(simp only[lenS];try omega)) only[go_sem,reduceAdd,reduceEqDiff,reduceLeDiff,reduceSub,e1]
 exact⟨x1,k1,rfl,by omega⟩
theorem we9{α:Type}[Inhabited α](g:α→List Int)(cm:α→α→Int)(H : ∀ x y,C w7h [ints (g x),ints (g y)] []=some (I (cm x y),[]))(t:TypeId)(d:Array α)(a b:Nat)(hab:a<b)(hb:b≤d.size)(hs:d.size<2^40) :
  Lw (C w7s [.ref 0 1 0 d.size,I a,I b,.clo w7h []] (.row t false 1 (d.toList.map fun x=>ints (g x)) :: [])) fun r=>∃ (x:Nat) (h:Int),r=(.tup [I x,I h],.row t false 1 (d.toList.map fun x=>ints (g x)) :: [])∧a≤x∧x<b∧0≤h∧h≤2:=by
 obtain⟨n,hn⟩ : ∃ n:Nat,(b:Int)-(a:Int)=n:=⟨b-a,by omega⟩
 obtain⟨q,hq,hq2⟩ : ∃ q:Nat,(n:Int).tdiv 4=q∧q=n / 4:=⟨n / 4,(Int.ofNat_tdiv n 4).symm,rfl⟩
 obtain⟨i,hi⟩ : ∃ i:Nat,(a:Int)+(q:Int)=i:=⟨a+q,by omega⟩
 obtain⟨j,hj⟩ : ∃ j:Nat,(a:Int)+(q:Int)*2=j:=⟨a+q*2,by omega⟩
 obtain⟨k,hk⟩ : ∃ k:Nat,(a:Int)+(q:Int)*3=k:=⟨a+q*3,by omega⟩
 refine w2i ?_
 simp (maxSteps:=2000000) (disch:=first|omega|(simp only[lenS];try omega)) only[wbs,go_sem,reduceAdd,reduceEqDiff,reduceLeDiff,reduceSub]
 by_cases h8:(8:Int)≤n
 ·by_cases h50:(50:Int)≤n
  ·obtain⟨_,e1,x1,k1,rfl,h1,h2,h3⟩:=wec g cm H t d i 0 (by omega) (by omega) hs
   obtain⟨_,e2,x2,k2,rfl,g1,g2,g3⟩:=wec g cm H t d j k1 (by omega) (by omega) hs
   obtain⟨_,e3,x3,k3,rfl,f1,f2,f3⟩:=wec g cm H t d k k2 (by omega) (by omega) hs
   obtain⟨_,e4,x4,k4,rfl,d1,d2,d3⟩:=wed g cm H t d x1 x2 x3 k3 (by omega) (by omega) (by omega) (by omega) hs
   have hlo:a≤x4∧x4<b:=by omega
   simp (maxSteps:=2000000) (disch:=first|omega|(simp only[lenS];try omega)) only[go_sem,reduceAdd,reduceEqDiff,reduceLeDiff,reduceSub,hn,hq,hi,hj,hk,Int.mul_one,e1,e2,e3,e4,h8,h50,Int.not_lt.2 h8,Int.not_lt.2 h50]
   exact⟨fun _=>⟨x4,_,rfl,by omega⟩,fun _=>⟨fun _=>⟨x4,_,rfl,by omega⟩,fun _=>⟨x4,_,rfl,by omega⟩⟩⟩
  ·obtain⟨_,e4,x4,k4,rfl,d1,d2,d3⟩:=wed g cm H t d i j k 0 (by omega) (by omega) (by omega) (by omega) hs
   have hlo:a≤x4∧x4<b:=by omega
   simp (maxSteps:=2000000) (disch:=first|omega|(simp only[lenS];try omega)) only[go_sem,reduceAdd,reduceEqDiff,reduceLeDiff,reduceSub,hn,hq,hi,hj,hk,Int.mul_one,e4,h8,h50,Int.not_lt.2 h8,Int.not_le.1 h50]
   exact⟨fun _=>⟨x4,_,rfl,by omega⟩,fun _=>⟨x4,_,rfl,by omega⟩⟩
 ·simp (maxSteps:=2000000) (disch:=first|omega|(simp only[lenS];try omega)) only[go_sem,reduceAdd,reduceEqDiff,reduceLeDiff,reduceSub,hn,hq,hi,hj,hk,Int.mul_one,h8,Int.not_le.1 h8]
  exact⟨j,1,rfl,by omega⟩
theorem wek{α:Type}[Inhabited α](g:α→List Int)(cm:α→α→Int)(H : ∀ x y,C w7h [ints (g x),ints (g y)] []=some (I (cm x y),[]))(t:TypeId)(d:Array α)(a b:Nat)(hab:a<b)(hb:b≤d.size)(hs:d.size<2^40) :
  Lw (C w83 [.ref 0 1 0 d.size,I a,I b,.clo w7h []] (.row t false 1 (d.toList.map fun x=>ints (g x)) :: [])) fun r=>∃ E:Array α,r=(.tup [],.row t false 1 (E.toList.map fun x=>ints (g x)) :: [])∧Sort.PermIn a b d E:=by
 obtain⟨n,hn⟩ : ∃ n:Nat,(b:Int)-1=n:=⟨b-1,by omega⟩
 refine w2n ?_
 simp (maxSteps:=2000000) (disch:=first|omega|(simp only[lenS];try omega)) only[wc3,go_sem,reduceAdd,reduceEqDiff,reduceLeDiff,reduceSub]
 simp (maxSteps:=2000000) (disch:=first|omega|(simp only[lenS];try omega)) only[go_sem,reduceAdd,reduceEqDiff,reduceLeDiff,reduceSub,hn]
 refine z1a (fun k s=>∃ (i j:Nat) (E:Array α),a≤i∧j<b∧i≤b∧k=b-i∧Sort.PermIn a b d E∧s=⟨[.ref 0 1 0 d.size,.any,.any,I i,I j,.any],.row t false 1 (E.toList.map fun x=>ints (g x)) :: []⟩) (b-a) ?_ ?_
 ·simp (maxSteps:=2000000) (disch:=first|omega|(simp only[lenS];try omega)) only[go_sem,reduceAdd,reduceEqDiff,reduceLeDiff,reduceSub]
  exact⟨a,n,d,by omega,by omega,by omega,rfl,Sort.permIn_refl d a b,rfl⟩
 ·rintro k s ⟨i,j,E,h1,h2,h3,rfl,h4,rfl⟩
  have k3:=z10w h4
  have e7:E.toList.length=d.size:=by simp [k3]
  by_cases hij:(i:Int)<j
  ·obtain⟨m,hm⟩ : ∃ m:Nat,(j:Int)-1=m:=⟨j-1,by omega⟩
   have w2:=z17q E (i:=i) (by omega)
   have w3:=z17q E (i:=j) (by omega)
   have w4:=z17u (fun x=>ints (g x)) E i j
   have w5:=Sort.permIn_trans d E (Sort.swp E i j) a b h4 (Sort.swp_permIn E a b i j h1 (by omega) (by omega) h2 (by omega))
   generalize E[i]! = x at *
   generalize E[j]! = y at *
   simp (maxSteps:=2000000) (disch:=first|omega|(simp only[lenS];try omega)) only[go_sem,reduceAdd,reduceEqDiff,reduceLeDiff,reduceSub,w2,w3,e7,hm,List.getElem?_set_ne,List.getElem_set_ne,List.getElem_map]
   exact⟨b-(i+1),by omega,i+1,m,Sort.swp E i j,by omega,by omega,by omega,rfl,w5,by rw[w4];rfl⟩
  ·simp (maxSteps:=2000000) (disch:=first|omega|(simp only[lenS];try omega)) only[go_sem,reduceAdd,reduceEqDiff,reduceLeDiff,reduceSub]
   exact⟨E,rfl,h4⟩
theorem weg{α:Type}[Inhabited α](g:α→List Int)(cm:α→α→Int)(H : ∀ x y,C w7h [ints (g x),ints (g y)] []=some (I (cm x y),[]))(t:TypeId)(d:Array α)(a b:Nat)(hab:a<b)(hb:b≤d.size)(hs:d.size<2^40) :
    C w7z [.ref 0 1 0 d.size,I a,I b,.clo w7h []] (.row t false 1 (d.toList.map fun x=>ints (g x)) :: [])=some (.bool (Sort.partialInsertionSort (ltC cm) d a b).2,.row t false 1 ((Sort.partialInsertionSort (ltC cm) d a b).1.toList.map fun x=>ints (g x)) :: []):=by
  unfold Sort.partialInsertionSort
  refine w19 ?_
  simp (maxSteps:=2000000) (disch:=first|omega|(simp only[lenS];try omega)) only[wbz,go_sem,reduceAdd,reduceEqDiff,reduceLeDiff,reduceSub]
  refine z1a (fun k s=>∃ (i:Nat) (D:Array α),k≤5∧a<i∧i≤b∧D.size=d.size∧Sort.partialIns (ltC cm) a b k i D=Sort.partialIns (ltC cm) a b 5 (a+1) d∧s=⟨[.ref 0 1 0 d.size,I a,I b,.clo w7h [],.any,I i,I (5-(k:Int)),.any,.any,.any,.any,.any,.any,.any,.any,.any,.any,.any,.any],.row t false 1 (D.toList.map fun x=>ints (g x)) :: []⟩) 5 ?_ ?_
  · simp (maxSteps:=2000000) (disch:=first|omega|(simp only[lenS];try omega)) only[go_sem,reduceAdd,reduceEqDiff,reduceLeDiff,reduceSub]
    exact⟨a+1,d,by omega,by omega,rfl,rfl,rfl⟩
  · rintro k s ⟨i,D,d0,d1,d2,d3,d4,rfl⟩
    have e7:D.toList.length=d.size:=by simp [d3]
    rcases Nat.eq_zero_or_pos k with rfl | hk
    · simp (maxSteps:=2000000) (disch:=first|omega|(simp only[lenS];try omega)) only[go_sem,reduceAdd,reduceEqDiff,reduceLeDiff,reduceSub]
      rw[←d4];rfl
    · obtain⟨u,rfl⟩ : ∃ u,k=u+1:=⟨k-1,by omega⟩
      simp (maxSteps:=2000000) (disch:=first|omega|(simp only[lenS];try omega)) only[go_sem,reduceAdd,reduceEqDiff,reduceLeDiff,reduceSub]
      refine z1a (fun q s=>∃ m:Nat,i≤m∧m≤b∧q=b-m∧Sort.scanSorted (ltC cm) D b m=Sort.scanSorted (ltC cm) D b i∧s=⟨[.ref 0 1 0 d.size,I a,I b,.clo w7h [],.any,I m,I (5-((u+1:Nat):Int)),.any,.any,.any,.any,.any,.any,.any,.any,.any,.any,.any,.any],.row t false 1 (D.toList.map fun x=>ints (g x)) :: []⟩) (b-i) ?_ ?_
      · simp (maxSteps:=2000000) (disch:=first|omega|(simp only[lenS];try omega)) only[go_sem,reduceAdd,reduceEqDiff,reduceLeDiff,reduceSub]
        exact⟨i,by omega,d2,rfl,rfl,rfl⟩
      · rintro q s ⟨m,m1,m2,rfl,m4,rfl⟩
        have s0:=z185 (ltC cm) D (b:=b) (i:=m)
        have s1:=z186 (ltC cm) D (b:=b) (i:=m)
        simp only[ltC] at s0 s1
        obtain⟨m',hm'⟩ : ∃ m':Nat,(m:Int)-1=m':=⟨m-1,by omega⟩
        have hm1:m-1=m':=by omega
        rw[hm1] at s0 s1
        by_cases hmb:(m:Int)<b
        · have w2:=z17q D (i:=m) (by omega)
          have w3:=z17q D (i:=m') (by omega)
          have w4:=z17u (fun x=>ints (g x)) D m m'
          generalize D[m]! = x at *
          generalize D[m']! = y at *
          by_cases hlt:cm x y<0
          · have hscan:m=Sort.scanSorted (ltC cm) D b i:=by rw[←m4];exact(s0 (.inr (by simp [hlt]))).symm
            clear s0 s1 m4
            by_cases h50:(b:Int)-a<50
            · have e5:Sort.partialIns (ltC cm) a b 5 (a+1) d=(D,false):=by rw[←d4,Sort.partialIns_succ,←hscan,if_neg (by omega),if_pos (by omega)]
              simp (maxSteps:=2000000) (disch:=first|omega|(simp only[lenS];try omega)) only[go_sem,reduceAdd,reduceEqDiff,reduceLeDiff,reduceSub,H,w2,w3,e7,hm',hmb,hlt,h50,Int.not_le.2 h50,false_implies,and_true,true_and,forall_const]
              rw[e5]
            · by_cases hma : (2 : Int) ≤ (m : Int) - a
              · simp (maxSteps := 2000000) (disch := first | omega | (simp only [lenS]; try omega)) only [go_sem, reduceAdd, reduceEqDiff, reduceLeDiff, reduceSub, H, w2, w3, e7, hm', hmb, hlt, h50, Int.not_lt.1 h50, hma, Int.not_lt.2 hma, List.getElem?_set_ne, List.getElem_set_ne, List.getElem_map, false_implies, and_true, true_and, forall_const]
                refine z1a (fun q s=>∃ (G2:Array α),q≤m'∧G2.size=d.size∧Sort.shiftDown (ltC cm) q G2=Sort.shiftDown (ltC cm) m' (Sort.swp D m m')∧s=⟨[.ref 0 1 0 d.size,I a,I b,.clo w7h [],.any,I m,I (5-((u+1:Nat):Int)),I q,.any,.any,.any,.any,.any,.any,.any,.any,.any,.any,.any],.row t false 1 (G2.toList.map fun x=>ints (g x)) :: []⟩) m' ?_ ?_
                · simp (maxSteps:=2000000) (disch:=first|omega|(simp only[lenS];try omega)) only[go_sem,reduceAdd,reduceEqDiff,reduceLeDiff,reduceSub]
                  first | exact⟨Sort.swp D m m',by rw[Sort.size_swp];exact d3,rfl,by rw[w4]⟩ | exact⟨Sort.swp D m m',by omega,by rw[Sort.size_swp];exact d3,rfl,by rw[w4]⟩
                · rintro q s ⟨G2,c1,k5,c2,rfl⟩
                  have z0:=z192 (ltC cm) G2 (j:=q)
                  have z1:=z193 (ltC cm) G2 (j:=q)
                  simp only[ltC] at z0 z1
                  have e9:G2.toList.length=d.size:=by simp [k5]
                  have hG:Sort.fixDown (ltC cm) a m (Sort.swp D m m')=Sort.shiftDown (ltC cm) m' (Sort.swp D m m'):=by unfold Sort.fixDown;rw[if_pos (by omega),hm1]
                  by_cases hq:(1:Int)≤q
                  · obtain⟨q',hq'⟩ : ∃ q':Nat,(q:Int)-1=q':=⟨q-1,by omega⟩
                    rw[show q-1=q' by omega] at z0 z1
                    have v2:=z17q G2 (i:=q) (by omega)
                    have v3:=z17q G2 (i:=q') (by omega)
                    have v4:=z17u (fun x=>ints (g x)) G2 q q'
                    generalize G2[q]! = x2 at *
                    generalize G2[q']! = y2 at *
                    by_cases hl2:cm x2 y2<0
                    · have z2:=z1 (by omega) (by simp [hl2])
                      simp (maxSteps:=2000000) (disch:=first|omega|(simp only[lenS];try omega)) only[go_sem,reduceAdd,reduceEqDiff,reduceLeDiff,reduceSub,H,v2,v3,e9,hq',hq,Int.not_lt.2 hq,hl2,List.getElem?_set_ne,List.getElem_set_ne,List.getElem_map]
                      exact⟨q',by omega,Sort.swp G2 q q',by omega,by rw[Sort.size_swp];exact k5,by rw[←c2,z2],by rw[v4]⟩
                    · have z2:=z0 (.inr (by simp [hl2]))
                      have hG2:Sort.fixDown (ltC cm) a m (Sort.swp D m m')=G2:=by rw[hG,←c2];exact z2
                      by_cases hbm:(2:Int)≤(b:Int)-(m:Int)
                      · have h2':Sort.fixUp (ltC cm) b m G2=Sort.shiftUp (ltC cm) b (m+1) G2:=by unfold Sort.fixUp;rw[if_pos (by omega)]
                        simp (maxSteps:=2000000) (disch:=first|omega|(simp only[lenS];try omega)) only[go_sem,reduceAdd,reduceEqDiff,reduceLeDiff,reduceSub,H,v2,v3,e9,hq',hq,Int.not_lt.2 hq,hl2,hbm,Int.not_lt.2 hbm,false_implies,and_true,true_and,forall_const]
                        clear v2 v3 v4 z0 z1 z2 w2 w3 w4 hl2 hlt
                        refine z1a (fun q s=>∃ (w:Nat) (G3:Array α),m<w∧w≤b∧q=b-w∧G3.size=d.size∧Sort.shiftUp (ltC cm) b w G3=Sort.shiftUp (ltC cm) b (m+1) G2∧s=⟨[.ref 0 1 0 d.size,I a,I b,.clo w7h [],.any,I m,I (5-((u+1:Nat):Int)),.any,I w,.any,.any,.any,.any,.any,.any,.any,.any,.any,.any],.row t false 1 (G3.toList.map fun x=>ints (g x)) :: []⟩) (b-(m+1)) ?_ ?_
                        · simp (maxSteps:=2000000) (disch:=first|omega|(simp only[lenS];try omega)) only[go_sem,reduceAdd,reduceEqDiff,reduceLeDiff,reduceSub]
                          exact⟨m+1,G2,by omega,by omega,rfl,k5,rfl,rfl⟩
                        · rintro q s ⟨w,G3,c1,c2,rfl,c3,c4,rfl⟩
                          have z0:=z19j (ltC cm) G3 (b:=b) (j:=w)
                          have z1:=z19k (ltC cm) G3 (b:=b) (j:=w)
                          simp only[ltC] at z0 z1
                          have e8:G3.toList.length=d.size:=by simp [c3]
                          obtain⟨w',hw'⟩ : ∃ w':Nat,(w:Int)-1=w':=⟨w-1,by omega⟩
                          rw[show w-1=w' by omega] at z0 z1
                          by_cases hwb:(w:Int)<b
                          · have v2:=z17q G3 (i:=w) (by omega)
                            have v3:=z17q G3 (i:=w') (by omega)
                            have v4:=z17u (fun x=>ints (g x)) G3 w w'
                            generalize G3[w]! = x3 at *
                            generalize G3[w']! = y3 at *
                            by_cases hl3:cm x3 y3<0
                            · have z2:=z1 (by omega) (by simp [hl3])
                              simp (maxSteps:=2000000) (disch:=first|omega|(simp only[lenS];try omega)) only[go_sem,reduceAdd,reduceEqDiff,reduceLeDiff,reduceSub,H,v2,v3,e8,hw',hwb,hl3,List.getElem?_set_ne,List.getElem_set_ne,List.getElem_map]
                              exact⟨b-(w+1),by omega,w+1,Sort.swp G3 w w',by omega,by omega,rfl,by rw[Sort.size_swp];exact c3,by rw[←c4,z2],by rw[v4];rfl⟩
                            · have z2:=z0 (.inr (by simp [hl3]))
                              simp (maxSteps:=2000000) (disch:=first|omega|(simp only[lenS];try omega)) only[go_sem,reduceAdd,reduceEqDiff,reduceLeDiff,reduceSub,H,v2,v3,e8,hw',hwb,hl3]
                              refine⟨u,by omega,m,G3,by omega,by omega,by omega,c3,?_,?_⟩
                              · rw[←d4,Sort.partialIns_succ,←hscan,if_neg (by omega),if_neg (by omega),hm1,hG2,h2',←c4]
                                exact congrArg _ z2.symm
                              · rw[show(5:Int)-((u+1:Nat):Int)+1=5-(u:Int) by omega]
                          · have z2:=z0 (.inl (by omega))
                            simp (maxSteps:=2000000) (disch:=first|omega|(simp only[lenS];try omega)) only[go_sem,reduceAdd,reduceEqDiff,reduceLeDiff,reduceSub,hwb]
                            refine⟨u,by omega,m,G3,by omega,by omega,by omega,c3,?_,?_⟩
                            · rw[←d4,Sort.partialIns_succ,←hscan,if_neg (by omega),if_neg (by omega),hm1,hG2,h2',←c4]
                              exact congrArg _ z2.symm
                            · rw[show(5:Int)-((u+1:Nat):Int)+1=5-(u:Int) by omega]
                      · have h2':Sort.fixUp (ltC cm) b m G2=G2:=by unfold Sort.fixUp;rw[if_neg (by omega)]
                        simp (maxSteps:=2000000) (disch:=first|omega|(simp only[lenS];try omega)) only[go_sem,reduceAdd,reduceEqDiff,reduceLeDiff,reduceSub,H,v2,v3,e9,hq',hq,Int.not_lt.2 hq,hl2,hbm,Int.not_le.1 hbm,false_implies,and_true,true_and,forall_const]
                        refine⟨u,by omega,m,G2,by omega,by omega,by omega,k5,?_,?_⟩
                        · rw[←d4,Sort.partialIns_succ,←hscan,if_neg (by omega),if_neg (by omega),hm1,hG2,h2']
                        · rw[show(5:Int)-((u+1:Nat):Int)+1=5-(u:Int) by omega]
                  · have z2:=z0 (.inl (by omega))
                    have hG2:Sort.fixDown (ltC cm) a m (Sort.swp D m m')=G2:=by rw[hG,←c2];exact z2
                    by_cases hbm:(2:Int)≤(b:Int)-(m:Int)
                    · have h2':Sort.fixUp (ltC cm) b m G2=Sort.shiftUp (ltC cm) b (m+1) G2:=by unfold Sort.fixUp;rw[if_pos (by omega)]
                      simp (maxSteps:=2000000) (disch:=first|omega|(simp only[lenS];try omega)) only[go_sem,reduceAdd,reduceEqDiff,reduceLeDiff,reduceSub,hq,Int.not_le.1 hq,hbm,Int.not_lt.2 hbm,false_implies,and_true,true_and,forall_const]
                      clear z0 z1 z2 w2 w3 w4 hlt
                      refine z1a (fun q s=>∃ (w:Nat) (G3:Array α),m<w∧w≤b∧q=b-w∧G3.size=d.size∧Sort.shiftUp (ltC cm) b w G3=Sort.shiftUp (ltC cm) b (m+1) G2∧s=⟨[.ref 0 1 0 d.size,I a,I b,.clo w7h [],.any,I m,I (5-((u+1:Nat):Int)),.any,I w,.any,.any,.any,.any,.any,.any,.any,.any,.any,.any],.row t false 1 (G3.toList.map fun x=>ints (g x)) :: []⟩) (b-(m+1)) ?_ ?_
                      · simp (maxSteps:=2000000) (disch:=first|omega|(simp only[lenS];try omega)) only[go_sem,reduceAdd,reduceEqDiff,reduceLeDiff,reduceSub]
                        exact⟨m+1,G2,by omega,by omega,rfl,k5,rfl,rfl⟩
                      · rintro q s ⟨w,G3,c1,c2,rfl,c3,c4,rfl⟩
                        have z0:=z19j (ltC cm) G3 (b:=b) (j:=w)
                        have z1:=z19k (ltC cm) G3 (b:=b) (j:=w)
                        simp only[ltC] at z0 z1
                        have e8:G3.toList.length=d.size:=by simp [c3]
                        obtain⟨w',hw'⟩ : ∃ w':Nat,(w:Int)-1=w':=⟨w-1,by omega⟩
                        rw[show w-1=w' by omega] at z0 z1
                        by_cases hwb:(w:Int)<b
                        · have v2:=z17q G3 (i:=w) (by omega)
                          have v3:=z17q G3 (i:=w') (by omega)
                          have v4:=z17u (fun x=>ints (g x)) G3 w w'
                          generalize G3[w]! = x3 at *
                          generalize G3[w']! = y3 at *
                          by_cases hl3:cm x3 y3<0
                          · have z2:=z1 (by omega) (by simp [hl3])
                            simp (maxSteps:=2000000) (disch:=first|omega|(simp only[lenS];try omega)) only[go_sem,reduceAdd,reduceEqDiff,reduceLeDiff,reduceSub,H,v2,v3,e8,hw',hwb,hl3,List.getElem?_set_ne,List.getElem_set_ne,List.getElem_map]
                            exact⟨b-(w+1),by omega,w+1,Sort.swp G3 w w',by omega,by omega,rfl,by rw[Sort.size_swp];exact c3,by rw[←c4,z2],by rw[v4];rfl⟩
                          · have z2:=z0 (.inr (by simp [hl3]))
                            simp (maxSteps:=2000000) (disch:=first|omega|(simp only[lenS];try omega)) only[go_sem,reduceAdd,reduceEqDiff,reduceLeDiff,reduceSub,H,v2,v3,e8,hw',hwb,hl3]
                            refine⟨u,by omega,m,G3,by omega,by omega,by omega,c3,?_,?_⟩
                            · rw[←d4,Sort.partialIns_succ,←hscan,if_neg (by omega),if_neg (by omega),hm1,hG2,h2',←c4]
                              exact congrArg _ z2.symm
                            · rw[show(5:Int)-((u+1:Nat):Int)+1=5-(u:Int) by omega]
                        · have z2:=z0 (.inl (by omega))
                          simp (maxSteps:=2000000) (disch:=first|omega|(simp only[lenS];try omega)) only[go_sem,reduceAdd,reduceEqDiff,reduceLeDiff,reduceSub,hwb]
                          refine⟨u,by omega,m,G3,by omega,by omega,by omega,c3,?_,?_⟩
                          · rw[←d4,Sort.partialIns_succ,←hscan,if_neg (by omega),if_neg (by omega),hm1,hG2,h2',←c4]
                            exact congrArg _ z2.symm
                          · rw[show(5:Int)-((u+1:Nat):Int)+1=5-(u:Int) by omega]
                    · have h2':Sort.fixUp (ltC cm) b m G2=G2:=by unfold Sort.fixUp;rw[if_neg (by omega)]
                      simp (maxSteps:=2000000) (disch:=first|omega|(simp only[lenS];try omega)) only[go_sem,reduceAdd,reduceEqDiff,reduceLeDiff,reduceSub,hq,Int.not_le.1 hq,hbm,Int.not_le.1 hbm,false_implies,and_true,true_and,forall_const]
                      refine⟨u,by omega,m,G2,by omega,by omega,by omega,k5,?_,?_⟩
                      · rw[←d4,Sort.partialIns_succ,←hscan,if_neg (by omega),if_neg (by omega),hm1,hG2,h2']
                      · rw[show(5:Int)-((u+1:Nat):Int)+1=5-(u:Int) by omega]
              · have hG0:Sort.fixDown (ltC cm) a m (Sort.swp D m m')=Sort.swp D m m':=by unfold Sort.fixDown;rw[if_neg (by omega)]
                have k5':(Sort.swp D m m').size=d.size:=by rw[Sort.size_swp];exact d3
                obtain⟨G2,hGG⟩ : ∃ G2,Sort.swp D m m'=G2:=⟨_,rfl⟩
                have hG2:Sort.fixDown (ltC cm) a m (Sort.swp D m m')=G2:=by rw[hG0,hGG]
                have k5:G2.size=d.size:=by rw[←hGG];exact k5'
                rw[hGG] at w4
                by_cases hbm:(2:Int)≤(b:Int)-(m:Int)
                · have h2':Sort.fixUp (ltC cm) b m G2=Sort.shiftUp (ltC cm) b (m+1) G2:=by unfold Sort.fixUp;rw[if_pos (by omega)]
                  simp (maxSteps:=2000000) (disch:=first|omega|(simp only[lenS];try omega)) only[go_sem,reduceAdd,reduceEqDiff,reduceLeDiff,reduceSub,H,w2,w3,e7,hm',hmb,hlt,h50,Int.not_lt.1 h50,hma,Int.not_le.1 hma,hbm,Int.not_lt.2 hbm,List.getElem?_set_ne,List.getElem_set_ne,List.getElem_map,false_implies,and_true,true_and,forall_const]
                  rw[←w4]
                  clear w2 w3 w4 hlt
                  refine z1a (fun q s=>∃ (w:Nat) (G3:Array α),m<w∧w≤b∧q=b-w∧G3.size=d.size∧Sort.shiftUp (ltC cm) b w G3=Sort.shiftUp (ltC cm) b (m+1) G2∧s=⟨[.ref 0 1 0 d.size,I a,I b,.clo w7h [],.any,I m,I (5-((u+1:Nat):Int)),.any,I w,.any,.any,.any,.any,.any,.any,.any,.any,.any,.any],.row t false 1 (G3.toList.map fun x=>ints (g x)) :: []⟩) (b-(m+1)) ?_ ?_
                  · simp (maxSteps:=2000000) (disch:=first|omega|(simp only[lenS];try omega)) only[go_sem,reduceAdd,reduceEqDiff,reduceLeDiff,reduceSub]
                    exact⟨m+1,G2,by omega,by omega,rfl,k5,rfl,rfl⟩
                  · rintro q s ⟨w,G3,c1,c2,rfl,c3,c4,rfl⟩
                    have z0:=z19j (ltC cm) G3 (b:=b) (j:=w)
                    have z1:=z19k (ltC cm) G3 (b:=b) (j:=w)
                    simp only[ltC] at z0 z1
                    have e8:G3.toList.length=d.size:=by simp [c3]
                    obtain⟨w',hw'⟩ : ∃ w':Nat,(w:Int)-1=w':=⟨w-1,by omega⟩
                    rw[show w-1=w' by omega] at z0 z1
                    by_cases hwb:(w:Int)<b
                    · have v2:=z17q G3 (i:=w) (by omega)
                      have v3:=z17q G3 (i:=w') (by omega)
                      have v4:=z17u (fun x=>ints (g x)) G3 w w'
                      generalize G3[w]! = x3 at *
                      generalize G3[w']! = y3 at *
                      by_cases hl3:cm x3 y3<0
                      · have z2:=z1 (by omega) (by simp [hl3])
                        simp (maxSteps:=2000000) (disch:=first|omega|(simp only[lenS];try omega)) only[go_sem,reduceAdd,reduceEqDiff,reduceLeDiff,reduceSub,H,v2,v3,e8,hw',hwb,hl3,List.getElem?_set_ne,List.getElem_set_ne,List.getElem_map]
                        exact⟨b-(w+1),by omega,w+1,Sort.swp G3 w w',by omega,by omega,rfl,by rw[Sort.size_swp];exact c3,by rw[←c4,z2],by rw[v4];rfl⟩
                      · have z2:=z0 (.inr (by simp [hl3]))
                        simp (maxSteps:=2000000) (disch:=first|omega|(simp only[lenS];try omega)) only[go_sem,reduceAdd,reduceEqDiff,reduceLeDiff,reduceSub,H,v2,v3,e8,hw',hwb,hl3]
                        refine⟨u,by omega,m,G3,by omega,by omega,by omega,c3,?_,?_⟩
                        · rw[←d4,Sort.partialIns_succ,←hscan,if_neg (by omega),if_neg (by omega),hm1,hG2,h2',←c4]
                          exact congrArg _ z2.symm
                        · rw[show(5:Int)-((u+1:Nat):Int)+1=5-(u:Int) by omega]
                    · have z2:=z0 (.inl (by omega))
                      simp (maxSteps:=2000000) (disch:=first|omega|(simp only[lenS];try omega)) only[go_sem,reduceAdd,reduceEqDiff,reduceLeDiff,reduceSub,hwb]
                      refine⟨u,by omega,m,G3,by omega,by omega,by omega,c3,?_,?_⟩
                      · rw[←d4,Sort.partialIns_succ,←hscan,if_neg (by omega),if_neg (by omega),hm1,hG2,h2',←c4]
                        exact congrArg _ z2.symm
                      · rw[show(5:Int)-((u+1:Nat):Int)+1=5-(u:Int) by omega]
                · exfalso
                  omega
          · have s2:=s1 (by omega) (by simp [hlt])
            simp (maxSteps:=2000000) (disch:=first|omega|(simp only[lenS];try omega)) only[go_sem,reduceAdd,reduceEqDiff,reduceLeDiff,reduceSub,H,w2,w3,e7,hm',hmb,hlt]
            exact⟨b-(m+1),by omega,m+1,by omega,by omega,rfl,by rw[←m4,s2],rfl⟩
        · have hscan:m=Sort.scanSorted (ltC cm) D b i:=by rw[←m4];exact(s0 (.inl (by omega))).symm
          have e5:Sort.partialIns (ltC cm) a b 5 (a+1) d=(D,true):=by rw[←d4,Sort.partialIns_succ,←hscan,if_pos (by omega)]
          simp (maxSteps:=2000000) (disch:=first|omega|(simp only[lenS];try omega)) only[go_sem,reduceAdd,reduceEqDiff,reduceLeDiff,reduceSub,hmb]
          rw[e5]
theorem wei{α:Type}[Inhabited α](g:α→List Int)(cm:α→α→Int)(H : ∀ x y,C w7h [ints (g x),ints (g y)] []=some (I (cm x y),[]))(t:TypeId)(d:Array α)(a b pv:Nat)(h1:a≤pv)(h2:pv<b)(hb:b≤d.size)(hs:d.size<2^40) :
  C w81 [.ref 0 1 0 d.size,I a,I b,I pv,.clo w7h []] (.row t false 1 (d.toList.map fun x=>ints (g x)) :: [])=some (I (Sort.partitionEqual (ltC cm) d a b pv).1,.row t false 1 ((Sort.partitionEqual (ltC cm) d a b pv).2.toList.map fun x=>ints (g x)) :: []):=by
 obtain⟨n,hn⟩ : ∃ n:Nat,(b:Int)-1=n:=⟨b-1,by omega⟩
 have w2:=z17q d (i:=a) (by omega)
 have w3:=z17q d (i:=pv) (by omega)
 have w4:=z17u (fun x=>ints (g x)) d a pv
 have w6:=z17t (fun x=>ints (g x)) d (i:=a) (j:=pv) d[pv]! (by omega) (by omega)
 generalize (if a=pv then d[pv]! else d[pv]!)=z at *
 generalize d[a]! = x at *
 generalize d[pv]! = y at *
 unfold Sort.partitionEqual
 rw[show b-1=n by omega]
 refine w1b ?_
 simp (maxSteps:=2000000) (disch:=first|omega|(simp only[lenS];try omega)) only[wc1,go_sem,reduceAdd,reduceEqDiff,reduceLeDiff,reduceSub]
 have e7:d.toList.length=d.size:=by simp
 simp (maxSteps:=2000000) (disch:=first|omega|(simp only[lenS];try omega)) only[go_sem,reduceAdd,reduceEqDiff,reduceLeDiff,reduceSub,w2,w3,w6,e7,hn]
 rw[←w4]
 have k0:(Sort.swp d a pv).size=d.size:=Sort.size_swp _ _ _
 generalize Sort.swp d a pv=D at *
 clear w2 w3 w4 w6 x y z e7
 refine z1a (fun k s=>∃ (i j:Nat) (E:Array α),a<i∧i≤j+2∧j<b∧k=j+1-i∧E.size=d.size∧Sort.partEqLoop (ltC cm) a i j E=Sort.partEqLoop (ltC cm) a (a+1) n D∧s=⟨[.ref 0 1 0 d.size,I a,.any,.any,.clo w7h [],.any,I i,I j,.any,.any,.any],.row t false 1 (E.toList.map fun x=>ints (g x)) :: []⟩) (n+1-(a+1)) ?_ ?_
 ·simp (maxSteps:=2000000) (disch:=first|omega|(simp only[lenS];try omega)) only[go_sem,reduceAdd,reduceEqDiff,reduceLeDiff,reduceSub]
  exact⟨a+1,n,D,by omega,by omega,by omega,rfl,k0,rfl,rfl⟩
 ·rintro k s ⟨i,j,E,c1,c2,c3,rfl,c4,c5,rfl⟩
  have hq:=Sort.partEqLoop_eq (ltC cm) a i j E
  rw[c5] at hq
  have e7:E.toList.length=d.size:=by simp [c4]
  have w1:=z17q E (i:=a) (by omega)
  simp (maxSteps:=2000000) (disch:=first|omega|(simp only[lenS];try omega)) only[go_sem,reduceAdd,reduceEqDiff,reduceLeDiff,reduceSub]
  refine z1a (fun q s=>∃ u:Nat,i≤u∧u≤j+2∧q=j+2-u∧Sort.scanUp (fun x=>!ltC cm E[a]! x) E j u=Sort.scanUp (fun x=>!ltC cm E[a]! x) E j i∧s=⟨[.ref 0 1 0 d.size,I a,.any,.any,.clo w7h [],.any,I u,I j,.any,.any,.any],.row t false 1 (E.toList.map fun x=>ints (g x)) :: []⟩) (j+2-i) ?_ ?_
  ·simp (maxSteps:=2000000) (disch:=first|omega|(simp only[lenS];try omega)) only[go_sem,reduceAdd,reduceEqDiff,reduceLeDiff,reduceSub]
   exact⟨i,by omega,c2,rfl,rfl,rfl⟩
  ·rintro q s ⟨u,u1,u2,rfl,u4,rfl⟩
   have s0:=z1fx (fun x=>!ltC cm E[a]! x) E (i:=u) (j:=j)
   have s1:=up_go (fun x=>!ltC cm E[a]! x) E (i:=u) (j:=j)
   by_cases huj:(u:Int)≤j
   ·have w2:=z17q E (i:=u) (by omega)
    by_cases hlt:cm E[a]! E[u]! < 0
    ·have hup:Sort.scanUp (fun x=>!ltC cm E[a]! x) E j i=u:=by rw[←u4];exact s0 (.inr (by simp [hlt]))
     rw[hup] at hq
     clear s0 s1 u4 hup
     generalize hA:E[a]! = A at *
     generalize E[u]! = x at *
     simp (maxSteps:=2000000) (disch:=first|omega|(simp only[lenS];try omega)) only[go_sem,reduceAdd,reduceEqDiff,reduceLeDiff,reduceSub,H,w1,w2,e7,huj,hlt]
     clear w2 hlt x
     refine z1a (fun q s=>∃ v:Nat,v≤j∧u≤v+2∧q=v∧Sort.scanDown (fun x=>ltC cm A x) E u v=Sort.scanDown (fun x=>ltC cm A x) E u j∧s=⟨[.ref 0 1 0 d.size,I a,.any,.any,.clo w7h [],.any,I u,I v,.any,.any,.any],.row t false 1 (E.toList.map fun x=>ints (g x)) :: []⟩) j ?_ ?_
     ·simp (maxSteps:=2000000) (disch:=first|omega|(simp only[lenS];try omega)) only[go_sem,reduceAdd,reduceEqDiff,reduceLeDiff,reduceSub]
      exact⟨j,by omega,u2,rfl,rfl,rfl⟩
     ·rintro q s ⟨v,v1,v2,rfl,v4,rfl⟩
      have s0:=zce (fun x=>ltC cm A x) E (i:=u) (j:=q)
      have s1:=zcf (fun x=>ltC cm A x) E (i:=u) (j:=q)
      by_cases huv:(u:Int)≤q
      ·have w2:=z17q E (i:=q) (by omega)
       obtain⟨q',hq'⟩ : ∃ q':Nat,(q:Int)-1=q':=⟨q-1,by omega⟩
       by_cases hl2:cm A E[q]! < 0
       ·have s2:=s1 (by omega) (by omega) (by simp [hl2])
        rw[show q-1=q' by omega] at s2
        generalize E[q]! = y at *
        simp (maxSteps:=2000000) (disch:=first|omega|(simp only[lenS];try omega)) only[go_sem,reduceAdd,reduceEqDiff,reduceLeDiff,reduceSub,H,w1,w2,e7,huv,hl2,hq']
        exact⟨q',by omega,q',by omega,by omega,rfl,by rw[←v4,s2],rfl⟩
       ·have hdn:Sort.scanDown (fun x=>ltC cm A x) E u j=q:=by rw[←v4];exact s0 (.inr (by simp [hl2]))
        rw[hdn,if_neg (by omega),show q-1=q' by omega] at hq
        have w3:=z17q E (i:=u) (by omega)
        have w4:=z17u (fun x=>ints (g x)) E u q
        have w6:=z17t (fun x=>ints (g x)) E (i:=u) (j:=q) E[q]! (by omega) (by omega)
        generalize (if u=q then E[q]! else E[q]!)=z at *
        generalize E[u]! = x at *
        generalize E[q]! = y at *
        simp (maxSteps:=2000000) (disch:=first|omega|(simp only[lenS];try omega)) only[go_sem,reduceAdd,reduceEqDiff,reduceLeDiff,reduceSub,H,w1,w2,w3,w6,e7,huv,hl2,hq']
        exact⟨q'+1-(u+1),by omega,u+1,q',Sort.swp E u q,by omega,by omega,by omega,rfl,by rw[Sort.size_swp];exact c4,hq.symm,by rw[w4];rfl⟩
      ·have hdn:Sort.scanDown (fun x=>ltC cm A x) E u j=q:=by rw[←v4];exact s0 (.inl (by omega))
       rw[hdn,if_pos (by omega)] at hq
       simp (maxSteps:=2000000) (disch:=first|omega|(simp only[lenS];try omega)) only[go_sem,reduceAdd,reduceEqDiff,reduceLeDiff,reduceSub,huv]
       rw[hq]
    ·have s2:=s1 (by omega) (by simp [hlt])
     generalize hA:E[a]! = A at *
     generalize E[u]! = x at *
     simp (maxSteps:=2000000) (disch:=first|omega|(simp only[lenS];try omega)) only[go_sem,reduceAdd,reduceEqDiff,reduceLeDiff,reduceSub,H,w1,w2,e7,huj,hlt]
     exact⟨j+2-(u+1),by omega,u+1,by omega,by omega,rfl,by rw[←u4,s2],rfl⟩
   ·have hup:Sort.scanUp (fun x=>!ltC cm E[a]! x) E j i=u:=by rw[←u4];exact s0 (.inl (by omega))
    rw[hup] at hq
    clear s0 s1 u4 hup
    simp (maxSteps:=2000000) (disch:=first|omega|(simp only[lenS];try omega)) only[go_sem,reduceAdd,reduceEqDiff,reduceLeDiff,reduceSub,huj]
    generalize hA:E[a]! = A at *
    refine z1a (fun q s=>∃ v:Nat,v≤j∧q=v∧Sort.scanDown (fun x=>ltC cm A x) E u v=Sort.scanDown (fun x=>ltC cm A x) E u j∧s=⟨[.ref 0 1 0 d.size,I a,.any,.any,.clo w7h [],.any,I u,I v,.any,.any,.any],.row t false 1 (E.toList.map fun x=>ints (g x)) :: []⟩) j ?_ ?_
    ·simp (maxSteps:=2000000) (disch:=first|omega|(simp only[lenS];try omega)) only[go_sem,reduceAdd,reduceEqDiff,reduceLeDiff,reduceSub]
     exact⟨j,by omega,rfl,rfl,rfl⟩
    ·rintro q s ⟨v,v1,rfl,v4,rfl⟩
     have s0:=zce (fun x=>ltC cm A x) E (i:=u) (j:=q)
     have huv:¬(u:Int)≤q:=by omega
     have hdn:Sort.scanDown (fun x=>ltC cm A x) E u j=q:=by rw[←v4];exact s0 (.inl (by omega))
     rw[hdn,if_pos (by omega)] at hq
     simp (maxSteps:=2000000) (disch:=first|omega|(simp only[lenS];try omega)) only[go_sem,reduceAdd,reduceEqDiff,reduceLeDiff,reduceSub,huv]
     rw[hq]
theorem weh{α:Type}[Inhabited α](g:α→List Int)(cm:α→α→Int)(H : ∀ x y,C w7h [ints (g x),ints (g y)] []=some (I (cm x y),[]))(t:TypeId)(d:Array α)(a b pv:Nat)(h1:a≤pv)(h2:pv<b)(hb:b≤d.size)(hs:d.size<2^40) :
  C w80 [.ref 0 1 0 d.size,I a,I b,I pv,.clo w7h []] (.row t false 1 (d.toList.map fun x=>ints (g x)) :: [])=some (.tup [I (Sort.partition (ltC cm) d a b pv).1,.bool (Sort.partition (ltC cm) d a b pv).2.1],.row t false 1 ((Sort.partition (ltC cm) d a b pv).2.2.toList.map fun x=>ints (g x)) :: []):=by
 obtain⟨n,hn⟩ : ∃ n:Nat,(b:Int)-1=n:=⟨b-1,by omega⟩
 have w2:=z17q d (i:=a) (by omega)
 have w3:=z17q d (i:=pv) (by omega)
 have w4:=z17u (fun x=>ints (g x)) d a pv
 have w6:=z17t (fun x=>ints (g x)) d (i:=a) (j:=pv) d[pv]! (by omega) (by omega)
 generalize (if a=pv then d[pv]! else d[pv]!)=z at *
 generalize d[a]! = x at *
 generalize d[pv]! = y at *
 refine w1a ?_
 simp (maxSteps:=2000000) (disch:=first|omega|(simp only[lenS];try omega)) only[wc0,go_sem,reduceAdd,reduceEqDiff,reduceLeDiff,reduceSub]
 have e7:d.toList.length=d.size:=by simp
 simp (maxSteps:=2000000) (disch:=first|omega|(simp only[lenS];try omega)) only[go_sem,reduceAdd,reduceEqDiff,reduceLeDiff,reduceSub,w2,w3,w6,e7,hn]
 rw[←w4]
 have hq:(Sort.partition (ltC cm) d a b pv)=(let d:=Sort.swp d a pv
  let i:=Sort.scanUp (fun x=>ltC cm x d[a]!) d (b-1) (a+1)
  let j:=Sort.scanDown (fun x=>!ltC cm x d[a]!) d i (b-1)
  if i>j then(j,true,Sort.swp d j a) else
   let r:=Sort.partLoop (ltC cm) a (i+1) (j-1) (Sort.swp d i j)
   (r.1,false,Sort.swp r.2 r.1 a)):=rfl
 rw[show b-1=n by omega] at hq
 simp only[] at hq
 have c4:(Sort.swp d a pv).size=d.size:=Sort.size_swp _ _ _
 generalize hE:Sort.swp d a pv=E at *
 clear w2 w3 w4 w6 x y z e7
 have e7:E.toList.length=d.size:=by simp [c4]
 have w1:=z17q E (i:=a) (by omega)
 obtain⟨i,hi⟩ : ∃ i,a+1=i:=⟨_,rfl⟩
 have hi':(a:Int)+1=i:=by omega
 rw[hi] at hq
 rw[hi']
 have c1:a<i:=by omega
 have c2:i≤n+2:=by omega
 have c3:n<b:=by omega
 clear hi hi' hE
 generalize n=j at *
 refine z1a (fun q s=>∃ u:Nat,i≤u∧u≤j+2∧q=j+2-u∧Sort.scanUp (fun x=>ltC cm x E[a]!) E j u=Sort.scanUp (fun x=>ltC cm x E[a]!) E j i∧s=⟨[.ref 0 1 0 d.size,I a,.any,.any,.clo w7h [],.any,.any,I u,I j,.any,.any,.any,.any,.any,.any],.row t false 1 (E.toList.map fun x=>ints (g x)) :: []⟩) (j+2-i) ?_ ?_
 ·simp (maxSteps:=2000000) (disch:=first|omega|(simp only[lenS];try omega)) only[go_sem,reduceAdd,reduceEqDiff,reduceLeDiff,reduceSub]
  exact⟨i,by omega,c2,rfl,rfl,rfl⟩
 ·rintro q s ⟨u,u1,u2,rfl,u4,rfl⟩
  have s0:=z1fx (fun x=>ltC cm x E[a]!) E (i:=u) (j:=j)
  have s1:=up_go (fun x=>ltC cm x E[a]!) E (i:=u) (j:=j)
  by_cases huj:(u:Int)≤j
  ·have w2:=z17q E (i:=u) (by omega)
   by_cases hlt:cm E[u]! E[a]! < 0
   ·have s2:=s1 (by omega) (by simp [hlt])
    generalize hA:E[a]! = A at *
    generalize E[u]! = x at *
    simp (maxSteps:=2000000) (disch:=first|omega|(simp only[lenS];try omega)) only[go_sem,reduceAdd,reduceEqDiff,reduceLeDiff,reduceSub,H,w1,w2,e7,huj,hlt]
    exact⟨j+2-(u+1),by omega,u+1,by omega,by omega,rfl,by rw[←u4,s2],rfl⟩
   ·have hup:Sort.scanUp (fun x=>ltC cm x E[a]!) E j i=u:=by rw[←u4];exact s0 (.inr (by simp [hlt]))
    rw[hup] at hq
    clear s0 s1 u4 hup
    generalize hA:E[a]! = A at *
    generalize E[u]! = x at *
    simp (maxSteps:=2000000) (disch:=first|omega|(simp only[lenS];try omega)) only[go_sem,reduceAdd,reduceEqDiff,reduceLeDiff,reduceSub,H,w1,w2,e7,huj,hlt]
    clear w2 hlt x
    refine z1a (fun q s=>∃ v:Nat,v≤j∧u≤v+2∧q=v∧Sort.scanDown (fun x=>!ltC cm x A) E u v=Sort.scanDown (fun x=>!ltC cm x A) E u j∧s=⟨[.ref 0 1 0 d.size,I a,.any,.any,.clo w7h [],.any,.any,I u,I v,.any,.any,.any,.any,.any,.any],.row t false 1 (E.toList.map fun x=>ints (g x)) :: []⟩) j ?_ ?_
    ·simp (maxSteps:=2000000) (disch:=first|omega|(simp only[lenS];try omega)) only[go_sem,reduceAdd,reduceEqDiff,reduceLeDiff,reduceSub]
     exact⟨j,by omega,u2,rfl,rfl,rfl⟩
    ·rintro q s ⟨v,v1,v2,rfl,v4,rfl⟩
     have s0:=zce (fun x=>!ltC cm x A) E (i:=u) (j:=q)
     have s1:=zcf (fun x=>!ltC cm x A) E (i:=u) (j:=q)
     by_cases huv:(u:Int)≤q
     ·have w2:=z17q E (i:=q) (by omega)
      obtain⟨q',hq'⟩ : ∃ q':Nat,(q:Int)-1=q':=⟨q-1,by omega⟩
      by_cases hl2:cm E[q]! A<0
      ·have hdn:Sort.scanDown (fun x=>!ltC cm x A) E u j=q:=by rw[←v4];exact s0 (.inr (by simp [hl2]))
       rw[hdn,if_neg (by omega),show q-1=q' by omega] at hq
       have w3:=z17q E (i:=u) (by omega)
       have w4:=z17u (fun x=>ints (g x)) E u q
       have w6:=z17t (fun x=>ints (g x)) E (i:=u) (j:=q) E[q]! (by omega) (by omega)
       generalize (if u=q then E[q]! else E[q]!)=z at *
       generalize E[u]! = x at *
       generalize E[q]! = y at *
       simp (maxSteps:=2000000) (disch:=first|omega|(simp only[lenS];try omega)) only[go_sem,reduceAdd,reduceEqDiff,reduceLeDiff,reduceSub,H,w1,w2,w3,w6,e7,huv,hl2,hq']
       obtain⟨I0,hI0⟩ : ∃ I0,u+1=I0:=⟨_,rfl⟩
       obtain⟨J0,hJ0⟩ : ∃ J0,q'=J0:=⟨_,rfl⟩
       obtain⟨E0,hE0⟩ : ∃ E0,Sort.swp E u q=E0:=⟨_,rfl⟩
       have k0:E0.size=d.size:=by rw[←hE0,Sort.size_swp];exact c4
       have w4':=w4
       rw[hE0] at w4'
       rw[hI0,hJ0,hE0] at hq
       have hr:(Sort.partition (ltC cm) d a b pv)=((Sort.partLoop (ltC cm) a I0 J0 E0).1,false,Sort.swp (Sort.partLoop (ltC cm) a I0 J0 E0).2 (Sort.partLoop (ltC cm) a I0 J0 E0).1 a):=hq
       clear hq w1 w2 w3 w4 w6 e7 hdn
       have hb1:a<I0∧I0≤J0+2∧J0<b∧a≤J0:=by omega
       clear hE0 c1 c2 c4 u1 u2 v1 v2 hl2 huv huj hA v4
       refine z1a (fun k s=>∃ (i j:Nat) (E:Array α),a<i∧i≤j+2∧j<b∧a≤j∧k=j+1-i∧E.size=d.size∧Sort.partLoop (ltC cm) a i j E=Sort.partLoop (ltC cm) a I0 J0 E0∧s=⟨[.ref 0 1 0 d.size,I a,.any,.any,.clo w7h [],.any,.any,I i,I j,.any,.any,.any,.any,.any,.any],.row t false 1 (E.toList.map fun x=>ints (g x)) :: []⟩) (J0+1-I0) ?_ ?_
       ·simp (maxSteps:=2000000) (disch:=first|omega|(simp only[lenS];try omega)) only[go_sem,reduceAdd,reduceEqDiff,reduceLeDiff,reduceSub]
        exact⟨I0,J0,E0,by omega,by omega,by omega,by omega,rfl,k0,rfl,by rw[w4',←hI0,←hJ0];rfl⟩
       ·rintro k s ⟨i,j,E,c1,c2,c3,c3',rfl,c4,c5,rfl⟩
        have hq:=Sort.partLoop_eq (ltC cm) a i j E
        have e7:E.toList.length=d.size:=by simp [c4]
        have w1:=z17q E (i:=a) (by omega)
        simp (maxSteps:=2000000) (disch:=first|omega|(simp only[lenS];try omega)) only[go_sem,reduceAdd,reduceEqDiff,reduceLeDiff,reduceSub]
        refine z1a (fun q s=>∃ u:Nat,i≤u∧u≤j+2∧q=j+2-u∧Sort.scanUp (fun x=>ltC cm x E[a]!) E j u=Sort.scanUp (fun x=>ltC cm x E[a]!) E j i∧s=⟨[.ref 0 1 0 d.size,I a,.any,.any,.clo w7h [],.any,.any,I u,I j,.any,.any,.any,.any,.any,.any],.row t false 1 (E.toList.map fun x=>ints (g x)) :: []⟩) (j+2-i) ?_ ?_
        ·simp (maxSteps:=2000000) (disch:=first|omega|(simp only[lenS];try omega)) only[go_sem,reduceAdd,reduceEqDiff,reduceLeDiff,reduceSub]
         exact⟨i,by omega,c2,rfl,rfl,rfl⟩
        ·rintro q s ⟨u,u1,u2,rfl,u4,rfl⟩
         have s0:=z1fx (fun x=>ltC cm x E[a]!) E (i:=u) (j:=j)
         have s1:=up_go (fun x=>ltC cm x E[a]!) E (i:=u) (j:=j)
         by_cases huj:(u:Int)≤j
         ·have w2:=z17q E (i:=u) (by omega)
          by_cases hlt:cm E[u]! E[a]! < 0
          ·have s2:=s1 (by omega) (by simp [hlt])
           generalize hA:E[a]! = A at *
           generalize E[u]! = x at *
           simp (maxSteps:=2000000) (disch:=first|omega|(simp only[lenS];try omega)) only[go_sem,reduceAdd,reduceEqDiff,reduceLeDiff,reduceSub,H,w1,w2,e7,huj,hlt]
           exact⟨j+2-(u+1),by omega,u+1,by omega,by omega,rfl,by rw[←u4,s2],rfl⟩
          ·have hup:Sort.scanUp (fun x=>ltC cm x E[a]!) E j i=u:=by rw[←u4];exact s0 (.inr (by simp [hlt]))
           rw[hup] at hq
           clear s0 s1 u4 hup
           generalize hA:E[a]! = A at *
           generalize E[u]! = x at *
           simp (maxSteps:=2000000) (disch:=first|omega|(simp only[lenS];try omega)) only[go_sem,reduceAdd,reduceEqDiff,reduceLeDiff,reduceSub,H,w1,w2,e7,huj,hlt]
           clear w2 hlt x
           refine z1a (fun q s=>∃ v:Nat,v≤j∧u≤v+2∧q=v∧Sort.scanDown (fun x=>!ltC cm x A) E u v=Sort.scanDown (fun x=>!ltC cm x A) E u j∧s=⟨[.ref 0 1 0 d.size,I a,.any,.any,.clo w7h [],.any,.any,I u,I v,.any,.any,.any,.any,.any,.any],.row t false 1 (E.toList.map fun x=>ints (g x)) :: []⟩) j ?_ ?_
           ·simp (maxSteps:=2000000) (disch:=first|omega|(simp only[lenS];try omega)) only[go_sem,reduceAdd,reduceEqDiff,reduceLeDiff,reduceSub]
            exact⟨j,by omega,u2,rfl,rfl,rfl⟩
           ·rintro q s ⟨v,v1,v2,rfl,v4,rfl⟩
            have s0:=zce (fun x=>!ltC cm x A) E (i:=u) (j:=q)
            have s1:=zcf (fun x=>!ltC cm x A) E (i:=u) (j:=q)
            by_cases huv:(u:Int)≤q
            ·have w2:=z17q E (i:=q) (by omega)
             obtain⟨q',hq'⟩ : ∃ q':Nat,(q:Int)-1=q':=⟨q-1,by omega⟩
             by_cases hl2:cm E[q]! A<0
             ·have hdn:Sort.scanDown (fun x=>!ltC cm x A) E u j=q:=by rw[←v4];exact s0 (.inr (by simp [hl2]))
              rw[hdn,if_neg (by omega),show q-1=q' by omega] at hq
              have w3:=z17q E (i:=u) (by omega)
              have w4:=z17u (fun x=>ints (g x)) E u q
              have w6:=z17t (fun x=>ints (g x)) E (i:=u) (j:=q) E[q]! (by omega) (by omega)
              generalize (if u=q then E[q]! else E[q]!)=z at *
              generalize E[u]! = x at *
              generalize E[q]! = y at *
              simp (maxSteps:=2000000) (disch:=first|omega|(simp only[lenS];try omega)) only[go_sem,reduceAdd,reduceEqDiff,reduceLeDiff,reduceSub,H,w1,w2,w3,w6,e7,huv,hl2,hq']
              exact⟨q'+1-(u+1),by omega,u+1,q',Sort.swp E u q,by omega,by omega,by omega,by omega,rfl,by rw[Sort.size_swp];exact c4,by rw[←c5];exact hq.symm,by rw[w4];rfl⟩
             ·have s2:=s1 (by omega) (by omega) (by simp [hl2])
              rw[show q-1=q' by omega] at s2
              generalize E[q]! = y at *
              simp (maxSteps:=2000000) (disch:=first|omega|(simp only[lenS];try omega)) only[go_sem,reduceAdd,reduceEqDiff,reduceLeDiff,reduceSub,H,w1,w2,e7,huv,hl2,hq']
              exact⟨q',by omega,q',by omega,by omega,rfl,by rw[←v4,s2],rfl⟩
            ·have hdn:Sort.scanDown (fun x=>!ltC cm x A) E u j=q:=by rw[←v4];exact s0 (.inl (by omega))
             rw[hdn,if_pos (by omega)] at hq
             have w2:=z17q E (i:=q) (by omega)
             have w4:=z17u (fun x=>ints (g x)) E q a
             have w6:=z17t (fun x=>ints (g x)) E (i:=q) (j:=a) A (by omega) (by omega)
             rw[hA] at w4
             generalize (if q=a then A else E[a]!)=z at *
             generalize E[q]! = y at *
             simp (maxSteps:=2000000) (disch:=first|omega|(simp only[lenS];try omega)) only[go_sem,reduceAdd,reduceEqDiff,reduceLeDiff,reduceSub,huv,w1,w2,w6,e7]
             rw[hr,←c5,hq,w4]
         ·have hup:Sort.scanUp (fun x=>ltC cm x E[a]!) E j i=u:=by rw[←u4];exact s0 (.inl (by omega))
          rw[hup] at hq
          clear s0 s1 u4 hup
          simp (maxSteps:=2000000) (disch:=first|omega|(simp only[lenS];try omega)) only[go_sem,reduceAdd,reduceEqDiff,reduceLeDiff,reduceSub,huj]
          generalize hA:E[a]! = A at *
          refine z1a (fun q s=>∃ v:Nat,v≤j∧u≤v+2∧q=v∧Sort.scanDown (fun x=>!ltC cm x A) E u v=Sort.scanDown (fun x=>!ltC cm x A) E u j∧s=⟨[.ref 0 1 0 d.size,I a,.any,.any,.clo w7h [],.any,.any,I u,I v,.any,.any,.any,.any,.any,.any],.row t false 1 (E.toList.map fun x=>ints (g x)) :: []⟩) j ?_ ?_
          ·simp (maxSteps:=2000000) (disch:=first|omega|(simp only[lenS];try omega)) only[go_sem,reduceAdd,reduceEqDiff,reduceLeDiff,reduceSub]
           exact⟨j,by omega,u2,rfl,rfl,rfl⟩
          ·rintro q s ⟨v,v1,v2,rfl,v4,rfl⟩
           have s0:=zce (fun x=>!ltC cm x A) E (i:=u) (j:=q)
           have huv:¬(u:Int)≤q:=by omega
           have hdn:Sort.scanDown (fun x=>!ltC cm x A) E u j=q:=by rw[←v4];exact s0 (.inl (by omega))
           rw[hdn,if_pos (by omega)] at hq
           have w2:=z17q E (i:=q) (by omega)
           have w4:=z17u (fun x=>ints (g x)) E q a
           have w6:=z17t (fun x=>ints (g x)) E (i:=q) (j:=a) A (by omega) (by omega)
           rw[hA] at w4
           generalize (if q=a then A else E[a]!)=z at *
           generalize E[q]! = y at *
           simp (maxSteps:=2000000) (disch:=first|omega|(simp only[lenS];try omega)) only[go_sem,reduceAdd,reduceEqDiff,reduceLeDiff,reduceSub,huv,w1,w2,w6,e7]
           rw[hr,←c5,hq,w4]
      ·have s2:=s1 (by omega) (by omega) (by simp [hl2])
       rw[show q-1=q' by omega] at s2
       generalize E[q]! = y at *
       simp (maxSteps:=2000000) (disch:=first|omega|(simp only[lenS];try omega)) only[go_sem,reduceAdd,reduceEqDiff,reduceLeDiff,reduceSub,H,w1,w2,e7,huv,hl2,hq']
       exact⟨q',by omega,q',by omega,by omega,rfl,by rw[←v4,s2],rfl⟩
     ·have hdn:Sort.scanDown (fun x=>!ltC cm x A) E u j=q:=by rw[←v4];exact s0 (.inl (by omega))
      rw[hdn,if_pos (by omega)] at hq
      have w2:=z17q E (i:=q) (by omega)
      have w4:=z17u (fun x=>ints (g x)) E q a
      have w6:=z17t (fun x=>ints (g x)) E (i:=q) (j:=a) A (by omega) (by omega)
      rw[hA] at w4
      generalize (if q=a then A else E[a]!)=z at *
      generalize E[q]! = y at *
      simp (maxSteps:=2000000) (disch:=first|omega|(simp only[lenS];try omega)) only[go_sem,reduceAdd,reduceEqDiff,reduceLeDiff,reduceSub,huv,w1,w2,w6,e7]
      rw[hq,w4]
  ·have hup:Sort.scanUp (fun x=>ltC cm x E[a]!) E j i=u:=by rw[←u4];exact s0 (.inl (by omega))
   rw[hup] at hq
   clear s0 s1 u4 hup
   simp (maxSteps:=2000000) (disch:=first|omega|(simp only[lenS];try omega)) only[go_sem,reduceAdd,reduceEqDiff,reduceLeDiff,reduceSub,huj]
   generalize hA:E[a]! = A at *
   refine z1a (fun q s=>∃ v:Nat,v≤j∧u≤v+2∧q=v∧Sort.scanDown (fun x=>!ltC cm x A) E u v=Sort.scanDown (fun x=>!ltC cm x A) E u j∧s=⟨[.ref 0 1 0 d.size,I a,.any,.any,.clo w7h [],.any,.any,I u,I v,.any,.any,.any,.any,.any,.any],.row t false 1 (E.toList.map fun x=>ints (g x)) :: []⟩) j ?_ ?_
   ·simp (maxSteps:=2000000) (disch:=first|omega|(simp only[lenS];try omega)) only[go_sem,reduceAdd,reduceEqDiff,reduceLeDiff,reduceSub]
    exact⟨j,by omega,u2,rfl,rfl,rfl⟩
   ·rintro q s ⟨v,v1,v2,rfl,v4,rfl⟩
    have s0:=zce (fun x=>!ltC cm x A) E (i:=u) (j:=q)
    have huv:¬(u:Int)≤q:=by omega
    have hdn:Sort.scanDown (fun x=>!ltC cm x A) E u j=q:=by rw[←v4];exact s0 (.inl (by omega))
    rw[hdn,if_pos (by omega)] at hq
    have w2:=z17q E (i:=q) (by omega)
    have w4:=z17u (fun x=>ints (g x)) E q a
    have w6:=z17t (fun x=>ints (g x)) E (i:=q) (j:=a) A (by omega) (by omega)
    rw[hA] at w4
    generalize (if q=a then A else E[a]!)=z at *
    generalize E[q]! = y at *
    simp (maxSteps:=2000000) (disch:=first|omega|(simp only[lenS];try omega)) only[go_sem,reduceAdd,reduceEqDiff,reduceLeDiff,reduceSub,huv,w1,w2,w6,e7]
    rw[hq,w4]
theorem wej{α:Type}[Inhabited α](g:α→List Int)(cm:α→α→Int)(H : ∀ x y,C w7h [ints (g x),ints (g y)] []=some (I (cm x y),[]))(hw:Sort.SWO (ltC cm))(t:TypeId) : ∀ (n:Nat) (d:Array α) (a b:Nat) (lim:Int),b-a≤n→a≤b→b≤d.size→d.size<65536→0≤lim∧lim<2^40→Sort.Below (ltC cm) a b d →
    Lw (C w82 [.ref 0 1 0 d.size,I a,I b,I lim,.clo w7h []] (.row t false 1 (d.toList.map fun x=>ints (g x)) :: [])) fun r=>∃ E:Array α,r=(.tup [],.row t false 1 (E.toList.map fun x=>ints (g x)) :: [])∧Sort.PermIn a b d E∧Sort.SortedIn (ltC cm) a b E:=by
  intro n
  induction n using Nat.strongRecOn with
  | _ n IH =>
  intro d a b lim hn hab hb hs hlim hB
  refine w2m ?_
  simp (maxSteps:=2000000) (disch:=first|omega|(simp only[lenS];try omega)) only[wc2,go_sem,reduceAdd,reduceEqDiff,reduceLeDiff,reduceSub]
  refine z1a (fun k s=>∃ (a' b':Nat) (lim':Int) (E:Array α) (wb wp:Bool),k=b'-a'∧a'≤b'∧b'-a'≤n∧b'≤d.size∧E.size=d.size∧(0≤lim'∧lim'<2^40)∧Sort.Below (ltC cm) a' b' E∧(∀ R,Sort.PermIn a' b' E R→Sort.SortedIn (ltC cm) a' b' R→Sort.PermIn a b d R∧Sort.SortedIn (ltC cm) a b R)∧s=⟨[.ref 0 1 0 d.size,I a',I b',I lim',.clo w7h [],.bool wb,.bool wp,.any,.any,.any,.any,.any,.any,.any,.any,.any,.any,.any,.any,.any,.any,.any,.any,.any],.row t false 1 (E.toList.map fun x=>ints (g x)) :: []⟩) (b-a) ?_ ?_
  · simp (maxSteps:=2000000) (disch:=first|omega|(simp only[lenS];try omega)) only[go_sem,reduceAdd,reduceEqDiff,reduceLeDiff,reduceSub]
    exact⟨a,b,lim,d,true,true,rfl,hab,hn,hb,rfl,hlim,hB,fun R h1 h2=>⟨h1,h2⟩,rfl⟩
  · rintro k s ⟨a',b',lim',E,wb,wp,rfl,a1,a2,a3,a4,a5,a6,a7,rfl⟩
    clear hB hn hab hb hlim
    obtain⟨L,hL⟩ : ∃ L:Nat,(b':Int)-(a':Int)=L:=⟨b'-a',by omega⟩
    by_cases h12:(L:Int)≤12
    · have e1:=web g cm H t E a' b' a1 (by omega) (by omega)
      rw[a4] at e1
      obtain⟨i1,i2⟩:=Sort.insertionSort_holds hw E a' b' a1 (by omega)
      generalize Sort.insertionSort (ltC cm) E a' b'=R at *
      simp (maxSteps:=2000000) (disch:=first|omega|(simp only[lenS];try omega)) only[go_sem,reduceAdd,reduceEqDiff,reduceLeDiff,reduceSub,hL,h12,e1]
      exact⟨R,rfl,a7 R i1 i2⟩
    by_cases hl0:lim'=0
    · have e1:=wea g cm H t E a' b' a1 (by omega) (by omega)
      rw[a4] at e1
      obtain⟨i1,i2⟩:=Sort.heapSort_holds hw E a' b' a1 (by omega)
      generalize Sort.heapSort (ltC cm) E a' b'=R at *
      subst hl0
      simp (maxSteps:=2000000) (disch:=first|omega|(simp only[lenS];try omega)) only[go_sem,reduceAdd,reduceEqDiff,reduceLeDiff,reduceSub,hL,h12,e1]
      exact⟨R,rfl,a7 R i1 i2⟩
    refine z16 (W_seq (W.mono (Q:=fun o=>o=.next ⟨[.ref 0 1 0 d.size,I a',I b',I lim',.clo w7h [],.bool wb,.bool wp,I L,.any,.any,.any,.any,.any,.any,.any,.any,.any,.any,.any,.any,.any,.any,.any,.any],.row t false 1 (E.toList.map fun x=>ints (g x)) :: []⟩) ?_ ?_))
    · simp (maxSteps:=2000000) (disch:=first|omega|(simp only[lenS];try omega)) only[go_sem,reduceAdd,reduceEqDiff,reduceLeDiff,reduceSub,hL]
    rintro _ rfl
    refine W_seq (W.mono (Q:=fun o=>o=.next ⟨[.ref 0 1 0 d.size,I a',I b',I lim',.clo w7h [],.bool wb,.bool wp,I L,.any,.any,.any,.any,.any,.any,.any,.any,.bool false,.any,.any,.any,.any,.any,.any,.any],.row t false 1 (E.toList.map fun x=>ints (g x)) :: []⟩) ?_ ?_)
    · simp (maxSteps:=2000000) (disch:=first|omega|(simp only[lenS];try omega)) only[go_sem,reduceAdd,reduceEqDiff,reduceLeDiff,reduceSub,h12]
    rintro _ rfl
    refine W_seq (W.mono (Q:=fun o=>o=.next ⟨[.ref 0 1 0 d.size,I a',I b',I lim',.clo w7h [],.bool wb,.bool wp,I L,.any,.any,.any,.any,.any,.any,.any,.any,.bool false,.bool false,.any,.any,.any,.any,.any,.any],.row t false 1 (E.toList.map fun x=>ints (g x)) :: []⟩) ?_ ?_)
    · simp (maxSteps:=2000000) (disch:=first|omega|(simp only[lenS];try omega)) only[go_sem,reduceAdd,reduceEqDiff,reduceLeDiff,reduceSub,hl0]
    rintro _ rfl
    refine W_seq (W.mono (Q:=fun o=>∃ (E1:Array α) (lim1:Int),Sort.PermIn a' b' E E1∧(0≤lim1∧lim1<2^40)∧o=.next ⟨[.ref 0 1 0 d.size,I a',I b',I lim1,.clo w7h [],.bool wb,.bool wp,I L,.any,.any,.any,.any,.any,.any,.any,.any,.bool false,.bool false,.bool !wb,.any,.any,.any,.any,.any],.row t false 1 (E1.toList.map fun x=>ints (g x)) :: []⟩) ?_ ?_)
    · cases wb with
      | true =>
        simp (maxSteps:=2000000) (disch:=first|omega|(simp only[lenS];try omega)) only[go_sem,reduceAdd,reduceEqDiff,reduceLeDiff,reduceSub]
        exact⟨E,lim',Sort.permIn_refl E a' b',a5,rfl⟩
      | false =>
        obtain⟨_,e1,E1,rfl,p1⟩:=we8 g cm H t E a' b' (by omega) (by omega) (by omega)
        rw[a4] at e1
        simp (maxSteps:=2000000) (disch:=first|omega|(simp only[lenS];try omega)) only[go_sem,reduceAdd,reduceEqDiff,reduceLeDiff,reduceSub,e1]
        exact⟨E1,lim'-1,p1,by omega,rfl⟩
    rintro _ ⟨E1,lim1,p1,a5',rfl⟩
    have s1:=z10w p1
    obtain⟨_,e1,x,h,rfl,x1,x2,x3,x4⟩:=we9 g cm H t E1 a' b' (by omega) (by omega) (by omega)
    rw[s1,a4] at e1
    refine W_seq (W.mono (Q:=fun o=>o=.next ⟨[.ref 0 1 0 d.size,I a',I b',I lim1,.clo w7h [],.bool wb,.bool wp,I L,I x,I h,.any,.any,.any,.any,.any,.any,.bool false,.bool false,.bool !wb,.any,.any,.any,.any,.any],.row t false 1 (E1.toList.map fun x=>ints (g x)) :: []⟩) ?_ ?_)
    · simp (maxSteps:=2000000) (disch:=first|omega|(simp only[lenS];try omega)) only[go_sem,reduceAdd,reduceEqDiff,reduceLeDiff,reduceSub,e1]
    rintro _ rfl
    refine W_seq (W.mono (Q:=fun o=>∃ (E2:Array α) (pv:Nat) (h':Int) (q:Bool),Sort.PermIn a' b' E E2∧a'≤pv∧pv<b'∧o=.next ⟨[.ref 0 1 0 d.size,I a',I b',I lim1,.clo w7h [],.bool wb,.bool wp,I L,I pv,I h',.any,.any,.any,.any,.any,.any,.bool false,.bool false,.bool !wb,.bool q,.any,.any,.any,.any],.row t false 1 (E2.toList.map fun x=>ints (g x)) :: []⟩) ?_ ?_)
    · by_cases h2:h=2
      · subst h2
        obtain⟨_,e2,E2,rfl,p2⟩:=wek g cm H t E1 a' b' (by omega) (by omega) (by omega)
        rw[s1,a4] at e2
        simp (maxSteps:=2000000) (disch:=first|omega|(simp only[lenS];try omega)) only[go_sem,reduceAdd,reduceEqDiff,reduceLeDiff,reduceSub,e2]
        exact⟨E2,b'-1-(x-a'),1,true,Sort.permIn_trans E E1 E2 a' b' p1 p2,by omega,by omega,by rw[show((b'-1-(x-a'):Nat):Int)=(b':Int)-1-((x:Int)-a') by omega]⟩
      · simp (maxSteps:=2000000) (disch:=first|omega|(simp only[lenS];try omega)) only[go_sem,reduceAdd,reduceEqDiff,reduceLeDiff,reduceSub,h2]
        exact⟨E1,x,h,false,p1,x1,x2,rfl⟩
    rintro _ ⟨E2,pv,h',q,p2,v1,v2,rfl⟩
    have s2:=z10w p2
    have B2:=a6.permA Sort.permIn_all (by omega) p2
    refine W_seq (W.mono (Q:=fun o=>∃ (E3:Array α) (f:List PV),Sort.PermIn a' b' E E3∧((∃ z:PV,∃ y:Bool,o=.next ⟨[.ref 0 1 0 d.size,I a',I b',I lim1,.clo w7h [],.bool wb,.bool wp,I L,I pv,I h',.any,.any,.any,.any,.any,.any,.bool false,.bool false,.bool !wb,.bool q,.bool y,z,.any,.any],.row t false 1 (E3.toList.map fun x=>ints (g x)) :: []⟩)∨(Sort.SortedIn (ltC cm) a' b' E3∧o=.ret ⟨f,.row t false 1 (E3.toList.map fun x=>ints (g x)) :: []⟩))) ?_ ?_)
    · have e3:=weg g cm H t E2 a' b' (by omega) (by omega) (by omega)
      rw[s2,a4] at e3
      obtain⟨i1,i2⟩:=Sort.partialInsertionSort_holds hw E2 a' b' (by omega) (by omega) B2
      generalize Sort.partialInsertionSort (ltC cm) E2 a' b'=R at *
      obtain⟨R,w⟩:=R
      have i3:=Sort.permIn_trans E E2 R a' b' p2 i1
      simp only at e3 i2
      cases wb with
      | false =>
        simp (maxSteps:=2000000) (disch:=first|omega|(simp only[lenS];try omega)) only[go_sem,reduceAdd,reduceEqDiff,reduceLeDiff,reduceSub]
        exact⟨E2,[],p2,.inl ⟨_,_,rfl⟩⟩
      | true => cases wp with
        | false =>
          simp (maxSteps:=2000000) (disch:=first|omega|(simp only[lenS];try omega)) only[go_sem,reduceAdd,reduceEqDiff,reduceLeDiff,reduceSub]
          exact⟨E2,[],p2,.inl ⟨_,_,rfl⟩⟩
        | true =>
          by_cases h1:h'=1
          · subst h1
            cases w with
            | true =>
              simp (maxSteps:=2000000) (disch:=first|omega|(simp only[lenS];try omega)) only[go_sem,reduceAdd,reduceEqDiff,reduceLeDiff,reduceSub,e3]
              exact⟨R,_,i3,.inr ⟨i2 rfl,rfl⟩⟩
            | false =>
              simp (maxSteps:=2000000) (disch:=first|omega|(simp only[lenS];try omega)) only[go_sem,reduceAdd,reduceEqDiff,reduceLeDiff,reduceSub,e3]
              exact⟨R,[],i3,.inl ⟨_,_,rfl⟩⟩
          · simp (maxSteps:=2000000) (disch:=first|omega|(simp only[lenS];try omega)) only[go_sem,reduceAdd,reduceEqDiff,reduceLeDiff,reduceSub,h1]
            exact⟨E2,[],p2,.inl ⟨_,_,rfl⟩⟩
    rintro _ ⟨E3,f,p3,⟨z,y,rfl⟩ | ⟨sr,rfl⟩⟩
    · clear e1 p1 p2 s1 s2 B2
      have s3:=z10w p3
      have B3:=a6.permA Sort.permIn_all (by omega) p3
      have e7:E3.toList.length=d.size:=by simp [s3,a4]
      show W _ _ _ _ _
      refine W_seq (W.mono (Q:=fun o=>(o=.next ⟨[.ref 0 1 0 d.size,I a',I b',I lim1,.clo w7h [],.bool wb,.bool wp,I L,I pv,I h',.any,.any,.any,.any,.any,.any,.bool false,.bool false,.bool !wb,.bool q,.bool y,z,.bool false,.any],.row t false 1 (E3.toList.map fun x=>ints (g x)) :: []⟩)∨(∃ (mid:Nat) (d4:Array α),(a'<mid∧mid≤b'∧d4.size=E3.size∧Sort.Below (ltC cm) mid b' d4∧∀ R,Sort.PermIn mid b' d4 R→Sort.SortedIn (ltC cm) mid b' R→Sort.PermIn a' b' E3 R∧Sort.SortedIn (ltC cm) a' b' R)∧o=.exit 1 ⟨[.ref 0 1 0 d.size,I mid,I b',I lim1,.clo w7h [],.bool wb,.bool wp,I L,I pv,I h',I mid,.any,.any,.any,.any,.any,.bool false,.bool false,.bool !wb,.bool q,.bool y,z,.bool true,.any],.row t false 1 (d4.toList.map fun x=>ints (g x)) :: []⟩)) ?_ ?_)
      · by_cases h0:(0:Int)<a'
        · obtain⟨am,ham⟩ : ∃ am:Nat,(a':Int)-1=am:=⟨a'-1,by omega⟩
          have w1:=z17q E3 (i:=am) (by omega)
          have w2:=z17q E3 (i:=pv) (by omega)
          by_cases hlt:cm E3[am]! E3[pv]! < 0
          · generalize E3[am]! = x1 at *
            generalize E3[pv]! = x2 at *
            simp (maxSteps:=2000000) (disch:=first|omega|(simp only[lenS];try omega)) only[go_sem,reduceAdd,reduceEqDiff,reduceLeDiff,reduceSub,H,w1,w2,e7,ham,h0,hlt]
            first | exact .inl trivial | exact .inl rfl
          · have e4:=wei g cm H t E3 a' b' pv (by omega) (by omega) (by omega) (by omega)
            have hr:=fun mid d4 hx=>Sort.round_eq hw (Sort.partitionEqual_holds (ltC cm)) (d3:=E3) (d4:=d4) (a:=a') (b:=b') (pivot:=pv) (mid:=mid) (by omega) v1 v2 (by omega) B3 (by rw[show a'-1=am by omega];simp [hlt]) hx
            generalize Sort.partitionEqual (ltC cm) E3 a' b' pv=Z at *
            obtain⟨mid,d4⟩:=Z
            have hr:=hr mid d4 rfl
            simp only[s3,a4] at e4
            generalize E3[am]! = x1 at *
            generalize E3[pv]! = x2 at *
            simp (maxSteps:=2000000) (disch:=first|omega|(simp only[lenS];try omega)) only[go_sem,reduceAdd,reduceEqDiff,reduceLeDiff,reduceSub,H,w1,w2,e7,ham,h0,hlt,e4]
            exact .inr ⟨mid,d4,hr,rfl⟩
        · simp (maxSteps:=2000000) (disch:=first|omega|(simp only[lenS];try omega)) only[go_sem,reduceAdd,reduceEqDiff,reduceLeDiff,reduceSub,h0]
          first | exact .inl trivial | exact .inl rfl
      rintro _ (rfl | ⟨mid,d4,⟨r1,r2,r3,r4,r5⟩,rfl⟩)
      · have e4:=weh g cm H t E3 a' b' pv (by omega) (by omega) (by omega) (by omega)
        have hr:=fun mid ap d4 hx=>Sort.round_part hw (Sort.partition_holds (ltC cm)) (d3:=E3) (d4:=d4) (a:=a') (b:=b') (pivot:=pv) (mid:=mid) (ap:=ap) v1 v2 (by omega) B3 hx
        generalize Sort.partition (ltC cm) E3 a' b' pv=Z at *
        obtain⟨mid,ap,d4⟩:=Z
        obtain⟨r1,r2,r3,r4,r5,r6,r7⟩:=hr mid ap d4 rfl
        simp only[s3,a4] at e4
        have r3':d4.size=d.size:=by omega
        obtain⟨ll,hll⟩ : ∃ l:Nat,(mid:Int)-(a':Int)=l:=⟨mid-a',by omega⟩
        obtain⟨rl,hrl⟩ : ∃ l:Nat,(b':Int)-(mid:Int)=l:=⟨b'-mid,by omega⟩
        obtain⟨bt,hbt⟩ : ∃ l:Nat,(L:Int).tdiv 8=l:=⟨L / 8,(Int.ofNat_tdiv L 8).symm⟩
        obtain⟨mp,hmp⟩ : ∃ l:Nat,(mid:Int)+1=l:=⟨mid+1,by omega⟩
        obtain rfl:mp=mid+1:=by omega
        clear e7
        show W _ _ _ _ _
        by_cases hlr:(ll:Int)<rl
        · obtain⟨_,e5,F5,rfl,q1,q2⟩:=IH (mid-a') (by omega) d4 a' mid lim1 (Nat.le_refl _) r1 (by omega) (by omega) (by omega) r4
          obtain⟨q3,q4⟩:=r6 F5 q1 q2
          have q5:=z10w q1
          rw[r3'] at e5
          simp (maxSteps:=2000000) (disch:=first|omega|(simp only[lenS];try omega)) only[go_sem,reduceAdd,reduceEqDiff,reduceLeDiff,reduceSub,e4,hll,hrl,hbt,hlr,e5,hmp]
          refine⟨fun _=>⟨fun _=>?_,fun _=>?_⟩,fun _=>⟨fun _=>?_,fun _=>?_⟩⟩
          all_goals exact⟨b'-(mid+1),by omega,mid+1,b',lim1,F5,_,_,rfl,by omega,by omega,by omega,by omega,a5',q3,fun R h1 h2=>a7 R (Sort.permIn_trans E E3 R a' b' p3 (q4 R h1 h2).1) (q4 R h1 h2).2,rfl⟩
        · obtain⟨_,e5,F5,rfl,q1,q2⟩:=IH (b'-(mid+1)) (by omega) d4 (mid+1) b' lim1 (Nat.le_refl _) (by omega) (by omega) (by omega) (by omega) r5
          obtain⟨q3,q4⟩:=r7 F5 q1 q2
          have q5:=z10w q1
          rw[r3'] at e5
          simp (maxSteps:=2000000) (disch:=first|omega|(simp only[lenS];try omega)) only[go_sem,reduceAdd,reduceEqDiff,reduceLeDiff,reduceSub,e4,hll,hrl,hbt,hlr,e5,hmp]
          refine⟨fun _=>⟨fun _=>?_,fun _=>?_⟩,fun _=>⟨fun _=>?_,fun _=>?_⟩⟩
          all_goals exact⟨mid-a',by omega,a',mid,lim1,F5,_,_,rfl,by omega,by omega,by omega,by omega,a5',q3,fun R h1 h2=>a7 R (Sort.permIn_trans E E3 R a' b' p3 (q4 R h1 h2).1) (q4 R h1 h2).2,rfl⟩
      · simp (maxSteps:=2000000) (disch:=first|omega|(simp only[lenS];try omega)) only[go_sem,reduceAdd,reduceEqDiff,reduceLeDiff,reduceSub]
        exact⟨b'-mid,by omega,mid,b',lim1,d4,wb,wp,rfl,by omega,by omega,by omega,by omega,a5',r4,fun R h1 h2=>a7 R (Sort.permIn_trans E E3 R a' b' p3 (r5 R h1 h2).1) (r5 R h1 h2).2,rfl⟩
    · simp (maxSteps:=2000000) (disch:=first|omega|(simp only[lenS];try omega)) only[go_sem,reduceAdd,reduceEqDiff,reduceLeDiff,reduceSub]
      exact⟨E3,rfl,a7 E3 p3 sr⟩
theorem w6d(x:Int):C w6j [I x] []=some (.bool false,[]):=by
 refine w01 ?_
 simp (maxSteps:=2000000) (disch:=first|omega|(simp only[lenS];try omega)) only[wai,go_sem,reduceAdd,reduceEqDiff,reduceLeDiff,reduceSub]
theorem w6c(x y:Int):C w6i [I x,I y] []=some (I (cmpI x y),[]):=by
 refine w00 ?_
 simp (maxSteps:=2000000) (disch:=first|omega|(simp only[lenS];try omega)) only[wah,go_sem,reduceAdd,reduceEqDiff,reduceLeDiff,reduceSub]
 simp (maxSteps:=2000000) (disch:=first|omega|(simp only[lenS];try omega)) only[go_sem,reduceAdd,reduceEqDiff,reduceLeDiff,reduceSub,w6d]
 unfold cmpI
 refine⟨fun h=>by rw[if_pos h],fun h=>⟨fun h2=>by rw[if_neg (by omega),if_pos h2],fun h2=>by rw[if_neg (by omega),if_neg (by omega)]⟩⟩
theorem wdy(a b:List Int)(ha:a.length<2^60)(hb:b.length<2^60):C w7h [ints a,ints b] []=some (I (cmpL a b),[]):=by
 refine w0x ?_
 simp (maxSteps:=2000000) (disch:=first|omega|(simp only[lenS];try omega)) only[wbh,go_sem,reduceAdd,reduceEqDiff,reduceLeDiff,reduceSub]
 refine W_for a.length (fun k s=>s=⟨[ints a,ints b,.any,.any,.any,.any,.any,ints a,I a.length,I k,.any,.any,.any,.any],[]⟩∧k≤b.length∧a.take k=b.take k) ?_ ?_ ?_
 ·simp (maxSteps:=2000000) (disch:=first|omega|(simp only[lenS];try omega)) only[go_sem,reduceAdd,reduceEqDiff,reduceLeDiff,reduceSub]
  simp
 ·rintro k s hk ⟨rfl,h1,h2⟩
  have e1:a[k]? = some a[k]:=List.getElem?_eq_getElem hk
  by_cases hkb:(b.length:Int)≤k
  ·have:=zae h2 hk (by omega)
   simp (maxSteps:=2000000) (disch:=first|omega|(simp only[lenS];try omega)) only[go_sem,reduceAdd,reduceEqDiff,reduceLeDiff,reduceSub,e1,hkb]
   rw[this]
  ·have hkb2:k<b.length:=by omega
   have e2:b[k]? = some b[k]:=List.getElem?_eq_getElem hkb2
   have e3:=zaa h2 hk hkb2
   have e4:cmpI a[k] b[k]=0→a.take (k+1)=b.take (k+1):=fun h=>by rw[z1ek hk,z1ek hkb2,h2,za9 h]
   generalize a[k]=x at *
   generalize b[k]=y at *
   simp (maxSteps:=2000000) (disch:=first|omega|(simp only[lenS];try omega)) only[go_sem,reduceAdd,reduceEqDiff,reduceLeDiff,reduceSub,e1,e2,w6c,hkb]
   exact⟨fun h=>by rw[e3 h],fun h=>⟨rfl,by omega,e4 h⟩⟩
 ·rintro s ⟨rfl,h1,h2⟩
  have:=zac h2 h1
  simp (maxSteps:=2000000) (disch:=first|omega|(simp only[lenS];try omega)) only[go_sem,reduceAdd,reduceEqDiff,reduceLeDiff,reduceSub]
  rw[this]
  exact⟨fun h=>by rw[if_pos (by omega)],fun h=>by rw[if_neg (by omega)]⟩
theorem we7(l:List (List Int))(t:TypeId)(hx : ∀ x∈l,x.length<2^40)(hs:l.length<65536) :
  Lw (C w7q [.ref 0 1 0 l.length,.clo w7h []] [.row t false 1 (l.map ints)]) fun r=>∃ R:List (List Int),r=(.tup [],[.row t false 1 (R.map ints)])∧R.Perm l∧R.Pairwise leL:=by
 have:Inhabited {x:List Int // x.length<2^40}:=⟨⟨[],by simp⟩⟩
 obtain⟨d,hd⟩ : ∃ d:Array {x:List Int // x.length<2^40},d.toList.map (·.1)=l:=⟨(l.pmap (fun x h=>⟨x,h⟩) hx).toArray,by simp [List.map_pmap]⟩
 have hl:d.size=l.length:=by rw[←hd];simp
 have H : ∀ x y : {x:List Int // x.length<2^40},C w7h [ints x.1,ints y.1] []=some (I (cmpL x.1 y.1),[]):=fun x y=>wdy x.1 y.1 (by have:=x.2;omega) (by have:=y.2;omega)
 obtain⟨_,e1,E,rfl,p1,p2⟩:=wej (fun x : {x:List Int // x.length<2^40}=>x.1) (fun x y=>cmpL x.1 y.1) H (z1e2 fun _ _=>rfl) t d.size d 0 d.size (Sort.bitsLen d.size) (by omega) (by omega) (by omega) (by omega) ⟨by omega,by have:=(Sort.bitsLen_le_iff d.size 16).2 (by omega);omega⟩ (.inl rfl)
 have e2:=wdw d.size (by omega)
 have e3:IntKind.u64.wrap (d.size:Int)=d.size:=by rw[IntKind.wrap_u64];omega
 have hm:l.map ints=d.toList.map (fun x=>ints x.1):=by rw[←hd,List.map_map];rfl
 rw[hm,←hl]
 rw[show((0:Nat):Int)=0 from rfl] at e1
 generalize Sort.bitsLen d.size=z at *
 refine w2g ?_
 simp (maxSteps:=2000000) (disch:=first|omega|(simp only[lenS];try omega)) only[wbq,go_sem,reduceAdd,reduceEqDiff,reduceLeDiff,reduceSub]
 simp (maxSteps:=2000000) (disch:=first|omega|(simp only[lenS];try omega)) only[go_sem,reduceAdd,reduceEqDiff,reduceLeDiff,reduceSub,e2,e3,e1]
 refine⟨E.toList.map (·.1),by rw[List.map_map];rfl,?_,?_⟩
 ·rw[←hd];exact(z10x p1).map _
 ·rw[List.pairwise_map]
  have p3:=z10w p1
  rw[←p3] at p2
  refine(z10e p2).imp fun {x y} h=>?_
  exact zp6 (by simpa [ltC] using h)
def whole(n:Net)(start:List Int)(b:Int):Bool:=okEx n start b&&decide ((exAll n start b).code=0)
def wgp(n:Net)(start:List Int)(b:Int):PV:=if whole n start b then .agg [.un wgk false 1 ((exAll n start b).sp.ms.map ints),arcPV (exAll n start b).sp.ar] else .agg [.nil false 1,.nil true 3]
theorem wgr{n:Net}{start:List Int}{b:Int}:(if okEx n start b then exPV (exAll n start b) else .agg [.nil false 1,.nil true 3])=wgp n start b:=by
 unfold wgp whole exPV
 cases okEx n start b<;>simp
theorem wgq{n:Net}{start:List Int}{b:Int}(h:whole n start b=true):okEx n start b=true∧(exAll n start b).code=0∧ExOk n start b (exAll n start b)∧(exAll n start b).sp.ms.length≤400∧(exAll n start b).sp.ar.length≤20000∧Bfs (exAll n start b).sp.ar (exAll n start b).sp.ms.length∧0<(exAll n start b).sp.ms.length:=by
 simp only[whole,Bool.and_eq_true,decide_eq_true_eq] at h
 obtain⟨h1,hb⟩:=zvp h.1
 have f1:=(zdq h1 hb.1).1
 have hl:=f1.lenb
 refine⟨h.1,h.2,f1,by omega,zdn (zja (zs5 h1).1).2.2.1 hb.2,zdo h1 hb.1,?_⟩
 have:=f1.first
 rcases Nat.eq_zero_or_pos (exAll n start b).sp.ms.length with h | h
 ·rw[List.length_eq_zero_iff.1 h] at this;simp at this
 ·exact h
theorem waf(n:Net)(start:List Int)(b:Int)(hn:smN n)(hs:start.length<2^62):C w76 [encN n,ints start,I b] []=some (.tup [wgp n start b,.bool (whole n start b)],[]):=by
  have hx:=w9r n start b hn hs
  rw[wgr] at hx
  have hcode:=zdp n start b
  unfold wgp whole at hx ⊢
  cases h1:okEx n start b with
  | false =>
    simp only[h1,Bool.false_and,Bool.false_eq_true,if_false] at hx ⊢
    refine w0o ?_
    simp (maxSteps:=2000000) (disch:=first|omega|(simp only[lenS];try omega)) only[wb7,go_sem,reduceAdd,reduceEqDiff,reduceLeDiff,reduceSub]
    simp (maxSteps:=2000000) (disch:=first|omega|(simp only[lenS];try omega)) only[go_sem,reduceAdd,reduceEqDiff,reduceLeDiff,reduceSub,hx]
  | true =>
    simp only[h1,Bool.true_and,if_true] at hx ⊢
    generalize exAll n start b=R at *
    by_cases hc:R.code=0
    · by_cases ha:R.sp.ar=[]
      · simp only[w6e,arcPV,hc,ha,if_true,decide_true] at hx ⊢
        refine w0o ?_
        simp (maxSteps:=2000000) (disch:=first|omega|(simp only[lenS];try omega)) only[wb7,go_sem,reduceAdd,reduceEqDiff,reduceLeDiff,reduceSub]
        simp (maxSteps:=2000000) (disch:=first|omega|(simp only[lenS];try omega)) only[go_sem,reduceAdd,reduceEqDiff,reduceLeDiff,reduceSub,hx]
      · simp only[w6e,arcPV,hc,ha,if_true,if_false,decide_true] at hx ⊢
        refine w0o ?_
        simp (maxSteps:=2000000) (disch:=first|omega|(simp only[lenS];try omega)) only[wb7,go_sem,reduceAdd,reduceEqDiff,reduceLeDiff,reduceSub]
        simp (maxSteps:=2000000) (disch:=first|omega|(simp only[lenS];try omega)) only[go_sem,reduceAdd,reduceEqDiff,reduceLeDiff,reduceSub,hx]
    · have hc1:¬R.code=1:=by omega
      simp only[w6e,hc,if_false,decide_false,Bool.false_eq_true] at hx ⊢
      refine w0o ?_
      simp (maxSteps:=2000000) (disch:=first|omega|(simp only[lenS];try omega)) only[wb7,go_sem,reduceAdd,reduceEqDiff,reduceLeDiff,reduceSub]
      simp (maxSteps:=2000000) (disch:=first|omega|(simp only[lenS];try omega)) only[go_sem,reduceAdd,reduceEqDiff,reduceLeDiff,reduceSub,hx,hc1]
      first | done | (intro h;omega)
def silB(n:Net)(ls m:List Int)(b:Int):Bool:=whole n m b&&zj0 n ls
noncomputable def silR(n:Net)(ls m:List Int)(b:Int):List (List Int):=if silB n ls m b then silV ls (exAll n m b).sp.ms (exAll n m b).sp.ar else []
theorem w9q{n:Net}{ls:List Int}(h:zj0 n ls=true):ls.length=n.tr.length:=by
 simp only[zj0,Bool.and_eq_true,decide_eq_true_eq] at h;exact h.1.2
theorem w9y(n:Net)(ls m:List Int)(b:Int)(hn:smN n)(hl:ls.length<2^40)(hm:m.length<2^62):C w6q [encN n,ints ls,ints m,I b] []=some (.tup [.un wgk false 1 ((silR n ls m b).map ints),.bool (silB n ls m b)],[]):=by
  have hw:=waf n m b hn hm
  have hg:=w9u n ls hn hl
  unfold silR silB
  unfold wgp at hw
  cases h1:whole n m b with
  | false =>
    simp only[h1,Bool.false_and,Bool.false_eq_true,if_false] at hw ⊢
    refine w08 ?_
    simp (maxSteps:=2000000) (disch:=first|omega|(simp only[lenS];try omega)) only[wap,go_sem,reduceAdd,reduceEqDiff,reduceLeDiff,reduceSub]
    simp (maxSteps:=2000000) (disch:=first|omega|(simp only[lenS];try omega)) only[go_sem,reduceAdd,reduceEqDiff,reduceLeDiff,reduceSub,hw]
    first | done | rfl
  | true =>
    obtain⟨hoe,hc,f1,f2,f3,f4,hpos⟩:=wgq h1
    simp only[h1,if_true,Bool.true_and] at hw ⊢
    cases h2:zj0 n ls with
    | false =>
      rw[h2] at hg
      simp only[Bool.false_eq_true,if_false]
      generalize exAll n m b=R at *
      by_cases ha:R.sp.ar=[]
      · simp only[arcPV,ha,if_true] at hw
        refine w08 ?_
        simp (maxSteps:=2000000) (disch:=first|omega|(simp only[lenS];try omega)) only[wap,go_sem,reduceAdd,reduceEqDiff,reduceLeDiff,reduceSub]
        simp (maxSteps:=2000000) (disch:=first|omega|(simp only[lenS];try omega)) only[go_sem,reduceAdd,reduceEqDiff,reduceLeDiff,reduceSub,hw,hg]
        first | done | rfl
      · simp only[arcPV,ha,if_false] at hw
        refine w08 ?_
        simp (maxSteps:=2000000) (disch:=first|omega|(simp only[lenS];try omega)) only[wap,go_sem,reduceAdd,reduceEqDiff,reduceLeDiff,reduceSub]
        simp (maxSteps:=2000000) (disch:=first|omega|(simp only[lenS];try omega)) only[go_sem,reduceAdd,reduceEqDiff,reduceLeDiff,reduceSub,hw,hg]
        first | done | rfl
    | true =>
    rw[h2] at hg
    simp only[if_true]
    have hll:=w9q h2
    have hin:=f4.inn
    have hnd:=f1.nodup
    have hby : ∀ a∈(exAll n m b).sp.ar,0≤a.by_∧a.by_.toNat<ls.length:=fun a ha=>by
      obtain⟨g1,g2⟩:=Bool.and_eq_true ..▸(f1.arcs a ha).2.2.2.2.1
      obtain⟨_,_,g3,g4,_⟩:=z8e g1
      exact⟨g3,by omega⟩
    have hxs : ∀ x∈(exAll n m b).sp.ms,x.length≤16:=fun x hx=>by have:=zj2 (zs5 (f1.good x hx)).2;omega
    generalize (exAll n m b).sp.ms=ms at *
    generalize (exAll n m b).sp.ar=ar at *
    by_cases ha:ar=[]
    · simp only[arcPV,ha,if_true] at hw
      refine w08 ?_
      simp (maxSteps:=2000000) (disch:=first|omega|(simp only[lenS];try omega)) only[wap,go_sem,reduceAdd,reduceEqDiff,reduceLeDiff,reduceSub]
      simp (maxSteps:=2000000) (disch:=first|omega|(simp only[lenS];try omega)) only[go_sem,reduceAdd,reduceEqDiff,reduceLeDiff,reduceSub,hw,hg]
      refine z1a (fun j s=>∃ (q:List Int) (i:Nat),SB (silA ls ar) ms.length q i∧j=ms.length-i∧s=⟨[.any,ints ls,.any,.any,.any,.any,.any,.ptr 0 0,.any,.ref 1 1 0 q.length,I i,.any,.any,.any,.any,.any,.any,.any,.any,.any,.any,.any,.any,.any,.any],[.box wgi [.ref 2 1 0 ms.length,.nil true 3],.row t_int true 1 (q.map I),.row wgk false 1 (ms.map ints)]⟩) ms.length ?_ ?_
      · refine⟨[0],0,SB.first hpos,by omega,?_⟩
        simp (maxSteps:=2000000) (disch:=first|omega|(simp only[lenS];try omega)) only[go_sem,reduceAdd,reduceEqDiff,reduceLeDiff,reduceSub]
        first | done | rfl
      · rintro j s ⟨q,i,hB,rfl,rfl⟩
        have hql:=hB.len
        by_cases hi:i<q.length
        · have gi:q[i]? = some q[i]:=List.getElem?_eq_getElem hi
          have hlk:=hB.look hi
          generalize q[i]=x at *
          simp (maxSteps:=2000000) (disch:=first|omega|(simp only[lenS];try omega)) only[go_sem,reduceAdd,reduceEqDiff,reduceLeDiff,reduceSub,gi]
          refine W_for 0 (fun k s=>k=0∧s=⟨[.any,ints ls,.any,.any,.any,.any,.any,.ptr 0 0,.any,.ref 1 1 0 q.length,I i,.any,.any,.any,.any,.any,.nil true 3,I 0,I 0,.any,.any,.any,.any,.any,.any],[.box wgi [.ref 2 1 0 ms.length,.nil true 3],.row t_int true 1 (q.map I),.row wgk false 1 (ms.map ints)]⟩) ?_ ?_ ?_
          · simp (maxSteps:=2000000) (disch:=first|omega|(simp only[lenS];try omega)) only[go_sem,reduceAdd,reduceEqDiff,reduceLeDiff,reduceSub]
            first | done | rfl | exact⟨rfl,rfl⟩
          · intro k s hk;omega
          · rintro s ⟨_,rfl⟩
            simp (maxSteps:=2000000) (disch:=first|omega|(simp only[lenS];try omega)) only[go_sem,reduceAdd,reduceEqDiff,reduceLeDiff,reduceSub]
            have hs:SC (silA ls ar) (silA ls ar) ms.length q i x:=by
              rw[show silA ls ar=[] by rw[ha];rfl] at hlk ⊢;exact hlk
            exact⟨ms.length-(i+1),by omega,q,i+1,hs.next,rfl,rfl⟩
        · have hiq:i=q.length:=by have:=hB.le;omega
          subst hiq
          simp (maxSteps:=2000000) (disch:=first|omega|(simp only[lenS];try omega)) only[go_sem,reduceAdd,reduceEqDiff,reduceLeDiff,reduceSub]
          refine W_for q.length (fun k s=>s=⟨[.any,.any,.any,.any,.any,.any,.any,.ptr 0 0,.any,.any,.any,.any,.ref 1 1 0 k,.any,.any,.any,.any,.any,.any,.any,.any,.ref 2 1 0 q.length,I q.length,I k,.any],[.box wgi [.ref 3 1 0 ms.length,.nil true 3],.row wgk false 1 ((q.take k).map fun x=>ints (ms.getD x.toNat [])),.row t_int true 1 (q.map I),.row wgk false 1 (ms.map ints)]⟩) ?_ ?_ ?_
          · simp (maxSteps:=2000000) (disch:=first|omega|(simp only[lenS];try omega)) only[go_sem,reduceAdd,reduceEqDiff,reduceLeDiff,reduceSub]
            first | done | rfl
          · rintro k s hk rfl
            have hx:=hB.inn _ (List.getElem_mem hk)
            have g1:q[k]? = some q[k]:=List.getElem?_eq_getElem hk
            have g2:(q.take k).length=k:=by simp;omega
            have g3:(q.take (k+1)).map (fun x=>ints (ms.getD x.toNat []))=(q.take k).map (fun x=>ints (ms.getD x.toNat []))++[ints (ms.getD q[k].toNat [])]:=by rw[List.take_succ_eq_append_getElem hk,List.map_append];rfl
            have g4:ms[q[k].toNat]? = some (ms.getD q[k].toNat []):=by rw[List.getElem?_eq_getElem (by omega),zik (by omega)]
            have g5:=hxs _ (zij (show q[k].toNat<ms.length by omega))
            rw[g3]
            generalize q[k]=x at *
            generalize ms.getD x.toNat []=m at *
            simp (maxSteps:=2000000) (disch:=first|omega|(simp only[lenS];try omega)) only[go_sem,reduceAdd,reduceEqDiff,reduceLeDiff,reduceSub,g1,g2,g4,wdx]
            first | done | rfl
          · rintro s rfl
            rw[List.take_length,show(q.map fun x=>ints (ms.getD x.toNat []))=(q.map fun x=>ms.getD x.toNat []).map ints by rw[List.map_map];rfl]
            obtain⟨_,e1,R,rfl,r1,r2⟩:=we7 (q.map fun x=>ms.getD x.toNat []) wgk (fun x hx=>by
              obtain⟨y,hy,rfl⟩:=List.mem_map.1 hx
              have:=hB.inn y hy
              have:=hxs _ (zij (show y.toNat<ms.length by omega));omega) (by simp;omega)
            have hR:=z1a0 hnd hB r1 r2
            have hRl:R.length=q.length:=by rw[r1.length_eq,List.length_map]
            rw[List.length_map] at e1
            simp (maxSteps:=2000000) (disch:=first|omega|(simp only[lenS];try omega)) only[go_sem,reduceAdd,reduceEqDiff,reduceLeDiff,reduceSub,e1,hRl]
            rw[←hR]
            first | done | rfl | simp [r1.length_eq]
    · simp only[arcPV,ha,if_false] at hw
      refine w08 ?_
      simp (maxSteps:=2000000) (disch:=first|omega|(simp only[lenS];try omega)) only[wap,go_sem,reduceAdd,reduceEqDiff,reduceLeDiff,reduceSub]
      simp (maxSteps:=2000000) (disch:=first|omega|(simp only[lenS];try omega)) only[go_sem,reduceAdd,reduceEqDiff,reduceLeDiff,reduceSub,hw,hg]
      refine z1a (fun j s=>∃ (q:List Int) (i:Nat),SB (silA ls ar) ms.length q i∧j=ms.length-i∧s=⟨[.any,ints ls,.any,.any,.any,.any,.any,.ptr 0 0,.any,.ref 1 1 0 q.length,I i,.any,.any,.any,.any,.any,.any,.any,.any,.any,.any,.any,.any,.any,.any],[.box wgi [.ref 2 1 0 ms.length,.ref 3 3 0 ar.length],.row t_int true 1 (q.map I),.row wgk false 1 (ms.map ints),.row wge true 3 (ar.map encA)]⟩) ms.length ?_ ?_
      · refine⟨[0],0,SB.first hpos,by omega,?_⟩
        simp (maxSteps:=2000000) (disch:=first|omega|(simp only[lenS];try omega)) only[go_sem,reduceAdd,reduceEqDiff,reduceLeDiff,reduceSub]
        first | done | rfl
      · rintro j s ⟨q,i,hB,rfl,rfl⟩
        have hql:=hB.len
        by_cases hi:i<q.length
        · have gi:q[i]? = some q[i]:=List.getElem?_eq_getElem hi
          have hlk:=hB.look hi
          generalize q[i]=x at *
          simp (maxSteps:=2000000) (disch:=first|omega|(simp only[lenS];try omega)) only[go_sem,reduceAdd,reduceEqDiff,reduceLeDiff,reduceSub,gi]
          refine W_for ar.length (fun k s=>∃ q':List Int,SC (silA ls ar) (silA ls (ar.take k)) ms.length q' i x∧s=⟨[.any,ints ls,.any,.any,.any,.any,.any,.ptr 0 0,.any,.ref 1 1 0 q'.length,I i,.any,.any,.any,.any,.any,.ref 2 3 0 ar.length,I ar.length,I k,.any,.any,.any,.any,.any,.any],[.box wgi [.ref 3 1 0 ms.length,.ref 2 3 0 ar.length],.row t_int true 1 (q'.map I),.row wge true 3 (ar.map encA),.row wgk false 1 (ms.map ints)]⟩) ?_ ?_ ?_
          · refine⟨q,hlk,?_⟩
            simp (maxSteps:=2000000) (disch:=first|omega|(simp only[lenS];try omega)) only[go_sem,reduceAdd,reduceEqDiff,reduceLeDiff,reduceSub]
            first | done | rfl
          · rintro k s hk ⟨q',hS,rfl⟩
            obtain⟨a1,a2,a3,a4⟩:=hin _ (List.getElem_mem hk)
            obtain⟨b1,b2⟩:=hby _ (List.getElem_mem hk)
            have hq':=hS.toSB.len
            have g0:ls[ar[k].by_.toNat]? = some (at_ ls ar[k].by_):=by rw[List.getElem?_eq_getElem b2,at_eq b2]
            have gi:q'[i]? = some x:=hS.at_
            have gil:=hS.lt
            have hcn:=we1 q' ar[k].dst (by omega)
            have s0:=z19v (ls:=ls) hk
            have s1:=z19x (ls:=ls) hk
            have hmA:at_ ls ar[k].by_=0→(⟨ar[k].dst,ar[k].by_,ar[k].src⟩:Arc3)∈silA ls ar:=fun h=>z19u.2 ⟨_,List.getElem_mem hk,h,rfl⟩
            generalize silA ls (ar.take (k+1))=B' at *
            generalize silA ls (ar.take k)=B at *
            generalize hAr:ar[k]=a at *
            generalize hv:at_ ls a.by_=v at *
            by_cases h1:a.src=x
            · by_cases h2:v=0
              · rw[s1 h2]
                by_cases h3:a.dst∈q'
                · have hc:hasB q' a.dst=true:=by simp [hasB,h3]
                  rw[hc] at hcn
                  simp (maxSteps:=2000000) (disch:=first|omega|(simp only[lenS];try omega)) only[go_sem,reduceAdd,reduceEqDiff,reduceLeDiff,reduceSub,hAr,gi,g0,h1,h2,hcn]
                  exact⟨q',hS.skip (fun _=>h3),rfl⟩
                · have hc:hasB q' a.dst=false:=by simp [hasB,h3]
                  rw[hc] at hcn
                  have hadd:=hS.add (z19s hin) (hmA h2) h1 h3
                  simp (maxSteps:=2000000) (disch:=first|omega|(simp only[lenS];try omega)) only[go_sem,reduceAdd,reduceEqDiff,reduceLeDiff,reduceSub,hAr,gi,g0,h1,h2,hcn]
                  exact⟨q'++[a.dst],by simpa only[h1] using hadd,by simp⟩
              · rw[s0 h2]
                simp (maxSteps:=2000000) (disch:=first|omega|(simp only[lenS];try omega)) only[go_sem,reduceAdd,reduceEqDiff,reduceLeDiff,reduceSub,hAr,gi,g0,h1,h2]
                exact⟨q',hS,rfl⟩
            · have hs:SC (silA ls ar) B' ms.length q' i x:=by
                by_cases h2:v=0
                · rw[s1 h2];exact hS.skip (fun e=>absurd e h1)
                · rw[s0 h2];exact hS
              simp (maxSteps:=2000000) (disch:=first|omega|(simp only[lenS];try omega)) only[go_sem,reduceAdd,reduceEqDiff,reduceLeDiff,reduceSub,hAr,gi,g0,h1]
              exact⟨q',hs,rfl⟩
          · rintro s ⟨q',hS,rfl⟩
            rw[List.take_length] at hS
            simp (maxSteps:=2000000) (disch:=first|omega|(simp only[lenS];try omega)) only[go_sem,reduceAdd,reduceEqDiff,reduceLeDiff,reduceSub]
            exact⟨ms.length-(i+1),by omega,q',i+1,hS.next,rfl,rfl⟩
        · have hiq:i=q.length:=by have:=hB.le;omega
          subst hiq
          simp (maxSteps:=2000000) (disch:=first|omega|(simp only[lenS];try omega)) only[go_sem,reduceAdd,reduceEqDiff,reduceLeDiff,reduceSub]
          refine W_for q.length (fun k s=>s=⟨[.any,.any,.any,.any,.any,.any,.any,.ptr 0 0,.any,.any,.any,.any,.ref 1 1 0 k,.any,.any,.any,.any,.any,.any,.any,.any,.ref 2 1 0 q.length,I q.length,I k,.any],[.box wgi [.ref 3 1 0 ms.length,.ref 4 3 0 ar.length],.row wgk false 1 ((q.take k).map fun x=>ints (ms.getD x.toNat [])),.row t_int true 1 (q.map I),.row wgk false 1 (ms.map ints),.row wge true 3 (ar.map encA)]⟩) ?_ ?_ ?_
          · simp (maxSteps:=2000000) (disch:=first|omega|(simp only[lenS];try omega)) only[go_sem,reduceAdd,reduceEqDiff,reduceLeDiff,reduceSub]
            first | done | rfl
          · rintro k s hk rfl
            have hx:=hB.inn _ (List.getElem_mem hk)
            have g1:q[k]? = some q[k]:=List.getElem?_eq_getElem hk
            have g2:(q.take k).length=k:=by simp;omega
            have g3:(q.take (k+1)).map (fun x=>ints (ms.getD x.toNat []))=(q.take k).map (fun x=>ints (ms.getD x.toNat []))++[ints (ms.getD q[k].toNat [])]:=by rw[List.take_succ_eq_append_getElem hk,List.map_append];rfl
            have g4:ms[q[k].toNat]? = some (ms.getD q[k].toNat []):=by rw[List.getElem?_eq_getElem (by omega),zik (by omega)]
            have g5:=hxs _ (zij (show q[k].toNat<ms.length by omega))
            rw[g3]
            generalize q[k]=x at *
            generalize ms.getD x.toNat []=m at *
            simp (maxSteps:=2000000) (disch:=first|omega|(simp only[lenS];try omega)) only[go_sem,reduceAdd,reduceEqDiff,reduceLeDiff,reduceSub,g1,g2,g4,wdx]
            first | done | rfl
          · rintro s rfl
            rw[List.take_length,show(q.map fun x=>ints (ms.getD x.toNat []))=(q.map fun x=>ms.getD x.toNat []).map ints by rw[List.map_map];rfl]
            obtain⟨_,e1,R,rfl,r1,r2⟩:=we7 (q.map fun x=>ms.getD x.toNat []) wgk (fun x hx=>by
              obtain⟨y,hy,rfl⟩:=List.mem_map.1 hx
              have:=hB.inn y hy
              have:=hxs _ (zij (show y.toNat<ms.length by omega));omega) (by simp;omega)
            have hR:=z1a0 hnd hB r1 r2
            have hRl:R.length=q.length:=by rw[r1.length_eq,List.length_map]
            rw[List.length_map] at e1
            simp (maxSteps:=2000000) (disch:=first|omega|(simp only[lenS];try omega)) only[go_sem,reduceAdd,reduceEqDiff,reduceLeDiff,reduceSub,e1,hRl]
            rw[←hR]
            first | done | rfl | simp [r1.length_eq]
theorem wga(n:Net)(start:List Int)(b:Int)(hn:smN n)(hs:start.length<2^62):C w9m [encN n,ints start,I b] []=some (.bool (okEx n start b),[]):=by
 refine w2d ?_
 simp (maxSteps:=2000000) (disch:=first|omega|(simp only[lenS];try omega)) only[wdm,go_sem,reduceAdd,reduceEqDiff,reduceLeDiff,reduceSub]
 simp (maxSteps:=2000000) (disch:=first|omega|(simp only[lenS];try omega)) only[go_sem,reduceAdd,reduceEqDiff,reduceLeDiff,reduceSub,wg4 n start hn hs,wfr]
 unfold okEx;grind
theorem wg0(a b:List Int)(hl:a.length<2^62):C w9c [ints a,ints b] []=some (.bool (decide (a=b)),[]):=by
 refine w23 ?_
 simp (maxSteps:=2000000) (disch:=first|omega|(simp only[lenS];try omega)) only[wdc,go_sem,reduceAdd,reduceEqDiff,reduceLeDiff,reduceSub]
 refine⟨fun h=>?_,fun h=>?_⟩
 ·have:a≠b:=fun e=>h (by rw[e])
  simp [this]
 refine W_for a.length (fun k s=>s=⟨[ints a,ints b,.any,.any,.any,I a.length,I k,.any,.any],[]⟩∧a.take k=b.take k) ?_ ?_ ?_
 ·simp (maxSteps:=2000000) (disch:=first|omega|(simp only[lenS];try omega)) only[go_sem,reduceAdd,reduceEqDiff,reduceLeDiff,reduceSub]
  rfl
 ·rintro k s hk ⟨rfl,hall⟩
  simp (maxSteps:=2000000) (disch:=first|omega|(simp only[lenS];try omega)) only[go_sem,reduceAdd,reduceEqDiff,reduceLeDiff,reduceSub]
  refine⟨fun h=>?_,fun h=>⟨rfl,?_⟩⟩
  ·have:a≠b:=fun e=>h (by simp [e])
   simp [this]
  ·rw[z1ek hk,z1ek (show k<b.length by omega),hall,h]
 ·rintro s ⟨rfl,hall⟩
  simp (maxSteps:=2000000) (disch:=first|omega|(simp only[lenS];try omega)) only[go_sem,reduceAdd,reduceEqDiff,reduceLeDiff,reduceSub]
  rw[List.take_length,List.take_of_length_le (by omega)] at hall
  simp [hall]
theorem wgc(ms:List (List Int))(m:List Int)(hl:ms.length<2^62)(hx : ∀ x∈ms,x.length<2^62):C w9o [rows ms,ints m] []=some (I (findM ms m),[]):=by
 refine w2f ?_
 simp (maxSteps:=2000000) (disch:=first|omega|(simp only[lenS];try omega)) only[wdo,go_sem,reduceAdd,reduceEqDiff,reduceLeDiff,reduceSub]
 refine W_for ms.length (fun k s=>s=⟨[.any,ints m,.any,.any,.any,rows ms,I ms.length,I k,.any,.any],[]⟩∧(ms.take k).any (fun x=>decide (x=m))=false) ?_ ?_ ?_
 ·simp (maxSteps:=2000000) (disch:=first|omega|(simp only[lenS];try omega)) only[go_sem,reduceAdd,reduceEqDiff,reduceLeDiff,reduceSub]
  rfl
 ·rintro k s hk ⟨rfl,hall⟩
  have hxk:=hx _ (List.getElem_mem hk)
  simp (maxSteps:=2000000) (disch:=first|omega|(simp only[lenS];try omega)) only[go_sem,reduceAdd,reduceEqDiff,reduceLeDiff,reduceSub,wg0]
  refine⟨fun h=>?_,fun h=>⟨rfl,z3e hk hall (decide_eq_false h)⟩⟩
  unfold findM
  rw[zkg hk hall (decide_eq_true h)]
 ·rintro s ⟨rfl,hall⟩
  simp (maxSteps:=2000000) (disch:=first|omega|(simp only[lenS];try omega)) only[go_sem,reduceAdd,reduceEqDiff,reduceLeDiff,reduceSub]
  rw[List.take_length] at hall
  unfold findM
  rw[zkf hall]
theorem wgb(n:Net)(start:List Int)(b:Int)(hm:zs4 n start=true)(hb:1≤b∧b≤400):C w9n [encN n,ints start,I b] []=some (.tup [exPV (exAll n start b),I (w6e (exAll n start b))],[]):=by
  obtain⟨hg,hmk⟩:=zs5 hm
  have hn:=zja hg
  have hs:=zj2 hmk
  refine w2e ?_
  simp (maxSteps:=2000000) (disch:=first|omega|(simp only[lenS];try omega)) only[wdn,go_sem,reduceAdd,reduceEqDiff,reduceLeDiff,reduceSub]
  simp (maxSteps:=2000000) (disch:=first|omega|(simp only[lenS];try omega)) only[go_sem,reduceAdd,reduceEqDiff,reduceLeDiff,reduceSub,wfu start (by omega)]
  generalize hR:exAll n start b=R
  refine z1a (fun d s=>∃ (k:Nat) (c:Ex),d+k=b.toNat+1∧ExOk n start b c∧c.code=0∧k≤c.sp.ms.length∧c.sp.ar.length≤24*k∧exRun n b (d+1) k c=R∧((s=⟨[.any,.any,I b,.ptr 0 0,.ptr 1 0,.any,.ptr 2 0,I k,.any,.any,.any,.any,.any,.any,.any,.any,.any,.any,.any],[.box wgh [I n.pl,trs n.tr],.box wgi [.nil false 1,.nil true 3],.box wgi [.ref 3 1 0 c.sp.ms.length,.nil true 3],.row wgk false 1 (c.sp.ms.map ints)]⟩∧c.sp.ar=[])∨(s=⟨[.any,.any,I b,.ptr 0 0,.ptr 1 0,.any,.ptr 2 0,I k,.any,.any,.any,.any,.any,.any,.any,.any,.any,.any,.any],[.box wgh [I n.pl,trs n.tr],.box wgi [.nil false 1,.nil true 3],.box wgi [.ref 3 1 0 c.sp.ms.length,.ref 4 3 0 c.sp.ar.length],.row wgk false 1 (c.sp.ms.map ints),.row wge true 3 (c.sp.ar.map encA)]⟩∧c.sp.ar≠[]))) (b.toNat+1) ?_ ?_
  · refine⟨0,⟨⟨[start],[]⟩,0⟩,by omega,w6f hm hb.1,rfl,by omega,by simp,hR,.inl ⟨?_,rfl⟩⟩
    simp (maxSteps:=2000000) (disch:=first|omega|(simp only[lenS];try omega)) only[go_sem,reduceAdd,reduceEqDiff,reduceLeDiff,reduceSub]
    rfl
  · rintro d s ⟨k,c,hd,hok,hc0,hk,hal,hrun,hcs⟩
    have hlb:=hok.lenb
    by_cases hkl:k<c.sp.ms.length
    · have hmem:=zij hkl
      have hmg:=zs5 (hok.good _ hmem)
      have hml:=zj2 hmg.2
      have en:=wg2 n (c.sp.ms.getD k []) hg hml.2.2.1
      have hLl:(enabL n (c.sp.ms.getD k [])).length≤n.tr.length:=zd2 ..
      have er:exRun n b (d+1) k c=exRun n b d (k+1) (exL n b k c (enabL n (c.sp.ms.getD k []))):=by
        show(if c.code≠0 then c else if k<c.sp.ms.length then _ else c)=_
        rw[if_neg (by omega),if_pos hkl]
      rw[er] at hrun
      have hen : ∀ t∈enabL n (c.sp.ms.getD k []),t∈enabL n (c.sp.ms.getD k []):=fun t h=>h
      generalize hL:enabL n (c.sp.ms.getD k [])=L at *
      rcases hcs with⟨rfl,har⟩ | ⟨rfl,har⟩
      all_goals
        simp (maxSteps:=2000000) (disch:=first|omega|(simp only[lenS];try omega)) only[go_sem,reduceAdd,reduceEqDiff,reduceLeDiff,reduceSub,zik,en]
        refine W_for L.length (fun j s=>∃ c':Ex,ExOk n start b c'∧c'.code=0∧k<c'.sp.ms.length∧enabL n (c'.sp.ms.getD k [])=L∧c'.sp.ar.length≤24*k+j∧exRun n b d (k+1) (exL n b k c' (L.drop j))=R∧((s=⟨[.any,.any,I b,.ptr 0 0,.ptr 1 0,.any,.ptr 2 0,I k,.any,.any,.any,.any,.ref 3 1 0 L.length,I L.length,I j,.any,.any,.any,.any],[.box wgh [I n.pl,trs n.tr],.box wgi [.nil false 1,.nil true 3],.box wgi [.ref 4 1 0 c'.sp.ms.length,.nil true 3],.row t_int true 1 (L.map I),.row wgk false 1 (c'.sp.ms.map ints)]⟩∧c'.sp.ar=[])∨(s=⟨[.any,.any,I b,.ptr 0 0,.ptr 1 0,.any,.ptr 2 0,I k,.any,.any,.any,.any,.ref 3 1 0 L.length,I L.length,I j,.any,.any,.any,.any],[.box wgh [I n.pl,trs n.tr],.box wgi [.nil false 1,.nil true 3],.box wgi [.ref 4 1 0 c'.sp.ms.length,.ref 5 3 0 c'.sp.ar.length],.row t_int true 1 (L.map I),.row wgk false 1 (c'.sp.ms.map ints),.row wge true 3 (c'.sp.ar.map encA)]⟩∧c'.sp.ar≠[]))) ?_ ?_ ?_
        · refine⟨c,hok,hc0,hkl,hL,by omega,hrun,?_⟩
          first
          | refine .inl ⟨?_, har⟩
            simp (maxSteps:=2000000) (disch:=first|omega|(simp only[lenS];try omega)) only[go_sem,reduceAdd,reduceEqDiff,reduceLeDiff,reduceSub]
            done
          | refine .inl ⟨?_, har⟩
            simp (maxSteps:=2000000) (disch:=first|omega|(simp only[lenS];try omega)) only[go_sem,reduceAdd,reduceEqDiff,reduceLeDiff,reduceSub]
            rfl
          | refine .inr ⟨?_, har⟩
            simp (maxSteps:=2000000) (disch:=first|omega|(simp only[lenS];try omega)) only[go_sem,reduceAdd,reduceEqDiff,reduceLeDiff,reduceSub]
            done
          | refine .inr ⟨?_, har⟩
            simp (maxSteps:=2000000) (disch:=first|omega|(simp only[lenS];try omega)) only[go_sem,reduceAdd,reduceEqDiff,reduceLeDiff,reduceSub]
            rfl
        · rintro j s hj ⟨c',hok',hc0',hkl',hL',hal',hrun',hcs'⟩
          have hlb':=hok'.lenb
          have ht:L[j]∈enabL n (c'.sp.ms.getD k []):=by rw[hL'];exact List.getElem_mem hj
          obtain⟨t1,t2,t3⟩:=zd4.1 ht
          have hT:=hn.2.2.2 (trAt n L[j]) (by rw[←z1ex t2];exact List.getElem_mem _)
          have hm2:=zj2 (zs5 (hok'.good _ (zij hkl'))).2
          have hx:=zjh hT hm2.2.2.1
          have hy:=zjg hT (by omega)
          have hfire:=wg3 (trAt n L[j]) (c'.sp.ms.getD k []) hx.1 hx.2.1 hx.2.2 ⟨by omega,by omega,by omega⟩ (by omega) hm2.2.2.2.2
          have hMl:=zge (trAt n L[j]) (c'.sp.ms.getD k [])
          have hok2:=zef hok' hkl' ht
          have hxs : ∀ x∈c'.sp.ms,x.length<2^62:=fun x hx=>by have:=zj2 (zs5 (hok'.good x hx)).2;omega
          rw[zdw hj] at hrun'
          have f1:=zek (n:=n) (b:=b) (k:=k) (s:=c') (t:=L[j]) hc0'
          have f2:=zeg (n:=n) (b:=b) (k:=k) (s:=c') (t:=L[j]) hc0'
          have f3:=zec (n:=n) (b:=b) (k:=k) (s:=c') (t:=L[j]) hc0'
          have f4:=zee (n:=n) (b:=b) (k:=k) (s:=c') (t:=L[j]) hc0'
          generalize hM:zgc (trAt n L[j]) (c'.sp.ms.getD k [])=M at *
          have ck:C w8d [I n.pl,ints M] []=some (.bool (M.all (inB 0 50)),[]):=by
            rw[weu n.pl M (by omega)]
            have h9:inB 1 16 n.pl=true:=by simp [inB];omega
            have h10:((M.length:Int) == n.pl)=true:=by simp;omega
            simp only[goodM,h9,h10,Bool.true_and]
          have fd:=wgc c'.sp.ms M (by omega) hxs
          have hsl : ∀ c2:Ex,c2.code≠0→exRun n b d (k+1) (exL n b k c2 (L.drop (j+1)))=c2:=fun c2 h=>by rw[zdy h,ze5 h]
          cases ha:M.all (inB 0 50) with
          | false =>
            rw[f1 ha,hsl _ (by simp)] at hrun'
            subst hrun'
            rw[ha] at ck
            rcases hcs' with⟨rfl,har'⟩ | ⟨rfl,har'⟩<;>simp (maxSteps:=2000000) (disch:=first|omega|(simp only[lenS];try omega)) only[go_sem,reduceAdd,reduceEqDiff,reduceLeDiff,reduceSub,zik,z1ex,hfire,ck,exPV,w6e]
          | true =>
            rw[ha] at ck
            by_cases h2:0≤findM c'.sp.ms M
            · rw[f2 ha h2] at hrun' hok2
              rcases hcs' with⟨rfl,har'⟩ | ⟨rfl,har'⟩
              · simp (maxSteps:=2000000) (disch:=first|omega|(simp only[lenS];try omega)) only[go_sem,reduceAdd,reduceEqDiff,reduceLeDiff,reduceSub,zik,z1ex,hfire,ck,fd]
                refine⟨_,hok2,rfl,hkl',hL',by simp only[List.length_append,List.length_cons,List.length_nil];omega,hrun',.inr ⟨?_,by simp⟩⟩
                simp [har']
              · simp (maxSteps:=2000000) (disch:=first|omega|(simp only[lenS];try omega)) only[go_sem,reduceAdd,reduceEqDiff,reduceLeDiff,reduceSub,zik,z1ex,hfire,ck,fd]
                refine⟨_,hok2,rfl,hkl',hL',by simp only[List.length_append,List.length_cons,List.length_nil];omega,hrun',.inr ⟨?_,by simp⟩⟩
                simp
            · by_cases h3:b≤c'.sp.ms.length
              · rw[f3 ha h2 h3,hsl _ (by simp)] at hrun'
                subst hrun'
                rcases hcs' with⟨rfl,har'⟩ | ⟨rfl,har'⟩<;>simp (maxSteps:=2000000) (disch:=first|omega|(simp only[lenS];try omega)) only[go_sem,reduceAdd,reduceEqDiff,reduceLeDiff,reduceSub,zik,z1ex,hfire,ck,fd,exPV,w6e]
              · rw[f4 ha h2 h3] at hrun' hok2
                rcases hcs' with⟨rfl,har'⟩ | ⟨rfl,har'⟩
                · simp (maxSteps:=2000000) (disch:=first|omega|(simp only[lenS];try omega)) only[go_sem,reduceAdd,reduceEqDiff,reduceLeDiff,reduceSub,zik,z1ex,hfire,ck,fd]
                  refine⟨_,hok2,rfl,by simp only[List.length_append];omega,by simp only;rw[zif hkl'];exact hL',by simp only[List.length_append,List.length_cons,List.length_nil];omega,hrun',.inr ⟨?_,by simp⟩⟩
                  simp [har']
                · simp (maxSteps:=2000000) (disch:=first|omega|(simp only[lenS];try omega)) only[go_sem,reduceAdd,reduceEqDiff,reduceLeDiff,reduceSub,zik,z1ex,hfire,ck,fd]
                  refine⟨_,hok2,rfl,by simp only[List.length_append];omega,by simp only;rw[zif hkl'];exact hL',by simp only[List.length_append,List.length_cons,List.length_nil];omega,hrun',.inr ⟨?_,by simp⟩⟩
                  simp
        · rintro s ⟨c',hok',hc0',hkl',hL',hal',hrun',hcs'⟩
          rw[List.drop_length] at hrun'
          have hlb':=hok'.lenb
          rcases hcs' with⟨rfl,har'⟩ | ⟨rfl,har'⟩
          · simp (maxSteps:=2000000) (disch:=first|omega|(simp only[lenS];try omega)) only[go_sem,reduceAdd,reduceEqDiff,reduceLeDiff,reduceSub]
            refine⟨d-1,by omega,k+1,c',by omega,hok',hc0',by omega,by omega,by rw[show d-1+1=d by omega];exact hrun',.inl ⟨rfl,har'⟩⟩
          · simp (maxSteps:=2000000) (disch:=first|omega|(simp only[lenS];try omega)) only[go_sem,reduceAdd,reduceEqDiff,reduceLeDiff,reduceSub]
            refine⟨d-1,by omega,k+1,c',by omega,hok',hc0',by omega,by omega,by rw[show d-1+1=d by omega];exact hrun',.inr ⟨rfl,har'⟩⟩
    · have er:exRun n b (d+1) k c=c:=by
        show(if c.code≠0 then c else if k<c.sp.ms.length then _ else c)=_
        rw[if_neg (by omega),if_neg hkl]
      rw[er] at hrun
      subst hrun
      rcases hcs with⟨rfl,har⟩ | ⟨rfl,har⟩
      · simp (maxSteps:=2000000) (disch:=first|omega|(simp only[lenS];try omega)) only[go_sem,reduceAdd,reduceEqDiff,reduceLeDiff,reduceSub]
        simp [exPV,w6e,hc0,arcPV,har]
      · simp (maxSteps:=2000000) (disch:=first|omega|(simp only[lenS];try omega)) only[go_sem,reduceAdd,reduceEqDiff,reduceLeDiff,reduceSub]
        simp [exPV,w6e,hc0,arcPV,har]
theorem weq(n:Net)(start:List Int)(b:Int)(hn:smN n)(hs:start.length<2^62):C w89 [encN n,ints start,I b] []=some (.tup [if okEx n start b then exPV (exAll n start b) else .agg [.nil false 1,.nil true 3],I (if okEx n start b then w6e (exAll n start b) else 0),.bool (okEx n start b)],[]):=by
  refine w1e ?_
  simp (maxSteps:=2000000) (disch:=first|omega|(simp only[lenS];try omega)) only[wc9,go_sem,reduceAdd,reduceEqDiff,reduceLeDiff,reduceSub]
  simp (maxSteps:=2000000) (disch:=first|omega|(simp only[lenS];try omega)) only[go_sem,reduceAdd,reduceEqDiff,reduceLeDiff,reduceSub,wga n start b hn hs]
  cases hok:okEx n start b with
  | false=>simp
  | true =>
    obtain⟨h1,hb⟩:=zvp hok
    have hx:=wgb n start b h1 hb
    generalize exAll n start b=R at *
    by_cases hc:R.code=0
    · by_cases ha:R.sp.ar=[]
      · simp only[exPV,w6e,arcPV,hc,ha,if_true] at hx ⊢
        simp (maxSteps:=2000000) (disch:=first|omega|(simp only[lenS];try omega)) only[go_sem,reduceAdd,reduceEqDiff,reduceLeDiff,reduceSub,hx]
      · simp only[exPV,w6e,arcPV,hc,ha,if_true,if_false] at hx ⊢
        simp (maxSteps:=2000000) (disch:=first|omega|(simp only[lenS];try omega)) only[go_sem,reduceAdd,reduceEqDiff,reduceLeDiff,reduceSub,hx]
    · simp only[exPV,w6e,hc,if_false] at hx ⊢
      simp (maxSteps:=2000000) (disch:=first|omega|(simp only[lenS];try omega)) only[go_sem,reduceAdd,reduceEqDiff,reduceLeDiff,reduceSub,hx]
theorem wg9(n:Net)(start:List Int)(b:Int)(hn:smN n)(hs:start.length<2^62):C w9l [encN n,ints start,I b] []=some (.tup [wgp n start b,.bool (whole n start b)],[]):=by
  have hx:=weq n start b hn hs
  rw[wgr] at hx
  have hcode:=zdp n start b
  unfold wgp whole at hx ⊢
  cases h1:okEx n start b with
  | false =>
    simp only[h1,Bool.false_and,Bool.false_eq_true,if_false] at hx ⊢
    refine w2c ?_
    simp (maxSteps:=2000000) (disch:=first|omega|(simp only[lenS];try omega)) only[wdl,go_sem,reduceAdd,reduceEqDiff,reduceLeDiff,reduceSub]
    simp (maxSteps:=2000000) (disch:=first|omega|(simp only[lenS];try omega)) only[go_sem,reduceAdd,reduceEqDiff,reduceLeDiff,reduceSub,hx]
  | true =>
    simp only[h1,Bool.true_and,if_true] at hx ⊢
    generalize exAll n start b=R at *
    by_cases hc:R.code=0
    · by_cases ha:R.sp.ar=[]
      · simp only[w6e,arcPV,hc,ha,if_true,decide_true] at hx ⊢
        refine w2c ?_
        simp (maxSteps:=2000000) (disch:=first|omega|(simp only[lenS];try omega)) only[wdl,go_sem,reduceAdd,reduceEqDiff,reduceLeDiff,reduceSub]
        simp (maxSteps:=2000000) (disch:=first|omega|(simp only[lenS];try omega)) only[go_sem,reduceAdd,reduceEqDiff,reduceLeDiff,reduceSub,hx]
      · simp only[w6e,arcPV,hc,ha,if_true,if_false,decide_true] at hx ⊢
        refine w2c ?_
        simp (maxSteps:=2000000) (disch:=first|omega|(simp only[lenS];try omega)) only[wdl,go_sem,reduceAdd,reduceEqDiff,reduceLeDiff,reduceSub]
        simp (maxSteps:=2000000) (disch:=first|omega|(simp only[lenS];try omega)) only[go_sem,reduceAdd,reduceEqDiff,reduceLeDiff,reduceSub,hx]
    · have hc1:¬R.code=1:=by omega
      simp only[w6e,hc,if_false,decide_false,Bool.false_eq_true] at hx ⊢
      refine w2c ?_
      simp (maxSteps:=2000000) (disch:=first|omega|(simp only[lenS];try omega)) only[wdl,go_sem,reduceAdd,reduceEqDiff,reduceLeDiff,reduceSub]
      simp (maxSteps:=2000000) (disch:=first|omega|(simp only[lenS];try omega)) only[go_sem,reduceAdd,reduceEqDiff,reduceLeDiff,reduceSub,hx,hc1]
      first | done | (intro h;omega)
theorem wet(n:Net)(l:List Int)(hn:smN n)(hl:l.length<2^40):C w8c [encN n,ints l] []=some (.bool (zj0 n l),[]):=by
  have hG:=wev n hn
  have hn':=hn.1
  refine w1h ?_
  simp (maxSteps:=2000000) (disch:=first|omega|(simp only[lenS];try omega)) only[wcc,go_sem,reduceAdd,reduceEqDiff,reduceLeDiff,reduceSub]
  cases hg:goodN n with
  | false =>
    simp (maxSteps:=2000000) (disch:=first|omega|(simp only[lenS];try omega)) only[go_sem,reduceAdd,reduceEqDiff,reduceLeDiff,reduceSub,hG,hg]
    simp [zj0,hg]
  | true =>
    simp (maxSteps:=2000000) (disch:=first|omega|(simp only[lenS];try omega)) only[go_sem,reduceAdd,reduceEqDiff,reduceLeDiff,reduceSub,hG,hg,wfa]
    by_cases h':l.length=n.tr.length<;>cases ha:l.all (inB 0 9)<;>simp [zj0,hg,h',ha]<;>omega
theorem wf9(ms:List (List Int))(ls:List Int)(ar:List Arc3)(c0:List Bool)(S:List Int)(n:Nat)(hn:n<2^36)(hc:c0.length=n)(hls:ls.length<2^40)(hr:ar.length<2^35)(ha:z44 ar n)(hby : ∀ a∈ar,0≤a.by_∧a.by_.toNat<ls.length)(hk : ∀ k∈S,0≤k∧k<n)(e2:hasS S c0)(e3:sndB (silA ls ar) S c0) :
    C w8o [.agg [rows ms,.sl true 3 (ar.map encA)],ints ls,.sl true 1 (c0.map PV.bool)] []=some (.un wgd true 1 ((toL (silA ls ar) n S).map PV.bool),[]):=by
  have hA:=z19s (ls:=ls) ha
  refine w1t ?_
  simp (maxSteps:=2000000) (disch:=first|omega|(simp only[lenS];try omega)) only[wco,go_sem,reduceAdd,reduceEqDiff,reduceLeDiff,reduceSub]
  refine z1a (fun j s=>∃ c:List Bool,c.length=n∧hasS S c∧sndB (silA ls ar) S c∧((j=cntF c+1∧s=⟨[.any,ints ls,.any,.ptr 0 0,.any,.ref 1 1 0 n,.bool true,.any,.any,.any,.any,.any,.any,.any],[.box wgi [rows ms,.sl true 3 (ar.map encA)],.row wgd true 1 (c.map PV.bool)]⟩)∨(j=0∧clsB (silA ls ar) c∧s=⟨[.any,ints ls,.any,.ptr 0 0,.any,.ref 1 1 0 n,.bool false,.any,.any,.any,.any,.any,.any,.any],[.box wgi [rows ms,.sl true 3 (ar.map encA)],.row wgd true 1 (c.map PV.bool)]⟩))) (cntF c0+1) ?_ ?_
  · refine⟨c0,hc,e2,e3,.inl ⟨rfl,?_⟩⟩
    simp (maxSteps:=2000000) (disch:=first|omega|(simp only[lenS];try omega)) only[go_sem,reduceAdd,reduceEqDiff,reduceLeDiff,reduceSub,hc]
    first | done | rfl
  · rintro j s ⟨c,h1,h2,h3,⟨rfl,rfl⟩ | ⟨rfl,h4,rfl⟩⟩
    · simp (maxSteps := 2000000) (disch := first | omega | (simp only [lenS]; try omega)) only [go_sem, reduceAdd, reduceEqDiff, reduceLeDiff, reduceSub]
      refine W_for ar.length (fun k s=>s=⟨[.any,ints ls,.any,.ptr 0 0,.any,.ref 1 1 0 n,.bool (passS ls ar c k).2,.any,.any,.sl true 3 (ar.map encA),I ar.length,I k,.any,.any],[.box wgi [rows ms,.sl true 3 (ar.map encA)],.row wgd true 1 ((passS ls ar c k).1.map PV.bool)]⟩) ?_ ?_ ?_
      · simp (maxSteps:=2000000) (disch:=first|omega|(simp only[lenS];try omega)) only[go_sem,reduceAdd,reduceEqDiff,reduceLeDiff,reduceSub]
        rfl
      · rintro k s hk2 rfl
        obtain⟨a1,a2,a3,a4⟩:=ha _ (List.getElem_mem hk2)
        obtain⟨b1,b2⟩:=hby _ (List.getElem_mem hk2)
        have hl:(passS ls ar c k).1.length=c.length:=z10k ..
        have x:=z10q (ls:=ls) (c:=c) hk2
        have y:=z10r (ls:=ls) (c:=c) hk2
        have z:=z10p (ls:=ls) (c:=c) hk2
        have g0:ls[ar[k].by_.toNat]? = some (at_ ls ar[k].by_):=by rw[List.getElem?_eq_getElem b2,at_eq b2]
        generalize passS ls ar c (k+1)=P' at *
        generalize passS ls ar c k=P at *
        obtain⟨d,m⟩:=P
        simp only at hl y z
        generalize hAr:ar[k]=a at *
        have g1:d[a.dst.toNat]? = some (d[a.dst.toNat]'(by omega)):=List.getElem?_eq_getElem (by omega)
        have g2:d[a.src.toNat]? = some (d[a.src.toNat]'(by omega)):=List.getElem?_eq_getElem (by omega)
        rw[g1,g2] at y z
        generalize d[a.dst.toNat]'(by omega)=bd at *
        generalize d[a.src.toNat]'(by omega)=bx at *
        generalize at_ ls a.by_=v at *
        by_cases hv:v=0
        · cases bx<;>cases bd
          all_goals
            simp (maxSteps:=2000000) (disch:=first|omega|(simp only[lenS];try omega)) only[go_sem,reduceAdd,reduceEqDiff,reduceLeDiff,reduceSub,hAr,hl,g0,g1,g2,hv]
            first
              | (rw[z hv (by simp)];rfl)
              | (rw[y hv rfl rfl,List.map_set];rfl)
        · simp (maxSteps:=2000000) (disch:=first|omega|(simp only[lenS];try omega)) only[go_sem,reduceAdd,reduceEqDiff,reduceLeDiff,reduceSub,hAr,hl,g0,g1,g2,hv]
          rw[x hv]
          first | done | rfl
      · rintro s rfl
        simp (maxSteps:=2000000) (disch:=first|omega|(simp only[lenS];try omega)) only[go_sem,reduceAdd,reduceEqDiff,reduceLeDiff,reduceSub]
        rw[z10o]
        have p1:=z10h (ar:=silA ls ar) (c:=c) (silA ls ar).length
        have p2:=z10k (ar:=silA ls ar) (c:=c) (silA ls ar).length
        have p3:=z10j (ar:=silA ls ar) h2 (silA ls ar).length
        have p4:=z10m hA h3 (silA ls ar).length
        have p5:=z10g h1 hA
        generalize passK (silA ls ar) c (silA ls ar).length=P at *
        obtain⟨d,m⟩:=P
        simp only at p1 p2 p3 p4 p5 ⊢
        cases m with
        | true=>exact⟨cntF d+1,by have:=p1.2.1 rfl;omega,d,by omega,p3,p4,.inl ⟨rfl,rfl⟩⟩
        | false=>exact⟨0,by omega,c,h1,h2,h3,.inr ⟨rfl,p5 rfl,by rw[p1.2.2 rfl]⟩⟩
    · simp (maxSteps:=2000000) (disch:=first|omega|(simp only[lenS];try omega)) only[go_sem,reduceAdd,reduceEqDiff,reduceLeDiff,reduceSub,h1]
      rw[z1ev h1 hk h3 h2 h4]
theorem wfb(a b:List Int)(hl:a.length=b.length)(hb:b.length<2^60):C w8q [ints a,ints b] []=some (I (cmpL a b),[]):=by
 refine w1v ?_
 simp (maxSteps:=2000000) (disch:=first|omega|(simp only[lenS];try omega)) only[wcq,go_sem,reduceAdd,reduceEqDiff,reduceLeDiff,reduceSub]
 refine W_for a.length (fun k s=>s=⟨[ints a,ints b,.any,.any,I a.length,I k,.any,.any,.any],[]⟩∧a.take k=b.take k) ?_ ?_ ?_
 ·simp (maxSteps:=2000000) (disch:=first|omega|(simp only[lenS];try omega)) only[go_sem,reduceAdd,reduceEqDiff,reduceLeDiff,reduceSub]
  simp
 ·rintro k s hk ⟨rfl,h2⟩
  have e1:a[k]? = some a[k]:=List.getElem?_eq_getElem hk
  have hkb2:k<b.length:=by omega
  have e2:b[k]? = some b[k]:=List.getElem?_eq_getElem hkb2
  have e3:=zaa h2 hk hkb2
  have e4:cmpI a[k] b[k]=0→a.take (k+1)=b.take (k+1):=fun h=>by rw[z1ek hk,z1ek hkb2,h2,za9 h]
  generalize a[k]=x at *
  generalize b[k]=y at *
  unfold cmpI at e3 e4
  by_cases h5:x<y
  ·simp only[h5,if_true] at e3
   simp (maxSteps:=2000000) (disch:=first|omega|(simp only[lenS];try omega)) only[go_sem,reduceAdd,reduceEqDiff,reduceLeDiff,reduceSub,e1,e2,h5]
   rw[e3 (by decide)]
  ·by_cases h6:y<x
   ·simp only[h5,h6,if_true,if_false] at e3
    simp (maxSteps:=2000000) (disch:=first|omega|(simp only[lenS];try omega)) only[go_sem,reduceAdd,reduceEqDiff,reduceLeDiff,reduceSub,e1,e2,h5,h6]
    rw[e3 (by decide)]
   ·simp only[h5,h6,if_false] at e4
    simp (maxSteps:=2000000) (disch:=first|omega|(simp only[lenS];try omega)) only[go_sem,reduceAdd,reduceEqDiff,reduceLeDiff,reduceSub,e1,e2,h5,h6]
    exact⟨rfl,e4 trivial⟩
 ·rintro s ⟨rfl,h2⟩
  have:=zac h2 (by omega)
  simp (maxSteps:=2000000) (disch:=first|omega|(simp only[lenS];try omega)) only[go_sem,reduceAdd,reduceEqDiff,reduceLeDiff,reduceSub]
  rw[this,if_neg (by omega)]
theorem wfq(l:List (List Int))(m:List Int)(n:Nat)(hn:n<2^30)(hx : ∀ x∈l,x.length=n)(hm:m.length=n)(hl:l.length<2^30)(hs:l.Pairwise ltL):Lw (C w96 [rows l,ints m] []) fun r=>r=(.un wgk false 1 ((inOrd l m).map ints),[])∨(m∈l∧r=(rows (inOrd l m),[])):=by
 refine w34 ?_
 simp (maxSteps:=2000000) (disch:=first|omega|(simp only[lenS];try omega)) only[wd6,go_sem,reduceAdd,reduceEqDiff,reduceLeDiff,reduceSub]
 refine W_for l.length (fun k s=>∃ (d:Bool) (o:List (List Int)),o.length≤l.length+1∧s=⟨[rows l,ints m,.any,.ref 0 1 0 o.length,.bool d,.any,.any,rows l,I l.length,I k,.any,.any,.any,.any],[.row wgk false 1 (o.map ints)]⟩∧((d=false∧o=l.take k∧∀ x∈l.take k,0<cmpL m x)∨(d=true∧∃ j,j<k∧o=l.take j++m :: (l.take k).drop j∧(∀ x∈l.take j,0<cmpL m x)∧∀ x,l[j]? = some x→cmpL m x<0))) ?_ ?_ ?_
 ·simp (maxSteps:=2000000) (disch:=first|omega|(simp only[lenS];try omega)) only[go_sem,reduceAdd,reduceEqDiff,reduceLeDiff,reduceSub]
  exact⟨false,[],by simp⟩
 ·rintro k s hk ⟨d,o,ho,rfl,hd⟩
  have e1:l[k]? = some l[k]:=List.getElem?_eq_getElem hk
  have e2:=wfb m l[k] (by rw[hm,hx _ (List.getElem_mem hk)]) (by rw[hx _ (List.getElem_mem hk)];omega)
  have e3:l.take (k+1)=l.take k++[l[k]]:=List.take_succ_eq_append_getElem hk
  have e4:cmpL m l[k]=0→inOrd l m=l:=fun h=>zm9 hs (by rw[zad.1 h];exact List.getElem_mem hk)
  have hlk:(l.take k).length=k:=by simp;omega
  by_cases h0:cmpL m l[k]=0
  ·rw[h0] at e2
   simp (maxSteps:=2000000) (disch:=first|omega|(simp only[lenS];try omega)) only[go_sem,reduceAdd,reduceEqDiff,reduceLeDiff,reduceSub,e1,e2]
   exact .inr ⟨by rw[zad.1 h0];exact List.getElem_mem hk,by rw[e4 h0]⟩
  ·rcases hd with⟨rfl,rfl,h1⟩ | ⟨rfl,j,hj,rfl,h1,h2⟩
   ·by_cases h3:cmpL m l[k]<0
    ·have h4 : ∀ x,l[k]? = some x→cmpL m x<0:=fun x h=>by rw[e1] at h;rw[←Option.some.inj h];exact h3
     have h5:(l.take (k+1)).drop k=[l[k]]:=by rw[e3,List.drop_append,hlk];simp [List.drop_eq_nil_of_le,hlk]
     generalize hy:l[k]=y at *
     generalize hc:cmpL m y=c at *
     simp (maxSteps:=2000000) (disch:=first|omega|(simp only[lenS];try omega)) only[go_sem,reduceAdd,reduceEqDiff,reduceLeDiff,reduceSub,e1,e2,h0,h3]
     refine⟨true,l.take k++m :: (l.take (k+1)).drop k,by rw[h5];simp;omega,?_,.inr ⟨rfl,k,by omega,rfl,h1,h4⟩⟩
     rw[h5];simp [hlk]
    ·have h4 : ∀ x∈l.take (k+1),0<cmpL m x:=fun x h=>by
      rw[e3,List.mem_append] at h
      rcases h with h | h
      ·exact h1 x h
      ·rw[List.mem_singleton] at h;subst h;omega
     generalize hy:l[k]=y at *
     generalize hc:cmpL m y=c at *
     simp (maxSteps:=2000000) (disch:=first|omega|(simp only[lenS];try omega)) only[go_sem,reduceAdd,reduceEqDiff,reduceLeDiff,reduceSub,e1,e2,h0,h3]
     refine⟨false,l.take (k+1),by simp;omega,?_,.inl ⟨rfl,rfl,h4⟩⟩
     rw[e3];simp [hlk]
   ·have h5:(l.take (k+1)).drop j=(l.take k).drop j++[l[k]]:=by rw[e3,List.drop_append_of_le_length (by rw[hlk];omega)]
    have h6:(l.take j++m :: (l.take k).drop j).length=k+1:=by simp;omega
    have h7:(l.take j++m :: (l.take (k+1)).drop j)=(l.take j++m :: (l.take k).drop j)++[l[k]]:=by rw[h5];simp
    have h8 : ∃ W,l.take j++m :: (l.take k).drop j=W:=⟨_,rfl⟩
    obtain⟨W,hW⟩:=h8
    rw[hW] at h6 h7 ⊢
    generalize hy:l[k]=y at *
    generalize hc:cmpL m y=c at *
    by_cases h3:c<0
    ·simp (maxSteps:=2000000) (disch:=first|omega|(simp only[lenS];try omega)) only[go_sem,reduceAdd,reduceEqDiff,reduceLeDiff,reduceSub,e1,e2,h0,h3,h6]
     refine⟨true,l.take j++m :: (l.take (k+1)).drop j,by rw[h7];simp;omega,?_,.inr ⟨rfl,j,by omega,rfl,h1,h2⟩⟩
     rw[h7];simp [h6]
    ·simp (maxSteps:=2000000) (disch:=first|omega|(simp only[lenS];try omega)) only[go_sem,reduceAdd,reduceEqDiff,reduceLeDiff,reduceSub,e1,e2,h0,h3,h6]
     refine⟨true,l.take j++m :: (l.take (k+1)).drop j,by rw[h7];simp;omega,?_,.inr ⟨rfl,j,by omega,rfl,h1,h2⟩⟩
     rw[h7];simp [h6]
 ·rintro s ⟨d,o,ho,rfl,hd⟩
  rcases hd with⟨rfl,rfl,h1⟩ | ⟨rfl,j,hj,rfl,h1,h2⟩
  ·rw[List.take_length] at h1 ⊢
   have h3:=zm8 (l:=l) (m:=m) (j:=l.length) (by rw[List.take_length];exact h1) (fun x h=>by rw[List.getElem?_eq_none (Nat.le_refl _)] at h;cases h)
   rw[h3]
   simp (maxSteps:=2000000) (disch:=first|omega|(simp only[lenS];try omega)) only[go_sem,reduceAdd,reduceEqDiff,reduceLeDiff,reduceSub]
   exact .inl (by simp)
  ·have h3:=zm8 h1 h2
   rw[List.take_length,←h3]
   simp (maxSteps:=2000000) (disch:=first|omega|(simp only[lenS];try omega)) only[go_sem,reduceAdd,reduceEqDiff,reduceLeDiff,reduceSub]
   first | exact .inl trivial | exact .inl rfl
theorem wex(n:Net)(ls m:List Int)(b:Int)(hn:smN n)(hl:ls.length<2^40)(hm:m.length<2^62):C w8g [encN n,ints ls,ints m,I b] []=some (.tup [.un wgk false 1 ((silR n ls m b).map ints),.bool (silB n ls m b)],[]):=by
  have hw:=wg9 n m b hn hm
  have hg:=wet n ls hn hl
  unfold silR silB
  unfold wgp at hw
  cases h1:whole n m b with
  | false =>
    simp only[h1,Bool.false_and,Bool.false_eq_true,if_false] at hw ⊢
    refine w1l ?_
    simp (maxSteps:=2000000) (disch:=first|omega|(simp only[lenS];try omega)) only[wcg,go_sem,reduceAdd,reduceEqDiff,reduceLeDiff,reduceSub]
    simp (maxSteps:=2000000) (disch:=first|omega|(simp only[lenS];try omega)) only[go_sem,reduceAdd,reduceEqDiff,reduceLeDiff,reduceSub,hw]
    first | done | rfl
  | true =>
    obtain⟨hoe,hc,f1,f2,f3,f4,hpos⟩:=wgq h1
    simp only[h1,if_true,Bool.true_and] at hw ⊢
    cases h2:zj0 n ls with
    | false =>
      rw[h2] at hg
      simp only[Bool.false_eq_true,if_false]
      generalize exAll n m b=R at *
      by_cases ha:R.sp.ar=[]
      · simp only[arcPV,ha,if_true] at hw
        refine w1l ?_
        simp (maxSteps:=2000000) (disch:=first|omega|(simp only[lenS];try omega)) only[wcg,go_sem,reduceAdd,reduceEqDiff,reduceLeDiff,reduceSub]
        simp (maxSteps:=2000000) (disch:=first|omega|(simp only[lenS];try omega)) only[go_sem,reduceAdd,reduceEqDiff,reduceLeDiff,reduceSub,hw,hg]
        first | done | rfl
      · simp only[arcPV,ha,if_false] at hw
        refine w1l ?_
        simp (maxSteps:=2000000) (disch:=first|omega|(simp only[lenS];try omega)) only[wcg,go_sem,reduceAdd,reduceEqDiff,reduceLeDiff,reduceSub]
        simp (maxSteps:=2000000) (disch:=first|omega|(simp only[lenS];try omega)) only[go_sem,reduceAdd,reduceEqDiff,reduceLeDiff,reduceSub,hw,hg]
        first | done | rfl
    | true =>
    rw[h2] at hg
    simp only[if_true]
    have hll:=w9q h2
    have hin:=f4.inn
    have hnd:=f1.nodup
    have hgm:=zja (zs5 (zvp hoe).1).1
    have hby : ∀ a∈(exAll n m b).sp.ar,0≤a.by_∧a.by_.toNat<ls.length:=fun a ha=>by
      obtain⟨g1,g2⟩:=Bool.and_eq_true ..▸(f1.arcs a ha).2.2.2.2.1
      obtain⟨_,_,g3,g4,_⟩:=z8e g1
      exact⟨g3,by omega⟩
    have hxs : ∀ x∈(exAll n m b).sp.ms,x.length=n.pl.toNat:=fun x hx=>by have:=zj2 (zs5 (f1.good x hx)).2;omega
    generalize (exAll n m b).sp.ms=ms at *
    generalize (exAll n m b).sp.ar=ar at *
    have e12:=wf9 ms ls ar ((List.replicate ms.length false).set 0 true) [0] ms.length (by omega) (by simp) hl (by omega) hin hby (by simp;omega) (by intro k hk;simp at hk;subst hk;simp [hpos]) (z1ba (k:=0) z1be (by omega) (.base (by simp)))
    unfold silV
    have hcl:=z1eu (silA ls ar) ms.length [0]
    generalize toL (silA ls ar) ms.length [0]=c at *
    by_cases ha:ar=[]
    · simp only[arcPV,ha,if_true] at hw
      simp only[ha,List.map_nil] at e12
      have e12:=(show _=_ from e12)
      rw[List.map_set,List.map_replicate] at e12
      refine w1l ?_
      simp (maxSteps:=2000000) (disch:=first|omega|(simp only[lenS];try omega)) only[wcg,go_sem,reduceAdd,reduceEqDiff,reduceLeDiff,reduceSub]
      simp (maxSteps:=2000000) (disch:=first|omega|(simp only[lenS];try omega)) only[go_sem,reduceAdd,reduceEqDiff,reduceLeDiff,reduceSub,hw,hg,e12,List.getElem_replicate,Int.toNat_zero]
      refine W_for ms.length (fun k s=>s=⟨[.any,.any,.any,.any,.any,.any,.any,.ptr 0 0,.any,.any,.ref 1 1 0 (sortT (reK ms c k)).length,.any,.any,.any,.ref 2 1 0 ms.length,I ms.length,I k,.any,.any],[.box wgi [.ref 3 1 0 ms.length,.nil true 3],.row wgk false 1 ((sortT (reK ms c k)).map ints),.row wgd true 1 (c.map PV.bool),.row wgk false 1 (ms.map ints)]⟩) ?_ ?_ ?_
      · simp (maxSteps:=2000000) (disch:=first|omega|(simp only[lenS];try omega)) only[go_sem,reduceAdd,reduceEqDiff,reduceLeDiff,reduceSub,hcl]
        first | done | rfl
      · rintro k s hk rfl
        have g1:c[k]? = some c[k]:=List.getElem?_eq_getElem (by omega)
        have g2:ms[k]? = some (ms.getD k []):=by rw[List.getElem?_eq_getElem hk,zik hk]
        have g3:=hxs _ (zij hk)
        have g4:=z12x (ms:=ms) (c:=c) (k:=k)
        have g5:=z12w (ms:=ms) (c:=c) (k:=k)
        rw[List.getD_eq_getElem?_getD,g1] at g4 g5
        have g6:=z12v (c:=c) hnd hk
        have g7:=(z1bh (reK ms c k)).1
        have g8:=(z1bh (reK ms c k)).2.2
        have g9:=z12t ms c k
        have g10 : ∀ x∈sortT (reK ms c k),x.length=n.pl.toNat:=fun x hx=>by
          obtain⟨i,hi,_,rfl⟩:=z12u.1 (((z1bh _).2.1 x).1 hx)
          exact hxs _ (zij (by omega))
        obtain⟨_,e3,e4⟩:=wfq (sortT (reK ms c k)) (ms.getD k []) n.pl.toNat (by omega) g10 g3 (by omega) g7
        have e5:_=(PV.un wgk false 1 ((inOrd (sortT (reK ms c k)) (ms.getD k [])).map ints),[]):=e4.resolve_right fun h=>g6 h.1
        subst e5
        have own:=wfu (ms.getD k []) (by omega)
        generalize c[k]'(by omega)=bb at *
        cases bb with
        | false =>
          rw[g5 rfl]
          simp (maxSteps:=2000000) (disch:=first|omega|(simp only[lenS];try omega)) only[go_sem,reduceAdd,reduceEqDiff,reduceLeDiff,reduceSub,g1]
          first | done | rfl
        | true =>
          rw[g4 rfl,z1bi]
          generalize inOrd (sortT (reK ms c k)) (ms.getD k [])=T at *
          generalize sortT (reK ms c k)=T0 at *
          generalize ms.getD k []=x at *
          simp (maxSteps:=2000000) (disch:=first|omega|(simp only[lenS];try omega)) only[go_sem,reduceAdd,reduceEqDiff,reduceLeDiff,reduceSub,g1,g2,own,e3]
          first | done | rfl
      · rintro s rfl
        simp (maxSteps:=2000000) (disch:=first|omega|(simp only[lenS];try omega)) only[go_sem,reduceAdd,reduceEqDiff,reduceLeDiff,reduceSub]
        first | done | rfl
    · simp only[arcPV,ha,if_false] at hw
      rw[List.map_set,List.map_replicate] at e12
      refine w1l ?_
      simp (maxSteps:=2000000) (disch:=first|omega|(simp only[lenS];try omega)) only[wcg,go_sem,reduceAdd,reduceEqDiff,reduceLeDiff,reduceSub]
      simp (maxSteps:=2000000) (disch:=first|omega|(simp only[lenS];try omega)) only[go_sem,reduceAdd,reduceEqDiff,reduceLeDiff,reduceSub,hw,hg,e12,List.getElem_replicate,Int.toNat_zero]
      refine W_for ms.length (fun k s=>s=⟨[.any,.any,.any,.any,.any,.any,.any,.ptr 0 0,.any,.any,.ref 1 1 0 (sortT (reK ms c k)).length,.any,.any,.any,.ref 2 1 0 ms.length,I ms.length,I k,.any,.any],[.box wgi [.ref 3 1 0 ms.length,.ref 4 3 0 ar.length],.row wgk false 1 ((sortT (reK ms c k)).map ints),.row wgd true 1 (c.map PV.bool),.row wgk false 1 (ms.map ints),.row wge true 3 (ar.map encA)]⟩) ?_ ?_ ?_
      · simp (maxSteps:=2000000) (disch:=first|omega|(simp only[lenS];try omega)) only[go_sem,reduceAdd,reduceEqDiff,reduceLeDiff,reduceSub,hcl]
        first | done | rfl
      · rintro k s hk rfl
        have g1:c[k]? = some c[k]:=List.getElem?_eq_getElem (by omega)
        have g2:ms[k]? = some (ms.getD k []):=by rw[List.getElem?_eq_getElem hk,zik hk]
        have g3:=hxs _ (zij hk)
        have g4:=z12x (ms:=ms) (c:=c) (k:=k)
        have g5:=z12w (ms:=ms) (c:=c) (k:=k)
        rw[List.getD_eq_getElem?_getD,g1] at g4 g5
        have g6:=z12v (c:=c) hnd hk
        have g7:=(z1bh (reK ms c k)).1
        have g8:=(z1bh (reK ms c k)).2.2
        have g9:=z12t ms c k
        have g10 : ∀ x∈sortT (reK ms c k),x.length=n.pl.toNat:=fun x hx=>by
          obtain⟨i,hi,_,rfl⟩:=z12u.1 (((z1bh _).2.1 x).1 hx)
          exact hxs _ (zij (by omega))
        obtain⟨_,e3,e4⟩:=wfq (sortT (reK ms c k)) (ms.getD k []) n.pl.toNat (by omega) g10 g3 (by omega) g7
        have e5:_=(PV.un wgk false 1 ((inOrd (sortT (reK ms c k)) (ms.getD k [])).map ints),[]):=e4.resolve_right fun h=>g6 h.1
        subst e5
        have own:=wfu (ms.getD k []) (by omega)
        generalize c[k]'(by omega)=bb at *
        cases bb with
        | false =>
          rw[g5 rfl]
          simp (maxSteps:=2000000) (disch:=first|omega|(simp only[lenS];try omega)) only[go_sem,reduceAdd,reduceEqDiff,reduceLeDiff,reduceSub,g1]
          first | done | rfl
        | true =>
          rw[g4 rfl,z1bi]
          generalize inOrd (sortT (reK ms c k)) (ms.getD k [])=T at *
          generalize sortT (reK ms c k)=T0 at *
          generalize ms.getD k []=x at *
          simp (maxSteps:=2000000) (disch:=first|omega|(simp only[lenS];try omega)) only[go_sem,reduceAdd,reduceEqDiff,reduceLeDiff,reduceSub,g1,g2,own,e3]
          first | done | rfl
      · rintro s rfl
        simp (maxSteps:=2000000) (disch:=first|omega|(simp only[lenS];try omega)) only[go_sem,reduceAdd,reduceEqDiff,reduceLeDiff,reduceSub]
        first | done | rfl
theorem wdr(a b:List Int)(hl:a.length<2^62):C w7b [ints a,ints b] []=some (.bool (decide (a=b)),[]):=by
 refine w0t ?_
 simp (maxSteps:=2000000) (disch:=first|omega|(simp only[lenS];try omega)) only[wbc,go_sem,reduceAdd,reduceEqDiff,reduceLeDiff,reduceSub]
 refine⟨fun h=>?_,fun h=>?_⟩
 ·have:a≠b:=fun e=>h (by rw[e])
  simp [this]
 refine W_for a.length (fun k s=>s=⟨[ints a,ints b,.any,.any,.any,I a.length,I k,.any,.any],[]⟩∧a.take k=b.take k) ?_ ?_ ?_
 ·simp (maxSteps:=2000000) (disch:=first|omega|(simp only[lenS];try omega)) only[go_sem,reduceAdd,reduceEqDiff,reduceLeDiff,reduceSub]
  rfl
 ·rintro k s hk ⟨rfl,hall⟩
  simp (maxSteps:=2000000) (disch:=first|omega|(simp only[lenS];try omega)) only[go_sem,reduceAdd,reduceEqDiff,reduceLeDiff,reduceSub]
  refine⟨fun h=>?_,fun h=>⟨rfl,?_⟩⟩
  ·have:a≠b:=fun e=>h (by simp [e])
   simp [this]
  ·rw[z1ek hk,z1ek (show k<b.length by omega),hall,h]
 ·rintro s ⟨rfl,hall⟩
  simp (maxSteps:=2000000) (disch:=first|omega|(simp only[lenS];try omega)) only[go_sem,reduceAdd,reduceEqDiff,reduceLeDiff,reduceSub]
  rw[List.take_length,List.take_of_length_le (by omega)] at hall
  simp [hall]
theorem wds(a:List (List Int))(hl:a.length<2^62)(hx : ∀ x∈a,x.length<2^62):C w7c [rows a,rows a] []=some (.bool true,[]):=by
 refine w0u ?_
 simp (maxSteps:=2000000) (disch:=first|omega|(simp only[lenS];try omega)) only[wbd,go_sem,reduceAdd,reduceEqDiff,reduceLeDiff,reduceSub]
 refine W_for a.length (fun k s=>s=⟨[rows a,rows a,.any,.any,.any,I a.length,I k,.any,.any],[]⟩) ?_ ?_ ?_
 ·simp (maxSteps:=2000000) (disch:=first|omega|(simp only[lenS];try omega)) only[go_sem,reduceAdd,reduceEqDiff,reduceLeDiff,reduceSub]
  rfl
 ·rintro k s hk rfl
  have hk2:=hx _ (List.getElem_mem hk)
  simp (maxSteps:=2000000) (disch:=first|omega|(simp only[lenS];try omega)) only[go_sem,reduceAdd,reduceEqDiff,reduceLeDiff,reduceSub,wdr]
  rfl
 ·rintro s rfl
  simp (maxSteps:=2000000) (disch:=first|omega|(simp only[lenS];try omega)) only[go_sem,reduceAdd,reduceEqDiff,reduceLeDiff,reduceSub]
theorem wdq(l:List (List Int))(m:List Int)(hl:l.length<2^62)(hx : ∀ x∈l,x.length<2^62):C w7a [rows l,ints m] []=some (.bool (decide (m∈l)),[]):=by
 refine w0s ?_
 simp (maxSteps:=2000000) (disch:=first|omega|(simp only[lenS];try omega)) only[wbb,go_sem,reduceAdd,reduceEqDiff,reduceLeDiff,reduceSub]
 refine W_for l.length (fun k s=>s=⟨[.any,ints m,.any,.any,rows l,I l.length,I k,.any,.any],[]⟩∧(l.take k).any (fun x=>decide (x=m))=false) ?_ ?_ ?_
 ·simp (maxSteps:=2000000) (disch:=first|omega|(simp only[lenS];try omega)) only[go_sem,reduceAdd,reduceEqDiff,reduceLeDiff,reduceSub]
  rfl
 ·rintro k s hk ⟨rfl,hall⟩
  have hk2:=hx _ (List.getElem_mem hk)
  simp (maxSteps:=2000000) (disch:=first|omega|(simp only[lenS];try omega)) only[go_sem,reduceAdd,reduceEqDiff,reduceLeDiff,reduceSub,wdr]
  refine⟨fun h=>?_,fun h=>⟨rfl,z3e hk hall (decide_eq_false h)⟩⟩
  have:m∈l:=by rw[←h];exact List.getElem_mem hk
  simp [this]
 ·rintro s ⟨rfl,hall⟩
  simp (maxSteps:=2000000) (disch:=first|omega|(simp only[lenS];try omega)) only[go_sem,reduceAdd,reduceEqDiff,reduceLeDiff,reduceSub]
  rw[List.take_length,List.any_eq_false] at hall
  have:¬m∈l:=fun h=>by simpa using hall m h
  simp [this]
theorem wae(n:Net)(t:Int)(hn:n.tr.length<2^62):C w75 [encN n,I t] []=some (.bool (inB 0 (n.tr.length-1) t),[]):=by
 refine w0n ?_
 simp (maxSteps:=2000000) (disch:=first|omega|(simp only[lenS];try omega)) only[wb6,go_sem,reduceAdd,reduceEqDiff,reduceLeDiff,reduceSub]
 simp (maxSteps:=2000000) (disch:=first|omega|(simp only[lenS];try omega)) only[go_sem,reduceAdd,reduceEqDiff,reduceLeDiff,reduceSub,wag]
 grind
theorem wa6(m:List Int)(hm:m.length<2^62)(h:m.all (inB 0 50)=true):C w6x [ints m] []=some (.tup [ints m,.bool true],[]):=by
 refine w0f ?_
 simp (maxSteps:=2000000) (disch:=first|omega|(simp only[lenS];try omega)) only[wax,go_sem,reduceAdd,reduceEqDiff,reduceLeDiff,reduceSub]
 simp (maxSteps:=2000000) (disch:=first|omega|(simp only[lenS];try omega)) only[go_sem,reduceAdd,reduceEqDiff,reduceLeDiff,reduceSub,wa2 m _ _ hm,h]
theorem wa5(m:List Int)(hm:m.length<2^62)(h:m.all (inB 0 50)=false):C w6x [ints m] []=some (.tup [.un t_int true 1 [],.bool false],[]):=by
 refine w0f ?_
 simp (maxSteps:=2000000) (disch:=first|omega|(simp only[lenS];try omega)) only[wax,go_sem,reduceAdd,reduceEqDiff,reduceLeDiff,reduceSub]
 simp (maxSteps:=2000000) (disch:=first|omega|(simp only[lenS];try omega)) only[go_sem,reduceAdd,reduceEqDiff,reduceLeDiff,reduceSub,wa2 m _ _ hm,h]
theorem w9t(n:Net)(m:List Int)(t:Int)(hn:smN n)(hm:m.length<2^62)(h:zvy n m t=true):C w6l [encN n,ints m,I t] []=some (.tup [ints (zgc (trAt n t) m),.bool true],[]):=by
 have h0:=hn.1
 obtain⟨h1,h2⟩:=Bool.and_eq_true ..▸h
 obtain⟨h3,h4,h5,h6,h7,h8⟩:=z8e h1
 have hx:=zjh h8 (zj2 h4).2.2.1
 have hy:=zjg h8 (by have:=zja h3;omega)
 have hm:=(zj2 h4).2.2.2
 have hz:=zge (trAt n t) m
 refine w03 ?_
 simp (maxSteps:=2000000) (disch:=first|omega|(simp only[lenS];try omega)) only[wak,go_sem,reduceAdd,reduceEqDiff,reduceLeDiff,reduceSub]
 simp (maxSteps:=2000000) (disch:=first|omega|(simp only[lenS];try omega)) only[go_sem,reduceAdd,reduceEqDiff,reduceLeDiff,reduceSub,wad n m hn (by omega),wae n t (by omega),z1ex,wac (trAt n t) m hx.1 (by omega),(show zs4 n m=true by simp [zs4,h3,h4]),(show inB 0 (n.tr.length-1) t=true by simp [inB];omega),h7,
  wa9 (trAt n t) m hx.1 hx.2.1 hx.2.2 ⟨by omega,by omega,by omega⟩ (by omega) hm.2,wa6 (zgc (trAt n t) m) (by omega) h2]
theorem w9s(n:Net)(m:List Int)(t:Int)(hn:smN n)(hm:m.length<2^62)(h:zvy n m t=false):C w6l [encN n,ints m,I t] []=some (.tup [.un t_int true 1 [],.bool false],[]):=by
 have h0:=hn.1
 refine w03 ?_
 simp (maxSteps:=2000000) (disch:=first|omega|(simp only[lenS];try omega)) only[wak,go_sem,reduceAdd,reduceEqDiff,reduceLeDiff,reduceSub]
 simp (maxSteps:=2000000) (disch:=first|omega|(simp only[lenS];try omega)) only[go_sem,reduceAdd,reduceEqDiff,reduceLeDiff,reduceSub,wad n m hn hm,wae n t (by omega)]
 intro h1 h2
 obtain⟨h3,h4⟩:=zs5 h1
 have h6:0≤t∧t.toNat<n.tr.length:=by simp [inB] at h2;omega
 have h8:=(zja h3).2.2.2 _ (List.getElem_mem h6.2)
 rw[z1ex h6.2] at h8
 have hx:=zjh h8 (zj2 h4).2.2.1
 have hy:=zjg h8 (by have:=zja h3;omega)
 have hm:=(zj2 h4).2.2.2
 have hz:=zge (trAt n t) m
 simp (maxSteps:=2000000) (disch:=first|omega|(simp only[lenS];try omega)) only[go_sem,reduceAdd,reduceEqDiff,reduceLeDiff,reduceSub,z1ex,wac (trAt n t) m hx.1 (by omega)]
 intro h7
 have h9:(zgc (trAt n t) m).all (inB 0 50)=false:=by simpa [zvy,canN,h1,h2,h7] using h
 simp (maxSteps:=2000000) (disch:=first|omega|(simp only[lenS];try omega)) only[go_sem,reduceAdd,reduceEqDiff,reduceLeDiff,reduceSub,z1ex,wa9 (trAt n t) m hx.1 hx.2.1 hx.2.2 ⟨by omega,by omega,by omega⟩ (by omega) hm.2,wa5 (zgc (trAt n t) m) (by omega) h9]
theorem weo(bs:List Int)(hl:bs.length<2^62)(hb : ∀ x∈bs,0≤x∧x<256) :
  Lw (C w87 [bys bs] []) fun r=>∃ (n:Net) (ls q:List Int),r=(.tup [.agg [I n.pl,.un wgj false 3 (n.tr.map encT)],.un t_int true 1 (ls.map I),.un t_int true 1 (q.map I)],[])∧smNet n∧ls.length≤45∧q.length≤20:=by
 obtain⟨_,e1,f,ls,t,T,a1,s1,rfl,hT,g1,g2,g3,g4,g5⟩:=wfh bs 0 0 (by omega) (by omega) hl hb
 obtain⟨_,e2,x2,a2,s2,rfl,h1,h2,h3,h4⟩:=wfm 10 bs a1 s1 (by omega) (by omega) hl hb
 obtain⟨K,rfl⟩ : ∃ K:Nat,x2=K:=⟨x2.toNat,by omega⟩
 have hK:K≤10:=by omega
 have hsn:=g3.1
 rcases hT with rfl | rfl
 all_goals
  refine w2q ?_
  simp (maxSteps:=2000000) (disch:=first|omega|(simp only[lenS];try omega)) only[wc7,go_sem,reduceAdd,reduceEqDiff,reduceLeDiff,reduceSub]
  simp (maxSteps:=2000000) (disch:=first|omega|(simp only[lenS];try omega)) only[go_sem,reduceAdd,reduceEqDiff,reduceLeDiff,reduceSub,e1,e2]
  refine z1a (fun k s=>∃ (q:List Int) (a sd:Int),s=⟨[.any,.ptr 0 0,.any,.any,.ptr 1 0,.ptr 2 0,.ref 3 1 0 ls.length,.ref 4 1 0 q.length,I k,.any],[.box wgh [I 0,.nil false 3],.box wgn [bys bs,I a,.int .u64 sd],.box wgg [I f.net.pl,.ref 5 3 0 f.net.tr.length,I f.src,I f.dst],.row t_int true 1 (ls.map I),.row t_int true 1 (q.map I),.row wgj false 3 (f.net.tr.map encT)]⟩∧q.length+k≤10∧a2≤a∧a≤a2+2*q.length) K ?_ ?_
  ·refine⟨[],a2,s2,?_,by simp;omega,by omega,by simp⟩
   simp (maxSteps:=2000000) (disch:=first|omega|(simp only[lenS];try omega)) only[go_sem,reduceAdd,reduceEqDiff,reduceLeDiff,reduceSub]
   first | done | rfl
  ·rintro k s ⟨q,a,sd,rfl,hq,ha1,ha2⟩
   by_cases h0:0<k
   ·obtain⟨_,e4,x4,a4,s4,rfl,m1,m2,m3,m4⟩:=wfm (max 1 (ls.length:Int)) bs a sd (by omega) (by omega) hl hb
    simp (maxSteps:=2000000) (disch:=first|omega|(simp only[lenS];try omega)) only[go_sem,reduceAdd,reduceEqDiff,reduceLeDiff,reduceSub,e4,wft]
    exact⟨k-1,by omega,q++[x4],a4,s4,by simp;omega,by simp;omega,by omega,by simp;omega⟩
   ·have:k=0:=by omega
    subst this
    simp (maxSteps:=2000000) (disch:=first|omega|(simp only[lenS];try omega)) only[go_sem,reduceAdd,reduceEqDiff,reduceLeDiff,reduceSub]
    exact⟨f.net,ls,q,rfl,g3,g4,by omega⟩
theorem wa4(n:Net)(l:List Int)(hn:n.tr.length<2^62)(hl:l.length<2^62):C w6w [encN n,ints l] []=some (.bool (areTr n l),[]):=by
 refine w0e ?_
 simp (maxSteps:=2000000) (disch:=first|omega|(simp only[lenS];try omega)) only[waw,go_sem,reduceAdd,reduceEqDiff,reduceLeDiff,reduceSub]
 simp (maxSteps:=2000000) (disch:=first|omega|(simp only[lenS];try omega)) only[go_sem,reduceAdd,reduceEqDiff,reduceLeDiff,reduceSub,wa2 l _ _ hl]
 unfold areTr;grind
theorem wa1(n:Net)(l q:List Int)(hn:smN n)(hl:l.length<2^40)(hq:q.length<2^40):C w6t [encN n,ints l,ints q] []=some (.tup [.un t_int true 1 ((wordV n l q).map I),.bool (zj0 n l&&areTr n q)],[]):=by
  have hG:=w9u n l hn hl
  have hn':=hn.1
  refine w0b ?_
  simp (maxSteps:=2000000) (disch:=first|omega|(simp only[lenS];try omega)) only[wat,go_sem,reduceAdd,reduceEqDiff,reduceLeDiff,reduceSub]
  cases hg:zj0 n l with
  | false =>
    simp (maxSteps:=2000000) (disch:=first|omega|(simp only[lenS];try omega)) only[go_sem,reduceAdd,reduceEqDiff,reduceLeDiff,reduceSub,hG,hg]
    simp [wordV,hg]
  | true =>
    cases ha:areTr n q with
    | false =>
      simp (maxSteps:=2000000) (disch:=first|omega|(simp only[lenS];try omega)) only[go_sem,reduceAdd,reduceEqDiff,reduceLeDiff,reduceSub,hG,hg,wa4,ha]
      simp [wordV,hg,ha]
    | true =>
      simp (maxSteps:=2000000) (disch:=first|omega|(simp only[lenS];try omega)) only[go_sem,reduceAdd,reduceEqDiff,reduceLeDiff,reduceSub,hG,hg,wa4,ha]
      have hgl:goodN n=true∧l.length=n.tr.length∧l.all (inB 0 9)=true:=by simpa [zj0,and_assoc] using hg
      have hq2:q.length≤60∧∀ x∈q,0≤x∧x<n.tr.length:=by
        simp only[areTr,Bool.and_eq_true,decide_eq_true_eq,List.all_eq_true,inB] at ha
        exact⟨ha.1,fun x hx=>by have:=ha.2 x hx;omega⟩
      have hl9 : ∀ x∈l,0≤x∧x≤9:=by
        have h9:=hgl.2.2
        simp only[Bool.and_eq_true,decide_eq_true_eq,List.all_eq_true,inB] at h9
        exact h9
      refine W_for q.length (fun i st=>st=⟨[.any,ints l,.any,.any,.any,.any,.ref 0 1 0 (wordP l (q.take i)).length,.any,.any,ints q,I q.length,I i,.any,.any],[.row t_int true 1 ((wordP l (q.take i)).map I)]⟩) ?_ ?_ ?_
      · simp (maxSteps:=2000000) (disch:=first|omega|(simp only[lenS];try omega)) only[go_sem,reduceAdd,reduceEqDiff,reduceLeDiff,reduceSub]
        simp [wordP]
      · rintro i st hi rfl
        have h6:=hq2.2 _ (List.getElem_mem hi)
        have e:=at_eq (m:=l) (p:=q[i]) (by omega)
        have hb:=z4k (lo:=0) (hi:=9) hl9 (p:=q[i]) (by omega)
        have hs:=z1gr (l:=l) hi
        have hw:=z1gq l (q.take i)
        rw[List.length_take] at hw
        rw[hs]
        generalize wordP l (q.take i)=V at *
        simp (maxSteps:=2000000) (disch:=first|omega|(simp only[lenS];try omega)) only[go_sem,reduceAdd,reduceEqDiff,reduceLeDiff,reduceSub,e]
        refine⟨fun h=>?_,fun h=>?_⟩
        · rw[if_pos h]
          simp
        · rw[if_neg (by omega)]
          rfl
      · rintro st rfl
        have hw:=z1gq l q
        simp (maxSteps:=2000000) (disch:=first|omega|(simp only[lenS];try omega)) only[go_sem,reduceAdd,reduceEqDiff,reduceLeDiff,reduceSub]
        simp [wordV,hg,ha]
theorem wf2(n:Net)(l q:List Int)(hn:smN n)(hl:l.length<2^40)(hq:q.length<2^40):C w8j [encN n,ints l,ints q] []=some (.tup [.un t_int true 1 ((wordV n l q).map I),.bool (zj0 n l&&areTr n q)],[]):=by
  have hG:=wet n l hn hl
  have hn':=hn.1
  refine w1o ?_
  simp (maxSteps:=2000000) (disch:=first|omega|(simp only[lenS];try omega)) only[wcj,go_sem,reduceAdd,reduceEqDiff,reduceLeDiff,reduceSub]
  cases hg:zj0 n l with
  | false =>
    simp (maxSteps:=2000000) (disch:=first|omega|(simp only[lenS];try omega)) only[go_sem,reduceAdd,reduceEqDiff,reduceLeDiff,reduceSub,hG,hg]
    simp [wordV,hg]
  | true =>
    cases ha:areTr n q with
    | false =>
      simp (maxSteps:=2000000) (disch:=first|omega|(simp only[lenS];try omega)) only[go_sem,reduceAdd,reduceEqDiff,reduceLeDiff,reduceSub,hG,hg,wfa]
      have ha':=ha
      simp only[areTr,Bool.and_eq_false_iff,decide_eq_false_iff_not] at ha'
      refine⟨fun h=>by simp [wordV,hg,ha],fun h=>⟨fun h2=>?_,fun h2=>by simp [wordV,hg,ha]⟩⟩
      rcases ha' with ha' | ha'
      · omega
      · rw[ha'] at h2;cases h2
    | true =>
      simp (maxSteps:=2000000) (disch:=first|omega|(simp only[lenS];try omega)) only[go_sem,reduceAdd,reduceEqDiff,reduceLeDiff,reduceSub,hG,hg,wfa]
      have ha':=ha
      simp only[areTr,Bool.and_eq_true,decide_eq_true_eq] at ha'
      refine⟨fun h=>by omega,fun h=>⟨fun h2=>?_,fun h2=>by rw[ha'.2] at h2;cases h2⟩⟩
      have hgl:goodN n=true∧l.length=n.tr.length∧l.all (inB 0 9)=true:=by simpa [zj0,and_assoc] using hg
      have hq2:q.length≤60∧∀ x∈q,0≤x∧x<n.tr.length:=by
        simp only[areTr,Bool.and_eq_true,decide_eq_true_eq,List.all_eq_true,inB] at ha
        exact⟨ha.1,fun x hx=>by have:=ha.2 x hx;omega⟩
      have hl9 : ∀ x∈l,0≤x∧x≤9:=by
        have h9:=hgl.2.2
        simp only[Bool.and_eq_true,decide_eq_true_eq,List.all_eq_true,inB] at h9
        exact h9
      refine W_for q.length (fun i st=>st=⟨[.any,ints l,.any,.any,.any,.any,.ref 0 1 0 (wordP l (q.take i)).length,.any,.any,ints q,I q.length,I i,.any,.any],[.row t_int true 1 ((wordP l (q.take i)).map I)]⟩) ?_ ?_ ?_
      · simp (maxSteps:=2000000) (disch:=first|omega|(simp only[lenS];try omega)) only[go_sem,reduceAdd,reduceEqDiff,reduceLeDiff,reduceSub]
        simp [wordP]
      · rintro i st hi rfl
        have h6:=hq2.2 _ (List.getElem_mem hi)
        have e:=at_eq (m:=l) (p:=q[i]) (by omega)
        have hb:=z4k (lo:=0) (hi:=9) hl9 (p:=q[i]) (by omega)
        have hs:=z1gr (l:=l) hi
        have hw:=z1gq l (q.take i)
        rw[List.length_take] at hw
        rw[hs]
        generalize wordP l (q.take i)=V at *
        simp (maxSteps:=2000000) (disch:=first|omega|(simp only[lenS];try omega)) only[go_sem,reduceAdd,reduceEqDiff,reduceLeDiff,reduceSub,e]
        refine⟨fun h=>?_,fun h=>?_⟩
        · rw[if_pos h]
          simp
        · rw[if_neg (by omega)]
          rfl
      · rintro st rfl
        have hw:=z1gq l q
        simp (maxSteps:=2000000) (disch:=first|omega|(simp only[lenS];try omega)) only[go_sem,reduceAdd,reduceEqDiff,reduceLeDiff,reduceSub]
        simp [wordV,hg,ha]
theorem wgs(n:Net)(ls q:List Int):(wordV n ls q).length≤q.length:=by
 unfold wordV wordP
 split
 ·exact Nat.le_trans (List.length_filter_le _ _) (by simp)
 ·simp
theorem laws_FnSilent_ok(a b:List Int)(ha2 : ∀ x∈a,0≤x∧x<256)(hb2 : ∀ x∈b,0≤x∧x<256):C w78 [bys a,bys b] []=some (.bool true,[]):=by
  refine w0q ?_
  simp (maxSteps:=2000000) (disch:=first|omega|(simp only[lenS];try omega)) only[wb9,go_sem,reduceAdd,reduceEqDiff,reduceLeDiff,reduceSub]
  simp (maxSteps:=2000000) (disch:=first|omega|(simp only[lenS];try omega)) only[go_sem,reduceAdd,reduceEqDiff,reduceLeDiff,reduceSub,wdp]
  intro hbig
  simp only[Bool.or_eq_false_iff,decide_eq_false_iff_not] at hbig
  obtain⟨_,e1,n,ls,m,bg,rfl,h1,h2,h3⟩:=wen a (by omega) ha2
  obtain⟨_,e2,n2,l2,q,rfl,g1,g2,g3⟩:=weo b (by omega) hb2
  have i1:=w9y n ls m bg h1.smN (by omega) (by omega)
  have i2:=wex n ls m bg h1.smN (by omega) (by omega)
  have i3:=w9u n ls h1.smN (by omega)
  have i4:=wet n ls h1.smN (by omega)
  have i5:=wa1 n2 l2 q g1.smN (by omega) (by omega)
  have i6:=wf2 n2 l2 q g1.smN (by omega) (by omega)
  have hwl:=wgs n2 l2 q
  have hsi:=wdr (wordV n2 l2 q) (wordV n2 l2 q) (by omega)
  simp only[decide_true] at hsi
  have hn30:=h1.1
  have hn31:=g1.1
  have hnsm:=h1.smN
  generalize wordV n2 l2 q=w at *
  generalize (zj0 n2 l2&&areTr n2 q)=wb at *
  have tail : ∀ (fr:List PV) (Q:Out→Prop),True:=fun _ _=>trivial
  cases hs:silB n ls m bg with
  | false =>
    have hr:silR n ls m bg=[]:=by unfold silR;rw[hs];rfl
    rw[hs,hr] at i1 i2
    have sl:=wds [] (by simp) (by simp)
    simp only[rows,List.map_nil] at sl
    generalize zj0 n ls=gl at *
    cases gl<;>cases wb
    all_goals
      simp (maxSteps:=2000000) (disch:=first|omega|(simp only[lenS];try omega)) only[go_sem,reduceAdd,reduceEqDiff,reduceLeDiff,reduceSub,e1,i1,i2,i3,i4,sl,e2,i5,i6,hsi]
      try(first | done | rfl)
  | true =>
    have hs2:=hs
    unfold silB at hs2
    rw[Bool.and_eq_true] at hs2
    obtain⟨hw,hgl⟩:=hs2
    obtain⟨hoe,hc,f1,f2,f3,f4,hpos⟩:=wgq hw
    have hmk:=zvp hoe
    have hr:silR n ls m bg=silV ls (exAll n m bg).sp.ms (exAll n m bg).sp.ar:=by unfold silR;rw[hs];rfl
    have hstart:=z1a1 (ls:=ls) hmk.1 hmk.2.1
    have hstay:=fun x t=>z1a2 (ls:=ls) (x:=x) (t:=t) hmk.1 hmk.2.1 hc
    have hSl:=z19y ls (exAll n m bg).sp.ms (exAll n m bg).sp.ar
    have hSx : ∀ x∈silV ls (exAll n m bg).sp.ms (exAll n m bg).sp.ar,x.length≤16:=fun x hx=>by
      obtain⟨i,h1,_,rfl⟩:=z19z.1 hx
      have:=zj2 (zs5 (f1.good _ (zij h1))).2;omega
    have hll:=w9q hgl
    rw[hs,hr] at i1 i2
    rw[hgl] at i3 i4
    generalize silV ls (exAll n m bg).sp.ms (exAll n m bg).sp.ar=S at *
    have hS4:S.length≤400:=by omega
    have sl:=wds S (by omega) (fun x hx=>by have:=hSx x hx;omega)
    have hm1:=wdq S m (by omega) (fun x hx=>by have:=hSx x hx;omega)
    rw[decide_eq_true hstart] at hm1
    cases wb
    all_goals
      simp (maxSteps:=2000000) (disch:=first|omega|(simp only[lenS];try omega)) only[go_sem,reduceAdd,reduceEqDiff,reduceLeDiff,reduceSub,e1,i1,i2,i3,i4,sl,hm1]
      refine⟨rfl,?_⟩
      refine W_for S.length (fun j s=>s=⟨[.any,bys b,.any,.ptr 0 0,.ref 1 1 0 ls.length,.any,.any,.ref 2 1 0 S.length,.any,.any,.any,.any,.any,.any,.any,.any,.any,.any,.any,.any,.any,.any,.any,.any,.any,.any,.ref 2 1 0 S.length,I S.length,I j,.any,.any,.any,.any,.any],[.box wgh [I n.pl,.ref 3 3 0 n.tr.length],.fro true 1 (ls.map I),.row wgk false 1 (S.map ints),.fro false 3 (n.tr.map encT)]⟩) ?_ ?_ ?_
      · simp (maxSteps:=2000000) (disch:=first|omega|(simp only[lenS];try omega)) only[go_sem,reduceAdd,reduceEqDiff,reduceLeDiff,reduceSub]
        first | done | rfl
      · rintro j s hj rfl
        have hxm:=List.getElem_mem hj
        have c1:S[j]? = some S[j]:=List.getElem?_eq_getElem hj
        have hst2:=fun t=>hstay S[j] t hxm
        have hx16:=hSx _ hxm
        generalize S[j]=x at *
        simp (maxSteps:=2000000) (disch:=first|omega|(simp only[lenS];try omega)) only[go_sem,reduceAdd,reduceEqDiff,reduceLeDiff,reduceSub,c1]
        refine W_for n.tr.length (fun k s=>s=⟨[.any,bys b,.any,.ptr 0 0,.ref 1 1 0 ls.length,.any,.any,.ref 2 1 0 S.length,.any,.any,.any,ints x,.any,.any,.any,.any,.any,.any,.any,.any,.any,.any,.any,.any,.any,.any,.ref 2 1 0 S.length,I S.length,I j,.any,I n.tr.length,I k,.any,.any],[.box wgh [I n.pl,.ref 3 3 0 n.tr.length],.fro true 1 (ls.map I),.row wgk false 1 (S.map ints),.fro false 3 (n.tr.map encT)]⟩) ?_ ?_ ?_
        · simp (maxSteps:=2000000) (disch:=first|omega|(simp only[lenS];try omega)) only[go_sem,reduceAdd,reduceEqDiff,reduceLeDiff,reduceSub]
          first | done | rfl
        · rintro k s hk rfl
          have g0:ls[k]? = some (at_ ls (k:Int)):=by
            rw[List.getElem?_eq_getElem (by omega)]
            exact congrArg some (at_eq (m:=ls) (p:=(k:Int)) (by simp;omega))
          have hst3:=hst2 (k:Int)
          cases hf:zvy n x (k:Int) with
          | false =>
            have fr:=w9s n x (k:Int) hnsm (by omega) hf
            simp (maxSteps:=2000000) (disch:=first|omega|(simp only[lenS];try omega)) only[go_sem,reduceAdd,reduceEqDiff,reduceLeDiff,reduceSub,fr]
            first | done | rfl
          | true =>
            have fr:=w9t n x (k:Int) hnsm (by omega) hf
            have hyl:=zge (trAt n (k:Int)) x
            have hm2:=wdq S (zgc (trAt n (k:Int)) x) (by omega) (fun x hx=>by have:=hSx x hx;omega)
            generalize at_ ls (k:Int)=v at *
            by_cases hv:v=0
            · rw[decide_eq_true (hst3 hf hv)] at hm2
              generalize zgc (trAt n (k:Int)) x=y at *
              simp (maxSteps:=2000000) (disch:=first|omega|(simp only[lenS];try omega)) only[go_sem,reduceAdd,reduceEqDiff,reduceLeDiff,reduceSub,fr,g0,hv,hm2]
              first | done | rfl | exact⟨fun _=>rfl,fun _=>rfl⟩
            · generalize zgc (trAt n (k:Int)) x=y at *
              simp (maxSteps:=2000000) (disch:=first|omega|(simp only[lenS];try omega)) only[go_sem,reduceAdd,reduceEqDiff,reduceLeDiff,reduceSub,fr,g0,hv]
              first | done | rfl | exact⟨fun _=>rfl,fun _=>rfl⟩
        · rintro s rfl
          simp (maxSteps:=2000000) (disch:=first|omega|(simp only[lenS];try omega)) only[go_sem,reduceAdd,reduceEqDiff,reduceLeDiff,reduceSub]
          first | done | rfl
      · rintro s rfl
        simp (maxSteps:=2000000) (disch:=first|omega|(simp only[lenS];try omega)) only[go_sem,reduceAdd,reduceEqDiff,reduceLeDiff,reduceSub,e2,i5,i6,hsi]
        try(first | done | rfl)
end Go.Proofs.YtbaclnecajkknaaGreat.Pi

