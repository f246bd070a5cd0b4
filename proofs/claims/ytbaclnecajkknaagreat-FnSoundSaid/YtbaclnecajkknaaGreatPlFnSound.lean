/- The plain laws. -/
import Derived.Test.YtbaclnecajkknaaGreatPiRy
import Derived.Laws.BitsLemmas
import Derived.Sort.AssemblyPlain
import Derived.Laws.Bits64
import Derived.Laws.Bits64b
open List renaming getElem?_eq_getElem->L'v,mem_singleton->N'2,getElem_mem->P'l,getD_eq_getElem?_getD->N'u,mem_cons->M'z,replicate->L'0,foldl_cons->P'o,range->L'1,mem_append->L'j,length_cons->M'2,mem_iff_getElem->P'p,length_nil->M'7,any_eq_false->M'y,getElem?_set->L'k,pairwise_cons->P'q,getElem?_set_self->P'r,any_eq_true->N't,all_eq_true->L'h,mem_map->M's,length_append->L'x,getElem?_eq_none->L'r,mem_filter->N'z,getElem?_replicate->P's,getElem_append_left->P't,pairwise_iff_getElem->P'u,range_succ->P'v,mem_range->N's,getElem?_set_ne->L'n,take_succ_cons->P'w,filter_append->P'x,drop_eq_getElem_cons->N'l,getElem?_eq_some_iff->L'b,exists_mem_of_ne_nil->P'y,take_succ_eq_append_getElem->P'z,findIdx?_eq_some_iff_getElem->Q'0,length_map->Q'1,length_set->N'9,length_replicate->M'j,getElem?_map->N'i,getElem_append->Q'2,any_append->Q'4,drop_succ_cons->Q'5,foldl_append->Q'6,length_filter_le->Q'7,ext_getElem->Q'8,map_append->M'r,append_nil->M'e,getElem?_append_left->L'm,mem_append_left->P'j,ext_getElem?->L'u,ne_nil_of_mem->Q'b,all_cons->P'c,pairwise_append->Q'c,count_cons->Q'f,countP_cons->Q'g,filter_cons->Q'h,append_assoc->M'c,getElem?_range->P'2,drop_eq_nil_of_le->Q'i,findIdx?_eq_none_iff->Q'm,getElem_cons_zero->Q'n,cons_append->Q'o,eq_nil_of_length_eq_zero->N'8,mem_or_eq_of_mem_set->Q'p,set_cons_succ->Q'r,countP_le_length->Q's,filter_nil->Q't,getElem_set->Q'u,getElem_singleton->Q'v,length_eq_zero_iff->Q'w,nil_append->M'3,pairwise_map->Q'y,nodup_cons->N'g,mem_append_right->R'1
open Bool renaming and_eq_true->L'c,true_and->P'e,not_eq_true'->N'e,or_eq_false_iff->Q'a,and_true->Q'e,and_self->P'd,false_eq_true->M'w,eq_false_iff->Q'k,eq_iff_iff->Q'q,or_eq_true->N'r,not_eq_false'->Q'z,not_eq_true->R'0
open Int renaming toNat_natCast->P'm,toNat_of_nonneg->P'n,ofNat->Q'd
open Nat renaming le_refl->L'l,add_sub_cancel->N'5,eq_zero_or_pos->Q'3,lt_trichotomy->Q'9,pow_add->Q'j,strongRecOn->Q'l,le_trans->L'g,mul_le_mul_left->Q'x
namespace Go.Proofs.YtbaclnecajkknaaGreat.Pi
open Go
set_option linter.all false

abbrev bys(l:List Int):PV:=.sl true 1 (l.map (PV.int .u8))
abbrev rows(l:List (List Int)):PV:=.sl false 1 (l.map ints)
theorem z1fe{α:Type}{l:List α}{k:Nat}(hk:k<l.length):l.take (k+1)=l.take k++[l[k]]:=P'z hk
theorem z2z{α:Type}{l:List α}{p:α->Bool}{k:Nat}(hk:k<l.length)(h:(l.take k).all p=true)(hp:p l[k]=true):(l.take (k+1)).all p=true:=by
 rw[z1fe hk,List.all_append,h,P'c,hp];rfl
theorem z2y{α:Type}{l:List α}{p:α->Bool}{k:Nat}(hk:k<l.length)(hp:p l[k]=false):l.all p=false:=by
 rw[List.all_eq_false];exact⟨l[k],P'l hk,by simp[hp]⟩
theorem z3e{α:Type}{l:List α}{p:α->Bool}{k:Nat}(hk:k<l.length)(h:(l.take k).any p=false)(hp:p l[k]=false):(l.take (k+1)).any p=false:=by
 rw[z1fe hk,Q'4,h,List.any_cons,hp];rfl
def inB(lo hi n:Int):Bool:=decide (lo<=n)&&decide (n<=hi)
def goodM(p:Int)(m:List Int):Bool:=inB 1 16 p&&(m.length:Int)==p&&m.all (inB 0 50)
theorem zjq{p:Int}{m:List Int}(h:goodM p m=true):1<=p/\p<=16/\(m.length:Int)=p/\m.length<=16/\∀x∈m,0<=x/\x<=50:=by
 simp[goodM,inB]at h
 refine⟨h.1.1.1,h.1.1.2,h.1.2,by omega,fun x hx=>h.2 x hx⟩
def zby(a b:List Int):Bool:=(a.zip b).all fun p=>decide (p.2<=p.1)
def idxI{α:Type}(l:List α)(p:α->Bool):Int:=match l.findIdx? p with
|some k=>k
|none=>-1
theorem zl4{α:Type}{l:List α}{p:α->Bool}{k:Nat}(hk:k<l.length)(h:(l.take k).any p=false)(hp:p l[k]=true):idxI l p=k:=by
 have:l.findIdx? p=some k:=by
  rw[Q'0]
  refine⟨hk,hp,fun j hj=>?_⟩
  rw[M'y]at h
  have hjl:j<l.length:=by omega
  have:=h l[j] (by rw[P'p];exact⟨j,by simp;omega,by simp⟩)
  simpa using this
 simp[idxI,this]
theorem zl3{α:Type}{l:List α}{p:α->Bool}(h:l.any p=false):idxI l p=-1:=by
 have:l.findIdx? p=none:=by
  rw[Q'm]
  rw[M'y]at h
  intro x hx;simpa using h x hx
 simp[idxI,this]
theorem zl0{α:Type}(l:List α)(p:α->Bool):l.any p=decide (0<=idxI l p):=by
 unfold idxI
 cases h:l.findIdx? p with
 |none=>
  rw[Q'm]at h
  simp only[M'y.2 (fun x hx=>by simpa using h x hx)]
  rfl
 |some k=>
  rw[Q'0]at h
  obtain⟨h1,h2,_⟩:=h
  rw[N't.2 ⟨l[k],P'l h1,h2⟩]
  simp
theorem zl2{α:Type}(l:List α)(p:α->Bool):-1<=idxI l p/\idxI l p<l.length:=by
 unfold idxI
 cases h:l.findIdx? p with
 |none=>simp;omega
 |some k=>
  rw[Q'0]at h
  obtain⟨h1,h2,_⟩:=h
  simp;omega
attribute [go_sem] Bool.false_and Bool.and_false bne_self_eq_false
def putI:List Int->Int->List Int
|[],x=>[x]
|y::l,x=>if y<x then y::putI l x else if y=x then y::l else x::y::l
theorem z12x:∀{l:List Int} {x:Int} {k:Nat} (hk:k<l.length),(l.take k).all (fun y=>decide (y<x))=true->l[k]=x->putI l x=l
 |y::l,x,0,hk,h,hx=>by
  simp only[Q'n]at hx
  simp[putI,hx]
 |y::l,x,k+1,hk,h,hx=>by
  simp only[P'w,P'c,L'c,decide_eq_true_eq]at h
  simp only[putI,h.1,if_true]
  rw[z12x (k:=k) (by simpa using hk) h.2 (by simpa using hx)]
theorem z12y : ∀{l:List Int} {x:Int} {k:Nat},(l.take k).all (fun y=>decide (y<x))=true->(∀h:k<l.length,x<l[k])->k<=l.length->putI l x=l.take k++x :: l.drop k
  | [], x, k, h, hx, hk => by have : k = 0 := by simpa using hk
                              subst this;rfl
  | y :: l, x, 0, h, hx, hk => by
    have:=hx (by simp)
    simp only[Q'n]at this
    have h1:¬y<x:=by omega
    have h2:¬y=x:=by omega
    simp[putI,h1,h2]
  | y :: l, x, k + 1, h, hx, hk => by
    simp only[P'w,P'c,L'c,decide_eq_true_eq]at h
    simp only[putI,h.1,if_true,P'w,Q'5,Q'o]
    rw[z12y (k:=k) h.2 (fun hh=>by have:=hx (by simpa using hh);simpa using this) (by simpa using hk)]
theorem z12z:∀(l:List Int)(x:Int),l.length<=(putI l x).length/\(putI l x).length<=l.length+1
 |[],x=>by simp[putI]
 |y::l,x=>by
  have:=z12z l x
  simp only[putI]
  split
  ·simp;omega
  ·split<;>simp
theorem z130{l:List Int}{x y:Int}(h:y∈putI l x):y∈l\/y=x:=by
 induction l with
 |nil=>simp[putI]at h;exact .inr h
 |cons z l ih=>
  simp only[putI]at h
  split at h
  ·rcases M'z.1 h with h|h
   ·exact .inl (by simp[h])
   ·rcases ih h with h|h
    ·exact .inl (by simp[h])
    ·exact .inr h
  ·split at h
   ·exact .inl h
   ·rcases M'z.1 h with h|h
    ·exact .inr h
    ·exact .inl h
end Go.Proofs.YtbaclnecajkknaaGreat.Pi
namespace Go.Proofs.YtbaclnecajkknaaGreat.Pi
open Go
set_option linter.all false

structure Tr where
inn:List Int
out:List Int
rst:List Int
structure Net where
pl:Int
tr:List Tr
abbrev encT(t:Tr):PV:=.agg [ints t.inn,ints t.out,ints t.rst]
abbrev trs(l:List Tr):PV:=.sl false 3 (l.map encT)
abbrev encN(n:Net):PV:=.agg [I n.pl,trs n.tr]
def smT(t:Tr):Prop:=t.inn.length<2^40/\t.out.length<2^40/\t.rst.length<2^40
def smN(n:Net):Prop:=n.tr.length<2^40/\∀t∈n.tr,smT t
def smNet(n:Net):Prop:=(0<n.tr.length/\n.tr.length<=30)/\n.pl<=20/\∀t∈n.tr,t.inn.length<=20/\t.out.length<=20/\t.rst.length<=20
theorem smNet.smN{n:Net}(h:smNet n):smN n:=⟨by have:=h.1;omega,fun t ht=>by have:=h.2.2 t ht;exact⟨by omega,by omega,by omega⟩⟩
def incr(l:List Int):Bool:=decide (l.Pairwise (·<·))
theorem zn9{l:List Int}:(l.take 1).Pairwise (·<·):=by cases l<;>simp
theorem z113{l:List Int}{x y:Int}(h:(l++[x]).Pairwise (·<·))(hxy:x<y):(l++[x]++[y]).Pairwise (·<·):=by
 rw[Q'c]
 refine⟨h,by simp,?_⟩
 intro a ha b hb
 simp only[N'2]at hb
 subst hb
 rcases L'j.1 ha with ha|ha
 ·have:=(Q'c.1 h).2.2 a ha x (by simp);omega
 ·simp only[N'2]at ha;omega
theorem znb{l:List Int}{k:Nat}(hk:k+1<l.length)(h:(l.take (k+1)).Pairwise (·<·))(hx:l[k]'(by omega)<l[k+1]):(l.take (k+2)).Pairwise (·<·):=by
 rw[z1fe (show k<l.length by omega)]at h
 rw[z1fe hk,z1fe (show k<l.length by omega)]
 exact z113 h hx
theorem zn8{l:List Int}{k:Nat}(hk:k+1<l.length)(hx:¬l[k]'(by omega)<l[k+1]):incr l=false:=by
 unfold incr
 rw[decide_eq_false_iff_not]
 intro h
 exact hx (P'u.1 h k (k+1) (by omega) hk (by omega))
def z11n(p:Int)(l:List Int):Bool:=incr l&&l.all (inB 0 (p-1))
theorem z11o(p:Int)(l:List Int):(incr l&&l.all (inB 0 (p-1)))=z11n p l:=rfl
def goodT(p:Int)(t:Tr):Bool:=!t.inn.isEmpty&&z11n p t.inn&&z11n p t.out&&z11n p t.rst
def goodN(n:Net):Bool:=inB 1 16 n.pl&&decide (n.tr.length<=24)&&n.tr.all (goodT n.pl)
theorem zjw{n:Net}{k:Nat}(hk:k<n.tr.length)(h:goodT n.pl n.tr[k]=false):goodN n=false:=by
 unfold goodN;rw[z2y hk h];simp
theorem zk7{p:Int}{t:Tr}(h:t.inn.length=0):goodT p t=false:=by
 have:t.inn=[]:=N'8 h
 simp[goodT,this]
theorem zk1{p:Int}{t:Tr}(h:t.inn.length≠0)(h1:z11n p t.inn=true)(h2:z11n p t.out=true)(h3:z11n p t.rst=true):goodT p t=true:=by
 have:t.inn.isEmpty=false:=by cases e:t.inn with
  |nil=>simp[e]at h
  |cons=>rfl
 simp[goodT,this,h1,h2,h3]
def at_(m:List Int)(p:Int):Int:=m.getD p.toNat 0
theorem at_eq{m:List Int}{p:Int}(h:p.toNat<m.length):m[p.toNat]=at_ m p:=by
 unfold at_;rw[N'u,L'v h];rfl
def canT(t:Tr)(m:List Int):Bool:=t.inn.all fun p=>!(at_ m p==0)
def decS(m:List Int)(p:Int):List Int:=m.set p.toNat (at_ m p-1)
def zerS(m:List Int)(p:Int):List Int:=m.set p.toNat 0
def incS(m:List Int)(p:Int):List Int:=m.set p.toNat (at_ m p+1)
def decL(m l:List Int):List Int:=l.foldl decS m
def zerL(m l:List Int):List Int:=l.foldl zerS m
def incL(m l:List Int):List Int:=l.foldl incS m
def zgw(t:Tr)(m:List Int):List Int:=incL (zerL (decL m t.inn) t.rst) t.out
theorem zhi{α β:Type}(f:β->α->β)(b:β){l:List α}{k:Nat}(hk:k<l.length):(l.take (k+1)).foldl f b=f ((l.take k).foldl f b) l[k]:=by
 rw[z1fe hk,Q'6];rfl
theorem zcc(m l:List Int):(decL m l).length=m.length:=by
 unfold decL
 induction l generalizing m with
 |nil=>rfl
 |cons x l ih=>rw[P'o,ih];simp[decS]
theorem z1i1(m l:List Int):(zerL m l).length=m.length:=by
 unfold zerL
 induction l generalizing m with
 |nil=>rfl
 |cons x l ih=>rw[P'o,ih];simp[zerS]
theorem zn3(m l:List Int):(incL m l).length=m.length:=by
 unfold incL
 induction l generalizing m with
 |nil=>rfl
 |cons x l ih=>rw[P'o,ih];simp[incS]
theorem zgy(t:Tr)(m:List Int):(zgw t m).length=m.length:=by
 unfold zgw;rw[zn3,z1i1,zcc]
theorem z4o{m:List Int}{p lo hi:Int}(h:∀x∈m,lo<=x/\x<=hi)(hp:p.toNat<m.length):lo<=at_ m p/\at_ m p<=hi:=by
 rw[<-at_eq hp];exact h _ (P'l hp)
theorem ztc{m:List Int}{i:Nat}{v x:Int}(h:x∈m.set i v):x∈m\/x=v:=Q'p h
theorem zcb{m l:List Int}{lo hi:Int}(h:∀x∈m,lo<=x/\x<=hi)(hl:∀p∈l,p.toNat<m.length):∀x∈decL m l,lo-l.length<=x/\x<=hi:=by
 unfold decL
 induction l generalizing m lo with
 |nil=>intro x hx;have:=h x hx;simp;omega
 |cons p l ih=>
  rw[P'o]
  have hp:=z4o h (hl p (by simp))
  intro x hx
  have h2:=ih (m:=decS m p) (lo:=lo-1) (by
   intro y hy
   rcases ztc hy with hy|hy
   ·have:=h y hy;omega
   ·omega) (by intro q hq;simp[decS];exact hl q (by simp[hq])) x hx
  simp only[M'2];omega
theorem z1i0{m l:List Int}{lo hi:Int}(h:∀x∈m,lo<=x/\x<=hi)(h0:lo<=0/\0<=hi):∀x∈zerL m l,lo<=x/\x<=hi:=by
 unfold zerL
 induction l generalizing m with
 |nil=>exact h
 |cons p l ih=>
  rw[P'o]
  refine ih ?_
  intro y hy
  rcases ztc hy with hy|hy
  ·exact h y hy
  ·omega
theorem zn2{m l:List Int}{lo hi:Int}(h:∀x∈m,lo<=x/\x<=hi)(hl:∀p∈l,p.toNat<m.length):∀x∈incL m l,lo<=x/\x<=hi+l.length:=by
 unfold incL
 induction l generalizing m hi with
 |nil=>intro x hx;have:=h x hx;simp;omega
 |cons p l ih=>
  rw[P'o]
  have hp:=z4o h (hl p (by simp))
  intro x hx
  have h2:=ih (m:=incS m p) (hi:=hi+1) (by
   intro y hy
   rcases ztc hy with hy|hy
   ·have:=h y hy;omega
   ·omega) (by intro q hq;simp[incS];exact hl q (by simp[hq])) x hx
  simp only[M'2];omega
theorem zcd{m l:List Int}{k:Nat}(hk:k<l.length):decL m (l.take (k+1))=(decL m (l.take k)).set (l[k].toNat) (at_ (decL m (l.take k)) l[k]-1):=by
 unfold decL;rw[zhi _ _ hk];rfl
theorem z1i2{m l:List Int}{k:Nat}(hk:k<l.length):zerL m (l.take (k+1))=(zerL m (l.take k)).set (l[k].toNat) 0:=by
 unfold zerL;rw[zhi _ _ hk];rfl
theorem zn4{m l:List Int}{k:Nat}(hk:k<l.length):incL m (l.take (k+1))=(incL m (l.take k)).set (l[k].toNat) (at_ (incL m (l.take k)) l[k]+1):=by
 unfold incL;rw[zhi _ _ hk];rfl
theorem z11p{p:Int}{l:List Int}(h:z11n p l=true):∀x∈l,0<=x/\x<p:=by
 simp only[z11n,L'c,L'h]at h
 intro x hx
 have:=h.2 x hx
 simp[inB]at this;omega
theorem zn7:∀{l:List Int} {lo hi:Int},l.Pairwise (·<·)->(∀x∈l,lo<=x/\x<hi)->lo<=hi->(l.length:Int)<=hi-lo
 |[],_,_,_,_,h=>by simp;omega
 |a::l,lo,hi,hp,hb,h=>by
  rw[P'q]at hp
  have ha:=hb a (by simp)
  have:=zn7 (l:=l) (lo:=a+1) (hi:=hi) hp.2 (fun x hx=>⟨by have:=hp.1 x hx;omega,(hb x (by simp[hx])).2⟩) (by omega)
  simp only[M'2];omega
theorem z11r{p:Int}{l:List Int}(h:z11n p l=true)(h0:0<=p):(l.length:Int)<=p:=by
 have h1:l.Pairwise (·<·):=by simp[z11n,incr]at h;exact h.1
 have:=zn7 h1 (z11p h) h0;omega
theorem zk8{p:Int}{t:Tr}(h:goodT p t=true):t.inn≠[]/\z11n p t.inn=true/\z11n p t.out=true/\z11n p t.rst=true:=by
 simp[goodT]at h
 exact⟨h.1.1.1,h.1.1.2,h.1.2,h.2⟩
theorem zjy{n:Net}(h:goodN n=true):1<=n.pl/\n.pl<=16/\n.tr.length<=24/\∀t∈n.tr,goodT n.pl t=true:=by
 simp[goodN,inB]at h
 exact⟨h.1.1.1,h.1.1.2,h.1.2,h.2⟩
theorem zk5{p:Int}{t:Tr}{m:List Int}(h:goodT p t=true)(hm:(m.length:Int)=p):(∀q∈t.inn,0<=q/\q.toNat<m.length)/\(∀q∈t.out,0<=q/\q.toNat<m.length)/\(∀q∈t.rst,0<=q/\q.toNat<m.length):=by
 obtain⟨_,h1,h2,h3⟩:=zk8 h
 refine⟨fun q hq=>?_,fun q hq=>?_,fun q hq=>?_⟩
 ·have:=z11p h1 q hq;omega
 ·have:=z11p h2 q hq;omega
 ·have:=z11p h3 q hq;omega
theorem zk4{p:Int}{t:Tr}(h:goodT p t=true)(hp:0<=p/\p<=16):t.inn.length<=16/\t.out.length<=16/\t.rst.length<=16:=by
 obtain⟨_,h1,h2,h3⟩:=zk8 h
 have:=z11r h1 hp.1
 have:=z11r h2 hp.1
 have:=z11r h3 hp.1
 omega
def zss(n:Net)(m:List Int):Bool:=goodN n&&goodM n.pl m
def trAt(n:Net)(t:Int):Tr:=n.tr.getD t.toNat ⟨[],[],[]⟩
theorem z1fr{n:Net}{t:Int}(h:t.toNat<n.tr.length):n.tr[t.toNat]=trAt n t:=by
 unfold trAt;rw[N'u,L'v h];rfl
def canN(n:Net)(m:List Int)(t:Int):Bool:=zss n m&&inB 0 (n.tr.length-1) t&&canT (trAt n t) m
def zwm(n:Net)(m:List Int)(t:Int):Bool:=canN n m t&&(zgw (trAt n t) m).all (inB 0 50)
theorem zst{n:Net}{m:List Int}(h:zss n m=true):goodN n=true/\goodM n.pl m=true:=by simpa [zss]using h
theorem z8i{n:Net}{m:List Int}{t:Int}(h:canN n m t=true):goodN n=true/\goodM n.pl m=true/\0<=t/\t.toNat<n.tr.length/\canT (trAt n t) m=true/\goodT n.pl (trAt n t)=true:=by
 simp only[canN,L'c,inB,decide_eq_true_eq]at h
 obtain⟨⟨h1,h2⟩,h3⟩:=h
 obtain⟨h4,h5⟩:=zst h1
 have h6:t.toNat<n.tr.length:=by omega
 refine⟨h4,h5,h2.1,h6,h3,?_⟩
 have:=(zjy h4).2.2.2 n.tr[t.toNat] (P'l h6)
 rwa [z1fr h6]at this
def enabK(n:Net)(m:List Int)(k:Nat):List Int:=((L'1 k).filter fun i=>canT (n.tr.getD i ⟨[],[],[]⟩) m).map Q'd
def enabL(n:Net)(m:List Int):List Int:=enabK n m n.tr.length
theorem zdj(n:Net)(m:List Int)(k:Nat):(enabK n m k).length<=k:=by
 have:=Q'7 (fun i=>canT (n.tr.getD i ⟨[],[],[]⟩) m) (L'1 k)
 simp only[enabK,Q'1];simp at this⊢;omega
theorem zdk{n:Net}{m:List Int}{k:Nat}(hk:k<n.tr.length)(h:canT n.tr[k] m=true):enabK n m (k+1)=enabK n m k++[(k:Int)]:=by
 have e:n.tr[k]?.getD ⟨[],[],[]⟩=n.tr[k]:=by rw[L'v hk];rfl
 simp[enabK,P'v,P'x,e,h]
theorem zdi{n:Net}{m:List Int}{k:Nat}(hk:k<n.tr.length)(h:canT n.tr[k] m=false):enabK n m (k+1)=enabK n m k:=by
 have e:n.tr[k]?.getD ⟨[],[],[]⟩=n.tr[k]:=by rw[L'v hk];rfl
 simp[enabK,P'v,P'x,e,h]
theorem zdl{n:Net}{m:List Int}{t:Int}:t∈enabL n m↔0<=t/\t.toNat<n.tr.length/\canT (trAt n t) m=true:=by
 simp only[enabL,enabK,M's,N'z,N's,trAt]
 constructor
 ·rintro⟨i,⟨h1,h2⟩,rfl⟩
  exact⟨by simp,by simpa using h1,by simpa using h2⟩
 ·rintro⟨h1,h2,h3⟩
  exact⟨t.toNat,⟨h2,h3⟩,by simp;omega⟩
def hasR(n:Net):Bool:=n.tr.any fun t=>decide (0<t.rst.length)
/-! Firing is monotone. -/
theorem zkq{n:Net}{k:Nat}(h:hasR n=false)(hk:k<n.tr.length):n.tr[k].rst=[]:=by
 simp only[hasR,M'y,decide_eq_true_eq]at h
 have:=h _ (P'l hk)
 exact N'8 (by omega)
end Go.Proofs.YtbaclnecajkknaaGreat.Pi
namespace Go.Proofs.YtbaclnecajkknaaGreat.Pi
open Go
set_option linter.all false

def fsq(n:Net)(m l:List Int):List Int:=l.foldl (fun a t=>zgw (trAt n t) a) m
theorem zii(n:Net)(m:List Int):fsq n m []=m:=rfl
theorem zij{n:Net}{m l:List Int}{k:Nat}(hk:k<l.length):fsq n m (l.take (k+1))=zgw (trAt n l[k]) (fsq n m (l.take k)):=by
 unfold fsq;rw[zhi _ _ hk]
theorem zig(n:Net)(m l:List Int):(fsq n m l).length=m.length:=by
 unfold fsq
 induction l generalizing m with
 |nil=>rfl
 |cons x l ih=>rw[P'o,ih,zgy]
def many(n:Net):List Int->List Int->Nat
|_,[]=>0
|m,t::ts=>if zwm n m t then many n (zgw (trAt n t) m) ts+1 else 0
theorem zs7{n:Net}{m l:List Int}{k:Nat}(hk:k<=l.length)(h1 : ∀j,(hj:j<k)->zwm n (fsq n m (l.take j)) (l[j]'(by omega))=true)(h2 : ∀h:k<l.length,zwm n (fsq n m (l.take k)) l[k]=false):many n m l=k:=by
  induction l generalizing m k with
  | nil => have : k = 0 := by simpa using hk
           subst this;rfl
  | cons t ts ih =>
    cases k with
    | zero =>
      have:=h2 (by simp)
      have h:zwm n m t=false:=by simpa [fsq]using this
      simp[many,h]
    | succ k =>
      have h:zwm n m t=true:=by simpa [fsq]using h1 0 (by omega)
      simp only[many,h,if_true]
      rw[ih (m:=zgw (trAt n t) m) (k:=k) (by simpa using hk) (fun j hj=>?_) (fun hh=>?_)]
      · have:=h1 (j+1) (by omega)
        simpa [fsq]using this
      · have:=h2 (by simpa using hh)
        simpa [fsq]using this
theorem zwp{n:Net}{m:List Int}{t:Int}(h:zwm n m t=true):zss n (zgw (trAt n t) m)=true:=by
 obtain⟨h1,h2⟩:=L'c ..▸h
 obtain⟨h3,h4,_⟩:=z8i h1
 have h5:=zjq h4
 simp only[zss,h3,P'e,goodM,zgy,h2,Q'e]
 simp[inB];omega
theorem zwo{n:Net}{m:List Int}{t:Int}(h:zwm n m t=true):t∈enabL n m:=by
 obtain⟨h1,h2⟩:=L'c ..▸h
 obtain⟨h3,h4,h5,h6,h7,h8⟩:=z8i h1
 exact zdl.2 ⟨h5,h6,h7⟩
def areTr(n:Net)(l:List Int):Bool:=decide (l.length<=60)&&l.all (inB 0 (n.tr.length-1))
def okSeq(n:Net)(m l:List Int):Bool:=zss n m&&areTr n l
end Go.Proofs.YtbaclnecajkknaaGreat.Pi
namespace Go.Proofs.YtbaclnecajkknaaGreat.Pi
open Go
set_option linter.all false

/-! Tokens place by place. -/
theorem z54{m:List Int}{p q x:Int}(hp:0<=p/\p.toNat<m.length)(hq:0<=q):at_ (m.set p.toNat x) q=if q=p then x else at_ m q:=by
 unfold at_
 rw[N'u,N'u,L'k]
 by_cases h:q=p
 ·subst h;simp[hp.2]
 ·have:p.toNat≠q.toNat:=by omega
  simp[h,this]
theorem z4u{a b:List Int}(hl:a.length=b.length)(h:∀p:Int,0<=p->p.toNat<a.length->at_ a p=at_ b p):a=b:=by
 apply Q'8 hl
 intro i h1 h2
 have:=h i (by omega) (by simpa using h1)
 rw[<-at_eq (by simpa using h1),<-at_eq (by simpa using h2)]at this
 simpa using this
def znn(m l:List Int):Prop:=∀q∈l,0<=q/\q.toNat<m.length
theorem z4t{l:List Int}:∀{m:List Int}{p:Int},znn m l->0<=p->at_ (decL m l) p=at_ m p-(l.count p:Nat):=by
 unfold decL
 induction l with
 |nil=>intros;simp
 |cons q l ih=>
  intro m p hm hp
  rw[P'o,ih (fun r hr=>by simp[decS];exact hm r (by simp[hr])) hp]
  unfold decS
  rw[z54 (hm q (by simp)) hp,Q'f]
  by_cases h:p=q
  ·subst h;simp;omega
  ·have:(q==p)=false:=by simp;omega
   simp[h,this]
theorem z4z{l:List Int}:∀{m:List Int}{p:Int},znn m l->0<=p->at_ (incL m l) p=at_ m p+(l.count p:Nat):=by
 unfold incL
 induction l with
 |nil=>intros;simp
 |cons q l ih=>
  intro m p hm hp
  rw[P'o,ih (fun r hr=>by simp[incS];exact hm r (by simp[hr])) hp]
  unfold incS
  rw[z54 (hm q (by simp)) hp,Q'f]
  by_cases h:p=q
  ·subst h;simp;omega
  ·have:(q==p)=false:=by simp;omega
   simp[h,this]
theorem z55{l:List Int}:∀{m:List Int}{p:Int},znn m l->0<=p->at_ (zerL m l) p=if p∈l then 0 else at_ m p:=by
 unfold zerL
 induction l with
 |nil=>intros;simp
 |cons q l ih=>
  intro m p hm hp
  rw[P'o,ih (fun r hr=>by simp[zerS];exact hm r (by simp[hr])) hp]
  unfold zerS
  rw[z54 (hm q (by simp)) hp]
  by_cases h:p=q
  ·subst h;simp
  ·simp[h]
theorem zn5{l:List Int}(h:incr l=true)(p:Int):l.count p=if p∈l then 1 else 0:=by
 have h1:l.Pairwise (·<·):=by simpa [incr]using h
 clear h
 induction l with
 |nil=>simp
 |cons q l ih=>
  rw[P'q]at h1
  rw[Q'f,ih h1.2]
  by_cases hq:p=q
  ·subst hq
   have:p∉l:=fun hp=>by have:=h1.1 p hp;omega
   simp[this]
  ·have:(q==p)=false:=by simp;omega
   simp[hq,this]
theorem z11q{p:Int}{l:List Int}(h:z11n p l=true):incr l=true:=by
 simp only[z11n,L'c]at h;exact h.1
theorem zno{m m' l:List Int}(h:znn m l)(hl:m'.length=m.length):znn m' l:=fun q hq=>by rw[hl];exact h q hq
theorem z4w{t:Tr}{m:List Int}{p:Int}(h1:znn m t.inn)(h2:znn m t.out)(h3:znn m t.rst)(hp:0<=p) :
  at_ (zgw t m) p=(if p∈t.rst then 0 else at_ m p-(t.inn.count p:Nat))+(t.out.count p:Nat):=by
 unfold zgw
 rw[z4z (zno h2 (by rw[z1i1,zcc])) hp,z55 (zno h3 (by rw[zcc])) hp,z4t h1 hp]
theorem zk3{p:Int}{t:Tr}{m:List Int}(h:goodT p t=true)(hm:(m.length:Int)=p):znn m t.inn/\znn m t.out/\znn m t.rst:=zk5 h hm
theorem z4x{p0:Int}{t:Tr}{m:List Int}{p:Int}(h:goodT p0 t=true)(hm:(m.length:Int)=p0)(hp:0<=p) :
  at_ (zgw t m) p=(if p∈t.rst then 0 else at_ m p-(if p∈t.inn then 1 else 0))+(if p∈t.out then 1 else 0):=by
 obtain⟨h1,h2,h3⟩:=zk3 h hm
 obtain⟨_,g1,g2,g3⟩:=zk8 h
 rw[z4w h1 h2 h3 hp,zn5 (z11q g1),zn5 (z11q g2)]
 have e1:(((if p∈t.inn then 1 else 0:Nat)):Int)=if p∈t.inn then 1 else 0:=by split<;>rfl
 have e2:(((if p∈t.out then 1 else 0:Nat)):Int)=if p∈t.out then 1 else 0:=by split<;>rfl
 rw[e1,e2]
/-! Nets turned. -/
theorem z8j{t:Tr}{m:List Int}(h:canT t m=true){p:Int}(hp:p∈t.inn):at_ m p≠0:=by
 simp only[canT,L'h]at h
 simpa using h p hp
theorem z8k{t:Tr}{m:List Int}(h:∀p∈t.inn,at_ m p≠0):canT t m=true:=by
 simp only[canT,L'h]
 intro p hp;simpa using h p hp
/-! Transitions with a property. -/
def hasB(l:List Int)(p:Int):Bool:=decide (p∈l)
theorem zkm(l:List Int)(p:Int):hasB l p=l.any (fun x=>x==p):=by
 unfold hasB
 rw[Q'q,N't]
 simp only[decide_eq_true_eq,beq_iff_eq]
 exact⟨fun h=>⟨p,h,rfl⟩,fun⟨x,h,e⟩=>e▸h⟩
theorem zko{l:List Int}{p:Int}(h:l.any (fun x=>x==p)=false):hasB l p=false:=by rw[zkm,h]
theorem zkp{l:List Int}{p:Int}{k:Nat}(hk:k<l.length)(h:l[k]=p):hasB l p=true:=by
 subst h;simp[hasB]
/-! Free choice. -/
end Go.Proofs.YtbaclnecajkknaaGreat.Pi
namespace Go.Proofs.YtbaclnecajkknaaGreat.Pi
open Go
set_option linter.all false

def one(b:Bool):Int:=if b then 1 else 0
end Go.Proofs.YtbaclnecajkknaaGreat.Pi
namespace Go.Proofs.YtbaclnecajkknaaGreat.Pi
open Go
set_option linter.all false

theorem z1a{orc:Orc}{m:Nat}{st:St}{Q:Out->Prop}{keep:List Bool}{b:ICode}(Inv:Nat->St->Prop)(n:Nat)(h0:Inv n (gc m ⟨clean keep st.fr,st.mem⟩))
  (step:∀k s,Inv k s->W orc m b s (fun o=>match o with| .next s'=>∃j,j<k/\Inv j (gc m ⟨clean keep s'.fr,s'.mem⟩)|o=>Q o)):W orc m (.loop keep b) st Q:=by
 have key:∀(d k:Nat)(st:St),k<d->Inv k (gc m ⟨clean keep st.fr,st.mem⟩)->W orc m (.loop keep b) st Q:=by
  intro d
  induction d with
  |zero=>intro k st hk;omega
  |succ d ih=>
   intro k st hk hI
   obtain⟨o,h1,h2⟩:=step k _ hI
   cases o with
   |next s'=>
    obtain⟨j,hj,h5⟩:=h2
    obtain⟨o',h3,h4⟩:=ih j s' (by omega) h5
    simp only[run]at h3
    exact⟨o',by simp only[run];rw[zo0,h1];exact h3,h4⟩
   |ret s'=>exact⟨_,by simp only[run];rw[zo0,h1],h2⟩
   |exit i s'=>exact⟨_,by simp only[run];rw[zo0,h1],h2⟩
 exact key (n+1) n st (by omega) h0
theorem z3b{α:Type}{l:List α}{p:α->Bool}{k:Nat}(hk:k<l.length)(h:(l.take k).any p=true):(l.take (k+1)).any p=true:=by
 rw[z1fe hk,Q'4,h];rfl
theorem z39{α:Type}{l:List α}{p:α->Bool}{k:Nat}(hk:k<l.length)(h:p l[k]=true):(l.take (k+1)).any p=true:=by
 rw[z1fe hk,Q'4];simp[h]
@[go_sem] theorem z1b5{mem:List Blk}{sz sz':Nat}{fl:Bool}{lo hi:Option PV}:z1b4 mem sz (.nil fl sz') lo hi=if sz'=sz then(bound 0 lo).bind fun l=>(bound 0 hi).bind fun h=>if l=0/\h=0 then some (.nil fl sz)else none else none:=rfl
attribute [go_sem] List.getElem?_nil
abbrev bls(l:List Bool):PV:=.sl true 1 (l.map PV.bool)
/-! What can be come to: z11n and transitions are zss round by round. -/
structure Cl where
pl:List Bool
tr:List Bool
ch:Bool
def hitB(P:List Bool)(l:List Int):Bool:=l.any fun p=>P.getD p.toNat false
def markB(P:List Bool)(l:List Int):List Bool:=l.foldl (fun a p=>a.set p.toNat true) P
theorem zsl(P:List Bool)(l:List Int):(markB P l).length=P.length:=by
 unfold markB
 induction l generalizing P with
 |nil=>rfl
 |cons p l ih=>rw[P'o,ih];simp
theorem zsm{P:List Bool}{l:List Int}{k:Nat}(hk:k<l.length):markB P (l.take (k+1))=(markB P (l.take k)).set (l[k].toNat) true:=by
 unfold markB;rw[zhi _ _ hk]
def sideI(bk:Bool)(t:Tr):List Int:=if bk then t.out else t.inn
def sideO(bk:Bool)(t:Tr):List Int:=if bk then t.inn else t.out
def trN(n:Net)(k:Nat):Tr:=n.tr.getD k ⟨[],[],[]⟩
theorem z1fx{n:Net}{k:Nat}(hk:k<n.tr.length):trN n k=n.tr[k]:=by
 unfold trN;rw[N'u,L'v hk];rfl
def za8(n:Net)(bk:Bool)(s:Cl)(k:Nat):Cl:=if s.tr.getD k false||!hitB s.pl (sideI bk (trN n k))then s else⟨markB s.pl (sideO bk (trN n k)),s.tr.set k true,true⟩
def clK(n:Net)(bk:Bool)(s:Cl)(k:Nat):Cl:=(L'1 k).foldl (za8 n bk) ⟨s.pl,s.tr,false⟩
def za2(n:Net)(bk:Bool)(s:Cl):Cl:=clK n bk s n.tr.length
def clRun(n:Net)(bk:Bool):Nat->Cl->Cl
|0,s=>s
|f+1,s=>if (za2 n bk s).ch then clRun n bk f (za2 n bk s)else za2 n bk s
theorem za1(n:Net)(bk:Bool)(s:Cl)(k:Nat):clK n bk s (k+1)=za8 n bk (clK n bk s k) k:=by
 simp[clK,P'v,Q'6]
theorem zab{n:Net}{bk:Bool}{s:Cl}{k:Nat}(h:s.tr.getD k false=true\/hitB s.pl (sideI bk (trN n k))=false):za8 n bk s k=s:=by
 unfold za8
 rcases h with h|h
 ·rw[h];rfl
 ·rw[h];simp
theorem zac{n:Net}{bk:Bool}{s:Cl}{k:Nat}(h:s.tr.getD k false=false)(h2:hitB s.pl (sideI bk (trN n k))=true):za8 n bk s k=⟨markB s.pl (sideO bk (trN n k)),s.tr.set k true,true⟩:=by
 unfold za8
 rw[h,h2];rfl
theorem zaa(n:Net)(bk:Bool)(s:Cl)(k:Nat):(za8 n bk s k).pl.length=s.pl.length/\(za8 n bk s k).tr.length=s.tr.length:=by
 unfold za8
 split
 ·exact⟨rfl,rfl⟩
 ·exact⟨zsl ..,by simp⟩
theorem z9z(n:Net)(bk:Bool)(s:Cl)(k:Nat):(clK n bk s k).pl.length=s.pl.length/\(clK n bk s k).tr.length=s.tr.length:=by
 induction k with
 |zero=>exact⟨rfl,rfl⟩
 |succ k ih=>
  rw[za1]
  have:=zaa n bk (clK n bk s k) k
  omega
theorem za6(n:Net)(bk:Bool)(f:Nat):∀(s:Cl),(clRun n bk f s).pl.length=s.pl.length/\(clRun n bk f s).tr.length=s.tr.length:=by
 induction f with
 |zero=>intro s;exact⟨rfl,rfl⟩
 |succ f ih=>
  intro s
  have h:=z9z n bk s n.tr.length
  have h2:=ih (za2 n bk s)
  unfold clRun
  unfold za2 at h2 ⊢
  split<;>omega
def cntF(l:List Bool):Nat:=l.countP (!·)
theorem zb4{l:List Bool}{k:Nat}(hk:k<l.length)(h:l.getD k false=false):cntF (l.set k true)<cntF l:=by
 induction l generalizing k with
 |nil=>simp at hk
 |cons x l ih=>
  cases k with
  |zero=>simp at h;subst h;simp[cntF]
  |succ k=>
   have:=ih (k:=k) (by simpa using hk) (by simpa using h)
   simp only[cntF,Q'r,Q'g]at this ⊢
   omega
theorem za9{n:Net}{bk:Bool}{s:Cl}{k:Nat}(hk:k<s.tr.length):cntF (za8 n bk s k).tr<=cntF s.tr/\((za8 n bk s k).ch=true->s.ch=true\/cntF (za8 n bk s k).tr<cntF s.tr):=by
 unfold za8
 split
 ·exact⟨L'l _,fun h=>.inl h⟩
 ·rename_i h
  have h1:s.tr.getD k false=false:=by
   cases e:s.tr.getD k false
   ·rfl
   ·rw[e]at h;simp at h
  have:=zb4 hk h1
  exact⟨by simp only;omega,fun _=>.inr this⟩
theorem z9y{n:Net}{bk:Bool}{s:Cl}{k:Nat}(hk:k<=s.tr.length):cntF (clK n bk s k).tr<=cntF s.tr/\((clK n bk s k).ch=true->cntF (clK n bk s k).tr<cntF s.tr):=by
 induction k with
 |zero=>exact⟨L'l _,fun h=>by simp[clK]at h⟩
 |succ k ih=>
  have h1:=ih (by omega)
  rw[za1]
  have h2:=za9 (n:=n) (bk:=bk) (s:=clK n bk s k) (k:=k) (by rw[(z9z ..).2];omega)
  refine⟨by omega,fun h=>?_⟩
  rcases h2.2 h with h3|h3
  ·have:=h1.2 h3;omega
  ·omega
theorem zb2(l:List Bool):cntF l<=l.length:=Q's
theorem za4{n:Net}{bk:Bool}:∀{f:Nat} {s:Cl},s.tr.length=n.tr.length->cntF s.tr<f->clRun n bk f s=clRun n bk (f+1) s
 |0,_,_,h=>by omega
 |f+1,s,hl,h=>by
  show(if (za2 n bk s).ch then clRun n bk f (za2 n bk s)else za2 n bk s)=(if (za2 n bk s).ch then clRun n bk (f+1) (za2 n bk s)else za2 n bk s)
  cases e:(za2 n bk s).ch with
  |false=>rfl
  |true=>
   simp only[if_true]
   have h1:=(z9y (n:=n) (bk:=bk) (s:=s) (k:=n.tr.length) (by omega)).2 e
   exact za4 (by rw[za2,(z9z ..).2,hl]) (by unfold za2;omega)
theorem za5{n:Net}{bk:Bool}{s:Cl}(hl:s.tr.length=n.tr.length):∀{d f:Nat},cntF s.tr<f->clRun n bk f s=clRun n bk (f+d) s
|0,_,_=>rfl
|d+1,f,h=>by rw[za5 (d:=d) hl h,za4 hl (by omega)];rfl
theorem za7{n:Net}{bk:Bool}{s:Cl}(hl:s.tr.length=n.tr.length):clRun n bk (cntF s.tr+1) s=if (za2 n bk s).ch then clRun n bk (cntF (za2 n bk s).tr+1) (za2 n bk s)else za2 n bk s:=by
 show(if (za2 n bk s).ch then clRun n bk (cntF s.tr) (za2 n bk s)else za2 n bk s)=_
 cases e:(za2 n bk s).ch with
 |false=>rfl
 |true=>
  simp only[if_true]
  have h1:=(z9y (n:=n) (bk:=bk) (s:=s) (k:=n.tr.length) (by omega)).2 e
  have h2:(za2 n bk s).tr.length=n.tr.length:=by rw[za2,(z9z ..).2,hl]
  have h3:=za5 (n:=n) (bk:=bk) h2 (d:=cntF s.tr-(cntF (za2 n bk s).tr+1)) (f:=cntF (za2 n bk s).tr+1) (by omega)
  rw[h3]
  congr 1
  unfold za2;omega
theorem zb3(k:Nat):cntF (L'0 k false)=k:=by
 unfold cntF;rw[List.countP_replicate];simp
def z13q(n:Net)(bk:Bool)(p:Int):Cl:=clRun n bk (n.tr.length+1) ⟨(L'0 n.pl.toNat false).set p.toNat true,L'0 n.tr.length false,true⟩
theorem z13t(n:Net)(bk:Bool)(p:Int):(z13q n bk p).pl.length=n.pl.toNat/\(z13q n bk p).tr.length=n.tr.length:=by
 have:=za6 n bk (n.tr.length+1) ⟨(L'0 n.pl.toNat false).set p.toNat true,L'0 n.tr.length false,true⟩
 simpa [z13q]using this
theorem z13r(n:Net)(bk:Bool)(p:Int):z13q n bk p=clRun n bk (cntF (L'0 n.tr.length false)+1) ⟨(L'0 n.pl.toNat false).set p.toNat true,L'0 n.tr.length false,true⟩:=by
 rw[zb3];rfl
theorem zj5{l:List Bool}{k:Nat}(hk:k<l.length):l[k]=l.getD k false:=by
 rw[N'u,L'v hk];rfl
def bothK(a b:List Bool)(k:Nat):List Int:=((L'1 k).filter fun i=>a.getD i false&&b.getD i false).map Q'd
def bothL(a b:List Bool):List Int:=bothK a b a.length
theorem z76(a b:List Bool)(k:Nat):(bothK a b k).length<=k:=by
 have:=Q'7 (fun i=>a.getD i false&&b.getD i false) (L'1 k)
 simp only[bothK,Q'1];simp at this⊢;omega
theorem z77{a b:List Bool}{k:Nat}(h:a.getD k false=true)(h2:b.getD k false=true):bothK a b (k+1)=bothK a b k++[(k:Int)]:=by
 simp only[bothK,P'v,P'x,Q'h,h,h2,P'd,if_true,Q't,M'r];rfl
theorem z75{a b:List Bool}{k:Nat}(h:(a.getD k false&&b.getD k false)=false):bothK a b (k+1)=bothK a b k:=by
 simp only[bothK,P'v,P'x,Q'h,h,M'w,if_false,Q't,M'e]
def wayP(n:Net)(a b:Int):List Int:=bothL (z13q n false a).pl (z13q n true b).pl
def wayT(n:Net)(a b:Int):List Int:=bothL (z13q n false a).tr (z13q n true b).tr
def okWay(n:Net)(a b:Int):Bool:=goodN n&&inB 0 (n.pl-1) a&&inB 0 (n.pl-1) b
/-! Flows. -/
structure Fl where
net:Net
src:Int
dst:Int
abbrev encF(f:Fl):PV:=.agg [I f.net.pl,trs f.net.tr,I f.src,I f.dst]
def z1cj(f:Fl)(t:Tr):Bool:=hasB t.out f.src||hasB t.inn f.dst||hasB t.rst f.src||hasB t.rst f.dst
def zji(f:Fl):Bool:=okWay f.net f.src f.dst&&!decide (f.src=f.dst)&&f.net.tr.all (fun t=>!z1cj f t)&&decide (((wayP f.net f.src f.dst).length:Int)=f.net.pl)&&decide ((wayT f.net f.src f.dst).length=f.net.tr.length)
theorem zjm{f:Fl}(h:zji f=true):goodN f.net=true/\(0<=f.src/\f.src<f.net.pl)/\(0<=f.dst/\f.dst<f.net.pl)/\f.src≠f.dst/\(∀t∈f.net.tr,z1cj f t=false)/\((wayP f.net f.src f.dst).length:Int)=f.net.pl/\(wayT f.net f.src f.dst).length=f.net.tr.length:=by
 simp only[zji,okWay,inB,L'c,decide_eq_true_eq,N'e,decide_eq_false_iff_not,L'h]at h
 obtain⟨⟨⟨⟨⟨⟨h1,h2⟩,h3⟩,h4⟩,h5⟩,h6⟩,h7⟩:=h
 exact⟨h1,by omega,by omega,h4,h5,h6,h7⟩
/-! Drawn flows: how much grows. -/
def growT:Nat->Nat
|0=>1
|d+1=>2+2*growT d
def growC:Nat->Nat
|0=>0
|d+1=>2+2*growC d
theorem zke(d:Nat):d<growT d:=by
 induction d with
 |zero=>decide
 |succ d ih=>have:growT (d+1)=2+2*growT d:=rfl;omega
theorem zkf{d:Nat}(h:d<=3):growT d<=22/\growC d<=14:=by
 rcases d with _|_|_|_|d<;>first| omega| decide
def smq(q:Nat)(tr:List Tr):Prop:=∀t∈tr,t.inn.length<=q/\t.out.length<=q/\t.rst.length<=q
theorem z1c0{q q':Nat}{tr:List Tr}(hq:q<=q')(h:smq q tr):smq q' tr:=fun t ht=>by have:=h t ht;omega
theorem z1c3{q:Nat}{tr:List Tr}{t:Tr}(h:smq q tr)(ht:t.inn.length<=q/\t.out.length<=q/\t.rst.length<=q):smq q (tr++[t]):=by
 intro u hu
 rcases L'j.1 hu with hu|hu
 ·exact h u hu
 ·simp only[N'2]at hu;subst hu;exact ht
theorem z1c2{q:Nat}{tr:List Tr}{t:Tr}{k:Nat}(h:smq q tr)(ht:t.inn.length<=q/\t.out.length<=q/\t.rst.length<=q):smq q (tr.set k t):=by
 intro u hu
 rcases Q'p hu with hu|rfl
 ·exact h u hu
 ·exact ht
theorem z1c1{q:Nat}:smq q []:=fun t ht=>by simp at ht
def oneM(n:Nat)(p:Int):List Int:=(L'0 n 0).set p.toNat 1
theorem zxa{n:Net}{p:Int}(hg:goodN n=true)(hp:0<=p/\p<n.pl):goodM n.pl (oneM n.pl.toNat p)=true:=by
 have:=zjy hg
 have h1:inB 1 16 n.pl=true:=by simp[inB];omega
 have h2:(((oneM n.pl.toNat p).length:Int)==n.pl)=true:=by simp only[oneM,N'9,M'j,beq_iff_eq];omega
 have h3:(oneM n.pl.toNat p).all (inB 0 50)=true:=by
  rw[L'h]
  intro x hx
  rcases ztc hx with hx|hx
  ·have:=(List.mem_replicate.1 hx).2;subst this;rfl
  ·subst hx;rfl
 simp[goodM,h1,h2,h3]
theorem z51{n:Nat}{p q:Int}(hp:0<=p/\p.toNat<n)(hq:0<=q):at_ (oneM n p) q=if q=p then 1 else 0:=by
 unfold oneM
 rw[z54 (by simpa using hp) hq]
 split
 ·rfl
 ·unfold at_
  rw[N'u,P's]
  split<;>rfl
end Go.Proofs.YtbaclnecajkknaaGreat.Pi
namespace Go.Proofs.YtbaclnecajkknaaGreat.Pi
open Go
set_option linter.all false

structure Arc3 where
src:Int
by_:Int
dst:Int
structure Sp where
ms:List (List Int)
ar:List Arc3
structure Ex where
sp:Sp
code:Int
def findM(l:List (List Int))(m:List Int):Int:=idxI l (fun x=>decide (x=m))
def zeo(n:Net)(b:Int)(k:Nat)(s:Ex)(t:Int):Ex:=
if s.code≠0 then s else
let m:=zgw (trAt n t) (s.sp.ms.getD k [])
if m.all (inB 0 50)=false then⟨s.sp,3⟩
else if 0<=findM s.sp.ms m then⟨⟨s.sp.ms,s.sp.ar++[⟨k,t,findM s.sp.ms m⟩]⟩,0⟩
else if b<=s.sp.ms.length then⟨s.sp,2⟩
else⟨⟨s.sp.ms++[m],s.sp.ar++[⟨k,t,s.sp.ms.length⟩]⟩,0⟩
def exL(n:Net)(b:Int)(k:Nat)(s:Ex)(l:List Int):Ex:=l.foldl (zeo n b k) s
def exRun(n:Net)(b:Int):Nat->Nat->Ex->Ex
|0,_,s=>s
|f+1,k,s=>if s.code≠0 then s else if k<s.sp.ms.length then exRun n b f (k+1) (exL n b k s (enabL n (s.sp.ms.getD k [])))else s
def exAll(n:Net)(start:List Int)(b:Int):Ex:=exRun n b (b.toNat+2) 0 ⟨⟨[start],[]⟩,0⟩
theorem zez{n:Net}{b:Int}{k:Nat}{s:Ex}{t:Int}(h:s.code≠0):zeo n b k s t=s:=by
 unfold zeo;rw[if_pos h]
theorem zef{n:Net}{b:Int}{k:Nat}{l:List Int}{s:Ex}(h:s.code≠0):exL n b k s l=s:=by
 unfold exL
 induction l with
 |nil=>rfl
 |cons t l ih=>rw[P'o,zez h];exact ih
theorem zem{n:Net}{b:Int}{f k:Nat}{s:Ex}(h:s.code≠0):exRun n b f k s=s:=by
 cases f with
 |zero=>rfl
 |succ f=>show(if s.code≠0 then s else _)=s;rw[if_pos h]
theorem zed{n:Net}{b:Int}{k:Nat}{s:Ex}{l:List Int}{j:Nat}(hj:j<l.length):exL n b k s (l.drop j)=exL n b k (zeo n b k s l[j]) (l.drop (j+1)):=by
 rw[N'l hj];rfl
theorem zf1{n:Net}{b:Int}{k:Nat}{s:Ex}{t:Int}(h0:s.code=0)(h:(zgw (trAt n t) (s.sp.ms.getD k [])).all (inB 0 50)=false):zeo n b k s t=⟨s.sp,3⟩:=by
 unfold zeo;rw[if_neg (by omega)];simp only[h,if_true]
theorem zex{n:Net}{b:Int}{k:Nat}{s:Ex}{t:Int}(h0:s.code=0)(h:(zgw (trAt n t) (s.sp.ms.getD k [])).all (inB 0 50)=true)(h2:0<=findM s.sp.ms (zgw (trAt n t) (s.sp.ms.getD k []))):zeo n b k s t=⟨⟨s.sp.ms,s.sp.ar++[⟨k,t,findM s.sp.ms (zgw (trAt n t) (s.sp.ms.getD k []))⟩]⟩,0⟩:=by
 unfold zeo;rw[if_neg (by omega)];simp only[h];rw[if_neg (by simp),if_pos h2]
theorem zet{n:Net}{b:Int}{k:Nat}{s:Ex}{t:Int}(h0:s.code=0)(h:(zgw (trAt n t) (s.sp.ms.getD k [])).all (inB 0 50)=true)(h2:¬0<=findM s.sp.ms (zgw (trAt n t) (s.sp.ms.getD k [])))(h3:b<=s.sp.ms.length):zeo n b k s t=⟨s.sp,2⟩:=by
 unfold zeo;rw[if_neg (by omega)];simp only[h];rw[if_neg (by simp),if_neg h2,if_pos h3]
theorem zev{n:Net}{b:Int}{k:Nat}{s:Ex}{t:Int}(h0:s.code=0)(h:(zgw (trAt n t) (s.sp.ms.getD k [])).all (inB 0 50)=true)(h2:¬0<=findM s.sp.ms (zgw (trAt n t) (s.sp.ms.getD k [])))(h3:¬b<=s.sp.ms.length):zeo n b k s t=⟨⟨s.sp.ms++[zgw (trAt n t) (s.sp.ms.getD k [])],s.sp.ar++[⟨k,t,s.sp.ms.length⟩]⟩,0⟩:=by
 unfold zeo;rw[if_neg (by omega)];simp only[h];rw[if_neg (by simp),if_neg h2,if_neg h3]
theorem zgm{l:List (List Int)}{m:List Int}:0<=findM l m↔m∈l:=by
 have:=zl0 l (fun x=>decide (x=m))
 unfold findM
 constructor
 ·intro h
  rw[decide_eq_true h]at this
  rw[N't]at this
  obtain⟨x,hx,hy⟩:=this
  have:x=m:=by simpa using hy
  exact this▸hx
 ·intro h
  have h2:(l.any fun x=>decide (x=m))=true:=by rw[N't];exact⟨m,h,by simp⟩
  rw[h2]at this
  exact of_decide_eq_true this.symm
theorem zgl{l:List (List Int)}{m:List Int}(h:0<=findM l m):(findM l m).toNat<l.length/\l[(findM l m).toNat]?=some m:=by
 unfold findM idxI at h ⊢
 cases e:l.findIdx? (fun x=>decide (x=m))with
 |none=>rw[e]at h;simp at h
 |some k=>
  rw[Q'0]at e
  obtain⟨h1,h2,_⟩:=e
  refine⟨by simpa using h1,?_⟩
  have:l[k]=m:=by simpa using h2
  simp[L'v h1,this]
structure ExOk(n:Net)(start:List Int)(b:Int)(s:Ex):Prop where
first:s.sp.ms[0]?=some start
good:∀m∈s.sp.ms,zss n m=true
lenb:s.sp.ms.length<=b.toNat
nodup:s.sp.ms.Nodup
arcs:∀a∈s.sp.ar,0<=a.src/\a.src.toNat<s.sp.ms.length/\0<=a.dst/\a.dst.toNat<s.sp.ms.length/\zwm n (s.sp.ms.getD a.src.toNat []) a.by_=true/\s.sp.ms.getD a.dst.toNat []=zgw (trAt n a.by_) (s.sp.ms.getD a.src.toNat [])
back:∀j:Nat,0<j->j<s.sp.ms.length->∃i,∃h:i<s.sp.ar.length,s.sp.ar[i].dst=j/\s.sp.ar[i].src<j/\∀i',(h':i'<i)->(s.sp.ar[i']'(by omega)).dst≠j
theorem ExOk.sp{n:Net}{start:List Int}{b:Int}{s:Ex}(h:ExOk n start b s)(c:Int):ExOk n start b ⟨s.sp,c⟩:=⟨h.first,h.good,h.lenb,h.nodup,h.arcs,h.back⟩
theorem zj8{l:List (List Int)}{k:Nat}(hk:k<l.length):l.getD k []∈l:=by
 rw[N'u,L'v hk];exact P'l hk
theorem zj9{l:List (List Int)}{k:Nat}(hk:k<l.length):l[k]=l.getD k []:=by
 rw[N'u,L'v hk];rfl
theorem zj4{l:List (List Int)}{m:List Int}{k:Nat}(hk:k<l.length):(l++[m]).getD k []=l.getD k []:=by
 rw[N'u,N'u,L'm hk]
theorem zj7{l:List (List Int)}{m:List Int}:(l++[m]).getD l.length []=m:=by
 rw[N'u,List.getElem?_append_right (L'l _)];simp
theorem zdn{n:Net}{m:List Int}{t:Int}(hm:zss n m=true)(ht:t∈enabL n m)(ha:(zgw (trAt n t) m).all (inB 0 50)=true):zwm n m t=true:=by
 obtain⟨h1,h2,h3⟩:=zdl.1 ht
 have h4:inB 0 (n.tr.length-1) t=true:=by simp[inB];omega
 simp only[zwm,canN,hm,h3,h4,ha,P'd]
theorem zew{n:Net}{start:List Int}{b:Int}{k:Nat}{s:Ex}{t:Int}(h:ExOk n start b s)(hk:k<s.sp.ms.length)(ht:t∈enabL n (s.sp.ms.getD k [])):ExOk n start b (zeo n b k s t):=by
 by_cases h0:s.code=0
 case neg=>rw[zez h0];exact h
 cases ha:(zgw (trAt n t) (s.sp.ms.getD k [])).all (inB 0 50)with
 |false=>rw[zf1 h0 ha];exact h.sp 3
 |true=>
  have hf:=zdn (h.good _ (zj8 hk)) ht ha
  by_cases h2:0<=findM s.sp.ms (zgw (trAt n t) (s.sp.ms.getD k []))
  ·rw[zex h0 ha h2]
   obtain⟨g1,g2⟩:=zgl h2
   refine⟨h.first,h.good,h.lenb,h.nodup,fun a hm=>?_,fun j hj hl=>?_⟩
   ·rcases L'j.1 hm with hm|hm
    ·exact h.arcs a hm
    ·simp only[N'2]at hm
     subst hm
     refine⟨by simp,by simpa using hk,h2,g1,by simpa using hf,?_⟩
     simp only[P'm]
     rw[N'u,g2];rfl
   ·obtain⟨i,hi,e1,e2,e3⟩:=h.back j hj hl
    refine⟨i,by simp;omega,by simp only;rw[P't hi];exact e1,by simp only;rw[P't hi];exact e2,fun i' h'=>?_⟩
    simp only
    rw[P't (by omega)];exact e3 i' h'
  ·by_cases h3:b<=s.sp.ms.length
   ·rw[zet h0 ha h2 h3];exact h.sp 2
   ·rw[zev h0 ha h2 h3]
    have hnm:zgw (trAt n t) (s.sp.ms.getD k [])∉s.sp.ms:=fun hm=>h2 (zgm.2 hm)
    generalize hM:zgw (trAt n t) (s.sp.ms.getD k [])=M at *
    refine⟨?_,fun m hm=>?_,by simp;omega,?_,fun a hm=>?_,fun j hj hl=>?_⟩
    ·simp only
     rw[L'm (by omega)];exact h.first
    ·rcases L'j.1 hm with hm|hm
     ·exact h.good m hm
     ·simp only[N'2]at hm
      subst hm;rw[<-hM];exact zwp hf
    ·simp only
     rw[List.nodup_append]
     refine⟨h.nodup,by simp,fun x hx y hy=>?_⟩
     simp only[N'2]at hy
     subst hy
     intro e;subst e;exact hnm hx
    ·rcases L'j.1 hm with hm|hm
     ·obtain⟨a1,a2,a3,a4,a5,a6⟩:=h.arcs a hm
      refine⟨a1,by simp;omega,a3,by simp;omega,?_,?_⟩
      ·simp only;rw[zj4 a2];exact a5
      ·simp only;rw[zj4 a2,zj4 a4];exact a6
     ·simp only[N'2]at hm
      subst hm
      refine⟨by simp,by simp;omega,by simp,by simp,?_,?_⟩
      ·simp only[P'm];rw[zj4 hk];exact hf
      ·simp only[P'm];rw[zj4 hk,zj7];exact hM.symm
    ·simp only[L'x,M'2,M'7]at hl
     by_cases hj2:j<s.sp.ms.length
     ·obtain⟨i,hi,e1,e2,e3⟩:=h.back j hj hj2
      refine⟨i,by simp;omega,by simp only;rw[P't hi];exact e1,by simp only;rw[P't hi];exact e2,fun i' h'=>?_⟩
      simp only
      rw[P't (by omega)];exact e3 i' h'
     ·have:j=s.sp.ms.length:=by omega
      subst this
      refine⟨s.sp.ar.length,by simp,by simp,by simp;omega,fun i' h'=>?_⟩
      simp only
      rw[P't h']
      have:=h.arcs _ (P'l h')
      omega
theorem zey{n:Net}{b:Int}{k:Nat}{s:Ex}{t:Int}:∃l,(zeo n b k s t).sp.ms=s.sp.ms++l:=by
 by_cases h0:s.code=0
 case neg=>rw[zez h0];exact⟨[],by simp⟩
 cases ha:(zgw (trAt n t) (s.sp.ms.getD k [])).all (inB 0 50)with
 |false=>rw[zf1 h0 ha];exact⟨[],by simp⟩
 |true=>
  by_cases h2:0<=findM s.sp.ms (zgw (trAt n t) (s.sp.ms.getD k []))
  ·rw[zex h0 ha h2];exact⟨[],by simp⟩
  ·by_cases h3:b<=s.sp.ms.length
   ·rw[zet h0 ha h2 h3];exact⟨[],by simp⟩
   ·rw[zev h0 ha h2 h3];exact⟨_,rfl⟩
theorem zeu{n:Net}{b:Int}{k:Nat}{s:Ex}{t:Int}(h0:s.code=0)(h:(zeo n b k s t).code=0):(zgw (trAt n t) (s.sp.ms.getD k [])).all (inB 0 50)=true/\zgw (trAt n t) (s.sp.ms.getD k [])∈(zeo n b k s t).sp.ms:=by
 cases ha:(zgw (trAt n t) (s.sp.ms.getD k [])).all (inB 0 50)with
 |false=>rw[zf1 h0 ha]at h;simp at h
 |true=>
  refine⟨rfl,?_⟩
  by_cases h2:0<=findM s.sp.ms (zgw (trAt n t) (s.sp.ms.getD k []))
  ·rw[zex h0 ha h2];exact zgm.1 h2
  ·by_cases h3:b<=s.sp.ms.length
   ·rw[zet h0 ha h2 h3]at h;simp at h
   ·rw[zev h0 ha h2 h3];simp
theorem zjc{l l':List (List Int)}{k:Nat}(hk:k<l.length):(l++l').getD k []=l.getD k []:=by
 rw[N'u,N'u,L'm hk]
theorem zee{n:Net}{start:List Int}{b:Int}{k:Nat}:∀(l:List Int) (s:Ex),ExOk n start b s->k<s.sp.ms.length->(∀t∈l,t∈enabL n (s.sp.ms.getD k [])) ->
  ExOk n start b (exL n b k s l)/\(∃l',(exL n b k s l).sp.ms=s.sp.ms++l')/\((exL n b k s l).code=0->s.code=0/\∀t∈l,(zgw (trAt n t) (s.sp.ms.getD k [])).all (inB 0 50)=true/\zgw (trAt n t) (s.sp.ms.getD k [])∈(exL n b k s l).sp.ms)
 |[],s,h,hk,_=>⟨h,⟨[],by simp[exL]⟩,fun hc=>⟨hc,by simp⟩⟩
 |t::l,s,h,hk,hl=>by
  have h1:=zew h hk (hl t (by simp))
  obtain⟨p,hp⟩:=zey (n:=n) (b:=b) (k:=k) (s:=s) (t:=t)
  have e:(zeo n b k s t).sp.ms.getD k []=s.sp.ms.getD k []:=by rw[hp,zjc hk]
  obtain⟨f1,⟨p2,f2⟩,f3⟩:=zee (k:=k) l (zeo n b k s t) h1 (by rw[hp];simp;omega) (fun u hu=>by rw[e];exact hl u (by simp[hu]))
  refine⟨f1,⟨p++p2,by show(exL n b k (zeo n b k s t) l).sp.ms=_;rw[f2,hp,M'c]⟩,fun hc=>?_⟩
  obtain⟨c1,c2⟩:=f3 hc
  have h0:s.code=0:=by
   by_cases h0:s.code=0
   ·exact h0
   ·rw[zez h0]at c1;exact c1
  refine⟨h0,fun u hu=>?_⟩
  rcases M'z.1 hu with rfl| hu
  ·obtain⟨d1,d2⟩:=zeu h0 c1
   refine⟨d1,?_⟩
   show _∈(exL n b k (zeo n b k s u) l).sp.ms
   rw[f2];exact P'j _ d2
  ·have:=c2 u hu
   rw[e]at this;exact this
def zaj(n:Net)(s:Ex)(k:Nat):Prop:=∀i,i<k->i<s.sp.ms.length->∀t∈enabL n (s.sp.ms.getD i []),(zgw (trAt n t) (s.sp.ms.getD i [])).all (inB 0 50)=true/\zgw (trAt n t) (s.sp.ms.getD i [])∈s.sp.ms
theorem zel{n:Net}{start:List Int}{b:Int}:∀(f k:Nat) (s:Ex),ExOk n start b s->zaj n s k->b.toNat<k+f->k<=s.sp.ms.length ->
  ExOk n start b (exRun n b f k s)/\((exRun n b f k s).code=0->zaj n (exRun n b f k s) (exRun n b f k s).sp.ms.length)
 |0,k,s,h,hc,hb,hk=>by have:=h.lenb;omega
 |f+1,k,s,h,hc,hb,hk=>by
  by_cases h0:s.code≠0
  ·rw[zem h0];exact⟨h,fun e=>absurd e h0⟩
  ·show ExOk n start b (if s.code≠0 then s else if k<s.sp.ms.length then exRun n b f (k+1) (exL n b k s (enabL n (s.sp.ms.getD k [])))else s)/\_
   have er:exRun n b (f+1) k s=if s.code≠0 then s else if k<s.sp.ms.length then exRun n b f (k+1) (exL n b k s (enabL n (s.sp.ms.getD k [])))else s:=rfl
   rw[er,if_neg h0]
   by_cases hl:k<s.sp.ms.length
   ·rw[if_pos hl]
    obtain⟨f1,⟨p,f2⟩,f3⟩:=zee (start:=start) (k:=k) (enabL n (s.sp.ms.getD k [])) s h hl (fun t ht=>ht)
    by_cases hc0:(exL n b k s (enabL n (s.sp.ms.getD k []))).code=0
    ·refine zel f (k+1) (exL n b k s (enabL n (s.sp.ms.getD k []))) f1 (fun i hi hl2 t ht=>?_) (by omega) (by rw[f2,L'x];omega)
     by_cases hik:i<k
     ·have e:(exL n b k s (enabL n (s.sp.ms.getD k []))).sp.ms.getD i []=s.sp.ms.getD i []:=by rw[f2,zjc (l:=s.sp.ms) (by omega)]
      rw[e]at ht ⊢
      obtain⟨d1,d2⟩:=hc i hik (by omega) t ht
      exact⟨d1,by rw[f2];exact P'j _ d2⟩
     ·have:i=k:=by omega
      subst this
      have e:(exL n b i s (enabL n (s.sp.ms.getD i []))).sp.ms.getD i []=s.sp.ms.getD i []:=by rw[f2,zjc hl]
      rw[e]at ht ⊢
      exact(f3 hc0).2 t ht
    ·rw[zem hc0];exact⟨f1,fun e=>absurd e hc0⟩
   ·rw[if_neg hl]
    refine⟨h,fun _ i hi hl2 t ht=>hc i (by omega) hl2 t ht⟩
theorem ze7{n:Net}{start:List Int}{b:Int}(hm:zss n start=true)(hb:1<=b):ExOk n start b (exAll n start b)/\((exAll n start b).code=0->zaj n (exAll n start b) (exAll n start b).sp.ms.length):=by
 unfold exAll
 refine zel _ 0 _ ⟨rfl,fun m hm2=>?_,by simp;omega,by simp,fun a ha=>by simp at ha,fun j hj hl=>?_⟩ (fun i hi=>by omega) (by omega) (by omega)
 ·simp only[N'2]at hm2;subst hm2;exact hm
 ·simp only[M'2,M'7]at hl;omega
end Go.Proofs.YtbaclnecajkknaaGreat.Pi
namespace Go.Proofs.YtbaclnecajkknaaGreat.Pi
open Go
set_option linter.all false

def okEx(n:Net)(start:List Int)(b:Int):Bool:=zss n start&&inB 1 400 b
theorem zwd{n:Net}{start:List Int}{b:Int}(h:okEx n start b=true):zss n start=true/\1<=b/\b<=400:=by
 simp only[okEx,inB,L'c,decide_eq_true_eq]at h
 exact⟨h.1,by omega,by omega⟩
def z11h(n:Net)(m l m':List Int):Prop:=many n m l=l.length/\fsq n m l=m'
theorem z11j(n:Net)(m:List Int):z11h n m [] m:=⟨rfl,rfl⟩
theorem z11i{n:Net}{m l m':List Int}{t:Int}(hf:zwm n m t=true)(h:z11h n (zgw (trAt n t) m) l m'):z11h n m (t::l) m':=by
 refine⟨?_,h.2⟩
 simp only[many,hf,if_true,M'2,h.1]
theorem zwr{n:Net}{m:List Int}{t:Int}(h:zwm n m t=true):inB 0 (n.tr.length-1) t=true:=by
 obtain⟨h1,_⟩:=L'c ..▸h
 simp only[canN,L'c]at h1
 exact h1.1.2
def arcTo(ar:List Arc3)(p:Int):Int:=idxI ar (fun a=>decide (a.dst=p))
theorem z41{n:Net}{start:List Int}{b:Int}{s:Ex}(h:ExOk n start b s){j:Nat}(h0:0<j)(hj:j<s.sp.ms.length):∃i:Nat,∃hi:i<s.sp.ar.length,arcTo s.sp.ar j=i/\0<=s.sp.ar[i].src/\s.sp.ar[i].src<j/\zwm n (s.sp.ms.getD s.sp.ar[i].src.toNat []) s.sp.ar[i].by_=true/\s.sp.ms.getD j []=zgw (trAt n s.sp.ar[i].by_) (s.sp.ms.getD s.sp.ar[i].src.toNat []):=by
 obtain⟨i,hi,e1,e2,e3⟩:=h.back j h0 hj
 obtain⟨a1,a2,a3,a4,a5,a6⟩:=h.arcs _ (P'l hi)
 refine⟨i,hi,?_,a1,e2,a5,?_⟩
 ·unfold arcTo
  refine zl4 hi ?_ (decide_eq_true e1)
  rw[M'y]
  intro x hx
  obtain⟨i',h1,rfl⟩:=P'p.1 hx
  have h2:i'<i:=by simp at h1;omega
  have:=e3 i' h2
  simpa using this
 ·rw[e1]at a6;simpa using a6
theorem zgk{l:List (List Int)}(hn:l.Nodup){k:Nat}(hk:k<l.length):findM l (l.getD k [])=k:=by
 unfold findM
 refine zl4 hk ?_ (by rw[zj9 hk];simp)
 rw[M'y]
 intro x hx
 obtain⟨i,h1,rfl⟩:=P'p.1 hx
 have h2:i<k:=by simp at h1;omega
 have h3:=P'u.1 hn i k (by omega) hk h2
 rw[List.getElem_take,<-zj9 hk]
 simpa using h3
theorem zeq(n:Net)(b:Int)(k:Nat)(s:Ex)(t:Int):(zeo n b k s t).sp.ar.length<=s.sp.ar.length+1:=by
 by_cases h0:s.code=0
 case neg=>rw[zez h0];omega
 cases ha:(zgw (trAt n t) (s.sp.ms.getD k [])).all (inB 0 50)with
 |false=>rw[zf1 h0 ha];simp only;omega
 |true=>
  by_cases h2:0<=findM s.sp.ms (zgw (trAt n t) (s.sp.ms.getD k []))
  ·rw[zex h0 ha h2];simp
  ·by_cases h3:b<=s.sp.ms.length
   ·rw[zet h0 ha h2 h3];simp only;omega
   ·rw[zev h0 ha h2 h3];simp
theorem zea(n:Net)(b:Int)(k:Nat):∀(l:List Int)(s:Ex),(exL n b k s l).sp.ar.length<=s.sp.ar.length+l.length
 |[],s=>by simp[exL]
 |t::l,s=>by
  have h1:=zeq n b k s t
  have h2:=zea n b k l (zeo n b k s t)
  show(exL n b k (zeo n b k s t) l).sp.ar.length<=_
  simp only[M'2];omega
theorem zei{n:Net}{b:Int}(hn:n.tr.length<=24):∀(f k:Nat) (s:Ex),(exRun n b f k s).sp.ar.length<=s.sp.ar.length+24*f
 |0,k,s=>by simp[exRun]
 |f+1,k,s=>by
  show(if s.code≠0 then s else if k<s.sp.ms.length then exRun n b f (k+1) (exL n b k s (enabL n (s.sp.ms.getD k [])))else s).sp.ar.length<=_
  split
  ·omega
  ·split
   ·have h1:=zea n b k (enabL n (s.sp.ms.getD k [])) s
    have h2:(enabL n (s.sp.ms.getD k [])).length<=n.tr.length:=zdj ..
    have h3:=zei (b:=b) hn f (k+1) (exL n b k s (enabL n (s.sp.ms.getD k [])))
    omega
   ·omega
theorem ze4{n:Net}{start:List Int}{b:Int}(hn:n.tr.length<=24)(hb:b<=400):(exAll n start b).sp.ar.length<=20000:=by
 have:=zei (b:=b) hn (b.toNat+2) 0 ⟨⟨[start],[]⟩,0⟩
 unfold exAll
 simp only[M'7]at this
 omega
theorem zes(n:Net)(b:Int)(k:Nat)(s:Ex)(t:Int)(h:s.code=0\/s.code=2\/s.code=3):(zeo n b k s t).code=0\/(zeo n b k s t).code=2\/(zeo n b k s t).code=3:=by
 by_cases h0:s.code=0
 case neg=>rw[zez h0];exact h
 cases ha:(zgw (trAt n t) (s.sp.ms.getD k [])).all (inB 0 50)with
 |false=>rw[zf1 h0 ha];simp
 |true=>
  by_cases h2:0<=findM s.sp.ms (zgw (trAt n t) (s.sp.ms.getD k []))
  ·rw[zex h0 ha h2];simp
  ·by_cases h3:b<=s.sp.ms.length
   ·rw[zet h0 ha h2 h3];simp
   ·rw[zev h0 ha h2 h3];simp
theorem zec(n:Net)(b:Int)(k:Nat):∀(l:List Int) (s:Ex),(s.code=0\/s.code=2\/s.code=3)->(exL n b k s l).code=0\/(exL n b k s l).code=2\/(exL n b k s l).code=3
|[],s,h=>h
|t::l,s,h=>zec n b k l (zeo n b k s t) (zes n b k s t h)
theorem zek{n:Net}{b:Int}:∀(f k:Nat) (s:Ex),(s.code=0\/s.code=2\/s.code=3)->(exRun n b f k s).code=0\/(exRun n b f k s).code=2\/(exRun n b f k s).code=3
 |0,k,s,h=>h
 |f+1,k,s,h=>by
  have er:exRun n b (f+1) k s=if s.code≠0 then s else if k<s.sp.ms.length then exRun n b f (k+1) (exL n b k s (enabL n (s.sp.ms.getD k [])))else s:=rfl
  rw[er]
  split
  ·exact h
  ·split
   ·exact zek f (k+1) _ (zec n b k _ s h)
   ·exact h
theorem ze6(n:Net)(start:List Int)(b:Int):(exAll n start b).code=0\/(exAll n start b).code=2\/(exAll n start b).code=3:=zek _ _ _ (.inl rfl)
def revI(l c:List Int)(i:Nat):Prop:=∃h:c.length=l.length,∀p,(hp:p<l.length)->c[p]'(by omega)=if p<i\/l.length<=p+i then l[l.length-1-p]'(by omega)else l[p]
theorem z16p(l:List Int):revI l l 0:=⟨rfl,fun p hp=>by rw[if_neg (by omega)]⟩
theorem z16o{l c:List Int}{i:Nat}(h:revI l c i)(hi:2*i+1<l.length):revI l ((c.set i (c[l.length-1-i]'(by have:=h.1;omega))).set (l.length-1-i) (c[i]'(by have:=h.1;omega))) (i+1):=by
 obtain⟨h1,h2⟩:=h
 refine⟨by simp[h1],fun p hp=>?_⟩
 have hi1:=h2 i (by omega)
 have hi2:=h2 (l.length-1-i) (by omega)
 rw[if_neg (by omega)]at hi1 hi2
 rw[Q'u]
 by_cases e1:l.length-1-i=p
 ·rw[if_pos e1,if_pos (by omega),hi1]
  congr 1;omega
 ·rw[if_neg e1,Q'u]
  by_cases e2:i=p
  ·rw[if_pos e2,if_pos (by omega),hi2]
   congr 1;omega
  ·rw[if_neg e2,h2 p hp]
   by_cases e3:p<i\/l.length<=p+i
   ·rw[if_pos e3,if_pos (by omega)]
   ·rw[if_neg e3,if_neg (by omega)]
theorem z16n{l c:List Int}{i:Nat}(h:revI l c i)(hi:l.length<=2*i+1):c=l.reverse:=by
 obtain⟨h1,h2⟩:=h
 refine Q'8 (by simp[h1]) (fun p hp hp2=>?_)
 rw[h2 p (by omega),List.getElem_reverse]
 split
 ·rfl
 ·congr 1;omega
end Go.Proofs.YtbaclnecajkknaaGreat.Pi
namespace Go.Proofs.YtbaclnecajkknaaGreat.Pi
open Go
set_option linter.all false

inductive Rk (ar:List Arc3)(S:List Int):Int->Prop
|base {k:Int}(h:k∈S):Rk ar S k
|step {a:Arc3}(h:a∈ar)(r:Rk ar S a.dst):Rk ar S a.src
def z44(ar:List Arc3)(n:Nat):Prop:=∀a∈ar,0<=a.src/\a.src<n/\0<=a.dst/\a.dst<n
open Classical in
noncomputable def toL(ar:List Arc3)(n:Nat)(S:List Int):List Bool:=(L'1 n).map fun(k:Nat)=>decide (Rk ar S (k:Int))
theorem z1fo(ar:List Arc3)(n:Nat)(S:List Int):(toL ar n S).length=n:=by simp[toL]
theorem z1fm{ar:List Arc3}{n:Nat}{S:List Int}{k:Nat}(hk:k<n):(toL ar n S)[k]'(by rw[z1fo];exact hk)=true↔Rk ar S k:=by simp[toL]
def sndB(ar:List Arc3)(S:List Int)(c:List Bool):Prop:=∀k:Nat,c[k]?=some true->Rk ar S k
def hasS(S:List Int)(c:List Bool):Prop:=∀k∈S,c[k.toNat]?=some true
def clsB(ar:List Arc3)(c:List Bool):Prop:=∀a∈ar,c[a.dst.toNat]?=some true->c[a.src.toNat]?=some true
theorem z1fp{ar:List Arc3}{n:Nat}{S:List Int}{c:List Bool}(hl:c.length=n)(hS:∀k∈S,0<=k/\k<n)(hs:sndB ar S c)(hb:hasS S c)(hc:clsB ar c):c=toL ar n S:=by
 have h:∀k,Rk ar S k->c[k.toNat]?=some true:=by
  intro k hk
  induction hk with
  |base h=>exact hb _ h
  |step h _ ih=>exact hc _ h ih
 apply L'u
 intro k
 by_cases hk:k<n
 ·rw[L'v (by omega),L'v (by rw[z1fo];exact hk)]
  congr 1
  cases e:c[k]'(by omega)with
  |true=>exact((z1fm hk).2 (hs k (by rw[L'v (by omega),e]))).symm
  |false=>
   cases e2:(toL ar n S)[k]'(by rw[z1fo];exact hk)with
   |false=>rfl
   |true=>
    have:=h _ ((z1fm hk).1 e2)
    rw[P'm,L'v (by omega),e]at this
    cases this
 ·rw[L'r (by omega),L'r (by rw[z1fo];omega)]
theorem z1c4{ar:List Arc3}{S:List Int}{c:List Bool}{k:Int}(h:sndB ar S c)(h0:0<=k)(hk:Rk ar S k):sndB ar S (c.set k.toNat true):=by
 intro j hj
 rw[L'k]at hj
 split at hj
 ·rename_i e
  rw[<-e,P'n h0];exact hk
 ·exact h j hj
theorem z19m{c:List Bool}{k j:Nat}(h:c[j]?=some true):(c.set k true)[j]?=some true:=by
 rw[L'k]
 split
 ·rename_i e;subst e
  rw[if_pos (L'b.1 h).1]
 ·exact h
theorem zks{S:List Int}{c:List Bool}{k:Nat}(h:hasS S c):hasS S (c.set k true):=fun x hx=>z19m (h x hx)
def putS(c:List Bool)(S:List Int):List Bool:=S.foldl (fun c k=>c.set k.toNat true) c
theorem z138:∀{S:List Int} {c:List Bool},(putS c S).length=c.length
|[],c=>rfl
|k::S,c=>by unfold putS;rw[P'o];have:=z138 (S:=S) (c:=c.set k.toNat true);unfold putS at this;rw[this,N'9]
theorem z13a{c:List Bool}{S:List Int}{k:Nat}(h:k<S.length):putS c (S.take (k+1))=(putS c (S.take k)).set S[k].toNat true:=by
 unfold putS;rw[P'z h,Q'6];rfl
theorem z13b:∀{S:List Int} {c:List Bool} {j:Nat},c[j]?=some true->(putS c S)[j]?=some true
|[],c,j,h=>h
|k::S,c,j,h=>by unfold putS;rw[P'o];exact z13b (S:=S) (z19m h)
theorem z137:∀{S:List Int} {c:List Bool},(∀k∈S,0<=k/\k.toNat<c.length)->hasS S (putS c S)
 |[],c,_=>by intro k hk;cases hk
 |k::S,c,h=>by
  have h1:=h k (by simp)
  have key:(c.set k.toNat true)[k.toNat]?=some true:=by rw[P'r h1.2]
  intro j hj
  unfold putS
  rw[P'o]
  rcases M'z.1 hj with rfl| hj
  ·exact z13b (S:=S) key
  ·exact z137 (S:=S) (c:=c.set k.toNat true) (fun x hx=>by have:=h x (by simp[hx]);simpa using this) j hj
theorem z139{ar:List Arc3}{S0:List Int}:∀{S:List Int} {c:List Bool},(∀k∈S,0<=k/\k∈S0)->sndB ar S0 c->sndB ar S0 (putS c S)
 |[],c,_,h=>h
 |k::S,c,hS,h=>by
  unfold putS;rw[P'o]
  exact z139 (S:=S) (fun x hx=>hS x (by simp[hx])) (z1c4 h (hS k (by simp)).1 (.base (hS k (by simp)).2))
theorem z1c8{ar:List Arc3}{S:List Int}{n:Nat}:sndB ar S (L'0 n false):=by
 intro k hk
 rw[P's]at hk
 split at hk<;>cases hk
def passK(ar:List Arc3)(c:List Bool):Nat->List Bool×Bool
 |0=>(c,false)
 |k+1=>let p:=passK ar c k
  match ar[k]? with
  |some a=>if p.1[a.dst.toNat]?=some true/\p.1[a.src.toNat]?=some false then(p.1.set a.src.toNat true,true)else p
  |none=>p
theorem z118{ar:List Arc3}{c:List Bool}:∀k,(passK ar c k).1.length=c.length
 |0=>rfl
 |k+1=>by
  unfold passK
  simp only
  split
  ·split
   ·simp[z118 k]
   ·exact z118 k
  ·exact z118 k
theorem z11b{ar:List Arc3}{c:List Bool}{k:Nat}(hk:k<ar.length)(h1:(passK ar c k).1[ar[k].dst.toNat]?=some true)(h2:(passK ar c k).1[ar[k].src.toNat]?=some false):passK ar c (k+1)=((passK ar c k).1.set ar[k].src.toNat true,true):=by
 rw[passK];simp only[L'v hk,h1,h2];simp
theorem z119{ar:List Arc3}{c:List Bool}{k:Nat}(hk:k<ar.length)(h:¬((passK ar c k).1[ar[k].dst.toNat]?=some true/\(passK ar c k).1[ar[k].src.toNat]?=some false)):passK ar c (k+1)=passK ar c k:=by
 rw[passK];simp only[L'v hk,h];simp
theorem z116{ar:List Arc3}{c:List Bool}{k:Nat}(hk:ar.length<=k):passK ar c (k+1)=passK ar c k:=by
 rw[passK];simp only[L'r hk]
theorem z11a{ar:List Arc3}{S:List Int}{c:List Bool}{n:Nat}(ha:z44 ar n)(h:sndB ar S c):∀k,sndB ar S (passK ar c k).1
 |0=>h
 |k+1=>by
  have ih:=z11a ha h k
  by_cases hk:k<ar.length
  ·by_cases hc:(passK ar c k).1[ar[k].dst.toNat]?=some true/\(passK ar c k).1[ar[k].src.toNat]?=some false
   ·rw[z11b hk hc.1 hc.2]
    have hm:=P'l hk
    have hr:=ih _ hc.1
    rw[P'n (ha _ hm).2.2.1]at hr
    exact z1c4 ih (ha _ hm).1 (.step hm hr)
   ·rw[z119 hk hc];exact ih
  ·rw[z116 (by omega)];exact ih
theorem z117{ar:List Arc3}{S:List Int}{c:List Bool}(h:hasS S c):∀k,hasS S (passK ar c k).1
 |0=>h
 |k+1=>by
  have ih:=z117 (ar:=ar) h k
  unfold passK
  simp only
  split
  ·split
   ·exact zks ih
   ·exact ih
  ·exact ih
theorem z115{ar:List Arc3}{c:List Bool}:∀k,(cntF (passK ar c k).1<=cntF c)/\((passK ar c k).2=true->cntF (passK ar c k).1<cntF c)/\((passK ar c k).2=false->(passK ar c k).1=c)
 |0=>⟨L'l _,fun h=>(by cases h),fun _=>rfl⟩
 |k+1=>by
  have ih:=z115 (ar:=ar) (c:=c) k
  by_cases hk:k<ar.length
  ·by_cases hc:(passK ar c k).1[ar[k].dst.toNat]?=some true/\(passK ar c k).1[ar[k].src.toNat]?=some false
   ·rw[z11b hk hc.1 hc.2]
    have hl:=(L'b.1 hc.2).1
    have:=zb4 hl (by rw[N'u,hc.2];rfl)
    refine⟨by simp only;omega,fun _=>by simp only;omega,fun h=>by cases h⟩
   ·rw[z119 hk hc];exact ih
  ·rw[z116 (by omega)];exact ih
theorem z114{ar:List Arc3}{c:List Bool}{n:Nat}(hl:c.length=n)(ha:z44 ar n)(h:(passK ar c ar.length).2=false):clsB ar c:=by
 have key:∀k,k<=ar.length->(passK ar c k).2=false->∀i,(hi:i<k)->∀hi2:i<ar.length,c[ar[i].dst.toNat]?=some true->c[ar[i].src.toNat]?=some true:=by
  intro k
  induction k with
  |zero=>intro _ _ i hi;omega
  |succ k ih=>
   intro hk h2 i hi hi2 hd
   have hkl:k<ar.length:=by omega
   by_cases hc:(passK ar c k).1[ar[k].dst.toNat]?=some true/\(passK ar c k).1[ar[k].src.toNat]?=some false
   ·rw[z11b hkl hc.1 hc.2]at h2;cases h2
   ·rw[z119 hkl hc]at h2
    have he:=(z115 k).2.2 h2
    by_cases e:i=k
    ·subst e
     rw[he]at hc
     have hm:=ha _ (P'l hi2)
     cases e2:c[ar[i].src.toNat]? with
     |none=>rw[List.getElem?_eq_none_iff]at e2;omega
     |some b=>
      cases b with
      |true=>rfl
      |false=>exact(hc ⟨hd,e2⟩).elim
    ·exact ih (by omega) h2 i (by omega) hi2 hd
 intro a hm hd
 obtain⟨i,hi,rfl⟩:=P'p.1 hm
 exact key ar.length (L'l _) h i hi hi hd
/-! ### From where arcs come to a marking -/
def befs(ar:List Arc3)(j:Int):List Int:=(ar.filter fun a=>decide (a.dst=j)).map (·.src)
def pvB(l:List Int):PV:=if l=[]then .nil true 1 else ints l
def befP(ar:List Arc3)(n:Nat):List PV:=(L'1 n).map fun(j:Nat)=>pvB (befs ar j)
theorem z5d(ar:List Arc3)(n:Nat):(befP ar n).length=n:=by simp[befP]
theorem z5c{ar:List Arc3}{n:Nat}{j:Int}(h0:0<=j)(h:j<n):(befP ar n)[j.toNat]?=some (pvB (befs ar j)):=by
 simp only[befP,N'i]
 rw[P'2 (by omega)]
 simp[P'n h0]
theorem z5f(n:Nat):befP [] n=L'0 n (.nil true 1):=by
 apply Q'8
 ·simp[befP]
 ·intro i h1 h2
  simp[befP,befs,pvB]
theorem z5i{ar:List Arc3}{k:Nat}{j:Int}(hk:k<ar.length):befs (ar.take (k+1)) j=if ar[k].dst=j then befs (ar.take k) j++[ar[k].src]else befs (ar.take k) j:=by
 unfold befs
 rw[P'z hk,P'x,M'r]
 split
 ·rename_i h;simp[h]
 ·rename_i h;simp[h]
theorem z5e{ar:List Arc3}{n k:Nat}(hk:k<ar.length)(h0:0<=ar[k].dst):befP (ar.take (k+1)) n=(befP (ar.take k) n).set ar[k].dst.toNat (ints (befs (ar.take k) ar[k].dst++[ar[k].src])):=by
 apply L'u
 intro j
 rw[L'k,z5d]
 by_cases hj:j<n
 ·simp only[befP,N'i,P'2 hj,Option.map_some]
  rw[z5i hk]
  by_cases e:ar[k].dst=(j:Int)
  ·rw[if_pos e,if_pos (by omega),if_pos (by omega),e]
   simp[pvB]
  ·rw[if_neg e,if_neg (by omega)]
 ·simp only[befP,N'i]
  rw[L'r (by simp;omega)]
  split
  ·rw[if_neg (by omega)];rfl
  ·rfl
theorem z5h{ar:List Arc3}{j x:Int}:x∈befs ar j↔∃a∈ar,a.dst=j/\a.src=x:=by
 simp only[befs,M's,N'z,decide_eq_true_eq]
 constructor
 ·rintro⟨a,⟨h1,h2⟩,h3⟩;exact⟨a,h1,h2,h3⟩
 ·rintro⟨a,h1,h2,h3⟩;exact⟨a,⟨h1,h2⟩,h3⟩
theorem z5g(ar:List Arc3)(j:Int):(befs ar j).length<=ar.length:=by unfold befs;rw[Q'1];exact Q'7 _ _
structure BF(ar:List Arc3)(n:Nat)(S:List Int)(c:List Bool)(q:List Int)(i:Nat):Prop where
len:c.length=n
snd:sndB ar S c
has:hasS S c
inn:∀x∈q,0<=x/\x<n
mkd:∀x∈q,c[x.toNat]?=some true
all:∀k:Nat,c[k]?=some true->(k:Int)∈q
cnt:q.length+cntF c<=n
le:i<=q.length
done:∀j,(hj:j<i)->∀a∈ar,a.dst=q[j]'(by omega)->c[a.src.toNat]?=some true
theorem BF.end_{ar:List Arc3}{n:Nat}{S:List Int}{c:List Bool}{q:List Int}(h:BF ar n S c q q.length)(ha:z44 ar n)(hS:∀k∈S,0<=k/\k<n):c=toL ar n S:=by
 refine z1fp h.len hS h.snd h.has fun a hm hd=>?_
 have:=h.all _ hd
 rw[P'n (ha a hm).2.2.1]at this
 obtain⟨j,hj,e⟩:=P'p.1 this
 exact h.done j hj a hm e.symm
structure BG(ar:List Arc3)(n:Nat)(S:List Int)(i:Nat)(L:List Int)(m:Nat)(x:Int)(c:List Bool)(q:List Int):Prop extends BF ar n S c q i where
lt:i<q.length
at_:q[i]?=some x
up:∀j,j<m->∀y,L[j]?=some y->c[y.toNat]?=some true
theorem BG.next{ar:List Arc3}{n:Nat}{S:List Int}{i:Nat}{x:Int}{c:List Bool}{q:List Int}(h:BG ar n S i (befs ar x) (befs ar x).length x c q):BF ar n S c q (i+1):=by
 refine⟨h.len,h.snd,h.has,h.inn,h.mkd,h.all,h.cnt,h.lt,fun j hj a hm e=>?_⟩
 by_cases hji:j=i
 ·subst hji
  have hx:=h.at_
  rw[L'v h.lt]at hx
  rw[Option.some.inj hx]at e
  obtain⟨k,hk,he⟩:=P'p.1 (z5h.2 ⟨a,hm,e,rfl⟩)
  exact h.up k hk _ (by rw[L'v hk,he])
 ·exact h.done j (by omega) a hm e
theorem BG.old{ar:List Arc3}{n:Nat}{S:List Int}{i:Nat}{L:List Int}{m:Nat}{x:Int}{c:List Bool}{q:List Int}(h:BG ar n S i L m x c q)(hm:m<L.length)(hc:c[L[m].toNat]?=some true):BG ar n S i L (m+1) x c q:=by
 refine⟨h.toBF,h.lt,h.at_,fun j hj y hy=>?_⟩
 by_cases e:j=m
 ·subst e
  rw[L'v hm]at hy
  cases hy;exact hc
 ·exact h.up j (by omega) y hy
theorem BG.new{ar:List Arc3}{n:Nat}{S:List Int}{i:Nat}{m:Nat}{x:Int}{c:List Bool}{q:List Int}(h:BG ar n S i (befs ar x) m x c q)(ha:z44 ar n)(hm:m<(befs ar x).length)(hc:c[(befs ar x)[m].toNat]?=some false) :
  BG ar n S i (befs ar x) (m+1) x (c.set (befs ar x)[m].toNat true) (q++[(befs ar x)[m]]):=by
 obtain⟨a,h1,h2,h3⟩:=z5h.1 (P'l hm)
 obtain⟨a1,a2,a3,a4⟩:=ha a h1
 have hl:=h.len
 have hx:=h.at_
 have hi:=h.lt
 rw[L'v hi]at hx
 have hq:x∈q:=by rw[<-Option.some.inj hx];exact P'l hi
 generalize hy:(befs ar x)[m]=y at *
 subst h3
 have hcy:a.src.toNat<c.length:=by omega
 have hRk:Rk ar S a.src:=by
  refine .step h1 ?_
  have hr:=h.snd _ (h.mkd x hq)
  rw[P'n (h.inn x hq).1]at hr
  rw[h2];exact hr
 have hcnt:=zb4 hcy (by rw[N'u,hc];rfl)
 have hcn:=h.cnt
 refine⟨⟨by simpa using hl,z1c4 h.snd a1 hRk,zks h.has,fun z hz=>?_,fun z hz=>?_,fun k hk=>?_,by rw[L'x];simp only[M'2,M'7];omega,by rw[L'x];have:=h.le;omega,fun j hj a' hm' e=>?_⟩,by rw[L'x];omega,?_,fun j hj z hz=>?_⟩
 ·rcases L'j.1 hz with hz|hz
  ·exact h.inn z hz
  ·rw[N'2]at hz;subst hz;exact⟨a1,a2⟩
 ·rcases L'j.1 hz with hz|hz
  ·exact z19m (h.mkd z hz)
  ·rw[N'2]at hz;subst hz;rw[P'r hcy]
 ·rw[L'k]at hk
  split at hk
  ·rename_i e
   refine L'j.2 (.inr ?_)
   rw[N'2];omega
  ·exact L'j.2 (.inl (h.all k hk))
 ·have hjq:j<q.length:=by omega
  rw[P't hjq]at e
  exact z19m (h.done j hj a' hm' e)
 ·rw[L'm hi,L'v hi];exact hx
 ·by_cases e:j=m
  ·subst e
   rw[L'v hm,hy]at hz
   cases hz
   rw[P'r hcy]
  ·exact z19m (h.up j (by omega) z hz)
theorem BF.look{ar:List Arc3}{n:Nat}{S:List Int}{c:List Bool}{q:List Int}{i:Nat}(h:BF ar n S c q i)(hi:i<q.length):BG ar n S i (befs ar q[i]) 0 q[i] c q:=⟨h,hi,L'v hi,fun j hj=>by omega⟩
theorem BF.start{ar:List Arc3}{n:Nat}{p:Int}(h0:0<=p)(h:p<n):BF ar n [p] ((L'0 n false).set p.toNat true) [p] 0:=by
 have hp:p.toNat<(L'0 n false).length:=by simp;omega
 have hc:=zb4 (l:=L'0 n false) (k:=p.toNat) hp (by rw[N'u,P's];split<;>rfl)
 have hl:=zb2 (L'0 n false)
 rw[M'j]at hl
 refine⟨by simp,z1c4 z1c8 h0 (.base (by simp)),fun k hk=>?_,fun x hx=>?_,fun x hx=>?_,fun k hk=>?_,by simp only[M'2,M'7];omega,Nat.zero_le _,fun j hj=>by omega⟩
 ·rw[N'2]at hk;subst hk;rw[P'r hp]
 ·rw[N'2]at hx;subst hx;exact⟨h0,h⟩
 ·rw[N'2]at hx;subst hx;rw[P'r hp]
 ·rw[L'k]at hk
  split at hk
  ·rename_i e;rw[N'2];omega
  ·rw[P's]at hk;split at hk<;>cases hk
end Go.Proofs.YtbaclnecajkknaaGreat.Pi
namespace Go.Proofs.YtbaclnecajkknaaGreat.Pi
open Go
set_option linter.all false

/-! ### How a space is laid out -/
structure Bfs(ar:List Arc3)(n:Nat):Prop where
inn:z44 ar n
srt:∀i j,i<=j->∀(hi:i<ar.length)(hj:j<ar.length),ar[i].src<=ar[j].src
pre:∀i,(hi:i<ar.length)->∀q:Nat,1<=q->(q:Int)<ar[i].dst->∃j,∃hj:j<i,(ar[j]'(by omega)).dst=q
back:∀q:Nat,0<q->q<n->∃i,∃h:i<ar.length,ar[i].dst=q/\ar[i].src<q/\∀i',(h':i'<i)->(ar[i']'(by omega)).dst≠q
structure ExB(s:Ex)(k:Nat):Prop where
le:∀a∈s.sp.ar,a.src<=k
srt:∀i j,i<=j->∀(hi:i<s.sp.ar.length)(hj:j<s.sp.ar.length),s.sp.ar[i].src<=s.sp.ar[j].src
pre:∀i,(hi:i<s.sp.ar.length)->∀q:Nat,1<=q->(q:Int)<s.sp.ar[i].dst->∃j,∃hj:j<i,(s.sp.ar[j]'(by omega)).dst=q
theorem ExB.add{s:Ex}{k:Nat}{ms:List (List Int)}{t d c:Int}(h:ExB s k)(hd:∀q:Nat,1<=q->(q:Int)<d->∃j,∃hj:j<s.sp.ar.length,s.sp.ar[j].dst=q):ExB ⟨⟨ms,s.sp.ar++[⟨k,t,d⟩]⟩,c⟩ k:=by
 refine⟨fun a ha=>?_,fun i j hij hi hj=>?_,fun i hi q h1 h2=>?_⟩
 ·rcases L'j.1 ha with ha|ha
  ·exact h.le a ha
  ·rw[N'2]at ha;subst ha;exact Int.le_refl _
 ·simp only[L'x,M'2,M'7]at hi hj
  simp only[Q'2]
  by_cases hj2:j<s.sp.ar.length
  ·rw[dif_pos (show i<s.sp.ar.length by omega),dif_pos hj2];exact h.srt i j hij _ _
  ·rw[dif_neg hj2]
   by_cases hi2:i<s.sp.ar.length
   ·rw[dif_pos hi2]
    simp only[Q'v]
    exact h.le _ (P'l hi2)
   ·rw[dif_neg hi2];simp
 ·simp only[L'x,M'2,M'7]at hi
  by_cases hi2:i<s.sp.ar.length
  ·simp only[Q'2,dif_pos hi2]at h2
   obtain⟨j,hj,e⟩:=h.pre i hi2 q h1 h2
   exact⟨j,hj,by simp only[Q'2,dif_pos (show j<s.sp.ar.length by omega)];exact e⟩
  ·have:i=s.sp.ar.length:=by omega
   subst this
   simp only[Q'2,dif_neg hi2,Q'v]at h2
   obtain⟨j,hj,e⟩:=hd q h1 h2
   exact⟨j,hj,by simp only[Q'2,dif_pos hj];exact e⟩
theorem ExB.stop{s:Ex}{k:Nat}(h:ExB s k)(c:Int):ExB ⟨s.sp,c⟩ k:=⟨h.le,h.srt,h.pre⟩
theorem zer{n:Net}{start:List Int}{b:Int}{k:Nat}{s:Ex}{t:Int}(ho:ExOk n start b s)(h:ExB s k):ExB (zeo n b k s t) k:=by
 have all:∀q:Nat,1<=q->q<s.sp.ms.length->∃j,∃hj:j<s.sp.ar.length,s.sp.ar[j].dst=q:=fun q h1 h2=>by
  obtain⟨i,hi,e,_⟩:=ho.back q (by omega) h2
  exact⟨i,hi,e⟩
 by_cases h0:s.code=0
 case neg=>rw[zez h0];exact h
 cases ha:(zgw (trAt n t) (s.sp.ms.getD k [])).all (inB 0 50)with
 |false=>rw[zf1 h0 ha];exact h.stop 3
 |true=>
  by_cases h2:0<=findM s.sp.ms (zgw (trAt n t) (s.sp.ms.getD k []))
  ·rw[zex h0 ha h2]
   have:=(zgl h2).1
   exact h.add fun q h3 h4=>all q h3 (by omega)
  ·by_cases h3:b<=s.sp.ms.length
   ·rw[zet h0 ha h2 h3];exact h.stop 2
   ·rw[zev h0 ha h2 h3]
    exact h.add fun q h3 h4=>all q h3 (by omega)
theorem zeb{n:Net}{start:List Int}{b:Int}{k:Nat}:∀(l:List Int) (s:Ex),ExOk n start b s->ExB s k->k<s.sp.ms.length->(∀t∈l,t∈enabL n (s.sp.ms.getD k []))->ExB (exL n b k s l) k
 |[],s,_,h,_,_=>h
 |t::l,s,ho,h,hk,hl=>by
  have h1:=zew ho hk (hl t (by simp))
  obtain⟨p,hp⟩:=zey (n:=n) (b:=b) (k:=k) (s:=s) (t:=t)
  have e:(zeo n b k s t).sp.ms.getD k []=s.sp.ms.getD k []:=by rw[hp,zjc hk]
  exact zeb l (zeo n b k s t) h1 (zer ho h) (by rw[hp];simp;omega) (fun u hu=>by rw[e];exact hl u (by simp[hu]))
theorem ExB.up{s:Ex}{k k':Nat}(h:ExB s k)(hk:k<=k'):ExB s k':=⟨fun a ha=>by have:=h.le a ha;omega,h.srt,h.pre⟩
theorem zej{n:Net}{start:List Int}{b:Int}:∀(f k:Nat) (s:Ex),ExOk n start b s->ExB s k->∃k',ExB (exRun n b f k s) k'
 |0,k,s,_,h=>⟨k,h⟩
 |f+1,k,s,ho,h=>by
  have er:exRun n b (f+1) k s=if s.code≠0 then s else if k<s.sp.ms.length then exRun n b f (k+1) (exL n b k s (enabL n (s.sp.ms.getD k [])))else s:=rfl
  rw[er]
  split
  ·exact⟨k,h⟩
  ·split
   ·rename_i hl
    exact zej f (k+1) _ (zee (start:=start) (k:=k) _ s ho hl (fun t ht=>ht)).1 ((zeb _ s ho h hl (fun t ht=>ht)).up (by omega))
   ·exact⟨k,h⟩
theorem ze5{n:Net}{start:List Int}{b:Int}(hm:zss n start=true)(hb:1<=b):Bfs (exAll n start b).sp.ar (exAll n start b).sp.ms.length:=by
 have ho:=(ze7 hm hb).1
 obtain⟨k,h⟩:∃k,ExB (exAll n start b) k:=by
  unfold exAll
  refine zej (start:=start) _ 0 _ ⟨rfl,fun m hm2=>?_,by simp;omega,by simp,fun a ha=>by simp at ha,fun j hj hl=>?_⟩ ⟨fun a ha=>by simp at ha,fun i j _ hi=>by simp at hi,fun i hi=>by simp at hi⟩
  ·simp only[N'2]at hm2;subst hm2;exact hm
  ·simp only[M'2,M'7]at hl;omega
 refine⟨fun a ha=>?_,h.srt,h.pre,ho.back⟩
 have:=ho.arcs a ha
 omega
/-! ### Ways of some arcs -/
def Dk(ar:List Arc3)(p:Int):Nat->Int->Prop
|0,k=>k=p
|d+1,k=>∃a∈ar,a.src=k/\Dk ar p d a.dst
structure isFar(ar:List Arc3)(p:Int)(n:Nat)(F:List Int):Prop where
len:F.length=n
val:∀k:Nat,k<n->(F[k]?=some (-1)/\∀e,¬Dk ar p e k)\/∃d:Nat,F[k]?=some (d:Int)/\Dk ar p d k/\∀e,e<d->¬Dk ar p e k
def treeW(ar:List Arc3):Nat->Nat->List Int
 |0,_=>[]
 |f+1,k=>if k=0 then[]else match ar[(arcTo ar k).toNat]? with
  |some a=>treeW ar f a.src.toNat++[a.by_]
  |none=>[]
def tw(ar:List Arc3)(k:Nat):List Int:=treeW ar (k+1) k
section
variable {ar:List Arc3}{n:Nat}
theorem Bfs.arc(h:Bfs ar n){q:Nat}(h0:0<q)(hq:q<n):∃i,∃hi:i<ar.length,arcTo ar q=i/\ar[i].dst=q/\0<=ar[i].src/\ar[i].src<q/\∀i',(h':i'<i)->(ar[i']'(by omega)).dst≠q:=by
 obtain⟨i,hi,e1,e2,e3⟩:=h.back q h0 hq
 refine⟨i,hi,?_,e1,(h.inn _ (P'l hi)).1,e2,e3⟩
 unfold arcTo
 refine zl4 hi ?_ (decide_eq_true e1)
 rw[M'y]
 intro x hx
 obtain⟨i',h1,rfl⟩:=P'p.1 hx
 have h2:i'<i:=by simp at h1;omega
 have:=e3 i' h2
 simpa using this
theorem z1g9(h:Bfs ar n):∀(f g k:Nat),k<n->k<f->k<g->treeW ar f k=treeW ar g k
 |0,_,k,_,hf,_=>by omega
 |f+1,0,k,_,_,hg=>by omega
 |f+1,g+1,k,hn,hf,hg=>by
  unfold treeW
  split
  ·rfl
  ·rename_i h0
   obtain⟨i,hi,e,_,e2,e3,_⟩:=h.arc (by omega) hn
   rw[e,P'm,L'v hi]
   simp only
   rw[z1g9 h f g _ (by omega) (by omega) (by omega)]
theorem z1gh:tw ar 0=[]:=rfl
theorem z1gf(h:Bfs ar n){k i:Nat}(h0:0<k)(hk:k<n)(hi:i<ar.length)(e:arcTo ar k=i):tw ar k=tw ar ar[i].src.toNat++[ar[i].by_]:=by
 obtain⟨j,hj,e1,_,e2,e3,_⟩:=h.arc h0 hk
 have hij:j=i:=by rw[e]at e1;omega
 subst hij
 show(if k=0 then[]else match ar[(arcTo ar k).toNat]? with| some a=>treeW ar k a.src.toNat++[a.by_]|none=>[])=_
 rw[if_neg (by omega),e,P'm,L'v hj]
 simp only
 rw[z1g9 h k (ar[j].src.toNat+1) _ (by omega) (by omega) (by omega)];rfl
theorem z1gd(h:Bfs ar n):∀(k k':Nat),k<=k'->k'<n->(tw ar k).length<=(tw ar k').length
 |0,k',_,_=>by simp[z1gh]
 |k+1,k',hk,hn=>by
  obtain⟨i,hi,a1,a2,a3,a4,a5⟩:=h.arc (q:=k+1) (by omega) (by omega)
  obtain⟨j,hj,b1,b2,b3,b4,b5⟩:=h.arc (q:=k') (by omega) hn
  rw[z1gf h (by omega) (by omega) hi a1,z1gf h (by omega) hn hj b1]
  have hij:i<=j:=by
   by_cases e:k+1=k'
   ·subst e;rw[a1]at b1;omega
   ·obtain⟨j',hj',e'⟩:=h.pre j hj (k+1) (by omega) (by omega)
    have:¬j'<i:=fun hlt=>a5 j' hlt e'
    omega
  have hs:=h.srt i j hij hi hj
  have:=z1gd h ar[i].src.toNat ar[j].src.toNat (by omega) (by omega)
  simp only[L'x,M'2,M'7];omega
termination_by k => k
decreasing_by all_goals omega
theorem z1ge(h:Bfs ar n){p:Nat}(hp:p<n) : ∀(r k:Nat),k<n->Dk ar p r k->(tw ar p).length<=(tw ar k).length+r
  | 0, k, _, hd => by have : k = p := by simp only[Dk]at hd;omega
                      subst this;omega
  | r + 1, k, hk, ⟨a, hm, e, hd⟩ => by
    obtain⟨a1,a2,a3,a4⟩:=h.inn a hm
    have hd2:Dk ar p r (a.dst.toNat:Nat):=by rw[P'n a3];exact hd
    have ih:=z1ge h hp r a.dst.toNat (by omega) hd2
    by_cases h0:a.dst.toNat=0
    · rw[h0,z1gh,M'7]at ih;omega
    · obtain⟨i,hi,b1,b2,b3,b4,b5⟩:=h.arc (q:=a.dst.toNat) (by omega) (by omega)
      obtain⟨j,hj,rfl⟩:=P'p.1 hm
      have hij:i<=j:=by
        have:¬j<i:=fun hlt=>b5 j hlt (by omega)
        omega
      have hs:=h.srt i j hij hi hj
      rw[z1gf h (by omega) (by omega) hi b1,L'x,M'2,M'7]at ih
      have:=z1gd h ar[i].src.toNat k (by omega) hk
      omega
inductive Tp (ar:List Arc3)(p:Nat):Nat->List Int->Prop
|refl:Tp ar p p []
|step {c i:Nat}{U:List Int}(hi:i<ar.length)(e:arcTo ar c=i)(h0:0<c)(t:Tp ar p c U):Tp ar p ar[i].src.toNat (ar[i].by_::U)
theorem Tp.path(h:Bfs ar n){p t:Nat}{U:List Int}(hp:p<n)(ht:Tp ar p t U):t<n/\Dk ar p U.length t:=by
 induction ht with
 |refl=>exact⟨hp,rfl⟩
 |step hi e h0 t ih=>
  rename_i c i U
  obtain⟨j,hj,e1,e2,e3,e4,_⟩:=h.arc h0 ih.1
  have:j=i:=by rw[e]at e1;omega
  subst this
  refine⟨by omega,_,P'l hi,(P'n e3).symm,?_⟩
  rw[e2];exact ih.2
theorem tw_tp(h:Bfs ar n){p:Nat}(hp:p<n):∀(k:Nat) (U:List Int),k<n->Tp ar p k U->Tp ar p 0 (tw ar k++U)
 |0,U,_,ht=>by rw[z1gh];exact ht
 |k+1,U,hk,ht=>by
  obtain⟨i,hi,e1,e2,e3,e4,_⟩:=h.arc (q:=k+1) (by omega) hk
  rw[z1gf h (by omega) hk hi e1,M'c]
  exact tw_tp h hp ar[i].src.toNat _ (by omega) (.step hi e1 (by omega) ht)
termination_by k => k
decreasing_by all_goals omega
theorem zvo(h:Bfs ar n){p:Nat}(hp:p<n):∀(U:List Int)(x c:Nat),x<c->Tp ar p c U->Dk ar p U.length x->False
 |[],x,c,hx,ht,hd=>by
  cases ht
  simp only[M'7,Dk]at hd;omega
 |b::U,x,c,hx,ht,hd=>by
  cases ht
  rename_i c' i hi e h0 t
  obtain⟨a,hm,e2,hd2⟩:=hd
  obtain⟨j,hj,rfl⟩:=P'p.1 hm
  obtain⟨a1,a2,a3,a4⟩:=h.inn _ hm
  have hc:=(Tp.path h hp t).1
  obtain⟨i2,hi2,f1,f2,f3,f4,f5⟩:=h.arc h0 hc
  have:i2=i:=by rw[e]at f1;omega
  subst this
  have hji:j<i2:=by
   apply Decidable.byContradiction
   intro hn
   have:=h.srt i2 j (by omega) hi hj
   omega
  have hlt:ar[j].dst.toNat<c':=by
   apply Decidable.byContradiction
   intro hn
   by_cases he:ar[j].dst.toNat=c'
   ·exact f5 j hji (by omega)
   ·obtain⟨j',hj',e'⟩:=h.pre j hj c' h0 (by omega)
    exact f5 j' (by omega) e'
  exact zvo h hp U _ c' hlt t (by rw[P'n a3];exact hd2)
inductive Gd (ar:List Arc3)(F:List Int)(p:Nat):Nat->List Int->Prop
|refl:Gd ar F p p []
|step {t i:Nat}{W:List Int}(hne:t≠p)(hi:i<ar.length)(hs:ar[i].src=t)(hf:∀u v,F[ar[i].dst.toNat]?=some u->F[t]?=some v->u=v-1)(hm:∀j,(hj:j<i)->(ar[j]'(by omega)).src=t->∀u v,F[(ar[j]'(by omega)).dst.toNat]?=some u->F[t]?=some v->u≠v-1)
 (g:Gd ar F p ar[i].dst.toNat W):Gd ar F p t (ar[i].by_::W)
theorem isFar.at_{p:Nat}{F:List Int}(hF:isFar ar p n F){k d:Nat}(hk:k<n)(hd:Dk ar p d k)(hm:∀e,e<d->¬Dk ar p e k):F[k]?=some (d:Int):=by
 rcases hF.val k hk with⟨_,h⟩|⟨d',h1,h2,h3⟩
 ·exact(h d hd).elim
 ·have:d'=d:=by
   rcases Q'9 d d' with h|h|h
   ·exact(h3 d h hd).elim
   ·exact h.symm
   ·exact(hm d' h h2).elim
  rw[h1,this]
theorem zj2(h:Bfs ar n){p:Nat}(hp:p<n){F:List Int}(hF:isFar ar p n F):∀{t:Nat} {W:List Int},Gd ar F p t W->∀{U:List Int},Tp ar p t U->(∀e,e<U.length->¬Dk ar p e t)->W=U:=by
 intro t W hg
 induction hg with
 |refl=>
  intro U ht hm
  cases U with
  |nil=>rfl
  |cons b U=>exact(hm 0 (by simp) rfl).elim
 |step hne hi hs hf hm g ih=>
  intro U ht hmin
  cases ht with
  |refl=>exact(hne rfl).elim
  |step hj e h0 t'=>
   rename_i i W c j U
   obtain⟨hcn,hdc⟩:=Tp.path h hp t'
   obtain⟨j2,hj2,f1,f2,f3,f4,f5⟩:=h.arc h0 hcn
   have:j2=j:=by rw[e]at f1;omega
   subst this
   have hminc:∀e,e<U.length->¬Dk ar p e c:=fun e he hd=>hmin (e+1) (by simp;omega) ⟨_,P'l hj,(P'n f3).symm,by rw[f2];exact hd⟩
   have hFc:=hF.at_ hcn hdc hminc
   have htn:ar[j2].src.toNat<n:=by omega
   have hFt:=hF.at_ htn (d:=U.length+1) ⟨_,P'l hj,(P'n f3).symm,by rw[f2];exact hdc⟩ (by simpa using hmin)
   have hij:i<=j2:=by
    apply Decidable.byContradiction
    intro hn
    refine hm j2 (by omega) (P'n f3).symm U.length (U.length+1:Nat) ?_ hFt (by omega)
    rw[f2,P'm];exact hFc
   have hieq:i=j2:=by
    apply Decidable.byContradiction
    intro hn
    have hlt:i<j2:=by omega
    obtain⟨a1,a2,a3,a4⟩:=h.inn _ (P'l hi)
    have hxn:ar[i].dst.toNat<n:=by omega
    obtain⟨u,hu⟩:∃u,F[ar[i].dst.toNat]?=some u:=⟨_,L'v (by rw[hF.len];exact hxn)⟩
    have hux:=hf u _ hu hFt
    have hDx:Dk ar p U.length (ar[i].dst.toNat:Nat):=by
     rcases hF.val _ hxn with⟨h1,_⟩|⟨d,h1,h2,_⟩
     ·rw[h1]at hu;have:=Option.some.inj hu;omega
     ·rw[h1]at hu
      have:d=U.length:=by have:=Option.some.inj hu;omega
      rw[<-this];exact h2
    have hxc:ar[i].dst.toNat<c:=by
     apply Decidable.byContradiction
     intro hn2
     by_cases he:ar[i].dst.toNat=c
     ·exact f5 i hlt (by omega)
     ·obtain⟨j',hj',e'⟩:=h.pre i hi c h0 (by omega)
      exact f5 j' (by omega) e'
    exact zvo h hp U _ c hxc t' hDx
   subst hieq
   have hdst:ar[i].dst.toNat=c:=by omega
   rw[ih (hdst▸t') (by rw[hdst];exact hminc)]
theorem gd_tw(h:Bfs ar n){p:Nat}(hp:p<n){F:List Int}(hF:isFar ar p n F){W:List Int}(hg:Gd ar F p 0 W):W=tw ar p:=by
 have ht:=tw_tp h hp p [] hp .refl
 rw[M'e]at ht
 refine zj2 h hp hF hg ht fun e he hd=>?_
 have:=z1ge h hp e 0 (by omega) hd
 rw[z1gh,M'7]at this
 omega
end
end Go.Proofs.YtbaclnecajkknaaGreat.Pi
namespace Go.Proofs.YtbaclnecajkknaaGreat.Pi
open Go
set_option linter.all false

structure FQ(ar:List Arc3)(p:Int)(n:Nat)(F q:List Int)(w:Int->Prop):Prop where
len:F.length=n
val:∀k:Nat,∀u,F[k]?=some u->u=-1\/∃d:Nat,u=d/\Dk ar p d k
zero:F[p.toNat]?=some 0
inn:∀x∈q,0<=x/\∃d:Nat,F[x.toNat]?=some (d:Int)
srt:q.Pairwise fun x y=>∀u v,F[x.toNat]?=some u->F[y.toNat]?=some v->u<=v
bnd:∀k:Nat,∀u,F[k]?=some u->∀x∈q,∀v,F[x.toNat]?=some v->u<=v+1
cls:∀a∈ar,∀u,F[a.dst.toNat]?=some u->0<=u->a.dst∉q->¬w a.dst->∃v,F[a.src.toNat]?=some v/\0<=v/\v<=u+1
def cntU(F:List Int):Nat:=F.countP fun x=>decide (x<0)
theorem zb9{F:List Int}{k:Nat}{v:Int}(h:F[k]?=some (-1))(hv:0<=v):cntU (F.set k v)<cntU F:=by
 induction F generalizing k with
 |nil=>simp at h
 |cons x F ih=>
  cases k with
  |zero=>
   simp at h;subst h
   simp[cntU,Q'g,show¬v<0 by omega]
  |succ k=>
   have:=ih (k:=k) (by simpa using h)
   simp only[cntU,Q'r,Q'g]at this ⊢
   omega
section
variable {ar:List Arc3}{p:Int}{n:Nat}{F q:List Int}
theorem FQ.end_(h:FQ ar p n F [] fun _=>False)(ha:z44 ar n)(hp:0<=p/\p<n):isFar ar p n F:=by
 have key:∀(e k:Nat),k<n->Dk ar p e k->∃u,F[k]?=some u/\0<=u/\u<=e:=by
  intro e
  induction e with
  |zero=>
   intro k hk hd
   simp only[Dk]at hd
   refine⟨0,?_,by omega,by omega⟩
   have:=h.zero
   rwa [<-hd,P'm]at this
  |succ e ih=>
   rintro k hk ⟨a,hm,e1,hd⟩
   obtain⟨a1,a2,a3,a4⟩:=ha a hm
   obtain⟨u,h1,h2,h3⟩:=ih a.dst.toNat (by omega) (by rw[P'n a3];exact hd)
   obtain⟨v,h4,h5,h6⟩:=h.cls a hm u h1 h2 (by simp) (by simp)
   rw[e1,P'm]at h4
   exact⟨v,h4,h5,by omega⟩
 refine⟨h.len,fun k hk=>?_⟩
 have hkl:k<F.length:=by rw[h.len];exact hk
 rcases h.val k _ (L'v hkl)with h1|⟨d,h1,h2⟩
 ·refine .inl ⟨by rw[L'v hkl,h1],fun e hd=>?_⟩
  obtain⟨u,g1,g2,_⟩:=key e k hk hd
  rw[L'v hkl,h1]at g1
  have:=Option.some.inj g1
  omega
 ·refine .inr ⟨d,by rw[L'v hkl,h1],h2,fun e he hd=>?_⟩
  obtain⟨u,g1,_,g3⟩:=key e k hk hd
  rw[L'v hkl,h1]at g1
  have:=Option.some.inj g1
  omega
theorem FQ.start(ha:z44 ar n)(hp:0<=p/\p<n):FQ ar p n ((L'0 n (-1)).set p.toNat 0) [p] fun _=>False:=by
 have hl:p.toNat<(L'0 n (-1:Int)).length:=by simp;omega
 have hz:((L'0 n (-1:Int)).set p.toNat 0)[p.toNat]?=some 0:=by rw[P'r hl]
 have hall:∀(k:Nat) (u:Int),((L'0 n (-1:Int)).set p.toNat 0)[k]?=some u->(k=p.toNat/\u=0)\/u=-1:=by
  intro k u h
  rw[L'k]at h
  split at h
  ·rename_i e
   exact .inl ⟨e.symm,(Option.some.inj h).symm⟩
  ·rw[P's]at h
   split at h
   ·exact .inr (Option.some.inj h).symm
   ·cases h
 refine⟨by simp,fun k u h=>?_,hz,fun x hx=>?_,by simp,fun k u h x hx v hv=>?_,fun a hm u h h0 hq _=>?_⟩
 ·rcases hall k u h with⟨h1,h2⟩|h1
  ·exact .inr ⟨0,h2,by simp only[Dk];omega⟩
  ·exact .inl h1
 ·rw[N'2]at hx;subst hx;exact⟨hp.1,0,hz⟩
 ·rw[N'2]at hx;subst hx
  rw[hz]at hv
  have:=Option.some.inj hv
  rcases hall k u h with⟨_,h2⟩|h1<;>omega
 ·rcases hall _ u h with⟨h1,_⟩|h1
  ·refine(hq ?_).elim
   rw[N'2]
   have:=(ha a hm).2.2.1
   omega
  ·omega
structure FW(ar:List Arc3)(p:Int)(n:Nat)(x:Int)(d:Nat)(m:Nat)(F q:List Int):Prop extends FQ ar p n F q (fun y=>y=x) where
at_:F[x.toNat]?=some (d:Int)
pos:0<=x/\x<n
dk:Dk ar p d x
low:∀y∈q,∀v,F[y.toNat]?=some v->(d:Int)<=v
top:∀k:Nat,∀u,F[k]?=some u->u<=d+1
up:∀j,j<m->∀a,ar[j]?=some a->a.dst=x->∃v,F[a.src.toNat]?=some v/\0<=v/\v<=d+1
theorem FQ.look{x:Int}(h:FQ ar p n F (x::q) fun _=>False):∃d:Nat,FW ar p n x d 0 F q:=by
 obtain⟨h0,d,hd⟩:=h.inn x (by simp)
 have hlt:=(L'b.1 hd).1
 have hs:=P'q.1 h.srt
 refine⟨d,⟨h.len,h.val,h.zero,fun y hy=>h.inn y (by simp[hy]),hs.2,fun k u hu y hy=>h.bnd k u hu y (by simp[hy]),fun a hm u hu h1 hq hw=>h.cls a hm u hu h1 (by simp;exact⟨hw,hq⟩) (by simp)⟩,hd,⟨h0,by have:=h.len;omega⟩,?_,fun y hy v hv=>hs.1 y hy _ v hd hv,fun k u hu=>by have:=h.bnd k u hu x (by simp) _ hd;omega,fun j hj=>by omega⟩
 rcases h.val _ _ hd with h1|⟨d',h1,h2⟩
 ·omega
 ·have:d'=d:=by omega
  rw[<-this,<-P'n h0];exact h2
theorem FW.next{x:Int}{d:Nat}(h:FW ar p n x d ar.length F q):FQ ar p n F q fun _=>False:=by
 refine⟨h.len,h.val,h.zero,h.inn,h.srt,h.bnd,fun a hm u hu h1 hq _=>?_⟩
 by_cases e:a.dst=x
 ·obtain⟨j,hj,he⟩:=P'p.1 hm
  obtain⟨v,g1,g2,g3⟩:=h.up j hj a (by rw[L'v hj,he]) e
  rw[e,h.at_]at hu
  have:=Option.some.inj hu
  exact⟨v,g1,g2,by omega⟩
 ·exact h.cls a hm u hu h1 hq e
theorem FW.old{x:Int}{d m:Nat}(h:FW ar p n x d m F q)(hm:m<ar.length)(hc:ar[m].dst=x->∃v,F[ar[m].src.toNat]?=some v/\0<=v):FW ar p n x d (m+1) F q:=by
 refine⟨h.toFQ,h.at_,h.pos,h.dk,h.low,h.top,fun j hj a ha e=>?_⟩
 by_cases ej:j=m
 ·subst ej
  rw[L'v hm]at ha
  cases ha
  obtain⟨v,g1,g2⟩:=hc e
  exact⟨v,g1,g2,h.top _ v g1⟩
 ·exact h.up j (by omega) a ha e
theorem FW.new{x:Int}{d m:Nat}(h:FW ar p n x d m F q)(ha:z44 ar n)(hm:m<ar.length)(hd:ar[m].dst=x)(hc:F[ar[m].src.toNat]?=some (-1)):FW ar p n x d (m+1) (F.set ar[m].src.toNat (d+1)) (q++[ar[m].src]):=by
 have hmm:=P'l hm
 obtain⟨a1,a2,a3,a4⟩:=ha _ hmm
 have hup:=h.up
 have hdk:Dk ar p (d+1) ar[m].src:=⟨ar[m],hmm,rfl,by rw[hd];exact h.dk⟩
 generalize hy:ar[m].src=y at *
 have hyl:y.toNat<F.length:=(L'b.1 hc).1
 have hself:(F.set y.toNat ((d:Int)+1))[y.toNat]?=some ((d:Int)+1):=by rw[P'r hyl]
 have get:∀(k:Nat) (u:Int),(F.set y.toNat ((d:Int)+1))[k]?=some u->(k=y.toNat/\u=d+1)\/(k≠y.toNat/\F[k]?=some u):=by
  intro k u hu
  rw[L'k]at hu
  split at hu
  ·rename_i e
   exact .inl ⟨e.symm,(Option.some.inj hu).symm⟩
  ·rename_i e;exact .inr ⟨fun h=>e h.symm,hu⟩
 have keep:∀(k:Nat) (u:Int),F[k]?=some u->0<=u->(F.set y.toNat ((d:Int)+1))[k]?=some u:=by
  intro k u hu h0
  rw[L'n];exact hu
  rintro rfl
  rw[hc]at hu
  have:=Option.some.inj hu
  omega
 have hqy:∀z∈q,z.toNat≠y.toNat:=by
  intro z hz e
  obtain⟨_,d',h1⟩:=h.inn z hz
  rw[e,hc]at h1
  have:=Option.some.inj h1
  omega
 refine⟨⟨by simp[h.len],fun k u hu=>?_,keep _ _ h.zero (by omega),fun z hz=>?_,?_,fun k u hu z hz v hv=>?_,fun a hma u hu h1 hq hw=>?_⟩,keep _ _ h.at_ (by omega),h.pos,h.dk,fun z hz v hv=>?_,fun k u hu=>?_,fun j hj a hja e=>?_⟩
 ·rcases get k u hu with⟨rfl,rfl⟩|⟨_,h1⟩
  ·exact .inr ⟨d+1,by omega,by rw[P'n a1];exact hdk⟩
  ·exact h.val k u h1
 ·rcases L'j.1 hz with hz|hz
  ·obtain⟨h0,d',h1⟩:=h.inn z hz
   exact⟨h0,d',keep _ _ h1 (by omega)⟩
  ·rw[N'2]at hz;subst hz
   exact⟨a1,d+1,by rw[hself];congr 1⟩
 ·rw[Q'c]
  refine⟨h.srt.imp_of_mem fun {z z'} hz hz' hp u v hu hv=>?_,by simp,fun z hz z' hz' u v hu hv=>?_⟩
  ·rcases get _ u hu with⟨e,_⟩|⟨_,g1⟩
   ·exact(hqy z hz e).elim
   rcases get _ v hv with⟨e,_⟩|⟨_,g2⟩
   ·exact(hqy z' hz' e).elim
   exact hp u v g1 g2
  ·rw[N'2]at hz';subst hz'
   rcases get _ u hu with⟨e,_⟩|⟨_,g1⟩
   ·exact(hqy z hz e).elim
   rw[hself]at hv
   have:=Option.some.inj hv
   have:=h.top _ u g1
   omega
 ·have hku:u<=d+1:=by
   rcases get k u hu with⟨_,rfl⟩|⟨_,g1⟩
   ·omega
   ·exact h.top k u g1
  have hvd:(d:Int)<=v:=by
   rcases get _ v hv with⟨_,rfl⟩|⟨e,g1⟩
   ·omega
   ·rcases L'j.1 hz with hz|hz
    ·exact h.low z hz v g1
    ·rw[N'2]at hz;subst hz;exact(e rfl).elim
  omega
 ·rcases get _ u hu with⟨e,_⟩|⟨_,g1⟩
  ·refine(hq (L'j.2 (.inr ?_))).elim
   rw[N'2]
   have:=(ha a hma).2.2.1
   omega
  ·obtain⟨v,g2,g3,g4⟩:=h.cls a hma u g1 h1 (fun hz=>hq (L'j.2 (.inl hz))) hw
   exact⟨v,keep _ _ g2 g3,g3,g4⟩
 ·rcases L'j.1 hz with hz|hz
  ·rcases get _ v hv with⟨_,rfl⟩|⟨_,g1⟩
   ·omega
   ·exact h.low z hz v g1
  ·rw[N'2]at hz;subst hz
   rw[hself]at hv
   have:=Option.some.inj hv
   omega
 ·rcases get k u hu with⟨_,rfl⟩|⟨_,g1⟩
  ·omega
  ·exact h.top k u g1
 ·by_cases ej:j=m
  ·subst ej
   rw[L'v hm]at hja
   cases hja
   rw[hy]
   exact⟨d+1,hself,by omega,by omega⟩
  ·obtain⟨v,g1,g2,g3⟩:=hup j (by omega) a hja e
   exact⟨v,keep _ _ g1 g2,g2,g3⟩
theorem z1gc(h:Bfs ar n):∀k:Nat,k<n->(tw ar k).length<=k
 |0,_=>by simp[z1gh]
 |k+1,hk=>by
  obtain⟨i,hi,e1,e2,e3,e4,_⟩:=h.arc (q:=k+1) (by omega) hk
  rw[z1gf h (by omega) hk hi e1,L'x,M'2,M'7]
  have:=z1gc h ar[i].src.toNat (by omega)
  omega
termination_by k => k
decreasing_by all_goals omega
theorem isFar.begin_(h:Bfs ar n){p:Nat}(hp:p<n){F:List Int}(hF:isFar ar p n F):∃d:Nat,F[0]?=some (d:Int)/\d<n:=by
 have hd:=(Tp.path h hp (tw_tp h hp p [] hp .refl)).2
 rw[M'e]at hd
 rcases hF.val 0 (by omega)with⟨_,h1⟩|⟨d,h1,_,h3⟩
 ·exact(h1 _ hd).elim
 ·refine⟨d,h1,?_⟩
  have:=z1gc h p hp
  apply Decidable.byContradiction
  intro hn
  exact h3 _ (by omega) hd
theorem isFar.near{p:Nat}{F:List Int}(ha:z44 ar n)(hF:isFar ar p n F){t j:Nat}(ht:t<n)(htp:t≠p)(hFt:F[t]?=some (j:Int)):∃i,∃hi:i<ar.length,ar[i].src=t/\F[ar[i].dst.toNat]?=some ((j:Int)-1):=by
 rcases hF.val t ht with⟨h1,_⟩|⟨d,h1,h2,h3⟩
 ·rw[hFt]at h1;have:=Option.some.inj h1;omega
 ·have hdj:d=j:=by rw[hFt]at h1;have:=Option.some.inj h1;omega
  subst hdj
  cases d with
  |zero=>simp only[Dk]at h2;omega
  |succ d=>
   obtain⟨a,hm,e,hd⟩:=h2
   obtain⟨i,hi,rfl⟩:=P'p.1 hm
   obtain⟨a1,a2,a3,a4⟩:=ha _ hm
   refine⟨i,hi,e,?_⟩
   have:=hF.at_ (k:=ar[i].dst.toNat) (d:=d) (by omega) (by rw[P'n a3];exact hd) (fun e' he' hd'=>h3 (e'+1) (by omega) ⟨_,hm,e,by rw[P'n a3]at hd';exact hd'⟩)
   rw[this];congr 1;omega
theorem isFar.pos{p:Nat}{F:List Int}(hF:isFar ar p n F){t j:Nat}(ht:t<n)(htp:t≠p)(hFt:F[t]?=some (j:Int)):0<j:=by
 rcases hF.val t ht with⟨h1,_⟩|⟨d,h1,h2,_⟩
 ·rw[hFt]at h1;have:=Option.some.inj h1;omega
 ·rw[hFt]at h1
  have e:=Option.some.inj h1
  cases d with
  |zero=>simp only[Dk]at h2;omega
  |succ d=>omega
def bndF(n:Nat)(F:List Int):Prop:=∀(k:Nat)(u:Int),F[k]?=some u->u+cntU F+1<=n
theorem zb8(F:List Int):cntU F<=F.length:=Q's
theorem z74{p:Nat}(hp:p<n):bndF n ((L'0 n (-1)).set p 0):=by
 have h1:=zb9 (F:=L'0 n (-1)) (k:=p) (v:=0) (by rw[P's,if_pos hp]) (by omega)
 have h2:=zb8 (L'0 n (-1))
 rw[M'j]at h2
 intro k u hu
 have:u<=0:=by
  rw[L'k]at hu
  split at hu
  ·rename_i e
   subst e
   rw[M'j]at hu
   simp only[hp,if_true]at hu
   have:=Option.some.inj hu;omega
  ·rw[P's]at hu
   split at hu
   ·have:=Option.some.inj hu;omega
   ·cases hu
 omega
theorem z73{x y:Nat}{d:Nat}(h:bndF n F)(hx:F[x]?=some (d:Int))(hy:F[y]?=some (-1)):bndF n (F.set y (d+1)):=by
 have h1:=zb9 (F:=F) (k:=y) (v:=(d:Int)+1) hy (by omega)
 have h2:=h x _ hx
 intro k u hu
 rw[L'k]at hu
 split at hu
 ·rename_i e
  subst e
  have hyl:=(L'b.1 hy).1
  have hu':u=d+1:=by
   first
    |exact(Option.some.inj hu).symm
    |(simp only[hyl,if_true]at hu;exact(Option.some.inj hu).symm)
  omega
 ·have:=h k u hu;omega
theorem isFar.nonneg{p:Nat}{F:List Int}(hF:isFar ar p n F):∀(k:Nat)(u:Int),F[k]?=some u->-1<=u/\(u=-1\/0<=u):=by
 intro k u hu
 have hk:k<n:=by rw[<-hF.len];exact(L'b.1 hu).1
 rcases hF.val k hk with⟨h1,_⟩|⟨d,h1,_⟩<;>(rw[h1]at hu;have:=Option.some.inj hu;omega)
end
end Go.Proofs.YtbaclnecajkknaaGreat.Pi
namespace Go.Proofs.YtbaclnecajkknaaGreat.Pi
open Go
set_option linter.all false

structure Vd where
ok:Int
kind:Int
way:List Int
dead:Int
def overB(a b:List Int):Bool:=zby a b&&!decide (a=b)
def deadK(ar:List Arc3)(k:Nat):List Int:=((L'1 k).filter fun(t:Nat)=>!ar.any fun a=>decide (a.by_=(t:Int))).map fun(t:Nat)=>(t:Int)
theorem zc7(ar:List Arc3)(k:Nat):deadK ar (k+1)=deadK ar k++(if (ar.any fun a=>decide (a.by_=(k:Int)))=true then[]else[(k:Int)]):=by
 unfold deadK
 rw[P'v,P'x,M'r]
 congr 1
 rw[Q'h]
 cases ar.any fun a=>decide (a.by_=(k:Int))<;>simp
theorem zc6(ar:List Arc3)(k:Nat):(deadK ar k).length<=k:=by
 unfold deadK
 rw[Q'1]
 exact L'g (Q'7 ..) (by simp)
def endS(ms:List (List Int))(E:List Int):List Int:=if 0<=findM ms E then[findM ms E]else[]
noncomputable def chkV(nt:Nat)(ms:List (List Int))(ar:List Arc3)(E:List Int):Vd:=
if 0<=idxI (toL ar ms.length (endS ms E)) (fun x=>x==false)then⟨2,1,tw ar (idxI (toL ar ms.length (endS ms E)) (fun x=>x==false)).toNat,0⟩
else if 0<=idxI ms (fun m=>overB m E)then⟨2,2,tw ar (idxI ms (fun m=>overB m E)).toNat,0⟩
else if 0<(deadK ar nt).length then⟨2,3,[],(deadK ar nt).getD 0 0⟩
else⟨1,0,[],0⟩
noncomputable def sndV(f:Fl)(b:Int):Vd:=
 if (exAll f.net (oneM f.net.pl.toNat f.src) b).code=0 then
  if (chkV f.net.tr.length (exAll f.net (oneM f.net.pl.toNat f.src) b).sp.ms (exAll f.net (oneM f.net.pl.toNat f.src) b).sp.ar (oneM f.net.pl.toNat f.dst)).way.length<=60 then
   chkV f.net.tr.length (exAll f.net (oneM f.net.pl.toNat f.src) b).sp.ms (exAll f.net (oneM f.net.pl.toNat f.src) b).sp.ar (oneM f.net.pl.toNat f.dst)
  else⟨3,0,[],0⟩
 else⟨3,0,[],0⟩
theorem z9v(nt:Nat)(ms:List (List Int))(ar:List Arc3)(E:List Int):¬((chkV nt ms ar E).kind=1\/(chkV nt ms ar E).kind=2)->(chkV nt ms ar E).way=[]:=by
 unfold chkV
 split
 ·simp
 ·split
  ·simp
  ·split<;>simp
theorem z9u{nt:Nat}{ms:List (List Int)}{ar:List Arc3}{E:List Int}(hb:Bfs ar ms.length):(chkV nt ms ar E).way.length<=ms.length:=by
 unfold chkV
 have h1:=zl2 (toL ar ms.length (endS ms E)) (fun x=>x==false)
 have h2:=zl2 ms (fun m=>overB m E)
 rw[z1fo]at h1
 split
 ·have:=z1gc hb (idxI (toL ar ms.length (endS ms E)) (fun x=>x==false)).toNat (by omega)
  simp only;omega
 ·split
  ·have:=z1gc hb (idxI ms (fun m=>overB m E)).toNat (by omega)
   simp only;omega
  ·split<;>simp
theorem zxf{f:Fl}(h:zji f=true):zss f.net (oneM f.net.pl.toNat f.src)=true:=by
 obtain⟨g1,g2,_⟩:=zjm h
 simp only[zss,g1,P'e]
 exact zxa g1 g2
end Go.Proofs.YtbaclnecajkknaaGreat.Pi
namespace Go.Proofs.YtbaclnecajkknaaGreat.Pi
open Go
set_option linter.all false

@[go_sem] theorem z6d{bl:Bool}{k:IntKind}{x y:Int}:binV bl .andNot (.int k x) (.int k y)=some (.int k (bits .andNot k x y)):=by simp[binV,binI]
def wout(set l:List Int):List Int:=set.filter fun p=>!hasB l p
theorem z1hq{set l:List Int}:∀p∈wout set l,p∈set:=fun p hp=>(N'z.1 hp).1
theorem z1hm{set l:List Int}(h:incr set=true):incr (wout set l)=true:=by
 simp only[incr,decide_eq_true_eq]at h ⊢
 exact h.filter _
end Go.Proofs.YtbaclnecajkknaaGreat.Pi
namespace Go.Proofs.YtbaclnecajkknaaGreat.Pi
open Go
set_option linter.all false

structure Tk where
join:Int
split:Int
inn:List Int
out:List Int
cut:List Int
stop:List Int
role:Int
deriving DecidableEq
structure Spc where
conds:Int
tasks:List Tk
deriving DecidableEq
/-! ### Sizes -/
/-! ### Copies, in part done -/
/-! ### Equality, by steps -/
/-! ### Marks -/
/-! ### What a specification lays out -/
structure Mv where
task:Int
begin_:Bool
pick:Int
deriving DecidableEq
def regL(s:Spc)(t:Tk):List Int:=t.cut++t.stop.map (s.conds+·)
def setB(n:Nat):List Int:=((L'1 3).filter fun i=>n.testBit i).map Q'd
def someL(l:List Int)(n:Nat):List Int:=(setB n).map fun i=>at_ l i
def z5j(t:Tk):List (List Int):=if t.join=2 then t.inn.map fun p=>[p]else[t.inn]
def endL(t:Tk):List (List Int):=if t.split=2 then t.out.map fun p=>[p]else if t.split=3 then(L'1 (2^t.out.length-1)).map fun i=>someL t.out (i+1)else[t.out]
def endF(t:Tk):Int:=if t.split=2 then 0 else if t.split=3 then 1 else 0
def mvB(k n:Nat):List Mv:=(L'1 n).map fun(i:Nat)=>⟨(k:Int),true,(i:Int)⟩
def mvE(k:Nat)(f:Int)(n:Nat):List Mv:=(L'1 n).map fun(i:Nat)=>⟨(k:Int),false,f+(i:Int)⟩
def tkN(s:Spc)(k:Nat):Tk:=s.tasks.getD k ⟨0,0,[],[],[],[],0⟩
def mvK(s:Spc)(k:Nat):List Mv:=mvB k (z5j (tkN s k)).length++mvE k (endF (tkN s k)) (endL (tkN s k)).length
def mvU(s:Spc)(k:Nat):List Mv:=(L'1 k).flatMap (mvK s)
def mvS(s:Spc):List Mv:=mvU s s.tasks.length
def trM(s:Spc)(m:Mv):Tr:=let t:=tkN s m.task.toNat
if m.begin_ then(if t.join=2 then⟨[at_ t.inn m.pick],[s.conds+m.task],[]⟩else⟨t.inn,[s.conds+m.task],[]⟩)
else⟨[s.conds+m.task],(if t.split=2 then[at_ t.out m.pick]else if t.split=3 then someL t.out m.pick.toNat else t.out),regL s t⟩
/-! ### A specification's fields, zss -/
/-! ### Cases -/
structure Cs where
state:Int
mark:List Int
deriving DecidableEq
end Go.Proofs.YtbaclnecajkknaaGreat.Pi
namespace Go.Proofs.YtbaclnecajkknaaGreat.Pi
open Go
set_option linter.all false

def canM(s:Spc)(c:Cs)(m:Mv):Bool:=canT (trM s m) c.mark
def stepB(s:Spc)(c:Cs)(m:Mv):Bool:=c.state==1&&(mvS s).any (fun y=>y==m)&&canM s c m&&(zgw (trM s m) c.mark).all (inB 0 50)
end Go.Proofs.YtbaclnecajkknaaGreat.Pi
namespace Go.Proofs.YtbaclnecajkknaaGreat.Pi
open Go
set_option linter.all false

end Go.Proofs.YtbaclnecajkknaaGreat.Pi
namespace Go.Proofs.YtbaclnecajkknaaGreat.Pi
open Go
set_option linter.all false

theorem z1c9{f:Fl}{b:Int}(h:(sndV f b).ok=1):(exAll f.net (oneM f.net.pl.toNat f.src) b).code=0/\chkV f.net.tr.length (exAll f.net (oneM f.net.pl.toNat f.src) b).sp.ms (exAll f.net (oneM f.net.pl.toNat f.src) b).sp.ar (oneM f.net.pl.toNat f.dst)=⟨1,0,[],0⟩:=by
 unfold sndV at h
 split at h
 ·rename_i hc
  refine⟨hc,?_⟩
  split at h
  ·unfold chkV at h ⊢
   split at h
   ·simp at h
   ·rename_i h1
    rw[if_neg h1]
    split at h
    ·simp at h
    ·rename_i h2
     rw[if_neg h2]
     split at h
     ·simp at h
     ·rename_i h3
      rw[if_neg h3]
  ·simp at h
 ·simp at h
theorem z9w{nt:Nat}{ms:List (List Int)}{ar:List Arc3}{E:List Int}(h:(chkV nt ms ar E).ok=1):(∀k:Nat,k<ms.length->Rk ar (endS ms E) k)/\(∀m∈ms,overB m E=false)/\deadK ar nt=[]:=by
 unfold chkV at h
 split at h
 ·simp at h
 ·rename_i h1
  split at h
  ·simp at h
  ·rename_i h2
   split at h
   ·simp at h
   ·rename_i h3
    refine⟨fun k hk=>?_,fun m hm=>?_,?_⟩
    ·have h4:=zl0 (toL ar ms.length (endS ms E)) (fun x=>x==false)
     rw[decide_eq_false h1,M'y]at h4
     have h5:=h4 _ (P'l (by rw[z1fo];exact hk:k<(toL ar ms.length (endS ms E)).length))
     have h6:(toL ar ms.length (endS ms E))[k]'(by rw[z1fo];exact hk)=true:=by
      revert h5
      cases (toL ar ms.length (endS ms E))[k]'(by rw[z1fo];exact hk)<;>simp
     exact(z1fm hk).1 h6
    ·have h4:=zl0 ms (fun m=>overB m E)
     rw[decide_eq_false h2,M'y]at h4
     have:=h4 m hm
     simpa using this
    ·exact Q'w.1 (by omega)
end Go.Proofs.YtbaclnecajkknaaGreat.Pi
namespace Go.Proofs.YtbaclnecajkknaaGreat.Pi
open Go
set_option linter.all false

def cmpI(a b:Int):Int:=if a<b then -1 else if b<a then 1 else 0
def cmpL:List Int->List Int->Int
|[],[]=>0
|[],_::_=>-1
|_::_,[]=>1
|a::as,b::bs=>if a<b then -1 else if b<a then 1 else cmpL as bs
theorem zas:∀{a b:List Int},cmpL a b=0↔a=b
 |[],[]=>by simp[cmpL]
 |[],_::_=>by simp[cmpL]
 |_::_,[]=>by simp[cmpL]
 |a::as,b::bs=>by
  unfold cmpL
  split
  ·simp;omega
  ·split
   ·simp;omega
   ·rw[zas,List.cons.injEq]
    exact⟨fun h=>⟨by omega,h⟩,fun h=>h.2⟩
theorem zau:∀(a b:List Int),cmpL b a=- cmpL a b
 |[],[]=>by simp[cmpL]
 |[],_::_=>by simp[cmpL]
 |_::_,[]=>by simp[cmpL]
 |a::as,b::bs=>by
  unfold cmpL
  by_cases h1:a<b
  ·have h2:¬b<a:=by omega
   simp[h1,h2]
  ·by_cases h2:b<a
   ·simp[h1,h2]
   ·simp only[h1,h2,if_false]
    exact zau as bs
theorem zaw:∀{a b c:List Int},cmpL a b<0->cmpL b c<0->cmpL a c<0
 |[],[],_,h,_=>by simp[cmpL]at h
 |_::_,[],_,h,_=>by simp[cmpL]at h
 |[],_::_,[],_,h=>by simp[cmpL]at h
 |_::_,_::_,[],_,h=>by simp[cmpL]at h
 |[],_::_,_::_,_,_=>by simp[cmpL]
 |a::as,b::bs,c::cs,h1,h2=>by
  unfold cmpL at h1 h2 ⊢
  split at h1
  ·split at h2
   ·rw[if_pos (by omega)];omega
   ·split at h2
    ·omega
    ·rw[if_pos (by omega)];omega
  ·split at h1
   ·omega
   ·split at h2
    ·rw[if_pos (by omega)];omega
    ·split at h2
     ·omega
     ·rw[if_neg (by omega),if_neg (by omega)]
      exact zaw h1 h2
def leL(a b:List Int):Prop:=cmpL a b<=0
theorem zpu{a b:List Int}(h:¬cmpL a b<0):leL b a:=by
 unfold leL;rw[zau];omega
theorem zpv{a b c:List Int}(h1:leL a b)(h2:leL b c):leL a c:=by
 unfold leL at *
 by_cases e1:cmpL a b=0
 ·rw[zas.1 e1];exact h2
 ·by_cases e2:cmpL b c=0
  ·rw[<-zas.1 e2];exact h1
  ·have:=zaw (a:=a) (b:=b) (c:=c) (by omega) (by omega);omega
/-! ### Sorting by insertion -/
section
variable {α:Type}[Inhabited α](le:α->α->Prop)
end

/-! ### Strictly sorted lists -/
def ltL(a b:List Int):Prop:=cmpL a b<0
theorem zs4{a:List Int}:¬ltL a a:=by unfold ltL;rw[zas.2 rfl];omega
theorem z1ce:∀{A B:List (List Int)},A.Pairwise ltL->B.Pairwise ltL->(∀x,x∈A↔x∈B)->A=B
 |[],[],_,_,_=>rfl
 |[],b::B,_,_,h=>by have:=(h b).2 (by simp);simp at this
 |a::A,[],_,_,h=>by have:=(h a).1 (by simp);simp at this
 |a::A,b::B,hA,hB,h=>by
  rw[P'q]at hA hB
  have hab:a=b:=by
   have h1:=(h a).1 (by simp)
   have h2:=(h b).2 (by simp)
   rw[M'z]at h1 h2
   rcases h1 with h1|h1
   ·exact h1
   ·rcases h2 with h2|h2
    ·exact h2.symm
    ·exact absurd (zaw (hB.1 a h1) (hA.1 b h2)) zs4
  subst hab
  rw[z1ce hA.2 hB.2 fun x=>?_]
  have hx:=h x
  rw[M'z,M'z]at hx
  constructor
  ·intro hm
   rcases hx.1 (.inr hm)with rfl| h'
   ·exact absurd (hA.1 _ hm) zs4
   ·exact h'
  ·intro hm
   rcases hx.2 (.inr hm)with rfl| h'
   ·exact absurd (hB.1 _ hm) zs4
   ·exact h'
def inOrd:List (List Int)->List Int->List (List Int)
|[],m=>[m]
|x::xs,m=>if cmpL m x=0 then x::xs else if cmpL m x<0 then m::x::xs else x::inOrd xs m
theorem zmz:∀(l:List (List Int))(m x:List Int),x∈inOrd l m↔x=m\/x∈l
 |[],m,x=>by simp[inOrd]
 |y::ys,m,x=>by
  unfold inOrd
  split
  ·rename_i h
   have:=zas.1 h;subst this
   rw[M'z]
   constructor
   ·exact .inr
   ·rintro(h|h)
    ·exact .inl h
    ·exact h
  ·split
   ·rw[M'z]
   ·rw[M'z,zmz ys m x,M'z]
    constructor
    ·rintro(h|h|h)
     ·exact .inr (.inl h)
     ·exact .inl h
     ·exact .inr (.inr h)
    ·rintro(h|h|h)
     ·exact .inr (.inl h)
     ·exact .inl h
     ·exact .inr (.inr h)
theorem zn0:∀{l:List (List Int)}(m:List Int),l.Pairwise ltL->(inOrd l m).Pairwise ltL
 |[],m,_=>by simp[inOrd]
 |y::ys,m,h=>by
  have hh:=P'q.1 h
  unfold inOrd
  split
  ·exact h
  ·rename_i h0
   split
   ·rename_i h1
    rw[P'q]
    refine⟨fun x hx=>?_,h⟩
    rw[M'z]at hx
    rcases hx with rfl| hx
    ·exact h1
    ·exact zaw h1 (hh.1 x hx)
   ·rename_i h1
    rw[P'q]
    refine⟨fun x hx=>?_,zn0 m hh.2⟩
    rw[zmz]at hx
    rcases hx with rfl| hx
    ·unfold ltL;rw[zau];omega
    ·exact hh.1 x hx
theorem zmy:∀(l:List (List Int))(m:List Int),(inOrd l m).length<=l.length+1
 |[],m=>by simp[inOrd]
 |y::ys,m=>by
  have:=zmy ys m
  unfold inOrd
  split
  ·simp
  ·split
   ·simp
   ·simp;omega
theorem zmw{l:List (List Int)}{m:List Int}{j:Nat}(h1:∀x∈l.take j,0<cmpL m x)(h2:∀x,l[j]?=some x->cmpL m x<0):inOrd l m=l.take j++m::l.drop j:=by
 induction l generalizing j with
 |nil=>simp[inOrd]
 |cons y ys ih=>
  cases j with
  |zero=>
   have:=h2 y (by simp)
   simp only[List.take_zero,M'3,List.drop_zero,inOrd]
   rw[if_neg (by omega),if_pos this]
  |succ j=>
   have:=h1 y (by simp)
   simp only[P'w,Q'5,Q'o,inOrd]
   have hi:=ih (j:=j) (fun x hx=>h1 x (by rw[P'w];exact List.mem_cons_of_mem _ hx)) (fun x hx=>h2 x (by simpa using hx))
   rw[if_neg (by omega),if_neg (by omega),hi]
theorem zmx{l:List (List Int)}{m:List Int}(hs:l.Pairwise ltL)(h:m∈l):inOrd l m=l:=by
 induction l with
 |nil=>simp at h
 |cons y ys ih=>
  rw[P'q]at hs
  unfold inOrd
  by_cases e:cmpL m y=0
  ·rw[if_pos e]
  ·rw[if_neg e]
   rw[M'z]at h
   have hm:m∈ys:=h.resolve_left fun e'=>e (zas.2 e')
   have:=hs.1 m hm
   unfold ltL at this
   have h3:=zau y m
   rw[if_neg (by omega),ih hs.2 hm]
/-! ### Least marks -/
theorem zaq:∀{k:Nat} {a b:List Int},a.take k=b.take k->k<=a.length->k<=b.length->cmpL a b=cmpL (a.drop k) (b.drop k)
 |0,a,b,_,_,_=>rfl
 |k+1,[],b,_,h,_=>by simp at h
 |k+1,x::a,[],_,_,h=>by simp at h
 |k+1,x::a,y::b,h,h1,h2=>by
  simp only[P'w,List.cons.injEq]at h
  obtain⟨rfl,h⟩:=h
  rw[Q'5,Q'5,<-zaq h (by simpa using h1) (by simpa using h2)]
  show(if x<x then _ else if x<x then _ else cmpL a b)=_
  rw[if_neg (by omega),if_neg (by omega)]
theorem zap{k:Nat}{a b:List Int}(h:a.take k=b.take k)(h1:k<a.length)(h2:k<b.length)(hn:cmpI a[k] b[k]≠0):cmpL a b=cmpI a[k] b[k]:=by
 rw[zaq h (by omega) (by omega),N'l h1,N'l h2]
 unfold cmpI at hn ⊢
 unfold cmpL
 by_cases h3:a[k]<b[k]
 ·simp[h3]
 ·by_cases h4:b[k]<a[k]
  ·simp[h3,h4]
  ·simp[h3,h4]at hn
theorem zao{a b:Int}(h:cmpI a b=0):a=b:=by
 unfold cmpI at h
 split at h
 ·cases h
 ·split at h
  ·cases h
  ·omega
theorem zat{k:Nat}{a b:List Int}(h:a.take k=b.take k)(h1:k<a.length)(h2:k=b.length):cmpL a b=1:=by
 have e:b.drop k=[]:=Q'i (by omega)
 rw[zaq h (by omega) (by omega),N'l h1,e];rfl
theorem zar{a b:List Int}(h:a.take a.length=b.take a.length)(h2:a.length<=b.length):cmpL a b=if a.length<b.length then -1 else 0:=by
 rw[zaq h (by omega) h2,Q'i (L'l _)]
 split
 ·rename_i h3
  rw[N'l h3];rfl
 ·rw[Q'i (by omega)];rfl
/-! ### What stands next to its like, element by element -/
end Go.Proofs.YtbaclnecajkknaaGreat.Pi
namespace Go.Proofs.YtbaclnecajkknaaGreat.Pi
open Go
set_option linter.all false

end Go.Proofs.YtbaclnecajkknaaGreat.Pi
namespace Go.Proofs.YtbaclnecajkknaaGreat.Pi
open Go
set_option linter.all false

section
variable {α β:Type}[Inhabited α](e:α->β)
abbrev rwA(d:Array α):List β:=d.toList.map e
theorem z18l(d:Array α){i:Nat}(h:i<d.size):(rwA e d)[i]?=some (e d[i]!):=by
 simp[h]
theorem z18k(d:Array α){i:Nat}(h:i<d.size):d.toList[i]?=some d[i]!:=by
 simp[h]
theorem z18o(d:Array α)(i j:Nat):(Sort.swp d i j).toList.map e=((d.toList.map e).set i (e d[j]!)).set j (e d[i]!):=by
 simp[Sort.swp,List.map_set]
end
abbrev ltC{α:Type}(cm:α->α->Int)(x y:α):Bool:=decide (cm x y<0)
theorem z1ew{α:Type}{cm:α->α->Int}{g:α->List Int}(h:∀x y,cm x y=cmpL (g x) (g y)):Sort.SWO (ltC cm):=by
 refine⟨fun x=>?_,fun x y z=>?_,fun x y z=>?_⟩
 ·simp only[ltC,h,decide_eq_false_iff_not]
  rw[zas.2 rfl];omega
 ·simp only[ltC,h,decide_eq_true_eq]
  exact zaw
 ·simp only[ltC,h,decide_eq_false_iff_not]
  intro h1 h2 h3
  have h4:=zau (g x) (g y)
  have h5:=zau (g y) (g z)
  have h6:leL (g y) (g x):=zpu h1
  have h7:leL (g z) (g y):=zpu h2
  have h8:=zpv h7 h6
  unfold leL at h8
  have:=zau (g x) (g z)
  omega
theorem z11k{α:Type}[Inhabited α]{a b:Nat}{d d':Array α}(h:Sort.PermIn a b d d'):d'.size=d.size:=h.1
theorem znm{α:Type}[Inhabited α](lt:α->α->Bool){a b i:Nat}(d:Array α)(h:i<b):Sort.insOuter lt a b i d=Sort.insOuter lt a b (i+1) (Sort.insInner lt a i d):=by rw[Sort.insOuter,if_pos h]
theorem znl{α:Type}[Inhabited α](lt:α->α->Bool){a b i:Nat}(d:Array α)(h:¬i<b):Sort.insOuter lt a b i d=d:=by rw[Sort.insOuter,if_neg h]
theorem znh{α:Type}[Inhabited α](lt:α->α->Bool){a j:Nat}(d:Array α)(h:a<j)(hl:lt d[j]! d[j-1]! = true):Sort.insInner lt a j d=Sort.insInner lt a (j-1) (Sort.swp d j (j-1)):=by
 obtain⟨k,rfl⟩ : ∃k,j=k+1:=⟨j-1,by omega⟩
 rw[Sort.insInner]
 simp only[N'5]at hl ⊢
 rw[hl]
 simp
 intro h2;omega
theorem zng{α:Type}[Inhabited α](lt:α->α->Bool){a j:Nat}(d:Array α)(h:j<=a\/lt d[j]! d[j-1]! = false):Sort.insInner lt a j d=d:=by
 cases j with
 |zero=>rfl
 |succ k=>
  rw[Sort.insInner]
  simp only[N'5]at h
  rcases h with h|h
  ·rw[if_neg];simp;omega
  ·rw[h];simp
theorem z18n{α β:Type}[Inhabited α](e:α->β)(d:Array α){i j:Nat}(y:α)(hi:i<d.size)(hj:j<d.size):((d.toList.map e).set i (e y))[j]?=some (e (if i=j then y else d[j]!)):=by
 rw[L'k]
 by_cases h:i=j
 ·rw[if_pos h,if_pos h];simp[hi]
 ·rw[if_neg h,if_neg h]
  exact z18l e d hj
theorem z1ah{α:Type}[Inhabited α](lt:α->α->Bool){hi f r:Nat}(d:Array α)(h:hi<=2*r+1):Sort.siftDown lt hi f r d=d:=by
 rw[Sort.siftDown,dif_pos h]
theorem z1ak{α:Type}[Inhabited α](lt:α->α->Bool){hi f r c:Nat}(d:Array α)(h:2*r+1<hi)(hc:(c=2*r+2/\2*r+2<hi/\lt d[f+(2*r+1)]! d[f+(2*r+2)]! = true)\/(c=2*r+1/\¬(2*r+2<hi/\lt d[f+(2*r+1)]! d[f+(2*r+2)]! = true)))(hs:lt d[f+r]! d[f+c]! = false):Sort.siftDown lt hi f r d=d:=by
 rw[Sort.siftDown,dif_neg (by omega)]
 rcases hc with⟨rfl,h1,h2⟩|⟨rfl,h1⟩
 ·rw[if_pos (by simp only[L'c,decide_eq_true_eq];exact⟨h1,h2⟩),if_pos (by simp[hs])]
 ·rw[if_neg (by simp only[L'c,decide_eq_true_eq];exact h1),if_pos (by simp[hs])]
theorem z1ai{α:Type}[Inhabited α](lt:α->α->Bool){hi f r c:Nat}(d:Array α)(h:2*r+1<hi)(hc:(c=2*r+2/\2*r+2<hi/\lt d[f+(2*r+1)]! d[f+(2*r+2)]! = true)\/(c=2*r+1/\¬(2*r+2<hi/\lt d[f+(2*r+1)]! d[f+(2*r+2)]! = true)))(hs:lt d[f+r]! d[f+c]! = true):Sort.siftDown lt hi f r d=Sort.siftDown lt hi f c (Sort.swp d (f+r) (f+c)):=by
 rw[Sort.siftDown,dif_neg (by omega)]
 rcases hc with⟨rfl,h1,h2⟩|⟨rfl,h1⟩
 ·rw[if_pos (by simp only[L'c,decide_eq_true_eq];exact⟨h1,h2⟩),if_neg (by simp[hs]),dif_pos h1]
 ·rw[if_neg (by simp only[L'c,decide_eq_true_eq];exact h1),if_neg (by simp[hs])]
theorem z1aj{α:Type}[Inhabited α](lt:α->α->Bool)(hi f:Nat) : ∀(n r:Nat)(d:Array α),hi-r<=n->(Sort.siftDown lt hi f r d).size=d.size
 |0,r,d,hn=>by rw[z1ah lt d (by omega)]
 |n + 1,r,d,hn=>by
  by_cases h:hi<=2*r+1
  ·rw[z1ah lt d h]
  ·obtain⟨c,hc⟩ : ∃c,(c=2*r+2/\2*r+2<hi/\lt d[f+(2*r+1)]! d[f+(2*r+2)]! = true)\/(c=2*r+1/\¬(2*r+2<hi/\lt d[f+(2*r+1)]! d[f+(2*r+2)]! = true)):=by
    by_cases hh:2*r+2<hi/\lt d[f+(2*r+1)]! d[f+(2*r+2)]! = true
    ·exact⟨_,.inl ⟨rfl,hh⟩⟩
    ·exact⟨_,.inr ⟨rfl,hh⟩⟩
   cases hs:lt d[f+r]! d[f+c]! with
   |false=>rw[z1ak lt d (by omega) hc hs]
   |true=>
    rw[z1ai lt d (by omega) hc hs,z1aj lt hi f n c _ (by rcases hc with⟨rfl,_⟩|⟨rfl,_⟩<;>omega),Sort.size_swp]
@[go_sem] theorem z6s{bl:Bool}{k:IntKind}{x y:Int}:binV bl .xor (.int k x) (.int k y)=some (.int k (bits .xor k x y)):=by simp[binV,binI]
theorem z1hz{x y:Int}(hx:0<=x/\x<18446744073709551616)(hy:0<=y/\y<18446744073709551616):0<=bits .xor .u64 x y/\bits .xor .u64 x y<18446744073709551616:=by
 have h:=bits_xor_u64_nat x.toNat y.toNat (by omega) (by omega)
 rw[show((x.toNat:Nat):Int)=x by omega,show((y.toNat:Nat):Int)=y by omega]at h
 have h2:x.toNat^^^y.toNat<2^64:=Nat.xor_lt_two_pow (by omega) (by omega)
 have h3:bits .xor .u64 x y=((x.toNat^^^y.toNat:Nat):Int):=h
 omega
theorem z37{x y:Int}(hx:0<=x/\x<18446744073709551616)(hy:0<=y/\y<18446744073709551616):0<=bits .and .u64 x y/\bits .and .u64 x y<=y:=by
 have h:=bits_and_u64_nat x.toNat y.toNat (by omega) (by omega)
 rw[show((x.toNat:Nat):Int)=x by omega,show((y.toNat:Nat):Int)=y by omega]at h
 have h2:x.toNat&&&y.toNat<=y.toNat:=Nat.and_le_right
 have h3:bits .and .u64 x y=((x.toNat&&&y.toNat:Nat):Int):=h
 omega
theorem z1aa{x:Int}(k:Nat)(hx:0<=x/\x<18446744073709551616):0<=x/2^k/\x/2^k<18446744073709551616:=by
 have h1:(0:Int)<2^k:=Int.pow_pos (by decide)
 exact⟨Int.ediv_nonneg hx.1 (by omega),Int.lt_of_le_of_lt (Int.ediv_le_self _ hx.1) hx.2⟩
theorem z6v{n:Nat}(h:256<=n):Sort.bitsLen n=8+Sort.bitsLen (n/256):=by
 have h1:=Sort.bitsLen_le_iff n (8+Sort.bitsLen (n/256))
 have h2:=Sort.lt_two_pow_bitsLen (n/256)
 have h3:n<2^(8+Sort.bitsLen (n/256)):=by
  rw[Q'j]
  have:n<256*2^Sort.bitsLen (n/256):=by
   have:=Nat.div_add_mod n 256
   have:=Nat.mod_lt n (show 256>0 by decide)
   have:256*(n/256+1)<=256*2^Sort.bitsLen (n/256):=Q'x _ h2
   omega
  exact this
 have h4:=h1.2 h3
 have h5:1<=n/256:=by omega
 have h6:=Sort.two_pow_bitsLen_le (n:=n/256) h5
 have h7:8+Sort.bitsLen (n/256)<=Sort.bitsLen n:=by
  have h8:=Sort.lt_two_pow_bitsLen n
  apply Decidable.byContradiction
  intro hn
  have h9:Sort.bitsLen n+1<=8+Sort.bitsLen (n/256):=by omega
  have h10:2^(Sort.bitsLen n+1)<=2^(8+Sort.bitsLen (n/256)):=Nat.pow_le_pow_right (by decide) h9
  rw[Q'j,Q'j]at h10
  have h11:256*2^Sort.bitsLen (n/256)<=256*(2*(n/256)):=Q'x _ h6
  have:=Nat.div_mul_le_self n 256
  have h12:(2:Nat)^8=256:=rfl
  rw[h12]at h10
  omega
 omega
section
variable {α:Type}[Inhabited α](lt:α->α->Bool)
theorem z190(d:Array α){b i:Nat}(h:i<b)(hl:lt d[i]! d[i-1]! = false):Sort.scanSorted lt d b i=Sort.scanSorted lt d b (i+1):=by
 rw[Sort.scanSorted,if_pos (by simp[h,hl])]
theorem z18z(d:Array α){b i:Nat}(h:b<=i\/lt d[i]! d[i-1]! = true):Sort.scanSorted lt d b i=i:=by
 rw[Sort.scanSorted]
 rcases h with h|h
 ·rw[if_neg (by simp;omega)]
 ·rw[if_neg (by simp[h])]
theorem z19x(d:Array α){j:Nat}(h:0<j)(hl:lt d[j]! d[j-1]! = true):Sort.shiftDown lt j d=Sort.shiftDown lt (j-1) (Sort.swp d j (j-1)):=by
 obtain⟨k,rfl⟩ : ∃k,j=k+1:=⟨j-1,by omega⟩
 simp only[N'5]at hl ⊢
 rw[Sort.shiftDown,hl];simp
theorem z19w(d:Array α){j:Nat}(h:j=0\/lt d[j]! d[j-1]! = false):Sort.shiftDown lt j d=d:=by
 cases j with
 |zero=>rfl
 |succ k=>
  rcases h with h|h
  ·omega
  ·simp only[N'5]at h
   rw[Sort.shiftDown,h];simp
theorem z1ae(d:Array α){b j:Nat}(h:j<b)(hl:lt d[j]! d[j-1]! = true):Sort.shiftUp lt b j d=Sort.shiftUp lt b (j+1) (Sort.swp d j (j-1)):=by
 rw[Sort.shiftUp,if_pos h,hl];simp
theorem z1ad(d:Array α){b j:Nat}(h:b<=j\/lt d[j]! d[j-1]! = false):Sort.shiftUp lt b j d=d:=by
 rw[Sort.shiftUp]
 rcases h with h|h
 ·rw[if_neg (by omega)]
 ·split
  ·rw[h];simp
  ·rfl
end
section
variable {α:Type}[Inhabited α]
theorem up_go(p:α->Bool)(d:Array α){i j:Nat}(h:i<=j)(hp:p d[i]! = true):Sort.scanUp p d j i=Sort.scanUp p d j (i+1):=by
 rw[Sort.scanUp,if_pos (by simp only[L'c,decide_eq_true_eq];exact⟨h,hp⟩)]
theorem z1gr(p:α->Bool)(d:Array α){i j:Nat}(h:j<i\/p d[i]! = false):Sort.scanUp p d j i=i:=by
 rw[Sort.scanUp,if_neg]
 simp only[L'c,decide_eq_true_eq]
 rintro⟨h1,h2⟩
 rcases h with h|h
 ·omega
 ·rw[h]at h2;cases h2
theorem zcw(p:α->Bool)(d:Array α){i j:Nat}(h:i<=j)(h0:0<j)(hp:p d[j]! = true):Sort.scanDown p d i j=Sort.scanDown p d i (j-1):=by
 obtain⟨k,rfl⟩ : ∃k,j=k+1:=⟨j-1,by omega⟩
 rw[Sort.scanDown,if_pos (by simp only[L'c,decide_eq_true_eq];exact⟨h,hp⟩)];rfl
theorem zcv(p:α->Bool)(d:Array α){i j:Nat}(h:j<i\/p d[j]! = false):Sort.scanDown p d i j=j:=by
 cases j with
 |zero=>rfl
 |succ k=>
  rw[Sort.scanDown,if_neg]
  simp only[L'c,decide_eq_true_eq]
  rintro⟨h1,h2⟩
  rcases h with h|h
  ·omega
  ·rw[h]at h2;cases h2
end
theorem z11l{α:Type}[Inhabited α]{d E:Array α}(h:Sort.PermIn 0 d.size d E):E.toList.Perm d.toList:=by
 have h1:=h.2.2
 have h2:=h.1
 simpa [h2,Array.extract_eq_self_of_le]using h1
theorem z112{α:Type}[Inhabited α]{lt:α->α->Bool}{E:Array α}(h:Sort.SortedIn lt 0 E.size E):E.toList.Pairwise fun x y=>lt y x=false:=by
 rw[P'u]
 intro i j hi hj hij
 have:=h i j (by omega) hij (by simpa using hj)
 simp only[Array.length_toList]at hi hj
 rw[getElem!_pos E i hi,getElem!_pos E j hj]at this
 simpa using this
end Go.Proofs.YtbaclnecajkknaaGreat.Pi
namespace Go.Proofs.YtbaclnecajkknaaGreat.Pi
open Go
set_option linter.all false

def dirA(back:Bool)(ar:List Arc3):List Arc3:=if back then ar else ar.map fun a=>⟨a.dst,a.by_,a.src⟩
theorem zcr(b:Bool)(ar:List Arc3):(dirA b ar).length=ar.length:=by unfold dirA;split<;>simp
theorem zcp{b:Bool}{ar:List Arc3}{k:Nat}(h:k<ar.length):(dirA b ar)[k]'(by rw[zcr];exact h)=if b then ar[k]else⟨ar[k].dst,ar[k].by_,ar[k].src⟩:=by
 unfold dirA
 cases b<;>simp
theorem zcq{b:Bool}{ar:List Arc3}{n:Nat}(h:z44 ar n):z44 (dirA b ar) n:=by
 intro a ha
 unfold dirA at ha
 cases b with
 |true=>exact h a ha
 |false=>
  simp only[M'w,if_false,M's]at ha
  obtain⟨a',ha',rfl⟩:=ha
  obtain⟨h1,h2,h3,h4⟩:=h a' ha'
  exact⟨h3,h4,h1,h2⟩
theorem znq{ar:List Arc3}{p:Int}{n:Nat}{F G:List Int}(hF:isFar ar p n F)(hG:isFar ar p n G):F=G:=by
 apply L'u
 intro k
 by_cases hk:k<n
 ·rcases hF.val k hk with⟨h1,h2⟩|⟨d,h1,h2,h3⟩
  ·rcases hG.val k hk with⟨g1,_⟩|⟨e,g1,g2,_⟩
   ·rw[h1,g1]
   ·exact absurd g2 (h2 e)
  ·rcases hG.val k hk with⟨_,g2⟩|⟨e,g1,g2,g3⟩
   ·exact absurd h2 (g2 d)
   ·have:d=e:=by
     rcases Q'9 d e with h|h|h
     ·exact absurd h2 (g3 d h)
     ·exact h
     ·exact absurd g2 (h3 e h)
    rw[h1,g1,this]
 ·rw[L'r (by rw[hF.len];omega),L'r (by rw[hG.len];omega)]
/-! ### Level by level -/
structure Lvl(ar:List Arc3)(p:Int)(n d:Nat)(F:List Int):Prop where
len:F.length=n
val:∀k:Nat,k<n->(F[k]?=some (-1)/\∀e,e<=d->¬Dk ar p e k)\/∃e:Nat,e<=d/\F[k]?=some (e:Int)/\Dk ar p e k/\∀e',e'<e->¬Dk ar p e' k
structure Lvm(ar:List Arc3)(p:Int)(n d j:Nat)(f:Bool)(F:List Int):Prop where
len:F.length=n
val:∀k:Nat,k<n->(F[k]?=some (-1)/\(∀e,e<=d->¬Dk ar p e k)/\∀i,(hi:i<j)->∀a,ar[i]?=some a->a.src=k->F[a.dst.toNat]?≠some (d:Int))\/(∃e:Nat,e<=d/\F[k]?=some (e:Int)/\Dk ar p e k/\∀e',e'<e->¬Dk ar p e' k)\/(f=true/\F[k]?=some ((d+1:Nat):Int)/\Dk ar p (d+1) k/\∀e',e'<d+1->¬Dk ar p e' k)
section
variable {ar:List Arc3}{p:Int}{n d:Nat}{F:List Int}
theorem Lvl.start(hp:0<=p/\p<n):Lvl ar p n 0 ((L'0 n (-1)).set p.toNat 0):=by
 refine⟨by simp,fun k hk=>?_⟩
 by_cases e:k=p.toNat
 ·subst e
  refine .inr ⟨0,L'l _,?_,by simp only[Dk];omega,fun e' h=>by omega⟩
  rw[P'r (by simpa using hk)];rfl
 ·refine .inl ⟨?_,fun e' he hd=>?_⟩
  ·rw[L'n (fun h=>e h.symm),P's,if_pos hk]
  ·obtain rfl:e'=0:=by omega
   simp only[Dk]at hd
   omega
theorem Lvl.mid(h:Lvl ar p n d F):Lvm ar p n d 0 false F:=⟨h.len,fun k hk=>by
rcases h.val k hk with⟨h1,h2⟩|h1
·exact .inl ⟨h1,h2,fun i hi=>by omega⟩
·exact .inr (.inl h1)⟩
theorem Lvm.up{j:Nat}{f:Bool}(h:Lvm ar p n d j f F):Lvm ar p n d j true F:=⟨h.len,fun k hk=>by
rcases h.val k hk with h1|h1|h1
·exact .inl h1
·exact .inr (.inl h1)
·exact .inr (.inr ⟨rfl,h1.2⟩)⟩
theorem Lvm.two{j:Nat}{f:Bool}(h:Lvm ar p n d j f F){k:Nat}(hk:k<n){v:Int}(hv:F[k]?=some v):v=-1\/0<=v:=by
 rcases h.val k hk with⟨h1,_⟩|⟨e,_,h1,_⟩|⟨_,h1,_⟩
 ·rw[h1]at hv;exact .inl (Option.some.inj hv).symm
 ·rw[h1]at hv;have:=Option.some.inj hv;exact .inr (by omega)
 ·rw[h1]at hv;have:=Option.some.inj hv;exact .inr (by omega)
theorem Lvm.old{j:Nat}{f:Bool}(h:Lvm ar p n d j f F)(hj:j<ar.length)(hin:z44 ar n)(hc:¬(F[ar[j].dst.toNat]?=some (d:Int)/\F[ar[j].src.toNat]?=some (-1))):Lvm ar p n d (j+1) f F:=⟨h.len,fun k hk=>by
 rcases h.val k hk with⟨h1,h2,h3⟩|h1|h1
 ·refine .inl ⟨h1,h2,fun i hi a ha hs=>?_⟩
  by_cases e:i=j
  ·subst e
   rw[L'v hj]at ha
   cases ha
   intro hd
   refine hc ⟨hd,?_⟩
   rw[hs,P'm];exact h1
  ·exact h3 i (by omega) a ha hs
 ·exact .inr (.inl h1)
 ·exact .inr (.inr h1)⟩
theorem Lvm.dk{j:Nat}{f:Bool}(h:Lvm ar p n d j f F){k:Nat}(hk:k<n)(he:F[k]?=some (d:Int)):Dk ar p d k:=by
 rcases h.val k hk with⟨h1,_⟩|⟨e,_,h2,h3,_⟩|⟨_,h2,_⟩
 ·rw[h1]at he;have:=Option.some.inj he;omega
 ·rw[h2]at he
  have:e=d:=by have:=Option.some.inj he;omega
  rwa [<-this]
 ·rw[h2]at he;have:=Option.some.inj he;omega
theorem Lvm.new{j:Nat}{f:Bool}(h:Lvm ar p n d j f F)(hj:j<ar.length)(hin:z44 ar n)(h1:F[ar[j].dst.toNat]?=some (d:Int))(h2:F[ar[j].src.toNat]?=some (-1)):Lvm ar p n d (j+1) true (F.set ar[j].src.toNat ((d+1:Nat):Int)):=by
 obtain⟨a1,a2,a3,a4⟩:=hin _ (P'l hj)
 have hx:ar[j].src.toNat<F.length:=by rw[h.len];omega
 have hdk:Dk ar p (d+1) (ar[j].src.toNat:Nat):=⟨ar[j],P'l hj,(P'n a1).symm,by
  have:=h.dk (k:=ar[j].dst.toNat) (by omega) h1
  rwa [P'n a3]at this⟩
 refine⟨by simpa using h.len,fun k hk=>?_⟩
 by_cases e:k=ar[j].src.toNat
 ·subst e
  refine .inr (.inr ⟨rfl,by rw[P'r hx],hdk,?_⟩)
  rcases h.val _ hk with⟨_,g2,_⟩|⟨e,_,g2,_⟩|⟨_,g2,_⟩
  ·exact fun e' he=>g2 e' (by omega)
  ·rw[g2]at h2;have:=Option.some.inj h2;omega
  ·rw[g2]at h2;have:=Option.some.inj h2;omega
 ·have hs:(F.set ar[j].src.toNat ((d+1:Nat):Int))[k]?=F[k]?:=L'n (fun h=>e h.symm)
  rw[hs]
  rcases h.val k hk with⟨g1,g2,g3⟩|g1|g1
  ·refine .inl ⟨g1,g2,fun i hi a ha hsr=>?_⟩
   by_cases ei:i=j
   ·subst ei
    rw[L'v hj]at ha
    cases ha
    exact absurd (by omega) e
   ·by_cases hh:ar[j].src.toNat=a.dst.toNat
    ·rw[<-hh,P'r hx]
     intro hc;have:=Option.some.inj hc;omega
    ·rw[L'n hh]
     exact g3 i (by omega) a ha hsr
  ·exact .inr (.inl g1)
  ·exact .inr (.inr ⟨rfl,g1.2⟩)
theorem Lvm.end_{f:Bool}(h:Lvm ar p n d ar.length f F)(hin:z44 ar n):Lvl ar p n (d+1) F:=⟨h.len,fun k hk=>by
 rcases h.val k hk with⟨h1,h2,h3⟩|⟨e,he,h1⟩|⟨_,h1⟩
 ·refine .inl ⟨h1,fun e he hd=>?_⟩
  by_cases e1:e<=d
  ·exact h2 e e1 hd
  ·obtain rfl:e=d+1:=by omega
   obtain⟨a,ha,hs,hd2⟩:=hd
   obtain⟨i,hi,rfl⟩:=P'p.1 ha
   obtain⟨a1,a2,a3,a4⟩:=hin _ ha
   have hd3:Dk ar p d (ar[i].dst.toNat:Nat):=by rw[P'n a3];exact hd2
   rcases h.val ar[i].dst.toNat (by omega)with⟨_,g2,_⟩|⟨e,g0,g1,g2,g3⟩|⟨_,_,_,g3⟩
   ·exact g2 d (L'l _) hd3
   ·by_cases ed:e=d
    ·subst ed
     exact h3 i hi _ (L'v hi) hs g1
    ·rw[P'n a3]at g2
     exact h2 (e+1) (by omega) ⟨ar[i],ha,hs,g2⟩
   ·exact g3 d (by omega) hd3
 ·exact .inr ⟨e,by omega,h1⟩
 ·exact .inr ⟨d+1,L'l _,h1⟩⟩
theorem Lvm.done(h:Lvm ar p n d ar.length false F)(hin:z44 ar n)(hp:0<=p/\p<n):isFar ar p n F:=by
 have hl:=h.end_ hin
 have key:∀(e k:Nat),k<n->Dk ar p e k->∃e':Nat,e'<=d/\F[k]?=some (e':Int)/\Dk ar p e' k:=by
  intro e
  induction e with
  |zero=>
   intro k hk hd
   rcases h.val k hk with⟨_,g2,_⟩|⟨e,g0,g1,g2,_⟩|⟨g,_⟩
   ·exact absurd hd (g2 0 (by omega))
   ·exact⟨e,g0,g1,g2⟩
   ·cases g
  |succ e ih=>
   rintro k hk ⟨a,ha,hs,hd⟩
   obtain⟨a1,a2,a3,a4⟩:=hin a ha
   obtain⟨e',e1,_,e3⟩:=ih a.dst.toNat (by omega) (by rw[P'n a3];exact hd)
   rw[P'n a3]at e3
   have hd2:Dk ar p (e'+1) k:=⟨a,ha,hs,e3⟩
   rcases h.val k hk with⟨g1,_,_⟩|⟨e,g0,g1,g2,_⟩|⟨g,_⟩
   ·rcases hl.val k hk with⟨_,q2⟩|⟨q,_,q1,_⟩
    ·exact absurd hd2 (q2 _ (by omega))
    ·rw[g1]at q1;have:=Option.some.inj q1;omega
   ·exact⟨e,g0,g1,g2⟩
   ·cases g
 refine⟨h.len,fun k hk=>?_⟩
 rcases h.val k hk with⟨h1,h2,_⟩|⟨e,_,h1,h2,h3⟩|⟨g,_⟩
 ·refine .inl ⟨h1,fun e hd=>?_⟩
  obtain⟨e',_,g1,_⟩:=key e k hk hd
  rw[h1]at g1;have:=Option.some.inj g1;omega
 ·exact .inr ⟨e,h1,h2,h3⟩
 ·cases g
end
/-! ### Certificates -/
structure Crt where
mks:List (List Int)
stp:List Int
rnk:List Int
def sortT(ms:List (List Int)):List (List Int):=ms.foldl inOrd []
theorem z1ca:∀(k:List (List Int)) {out:List (List Int)},out.Pairwise ltL->(k.foldl inOrd out).Pairwise ltL/\(∀x,x∈k.foldl inOrd out↔x∈out\/x∈k)/\(k.foldl inOrd out).length<=out.length+k.length
 |[],out,h=>⟨h,by simp,by simp⟩
 |m::k,out,h=>by
  obtain⟨f1,f2,f3⟩:=z1ca k (out:=inOrd out m) (zn0 m h)
  rw[P'o]
  refine⟨f1,fun x=>?_,by have:=zmy out m;simp;omega⟩
  rw[f2,zmz,M'z]
  constructor
  ·rintro((rfl| h)|h)
   ·exact .inr (.inl rfl)
   ·exact .inl h
   ·exact .inr (.inr h)
  ·rintro(h|rfl| h)
   ·exact .inl (.inr h)
   ·exact .inl (.inl rfl)
   ·exact .inr h
theorem z1cb(ms:List (List Int)):(sortT ms).Pairwise ltL/\(∀x,x∈sortT ms↔x∈ms)/\(sortT ms).length<=ms.length:=by
 obtain⟨f1,f2,f3⟩:=z1ca ms (out:=[]) .nil
 exact⟨f1,fun x=>by rw[sortT,f2];simp,by simpa [sortT]using f3⟩
theorem z1cd{ms:List (List Int)}{k:Nat}(h:k<ms.length):sortT (ms.take (k+1))=inOrd (sortT (ms.take k)) ms[k]:=by
 unfold sortT
 rw[P'z h,Q'6];rfl
theorem zgn{ms:List (List Int)}(hn:ms.Nodup){i:Nat}(hi:i<ms.length):findM ms ms[i]=i:=by
 have h0:0<=findM ms ms[i]:=zgm.2 (P'l hi)
 obtain⟨h1,h2⟩:=zgl h0
 rw[L'v h1]at h2
 have h3:=Option.some.inj h2
 have h4:(findM ms ms[i]).toNat=i:=by
  have:=P'u.1 hn
  rcases Q'9 (findM ms ms[i]).toNat i with h|h|h
  ·exact absurd h3 (this _ _ h1 hi h)
  ·exact h
  ·exact absurd h3.symm (this _ _ hi h1 h)
 omega
def vals(ms:List (List Int))(S:List Int):List Int:=(sortT ms).map fun m=>S.getD (findM ms m).toNat 0
def certP(ms:List (List Int))(S R:List Int):Crt:=⟨sortT ms,vals ms S,vals ms R⟩
theorem z8z{ms:List (List Int)}{O:List Nat}(hn:ms.Nodup)(hp:O.Perm (L'1 ms.length))(hs:(O.map fun i=>ms.getD i []).Pairwise leL):(O.map fun i=>ms.getD i [])=sortT ms/\∀S:List Int,(O.map fun i=>S.getD i 0)=vals ms S:=by
 obtain⟨f1,f2,_⟩:=z1cb ms
 have hO:∀i∈O,i<ms.length:=fun i h=>by have:=hp.mem_iff.1 h;simpa using this
 have hOn:O.Nodup:=hp.nodup_iff.2 List.nodup_range
 have hinj:∀i∈O,∀j∈O,ms.getD i []=ms.getD j []->i=j:=fun i hi j hj h=>by
  have h1:=hO i hi
  have h2:=hO j hj
  rw[<-zj9 h1,<-zj9 h2]at h
  have e1:=zgn hn h1
  have e2:=zgn hn h2
  rw[h]at e1
  omega
 have hstrict:(O.map fun i=>ms.getD i []).Pairwise ltL:=by
  have h1:(O.map fun i=>ms.getD i []).Nodup:=by
   unfold List.Nodup
   rw[Q'y]
   exact List.Pairwise.imp_of_mem (fun {a b} ha hb h e=>h (hinj a ha b hb e)) hOn
  have:=List.Pairwise.and hs h1
  refine this.imp fun {a b} h=>?_
  obtain⟨h2,h3⟩:=h
  unfold leL at h2
  unfold ltL
  have:cmpL a b≠0:=fun e=>h3 (zas.1 e)
  omega
 have hT:(O.map fun i=>ms.getD i [])=sortT ms:=by
  refine z1ce hstrict f1 fun x=>?_
  rw[f2,M's]
  constructor
  ·rintro⟨i,hi,rfl⟩;exact zj8 (hO i hi)
  ·intro hx
   obtain⟨i,hi,rfl⟩:=P'p.1 hx
   exact⟨i,hp.mem_iff.2 (by simpa using hi),(zj9 hi).symm⟩
 refine⟨hT,fun S=>?_⟩
 unfold vals
 rw[<-hT,List.map_map]
 refine List.map_congr_left fun i hi=>?_
 have h1:=hO i hi
 simp only[Function.comp]
 rw[<-zj9 h1,zgn hn h1,P'm]
end Go.Proofs.YtbaclnecajkknaaGreat.Pi
namespace Go.Proofs.YtbaclnecajkknaaGreat.Pi
open Go
set_option linter.all false

def minI:List Int->Int
|[]=>0
|x::l=>l.foldl (fun a b=>if b<a then b else a) x
theorem ztd:∀(l:List Int)(x:Int),(l.foldl (fun a b=>if b<a then b else a) x<0)↔(x<0\/∃y∈l,y<0)
 |[],x=>by simp
 |y::l,x=>by
  rw[P'o,ztd l]
  simp only[M'z]
  constructor
  ·rintro(h|⟨z,hz,h⟩)
   ·split at h
    ·exact .inr ⟨y,.inl rfl,h⟩
    ·exact .inl h
   ·exact .inr ⟨z,.inr hz,h⟩
  ·rintro(h|⟨z,rfl| hz,h⟩)
   ·left;split<;>omega
   ·left;split<;>omega
   ·exact .inr ⟨z,hz,h⟩
def negB(l:List Int):Bool:=l.any fun x=>decide (x<0)
theorem zte{l:List Int}(h:0<l.length):decide (minI l<0)=negB l:=by
 cases l with
 |nil=>simp at h
 |cons x l=>
  unfold negB minI
  rw[Q'q,decide_eq_true_eq,ztd,N't]
  simp only[M'z,decide_eq_true_eq]
  constructor
  ·rintro(h|⟨y,hy,h⟩)
   ·exact⟨x,.inl rfl,h⟩
   ·exact⟨y,.inr hy,h⟩
  ·rintro⟨y,hy0,hneg⟩
   rcases hy0 with e|hy
   ·exact .inl (e▸hneg)
   ·exact .inr ⟨y,hy,hneg⟩
def okAt(p:Int)(M:List (List Int))(i:Nat):Bool:=goodM p (M.getD i [])&&(decide (i=0)||decide (cmpL (M.getD (i-1) []) (M.getD i [])<0))
def formB(p:Int)(c:Crt):Bool:=inB 1 400 c.mks.length&&decide (c.stp.length=c.mks.length)&&decide (c.rnk.length=c.mks.length)&&!negB c.stp&&!negB c.rnk&&(L'1 c.mks.length).all (okAt p c.mks)
theorem zhs{p:Int}{c:Crt}(h:formB p c=true):(1<=c.mks.length/\c.mks.length<=400)/\c.stp.length=c.mks.length/\c.rnk.length=c.mks.length/\(∀x∈c.stp,0<=x)/\(∀x∈c.rnk,0<=x)/\(∀x∈c.mks,goodM p x=true)/\c.mks.Pairwise ltL:=by
 simp only[formB,L'c,decide_eq_true_eq,N'e,L'h,N's]at h
 obtain⟨⟨⟨⟨⟨h1,h2⟩,h3⟩,h4⟩,h5⟩,h6⟩:=h
 have hneg:∀l:List Int,negB l=false->∀x∈l,0<=x:=fun l hl x hx=>by
  unfold negB at hl
  rw[M'y]at hl
  have:=hl x hx
  simp only[decide_eq_true_eq]at this
  omega
 simp only[inB,L'c,decide_eq_true_eq]at h1
 refine⟨by omega,h2,h3,hneg _ h4,hneg _ h5,fun x hx=>?_,?_⟩
 ·obtain⟨i,hi,rfl⟩:=P'p.1 hx
  have:=h6 i hi
  unfold okAt at this
  rw[L'c]at this
  rw[zj9 hi];exact this.1
 ·have hstep:∀i,(hi:i+1<c.mks.length)->cmpL (c.mks[i]'(by omega)) c.mks[i+1]<0:=fun i hi=>by
   have:=h6 (i+1) hi
   unfold okAt at this
   simp only[L'c,N'r,decide_eq_true_eq,N'5]at this
   have h7:=this.2.resolve_left (by omega)
   rwa [<-zj9 hi,<-zj9 (show i<c.mks.length by omega)]at h7
  have hall:∀d i,(hi:i+1+d<c.mks.length)->cmpL (c.mks[i]'(by omega)) c.mks[i+1+d]<0:=by
   intro d
   induction d with
   |zero=>intro i hi;exact hstep i hi
   |succ d ih=>
    intro i hi
    exact zaw (ih i (by omega)) (hstep (i+1+d) (by omega))
  rw[P'u]
  intro i j hi hj hij
  have:=hall (j-i-1) i (by omega)
  have e:i+1+(j-i-1)=j:=by omega
  simp only[e]at this
  exact this
/-! ### What arcs say of each place of a row -/
def arrK(key:Arc3->Int)(q:Arc3->Bool)(A:List Arc3)(n:Nat):List Bool:=(L'1 n).map fun(j:Nat)=>A.any fun a=>decide (key a=(j:Int))&&q a
theorem z48(key:Arc3->Int)(q:Arc3->Bool)(A:List Arc3)(n:Nat):(arrK key q A n).length=n:=by simp[arrK]
theorem z49(key:Arc3->Int)(q:Arc3->Bool)(n:Nat):arrK key q [] n=L'0 n false:=by
 apply Q'8
 ·simp[arrK]
 ·intro i h1 h2;simp[arrK]
theorem z47{key:Arc3->Int}{q:Arc3->Bool}{A:List Arc3}{n j:Nat}(h:j<n):(arrK key q A n)[j]?=some (A.any fun a=>decide (key a=(j:Int))&&q a):=by
 simp only[arrK,N'i]
 rw[P'2 h];rfl
theorem z4a{key:Arc3->Int}{q:Arc3->Bool}{A:List Arc3}{n:Nat}{a:Arc3}(h0:0<=key a)(h1:(key a).toNat<n):arrK key q (A++[a]) n=(arrK key q A n).set (key a).toNat ((A.any fun b=>decide (key b=key a)&&q b)||q a):=by
 apply L'u
 intro j
 by_cases hj:j<n
 ·rw[z47 hj,Q'4]
  by_cases e:(key a).toNat=j
  ·subst e
   rw[P'r (by rw[z48];exact h1),P'n h0]
   simp
  ·rw[L'n e,z47 hj]
   have:¬key a=(j:Int):=by omega
   simp[this]
 ·rw[L'r (by rw[z48];omega),L'r (by rw[N'9,z48];omega)]
def arcsK(n:Net)(M:List (List Int))(i:Nat)(l:List Int):List Arc3:=l.map fun t=>⟨i,t,findM M (zgw (trAt n t) (M.getD i []))⟩
def arcsC(n:Net)(M:List (List Int))(k:Nat):List Arc3:=(L'1 k).flatMap fun i=>arcsK n M i (enabL n (M.getD i []))
theorem z43(n:Net)(M:List (List Int))(k:Nat):arcsC n M (k+1)=arcsC n M k++arcsK n M k (enabL n (M.getD k [])):=by
 unfold arcsC
 rw[P'v,List.flatMap_append];simp
theorem z45{n:Net}{M:List (List Int)}{i j:Nat}{l:List Int}(h:j<l.length):arcsK n M i (l.take (j+1))=arcsK n M i (l.take j)++[⟨i,l[j],findM M (zgw (trAt n l[j]) (M.getD i []))⟩]:=by
 unfold arcsK
 rw[P'z h,M'r];rfl
theorem z42{n:Net}{M:List (List Int)}{k:Nat}{a:Arc3}:a∈arcsC n M k↔∃i:Nat,i<k/\a.src=i/\a.by_∈enabL n (M.getD i [])/\a.dst=findM M (zgw (trAt n a.by_) (M.getD i [])):=by
 unfold arcsC arcsK
 simp only[List.mem_flatMap,N's,M's]
 constructor
 ·rintro⟨i,hi,t,ht,rfl⟩;exact⟨i,hi,rfl,ht,rfl⟩
 ·rintro⟨i,hi,h1,h2,h3⟩
  refine⟨i,hi,a.by_,h2,?_⟩
  obtain⟨x,y,z⟩:=a
  simp only at h1 h3
  rw[h1,h3]
def upQ(S:List Int)(a:Arc3):Bool:=decide (S.getD a.src.toNat 0<S.getD a.dst.toNat 0)
def dnQ(R:List Int)(a:Arc3):Bool:=decide (R.getD a.dst.toNat 0<R.getD a.src.toNat 0)
def rchL(c:Crt)(A:List Arc3):List Bool:=arrK (·.dst) (upQ c.stp) A c.mks.length
def snkL(c:Crt)(A:List Arc3):List Bool:=arrK (·.src) (dnQ c.rnk) A c.mks.length
def usdL(nt:Nat)(A:List Arc3):List Bool:=arrK (·.by_) (fun _=>true) A nt
def certC(f:Fl)(c:Crt):Int:=
if formB f.net.pl c=false then 1 else
if findM c.mks (oneM f.net.pl.toNat f.src)<0 then 2 else
if (arcsC f.net c.mks c.mks.length).any (fun a=>decide (a.dst<0))=true then 3 else
if 0<=idxI ((rchL c (arcsC f.net c.mks c.mks.length)).set (findM c.mks (oneM f.net.pl.toNat f.src)).toNat (decide (c.stp.getD (findM c.mks (oneM f.net.pl.toNat f.src)).toNat 0=0))) (fun x=>x==false)then 4 else
if (L'1 c.mks.length).any (fun(i:Nat)=>!decide ((i:Int)=findM c.mks (oneM f.net.pl.toNat f.dst))&&!(snkL c (arcsC f.net c.mks c.mks.length)).getD i false)=true then 5 else
if (c.mks.any (fun m=>overB m (oneM f.net.pl.toNat f.dst))||decide (findM c.mks (oneM f.net.pl.toNat f.dst)<0)||!decide (c.rnk.getD (findM c.mks (oneM f.net.pl.toNat f.dst)).toNat 0=0))=true then 6 else
if 0<=idxI (usdL f.net.tr.length (arcsC f.net c.mks c.mks.length)) (fun x=>x==false)then 7 else 0
end Go.Proofs.YtbaclnecajkknaaGreat.Pi
namespace Go.Proofs.YtbaclnecajkknaaGreat.Pi
open Go
set_option linter.all false

theorem noF{l:List Bool}:(¬0<=idxI l (fun x=>x==false))↔∀i,i<l.length->l[i]?=some true:=by
 have h:=zl0 l (fun x=>x==false)
 constructor
 ·intro hn i hi
  rw[decide_eq_false hn,M'y]at h
  have:=h _ (P'l hi)
  rw[L'v hi]
  revert this
  cases l[i]<;>simp
 ·intro ha hn
  rw[decide_eq_true hn,N't]at h
  obtain⟨x,hx,hf⟩:=h
  obtain⟨i,hi,rfl⟩:=P'p.1 hx
  have:=ha i hi
  rw[L'v hi]at this
  rw[Option.some.inj this]at hf
  simp at hf
def svC(c:Crt)(m:List Int):Int:=c.stp.getD (findM c.mks m).toNat 0
def rvC(c:Crt)(m:List Int):Int:=c.rnk.getD (findM c.mks m).toNat 0
structure Tkn(f:Fl)(c:Crt):Prop where
form:formB f.net.pl c=true
start:oneM f.net.pl.toNat f.src∈c.mks
step:∀m∈c.mks,∀t∈enabL f.net m,zgw (trAt f.net t) m∈c.mks
sv0:svC c (oneM f.net.pl.toNat f.src)=0
reach:∀m∈c.mks,m≠oneM f.net.pl.toNat f.src->∃m'∈c.mks,∃t∈enabL f.net m',zgw (trAt f.net t) m'=m/\svC c m'<svC c m
sink:∀m∈c.mks,m≠oneM f.net.pl.toNat f.dst->∃t∈enabL f.net m,rvC c (zgw (trAt f.net t) m)<rvC c m
over:∀m∈c.mks,overB m (oneM f.net.pl.toNat f.dst)=false
fin:oneM f.net.pl.toNat f.dst∈c.mks
rv0:rvC c (oneM f.net.pl.toNat f.dst)=0
used:∀t:Nat,t<f.net.tr.length->∃m∈c.mks,(t:Int)∈enabL f.net m
theorem zs5{T:List (List Int)}(h:T.Pairwise ltL):T.Nodup:=by
 unfold List.Nodup
 refine h.imp fun {a b} hab e=>?_
 subst e
 unfold ltL at hab
 have:=zas.2 (rfl:a=a)
 omega
theorem zvu{T:List (List Int)}{m:List Int}(h:m∈T):∃i,i<T.length/\T.getD i []=m:=by
 obtain⟨i,hi,rfl⟩:=P'p.1 h
 exact⟨i,hi,(zj9 hi).symm⟩
section
variable {n:Net}{c:Crt}
theorem z1cy:((arcsC n c.mks c.mks.length).any fun a=>decide (a.dst<0))=false↔∀m∈c.mks,∀t∈enabL n m,zgw (trAt n t) m∈c.mks:=by
 rw[M'y]
 constructor
 ·intro h m hm t ht
  obtain⟨i,hi,rfl⟩:=zvu hm
  have:=h ⟨i,t,findM c.mks (zgw (trAt n t) (c.mks.getD i []))⟩ (z42.2 ⟨i,hi,rfl,ht,rfl⟩)
  simp only[decide_eq_true_eq]at this
  exact zgm.1 (by omega)
 ·intro h a ha
  obtain⟨i,hi,h1,h2,h3⟩:=z42.1 ha
  have:=zgm.2 (h _ (zj8 hi) _ h2)
  simp only[decide_eq_true_eq]
  omega
theorem sv_at(hn:c.mks.Nodup){i:Nat}(hi:i<c.mks.length):svC c (c.mks.getD i [])=c.stp.getD i 0:=by
 unfold svC;rw[zgk hn hi,P'm]
theorem rv_at(hn:c.mks.Nodup){i:Nat}(hi:i<c.mks.length):rvC c (c.mks.getD i [])=c.rnk.getD i 0:=by
 unfold rvC;rw[zgk hn hi,P'm]
theorem z13u(hn:c.mks.Nodup){i:Nat}(hi:i<c.mks.length):((arcsC n c.mks c.mks.length).any fun a=>decide (a.dst=(i:Int))&&upQ c.stp a)=true↔∃m'∈c.mks,∃t∈enabL n m',zgw (trAt n t) m'=c.mks.getD i []/\svC c m'<svC c (c.mks.getD i []):=by
 rw[N't,sv_at hn hi]
 constructor
 ·rintro⟨a,ha,h⟩
  obtain⟨i',hi',h1,h2,h3⟩:=z42.1 ha
  simp only[L'c,decide_eq_true_eq,upQ]at h
  obtain⟨h4,h5⟩:=h
  rw[h4,h1]at h5
  simp only[P'm]at h5
  refine⟨c.mks.getD i' [],zj8 hi',a.by_,h2,?_,by rw[sv_at hn hi'];exact h5⟩
  have:=(zgl (show 0<=findM c.mks (zgw (trAt n a.by_) (c.mks.getD i' []))by omega)).2
  rw[<-h3,h4,P'm]at this
  rw[N'u (i:=i),this];rfl
 ·rintro⟨m',hm',t,ht,h1,h2⟩
  obtain⟨i',hi',rfl⟩:=zvu hm'
  refine⟨⟨i',t,findM c.mks (zgw (trAt n t) (c.mks.getD i' []))⟩,z42.2 ⟨i',hi',rfl,ht,rfl⟩,?_⟩
  rw[sv_at hn hi']at h2
  rw[h1,zgk hn hi]
  simp only[upQ,L'c,decide_eq_true_eq,P'm]
  exact⟨trivial,h2⟩
theorem z1ax(hn:c.mks.Nodup)(hs:∀m∈c.mks,∀t∈enabL n m,zgw (trAt n t) m∈c.mks){i:Nat}(hi:i<c.mks.length):((arcsC n c.mks c.mks.length).any fun a=>decide (a.src=(i:Int))&&dnQ c.rnk a)=true↔∃t∈enabL n (c.mks.getD i []),rvC c (zgw (trAt n t) (c.mks.getD i []))<rvC c (c.mks.getD i []):=by
 rw[N't,rv_at hn hi]
 constructor
 ·rintro⟨a,ha,h⟩
  obtain⟨i',hi',h1,h2,h3⟩:=z42.1 ha
  simp only[L'c,decide_eq_true_eq,dnQ]at h
  obtain⟨h4,h5⟩:=h
  have:i'=i:=by omega
  subst this
  rw[h4,P'm,h3]at h5
  exact⟨a.by_,h2,h5⟩
 ·rintro⟨t,ht,h2⟩
  refine⟨⟨i,t,findM c.mks (zgw (trAt n t) (c.mks.getD i []))⟩,z42.2 ⟨i,hi,rfl,ht,rfl⟩,?_⟩
  simp only[dnQ,L'c,decide_eq_true_eq,P'm]
  exact⟨trivial,h2⟩
theorem z1gt{t:Nat}:((arcsC n c.mks c.mks.length).any fun a=>decide (a.by_=(t:Int))&&true)=true↔∃m∈c.mks,(t:Int)∈enabL n m:=by
 rw[N't]
 constructor
 ·rintro⟨a,ha,h⟩
  obtain⟨i',hi',h1,h2,h3⟩:=z42.1 ha
  simp only[Q'e,decide_eq_true_eq]at h
  exact⟨c.mks.getD i' [],zj8 hi',h▸h2⟩
 ·rintro⟨m,hm,ht⟩
  obtain⟨i',hi',rfl⟩:=zvu hm
  exact⟨⟨i',t,findM c.mks (zgw (trAt n t) (c.mks.getD i' []))⟩,z42.2 ⟨i',hi',rfl,ht,rfl⟩,by simp⟩
end
theorem z8y{f:Fl}{c:Crt}:certC f c=0↔Tkn f c:=by
 unfold certC
 by_cases h1:formB f.net.pl c=false
 ·rw[if_pos h1]
  exact⟨fun h=>by simp at h,fun h=>by rw[h.form]at h1;cases h1⟩
 rw[if_neg h1]
 have hF:formB f.net.pl c=true:=by revert h1;cases formB f.net.pl c<;>simp
 obtain⟨q1,q2,q3,q4,q5,q6,q7⟩:=zhs hF
 have hn:=zs5 q7
 by_cases h2:findM c.mks (oneM f.net.pl.toNat f.src)<0
 ·rw[if_pos h2]
  exact⟨fun h=>by simp at h,fun h=>by have:=zgm.2 h.start;omega⟩
 rw[if_neg h2]
 have hsm:=zgm.1 (Int.not_lt.1 h2)
 obtain⟨s,hs,hse⟩:=zvu hsm
 have hfs:findM c.mks (oneM f.net.pl.toNat f.src)=s:=by rw[<-hse,zgk hn hs]
 by_cases h3:((arcsC f.net c.mks c.mks.length).any fun a=>decide (a.dst<0))=true
 ·rw[if_pos h3]
  exact⟨fun h=>by simp at h,fun h=>by rw[z1cy.2 h.step]at h3;cases h3⟩
 rw[if_neg h3]
 have hst:=z1cy.1 (Q'k.2 h3)
 have r4:(¬0<=idxI ((rchL c (arcsC f.net c.mks c.mks.length)).set (findM c.mks (oneM f.net.pl.toNat f.src)).toNat (decide (c.stp.getD (findM c.mks (oneM f.net.pl.toNat f.src)).toNat 0=0))) (fun x=>x==false))↔(svC c (oneM f.net.pl.toNat f.src)=0/\∀m∈c.mks,m≠oneM f.net.pl.toNat f.src->∃m'∈c.mks,∃t∈enabL f.net m',zgw (trAt f.net t) m'=m/\svC c m'<svC c m):=by
  have hl:(rchL c (arcsC f.net c.mks c.mks.length)).length=c.mks.length:=z48 ..
  rw[noF,N'9,hl,hfs,P'm]
  have e0:svC c (oneM f.net.pl.toNat f.src)=c.stp.getD s 0:=by rw[<-hse,sv_at hn hs]
  rw[e0]
  constructor
  ·intro h
   have hs0:=h s hs
   rw[P'r (by omega)]at hs0
   refine⟨by simpa using hs0,fun m hm hne=>?_⟩
   obtain⟨i,hi,rfl⟩:=zvu hm
   have hne2:s≠i:=fun e=>hne (by rw[<-e];exact hse)
   have:=h i hi
   rw[L'n hne2]at this
   unfold rchL at this
   rw[z47 hi]at this
   exact(z13u hn hi).1 (Option.some.inj this)
  ·rintro⟨h0,h⟩ i hi
   by_cases e:s=i
   ·subst e
    rw[P'r (by omega),decide_eq_true h0]
   ·rw[L'n e]
    unfold rchL
    rw[z47 hi]
    refine congrArg some ((z13u hn hi).2 (h _ (zj8 hi) fun e2=>e ?_))
    have a1:=zgk hn hi
    rw[e2,hfs]at a1
    omega
 by_cases h4:0<=idxI ((rchL c (arcsC f.net c.mks c.mks.length)).set (findM c.mks (oneM f.net.pl.toNat f.src)).toNat (decide (c.stp.getD (findM c.mks (oneM f.net.pl.toNat f.src)).toNat 0=0))) (fun x=>x==false)
 ·rw[if_pos h4]
  exact⟨fun h=>by simp at h,fun h=>absurd h4 (r4.2 ⟨h.sv0,h.reach⟩)⟩
 rw[if_neg h4]
 obtain⟨hv0,hre⟩:=r4.1 h4
 have r5:((L'1 c.mks.length).any (fun(i:Nat)=>!decide ((i:Int)=findM c.mks (oneM f.net.pl.toNat f.dst))&&!(snkL c (arcsC f.net c.mks c.mks.length)).getD i false))=false↔∀m∈c.mks,m≠oneM f.net.pl.toNat f.dst->∃t∈enabL f.net m,rvC c (zgw (trAt f.net t) m)<rvC c m:=by
  rw[M'y]
  have hg:∀i,i<c.mks.length->(snkL c (arcsC f.net c.mks c.mks.length)).getD i false=((arcsC f.net c.mks c.mks.length).any fun a=>decide (a.src=(i:Int))&&dnQ c.rnk a):=fun i hi=>by
   unfold snkL
   rw[N'u,z47 hi];rfl
  constructor
  ·intro h m hm hne
   obtain⟨i,hi,rfl⟩:=zvu hm
   have:=h i (N's.2 hi)
   rw[hg i hi]at this
   have hne2:¬(i:Int)=findM c.mks (oneM f.net.pl.toNat f.dst):=fun e=>hne (by
    have:=(zgl (show 0<=findM c.mks (oneM f.net.pl.toNat f.dst)by omega)).2
    rw[<-e,P'm]at this
    rw[N'u,this];rfl)
   refine(z1ax hn hst hi).1 ?_
   revert this
   simp only[hne2,decide_false,Bool.not_false,P'e]
   cases ((arcsC f.net c.mks c.mks.length).any fun a=>decide (a.src=(i:Int))&&dnQ c.rnk a)<;>simp
  ·intro h i hi
   have hi:=N's.1 hi
   rw[hg i hi]
   by_cases e:(i:Int)=findM c.mks (oneM f.net.pl.toNat f.dst)
   ·simp[e]
   ·rw[(z1ax hn hst hi).2 (h _ (zj8 hi) fun e2=>e (by rw[<-e2,zgk hn hi]))]
    simp
 by_cases h5:((L'1 c.mks.length).any (fun(i:Nat)=>!decide ((i:Int)=findM c.mks (oneM f.net.pl.toNat f.dst))&&!(snkL c (arcsC f.net c.mks c.mks.length)).getD i false))=true
 ·rw[if_pos h5]
  exact⟨fun h=>by simp at h,fun h=>by rw[r5.2 h.sink]at h5;cases h5⟩
 rw[if_neg h5]
 have hsi:=r5.1 (Q'k.2 h5)
 have r6:(c.mks.any (fun m=>overB m (oneM f.net.pl.toNat f.dst))||decide (findM c.mks (oneM f.net.pl.toNat f.dst)<0)||!decide (c.rnk.getD (findM c.mks (oneM f.net.pl.toNat f.dst)).toNat 0=0))=false↔((∀m∈c.mks,overB m (oneM f.net.pl.toNat f.dst)=false)/\oneM f.net.pl.toNat f.dst∈c.mks/\rvC c (oneM f.net.pl.toNat f.dst)=0):=by
  rw[Q'a,Q'a,M'y,<-zgm]
  simp only[decide_eq_false_iff_not,Q'z,decide_eq_true_eq,Int.not_lt,R'0]
  unfold rvC
  exact and_assoc
 by_cases h6:(c.mks.any (fun m=>overB m (oneM f.net.pl.toNat f.dst))||decide (findM c.mks (oneM f.net.pl.toNat f.dst)<0)||!decide (c.rnk.getD (findM c.mks (oneM f.net.pl.toNat f.dst)).toNat 0=0))=true
 ·rw[if_pos h6]
  exact⟨fun h=>by simp at h,fun h=>by rw[r6.2 ⟨h.over,h.fin,h.rv0⟩]at h6;cases h6⟩
 rw[if_neg h6]
 obtain⟨ho,hfi,hr0⟩:=r6.1 (Q'k.2 h6)
 have r7:(¬0<=idxI (usdL f.net.tr.length (arcsC f.net c.mks c.mks.length)) (fun x=>x==false))↔∀t:Nat,t<f.net.tr.length->∃m∈c.mks,(t:Int)∈enabL f.net m:=by
  have hl:(usdL f.net.tr.length (arcsC f.net c.mks c.mks.length)).length=f.net.tr.length:=z48 ..
  rw[noF,hl]
  constructor
  ·intro h t ht
   have:=h t ht
   unfold usdL at this
   rw[z47 ht]at this
   exact z1gt.1 (Option.some.inj this)
  ·intro h t ht
   unfold usdL
   rw[z47 ht]
   exact congrArg some (z1gt.2 (h t ht))
 by_cases h7:0<=idxI (usdL f.net.tr.length (arcsC f.net c.mks c.mks.length)) (fun x=>x==false)
 ·rw[if_pos h7]
  exact⟨fun h=>by simp at h,fun h=>absurd h7 (r7.2 h.used)⟩
 rw[if_neg h7]
 exact⟨fun _=>⟨hF,hsm,hst,hv0,hre,hsi,ho,hfi,hr0,r7.1 h7⟩,fun _=>rfl⟩
end Go.Proofs.YtbaclnecajkknaaGreat.Pi
namespace Go.Proofs.YtbaclnecajkknaaGreat.Pi
open Go
set_option linter.all false

theorem zjb{S:List Int}{k:Nat}{v:Int}(h:S[k]?=some v):S.getD k 0=v:=by
 rw[N'u,h];rfl
theorem zcs{n:Net}{start:List Int}{b:Int}{s:Ex}(h:ExOk n start b s):∀k:Nat,k<s.sp.ms.length->∃e,Dk (dirA false s.sp.ar) 0 e k:=by
 intro k
 induction k using Q'l with
 |ind k ih=>
  intro hk
  rcases Q'3 k with rfl| h0
  ·exact⟨0,rfl⟩
  ·obtain⟨i,hi,e1,e2,_⟩:=h.back k h0 hk
   obtain⟨a1,a2,_⟩:=h.arcs _ (P'l hi)
   obtain⟨e,he⟩:=ih s.sp.ar[i].src.toNat (by omega) a2
   refine⟨e+1,⟨s.sp.ar[i].dst,s.sp.ar[i].by_,s.sp.ar[i].src⟩,?_,e1,?_⟩
   ·unfold dirA
    exact M's.2 ⟨_,P'l hi,rfl⟩
   ·rwa [P'n a1]at he
theorem dk_rk{ar:List Arc3}{p:Int}{z:Int}(h:Rk ar [p] z):∃e,Dk ar p e z:=by
 induction h with
 |base h=>exact⟨0,N'2.1 h⟩
 |step h _ ih=>
  obtain⟨e,he⟩:=ih
  exact⟨e+1,_,h,rfl,he⟩
theorem zg3{ar:List Arc3}{p:Int}{n:Nat}{F:List Int}(h:isFar ar p n F)(hd:∀k:Nat,k<n->∃e,Dk ar p e k){k:Nat}(hk:k<n):∃d:Nat,F[k]?=some (d:Int):=by
 rcases h.val k hk with⟨_,h2⟩|⟨d,h1,_⟩
 ·obtain⟨e,he⟩:=hd k hk
  exact absurd he (h2 e)
 ·exact⟨d,h1⟩
theorem zg4{ar:List Arc3}{p:Nat}{n:Nat}{F:List Int}(h:isFar ar p n F)(hp:p<n):F[p]?=some 0:=by
 rcases h.val p hp with⟨_,h2⟩|⟨d,h1,_,h3⟩
 ·exact absurd rfl (h2 0)
 ·rcases Q'3 d with rfl|h0
  ·exact h1
  ·exact absurd rfl (h3 0 h0)
theorem zc9{ar:List Arc3}{nt:Nat}(h:deadK ar nt=[]){t:Nat}(ht:t<nt):∃a∈ar,a.by_=(t:Int):=by
 unfold deadK at h
 rw[List.map_eq_nil_iff,List.filter_eq_nil_iff]at h
 have:=h t (N's.2 ht)
 simp only[R'0,Q'z]at this
 rw[N't]at this
 obtain⟨a,ha,hb⟩:=this
 exact⟨a,ha,of_decide_eq_true hb⟩
theorem z1gu{ms:List (List Int)}{S:List Int}{m:List Int}(hm:m∈ms):(vals ms S).getD (findM (sortT ms) m).toNat 0=S.getD (findM ms m).toNat 0:=by
 have h:=zgl (zgm.2 ((z1cb ms).2.1 m |>.2 hm))
 unfold vals
 rw[N'u,N'i,h.2];rfl
theorem zj3{l:List Int}(h:∀x∈l,0<=x):negB l=false:=by
 unfold negB
 rw[M'y]
 intro x hx
 have:=h x hx
 simp only[decide_eq_true_eq];omega
theorem zht{p:Int}{c:Crt}(h1:1<=c.mks.length/\c.mks.length<=400)(h2:c.stp.length=c.mks.length)(h3:c.rnk.length=c.mks.length)(h4:∀x∈c.stp,0<=x)(h5:∀x∈c.rnk,0<=x)(h6:∀x∈c.mks,goodM p x=true)(h7:c.mks.Pairwise ltL):formB p c=true:=by
 simp only[formB,L'c,decide_eq_true_eq,N'e,L'h,N's]
 refine⟨⟨⟨⟨⟨?_,h2⟩,h3⟩,zj3 h4⟩,zj3 h5⟩,fun i hi=>?_⟩
 ·simp only[inB,L'c,decide_eq_true_eq];omega
 ·unfold okAt
  simp only[L'c,N'r,decide_eq_true_eq]
  refine⟨h6 _ (zj8 hi),?_⟩
  rcases Q'3 i with e|e
  ·exact .inl e
  ·refine .inr ?_
   have:=P'u.1 h7 (i-1) i (by omega) hi (by omega)
   rw[zj9 hi,zj9 (show i-1<c.mks.length by omega)]at this
   exact this
theorem z103{f:Fl}{b:Int}{S R:List Int}(hg:zji f=true)(hb:inB 1 400 b=true)(hk:(sndV f b).ok=1)
  (hS:isFar (dirA false (exAll f.net (oneM f.net.pl.toNat f.src) b).sp.ar) 0 (exAll f.net (oneM f.net.pl.toNat f.src) b).sp.ms.length S)
  (hR:isFar (exAll f.net (oneM f.net.pl.toNat f.src) b).sp.ar (findM (exAll f.net (oneM f.net.pl.toNat f.src) b).sp.ms (oneM f.net.pl.toNat f.dst)) (exAll f.net (oneM f.net.pl.toNat f.src) b).sp.ms.length R) :
  Tkn f (certP (exAll f.net (oneM f.net.pl.toNat f.src) b).sp.ms S R):=by
 obtain⟨hc,h2⟩:=z1c9 hk
 obtain⟨c1,c2,c3⟩:=z9w (congrArg Vd.ok h2)
 simp only[inB,L'c,decide_eq_true_eq]at hb
 obtain⟨ho,hcl⟩:=ze7 (zxf hg) hb.1
 have hcl:=hcl hc
 have hbf:=ze5 (zxf hg) hb.1
 generalize exAll f.net (oneM f.net.pl.toNat f.src) b=X at *
 have hpos:0<X.sp.ms.length:=by
  have:=ho.first
  rcases Q'3 X.sp.ms.length with h|h
  ·rw[Q'w.1 h]at this;simp at this
  ·exact h
 have hS0:X.sp.ms.getD 0 []=(oneM f.net.pl.toNat f.src):=by rw[N'u,ho.first];rfl
 have hS0m:(oneM f.net.pl.toNat f.src)∈X.sp.ms:=by rw[<-hS0];exact zj8 hpos
 have hE:0<=findM X.sp.ms (oneM f.net.pl.toNat f.dst):=by
  have key:∀z,Rk X.sp.ar (endS X.sp.ms (oneM f.net.pl.toNat f.dst)) z->0<=findM X.sp.ms (oneM f.net.pl.toNat f.dst):=by
   intro z hz
   induction hz with
   |base h=>
    unfold endS at h
    split at h
    ·assumption
    ·cases h
   |step _ _ ih=>exact ih
  exact key _ (c1 0 hpos)
 have hEm:=zgm.1 hE
 have hes:endS X.sp.ms (oneM f.net.pl.toNat f.dst)=[findM X.sp.ms (oneM f.net.pl.toNat f.dst)]:=by unfold endS;rw[if_pos hE]
 rw[hes]at c1
 obtain⟨p,hp⟩:∃p:Nat,findM X.sp.ms (oneM f.net.pl.toNat f.dst)=p:=⟨(findM X.sp.ms (oneM f.net.pl.toNat f.dst)).toNat,by omega⟩
 have hpl:=(zgl hE).1
 have hpE:X.sp.ms.getD p []=(oneM f.net.pl.toNat f.dst):=by
  have:=(zgl hE).2
  rw[hp,P'm]at this
  rw[N'u,this];rfl
 rw[hp]at hR c1 hpl
 rw[P'm]at hpl
 have dS:=fun {k:Nat} (hk:k<X.sp.ms.length)=>zg3 hS (zcs ho) hk
 have dR:=fun {k:Nat} (hk:k<X.sp.ms.length)=>zg3 hR (fun k hk=>dk_rk (c1 k hk)) hk
 obtain⟨f1,f2,f3⟩:=z1cb X.sp.ms
 have sv:∀{k:Nat},k<X.sp.ms.length->svC (certP X.sp.ms S R) (X.sp.ms.getD k [])=S.getD k 0:=fun {k} hk=>by
  have:=z1gu (S:=S) (zj8 hk)
  rwa [zgk ho.nodup hk,P'm]at this
 have rv:∀{k:Nat},k<X.sp.ms.length->rvC (certP X.sp.ms S R) (X.sp.ms.getD k [])=R.getD k 0:=fun {k} hk=>by
  have:=z1gu (S:=R) (zj8 hk)
  rwa [zgk ho.nodup hk,P'm]at this
 have enab:∀a∈X.sp.ar,a.by_∈enabL f.net (X.sp.ms.getD a.src.toNat []):=fun a ha=>zwo (ho.arcs a ha).2.2.2.2.1
 have pos:∀{F:List Int},(∀{k:Nat},k<X.sp.ms.length->∃d:Nat,F[k]?=some (d:Int))->∀x∈vals X.sp.ms F,0<=x:=fun {F} h x hx=>by
  obtain⟨m,hm,rfl⟩:=M's.1 hx
  obtain⟨d,hd⟩:=h (zgl (zgm.2 ((f2 m).1 hm))).1
  rw[zjb hd];omega
 have hlb:=ho.lenb
 refine⟨zht ⟨?_,?_⟩ ?_ ?_ (pos dS) (pos dR) (fun x hx=>(zst (ho.good x ((f2 x).1 hx))).2) f1,(f2 _).2 hS0m,?_,?_,?_,?_,?_,(f2 _).2 hEm,?_,?_⟩
 ·exact List.length_pos_iff.2 (Q'b ((f2 _).2 hS0m))
 ·show(sortT X.sp.ms).length<=400
  omega
 ·simp[certP,vals]
 ·simp[certP,vals]
 ·intro m hm t ht
  obtain⟨k,hk,rfl⟩:=zvu ((f2 m).1 hm)
  exact(f2 _).2 (hcl k hk hk t ht).2
 ·rw[<-hS0,sv hpos]
  exact zjb (zg4 (p:=0) hS hpos)
 ·intro m hm hne
  obtain⟨k,hk,rfl⟩:=zvu ((f2 m).1 hm)
  have hk0:k≠0:=fun e=>hne (by rw[e];exact hS0)
  obtain⟨d,hd⟩:=dS hk
  have hdp:=hS.pos (p:=0) hk hk0 hd
  obtain⟨i,hi,g1,g2⟩:=hS.near (p:=0) (zcq hbf.inn) hk hk0 hd
  have hi2:i<X.sp.ar.length:=by rwa [zcr]at hi
  rw[zcp hi2]at g1 g2
  simp only[M'w,if_false]at g1 g2
  have hin:=P'l hi2
  obtain⟨a1,a2,a3,a4,a5,a6⟩:=ho.arcs _ hin
  refine⟨X.sp.ms.getD X.sp.ar[i].src.toNat [],(f2 _).2 (zj8 a2),X.sp.ar[i].by_,enab _ hin,?_,?_⟩
  ·rw[<-a6,g1,P'm]
  ·rw[sv a2,sv hk,zjb hd,zjb g2];omega
 ·intro m hm hne
  obtain⟨k,hk,rfl⟩:=zvu ((f2 m).1 hm)
  have hk0:k≠p:=fun e=>hne (by rw[e];exact hpE)
  obtain⟨d,hd⟩:=dR hk
  obtain⟨i,hi,g1,g2⟩:=hR.near hbf.inn hk hk0 hd
  have hin:=P'l hi
  obtain⟨a1,a2,a3,a4,a5,a6⟩:=ho.arcs _ hin
  have he:=enab _ hin
  rw[g1,P'm]at he a6
  refine⟨X.sp.ar[i].by_,he,?_⟩
  rw[<-a6,rv a4,rv hk,zjb hd,zjb g2];omega
 ·exact fun m hm=>c2 m ((f2 m).1 hm)
 ·rw[<-hpE,rv hpl]
  exact zjb (zg4 hR hpl)
 ·intro t ht
  obtain⟨a,ha,hat⟩:=zc9 c3 ht
  exact⟨_,(f2 _).2 (zj8 (ho.arcs a ha).2.1),hat▸enab a ha⟩
def dropC(c:Crt)(k:Nat):Crt:=⟨c.mks.eraseIdx k,c.stp.eraseIdx k,c.rnk.eraseIdx k⟩
theorem zde{f:Fl}{c:Crt}{k:Nat}(h:Tkn f c)(hk:k<c.mks.length):certC f (dropC c k)≠0:=by
 intro h0
 have h2:=z8y.1 h0
 obtain⟨q1,q2,q3,q4,q5,q6,q7⟩:=zhs h.form
 have hn:=zs5 q7
 have hpos:∀m,0<=svC c m:=fun m=>by
  unfold svC
  rw[N'u]
  by_cases hi:(findM c.mks m).toNat<c.stp.length
  ·rw[L'v hi]
   exact q4 _ (P'l hi)
  ·rw[L'r (by omega)];exact Int.le_refl _
 have key:∀d:Nat,∀m∈c.mks,svC c m<=d->m∈(dropC c k).mks:=by
  intro d
  induction d with
  |zero=>
   intro m hm hd
   by_cases e:m=oneM f.net.pl.toNat f.src
   ·rw[e];exact h2.start
   ·obtain⟨m',_,_,_,_,hlt⟩:=h.reach m hm e
    have:=hpos m'
    omega
  |succ d ih=>
   intro m hm hd
   by_cases e:m=oneM f.net.pl.toNat f.src
   ·rw[e];exact h2.start
   ·obtain⟨m',hm',t,ht,he,hlt⟩:=h.reach m hm e
    rw[<-he]
    exact h2.step m' (ih m' hm' (by omega)) t ht
 have hm:=key (svC c c.mks[k]).toNat c.mks[k] (P'l hk) (by have:=hpos c.mks[k];omega)
 obtain⟨i,hi,hne,he⟩:=List.mem_eraseIdx_iff_getElem.1 hm
 have:=P'u.1 hn
 rcases Q'9 i k with h3|h3|h3
 ·exact this _ _ hi hk h3 he
 ·exact hne h3
 ·exact this _ _ hk hi h3 he.symm
/-! ### The own verdict shows that a flow is unsound -/
theorem zl1{α:Type}{l:List α}{q:α->Bool}(h:0<=idxI l q):∃k:Nat,idxI l q=k/\∃hk:k<l.length,q l[k]=true:=by
 unfold idxI at h ⊢
 cases e:l.findIdx? q with
 |none=>rw[e]at h;simp at h
 |some k=>
  rw[Q'0]at e
  obtain⟨h1,h2,_⟩:=e
  exact⟨k,rfl,h1,h2⟩
theorem zvb:∀(s Z:List (List Int)),s.Nodup->(∀x∈s,x∈Z)->s.length<=Z.length
 |[],Z,_,_=>by simp
 |x::s,Z,hn,hs=>by
  obtain⟨h1,h2⟩:=N'g.1 hn
  have hx:=hs x (by simp)
  have:=zvb s (Z.erase x) h2 fun y hy=>(List.mem_erase_of_ne (fun e=>h1 (by rw[<-e];exact hy))).2 (hs y (by simp[hy]))
  rw[List.length_erase_of_mem hx]at this
  have:=List.length_pos_of_mem hx
  simp only[M'2];omega
def stays(n:Net)(Z:List (List Int)):Prop:=∀z∈Z,∀t∈enabL n z,(zgw (trAt n t) z).all (inB 0 50)=true/\zgw (trAt n t) z∈Z
section
variable {n:Net}{Z:List (List Int)}{start:List Int}{b:Int}
theorem zf0(hZ:stays n Z)(hl:Z.length<=b.toNat){k:Nat}{s:Ex}{t:Int}(ho:ExOk n start b s)(h0:s.code=0)(hs:∀x∈s.sp.ms,x∈Z)(hk:k<s.sp.ms.length)(ht:t∈enabL n (s.sp.ms.getD k [])):(zeo n b k s t).code=0/\∀x∈(zeo n b k s t).sp.ms,x∈Z:=by
 obtain⟨z1,z2⟩:=hZ _ (hs _ (zj8 hk)) t ht
 by_cases h2:0<=findM s.sp.ms (zgw (trAt n t) (s.sp.ms.getD k []))
 ·rw[zex h0 z1 h2];exact⟨rfl,hs⟩
 ·by_cases h3:b<=s.sp.ms.length
  ·exfalso
   have hx:zgw (trAt n t) (s.sp.ms.getD k [])∉s.sp.ms:=fun h=>h2 (zgm.2 h)
   have:=zvb (zgw (trAt n t) (s.sp.ms.getD k [])::s.sp.ms) Z (N'g.2 ⟨hx,ho.nodup⟩) fun x hm=>by
    rcases M'z.1 hm with rfl| hm
    ·exact z2
    ·exact hs x hm
   simp only[M'2]at this
   omega
  ·rw[zev h0 z1 h2 h3]
   refine⟨rfl,fun x hm=>?_⟩
   rcases L'j.1 hm with hm|hm
   ·exact hs x hm
   ·rw[N'2]at hm;rw[hm];exact z2
theorem zeg(hZ:stays n Z)(hl:Z.length<=b.toNat){k:Nat}:∀(l:List Int) (s:Ex),ExOk n start b s->s.code=0->(∀x∈s.sp.ms,x∈Z)->k<s.sp.ms.length->(∀t∈l,t∈enabL n (s.sp.ms.getD k []))->(exL n b k s l).code=0/\∀x∈(exL n b k s l).sp.ms,x∈Z
 |[],s,_,h0,hs,_,_=>⟨h0,hs⟩
 |t::l,s,ho,h0,hs,hk,ht=>by
  have h1:=zew ho hk (ht t (by simp))
  obtain⟨p,hp⟩:=zey (n:=n) (b:=b) (k:=k) (s:=s) (t:=t)
  have e:(zeo n b k s t).sp.ms.getD k []=s.sp.ms.getD k []:=by rw[hp,zjc hk]
  obtain⟨c1,c2⟩:=zf0 hZ hl ho h0 hs hk (ht t (by simp))
  exact zeg hZ hl l (zeo n b k s t) h1 c1 c2 (by rw[hp];simp;omega) (fun u hu=>by rw[e];exact ht u (by simp[hu]))
theorem zen(hZ:stays n Z)(hl:Z.length<=b.toNat):∀(f k:Nat) (s:Ex),ExOk n start b s->s.code=0->(∀x∈s.sp.ms,x∈Z)->(exRun n b f k s).code=0/\∀x∈(exRun n b f k s).sp.ms,x∈Z
 |0,k,s,_,h0,hs=>⟨h0,hs⟩
 |f+1,k,s,ho,h0,hs=>by
  have er:exRun n b (f+1) k s=if s.code≠0 then s else if k<s.sp.ms.length then exRun n b f (k+1) (exL n b k s (enabL n (s.sp.ms.getD k [])))else s:=rfl
  rw[er,if_neg (by omega)]
  split
  ·rename_i hk
   obtain⟨c1,c2⟩:=zeg hZ hl (enabL n (s.sp.ms.getD k [])) s ho h0 hs hk (fun t h=>h)
   exact zen hZ hl f (k+1) _ (zee (k:=k) _ s ho hk (fun t h=>h)).1 c1 c2
  ·exact⟨h0,hs⟩
theorem ze8(hZ:stays n Z)(hl:Z.length<=b.toNat)(hm:zss n start=true)(hb:1<=b)(hs:start∈Z):(exAll n start b).code=0/\∀x∈(exAll n start b).sp.ms,x∈Z:=by
 unfold exAll
 refine zen (start:=start) hZ hl _ 0 _ ⟨rfl,fun m hm2=>?_,by simp;omega,by simp,fun a ha=>by simp at ha,fun j hj hl=>?_⟩ rfl (fun x hx=>?_)
 ·simp only[N'2]at hm2;subst hm2;exact hm
 ·simp only[M'2,M'7]at hl;omega
 ·simp only[N'2]at hx;subst hx;exact hs
theorem zep{k:Nat}{s:Ex}{t:Int}(h:(zeo n b k s t).code=0):(∀a∈s.sp.ar,a∈(zeo n b k s t).sp.ar)/\∃a∈(zeo n b k s t).sp.ar,a.src=k/\a.by_=t:=by
 by_cases h0:s.code=0
 case neg=>rw[zez h0]at h;exact absurd h h0
 cases ha:(zgw (trAt n t) (s.sp.ms.getD k [])).all (inB 0 50)with
 |false=>rw[zf1 h0 ha]at h;simp at h
 |true=>
  by_cases h2:0<=findM s.sp.ms (zgw (trAt n t) (s.sp.ms.getD k []))
  ·rw[zex h0 ha h2]
   exact⟨fun a h=>P'j _ h,_,R'1 _ (N'2.2 rfl),rfl,rfl⟩
  ·by_cases h3:b<=s.sp.ms.length
   ·rw[zet h0 ha h2 h3]at h;simp at h
   ·rw[zev h0 ha h2 h3]
    exact⟨fun a h=>P'j _ h,_,R'1 _ (N'2.2 rfl),rfl,rfl⟩
theorem ze9{k:Nat}:∀(l:List Int)(s:Ex),(exL n b k s l).code=0->s.code=0/\(∀a∈s.sp.ar,a∈(exL n b k s l).sp.ar)/\∀t∈l,∃a∈(exL n b k s l).sp.ar,a.src=k/\a.by_=t
 |[],s,h=>⟨h,fun a h=>h,by simp⟩
 |t::l,s,h=>by
  obtain⟨c0,c1,c2⟩:=ze9 l (zeo n b k s t) h
  obtain⟨d1,a,d2,d3⟩:=zep c0
  refine⟨?_,fun a ha=>c1 a (d1 a ha),fun u hu=>?_⟩
  ·by_cases h0:s.code=0
   ·exact h0
   ·rw[zez h0]at c0;exact c0
  ·rcases M'z.1 hu with rfl| hu
   ·exact⟨a,c1 a d2,d3⟩
   ·exact c2 u hu
def toldA(n:Net)(s:Ex)(k:Nat):Prop:=∀i:Nat,i<k->i<s.sp.ms.length->∀t∈enabL n (s.sp.ms.getD i []),∃a∈s.sp.ar,a.src=i/\a.by_=t
theorem zeh:∀(f k:Nat) (s:Ex),ExOk n start b s->toldA n s k->b.toNat<k+f->(exRun n b f k s).code=0->toldA n (exRun n b f k s) (exRun n b f k s).sp.ms.length
 |0,k,s,ho,h,hb,hc=>by
  have:=ho.lenb
  show toldA n s s.sp.ms.length
  exact fun i hi=>h i (by omega)
 |f+1,k,s,ho,h,hb,hc=>by
  have er:exRun n b (f+1) k s=if s.code≠0 then s else if k<s.sp.ms.length then exRun n b f (k+1) (exL n b k s (enabL n (s.sp.ms.getD k [])))else s:=rfl
  by_cases h0:s.code≠0
  ·rw[zem h0]at hc;exact absurd hc h0
  rw[er,if_neg h0]at hc ⊢
  by_cases hl:k<s.sp.ms.length
  ·rw[if_pos hl]at hc ⊢
   obtain⟨f1,⟨p,f2⟩,f3⟩:=zee (start:=start) (k:=k) (enabL n (s.sp.ms.getD k [])) s ho hl (fun t ht=>ht)
   have hc0:(exL n b k s (enabL n (s.sp.ms.getD k []))).code=0:=by
    by_cases e:(exL n b k s (enabL n (s.sp.ms.getD k []))).code=0
    ·exact e
    ·rw[zem e]at hc;exact absurd hc e
   obtain⟨_,g1,g2⟩:=ze9 _ s hc0
   refine zeh f (k+1) _ f1 (fun i hi hl2 t ht=>?_) (by omega) hc
   by_cases hik:i<k
   ·have e:(exL n b k s (enabL n (s.sp.ms.getD k []))).sp.ms.getD i []=s.sp.ms.getD i []:=by rw[f2,zjc (l:=s.sp.ms) (by omega)]
    rw[e]at ht
    obtain⟨a,ha,h1⟩:=h i hik (by omega) t ht
    exact⟨a,g1 a ha,h1⟩
   ·have:i=k:=by omega
    subst this
    have e:(exL n b i s (enabL n (s.sp.ms.getD i []))).sp.ms.getD i []=s.sp.ms.getD i []:=by rw[f2,zjc hl]
    rw[e]at ht
    exact g2 t ht
  ·rw[if_neg hl]
   exact fun i hi hl2=>h i (by omega) hl2
theorem ze3(hm:zss n start=true)(hb:1<=b)(hc:(exAll n start b).code=0):toldA n (exAll n start b) (exAll n start b).sp.ms.length:=by
 unfold exAll at hc ⊢
 refine zeh (start:=start) _ 0 _ ⟨rfl,fun m hm2=>?_,by simp;omega,by simp,fun a ha=>by simp at ha,fun j hj hl=>?_⟩ (fun i hi=>by omega) (by omega) hc
 ·simp only[N'2]at hm2;subst hm2;exact hm
 ·simp only[M'2,M'7]at hl;omega
theorem z1e7{X Y:Ex}{M E:List Int}(hX:ExOk n start b X)(hA:toldA n X X.sp.ms.length)(hY:ExOk n M b Y)(hs:∀x∈Y.sp.ms,x∈X.sp.ms)(hE:E∈Y.sp.ms):Rk X.sp.ar [findM X.sp.ms E] (findM X.sp.ms M):=by
 have key:∀j:Nat,j<Y.sp.ms.length->Rk X.sp.ar [findM X.sp.ms E] (findM X.sp.ms (Y.sp.ms.getD j []))->Rk X.sp.ar [findM X.sp.ms E] (findM X.sp.ms M):=by
  intro j
  induction j using Q'l with
  |_ j ih=>
   intro hj hr
   rcases Q'3 j with rfl| h0
   ·have e:Y.sp.ms.getD 0 []=M:=by rw[N'u,hY.first];rfl
    rwa [e]at hr
   ·obtain⟨i,hi,e1,e2,_⟩:=hY.back j h0 hj
    obtain⟨a1,a2,a3,a4,a5,a6⟩:=hY.arcs _ (P'l hi)
    rw[e1,P'm]at a6
    refine ih Y.sp.ar[i].src.toNat (by omega) a2 ?_
    have hz:=hs _ (zj8 a2)
    have hen:=zwo a5
    obtain⟨q,hq,hqe⟩:=zvu hz
    rw[<-hqe]at hen
    obtain⟨a,ha,s1,s2⟩:=hA q hq hq _ hen
    obtain⟨b1,b2,b3,b4,b5,b6⟩:=hX.arcs a ha
    rw[s1,P'm,hqe,s2,<-a6]at b6
    have g1:findM X.sp.ms (Y.sp.ms.getD j [])=a.dst:=by rw[<-b6,zgk hX.nodup b4];omega
    have g2:findM X.sp.ms (Y.sp.ms.getD Y.sp.ar[i].src.toNat [])=a.src:=by rw[<-hqe,zgk hX.nodup hq,s1]
    rw[g1]at hr
    rw[g2]
    exact .step ha hr
 obtain⟨j,hj,e⟩:=zvu hE
 exact key j hj (.base (by rw[e];simp))
end
theorem z1gg{n:Net}{start:List Int}{b:Int}{R:Ex}(hok:ExOk n start b R)(hb:Bfs R.sp.ar R.sp.ms.length)(K:Nat):∀(k:Nat) (W:List Int),k<R.sp.ms.length->z11h n (R.sp.ms.getD k []) W (R.sp.ms.getD K [])->(∀t∈W,inB 0 (n.tr.length-1) t=true)->z11h n start (tw R.sp.ar k++W) (R.sp.ms.getD K [])/\∀t∈tw R.sp.ar k++W,inB 0 (n.tr.length-1) t=true:=by
 intro k
 induction k using Q'l with
 |_ k ih=>
  intro W hk hp hW
  by_cases h0:0<k
  ·obtain⟨i,hi,a1,a2,a3,a4,a5⟩:=z41 hok h0 hk
   rw[z1gf hb h0 hk hi a1,M'c]
   refine ih _ (by omega) _ (by omega) (z11i a4 (by rw[<-a5];exact hp)) fun t ht=>?_
   rcases M'z.1 ht with rfl| ht
   ·exact zwr a4
   ·exact hW t ht
  ·have:k=0:=by omega
   subst this
   have hs:R.sp.ms.getD 0 []=start:=by rw[N'u,hok.first];rfl
   rw[z1gh,M'3]
   rw[hs]at hp
   exact⟨hp,hW⟩
theorem z102{f:Fl}{b:Int}(hg:zji f=true)(hb:inB 1 400 b=true)(ho:(sndV f b).ok=2) :
  ((sndV f b).kind=3/\(sndV f b).way=[]/\(exAll f.net (oneM f.net.pl.toNat f.src) b).code=0/\(sndV f b).dead∈deadK (exAll f.net (oneM f.net.pl.toNat f.src) b).sp.ar f.net.tr.length) \/
  (((sndV f b).kind=1\/(sndV f b).kind=2)/\(sndV f b).dead=0/\okSeq f.net (oneM f.net.pl.toNat f.src) (sndV f b).way=true/\many f.net (oneM f.net.pl.toNat f.src) (sndV f b).way=(sndV f b).way.length/\∃M,fsq f.net (oneM f.net.pl.toNat f.src) (sndV f b).way=M /\
   ((sndV f b).kind=1->okEx f.net M b=true/\(exAll f.net M b).code=0/\goodM f.net.pl (oneM f.net.pl.toNat f.dst)=true/\oneM f.net.pl.toNat f.dst∉(exAll f.net M b).sp.ms) /\
   ((sndV f b).kind=2->overB M (oneM f.net.pl.toNat f.dst)=true)):=by
 have hgd:goodM f.net.pl (oneM f.net.pl.toNat f.dst)=true:=zxa (zjm hg).1 (zjm hg).2.2.1
 have hmk:=zxf hg
 have hb2:=hb
 simp only[inB,L'c,decide_eq_true_eq]at hb2
 by_cases hc:(exAll f.net (oneM f.net.pl.toNat f.src) b).code=0
 case neg=>unfold sndV at ho;rw[if_neg hc]at ho;simp at ho
 have e1:sndV f b=chkV f.net.tr.length (exAll f.net (oneM f.net.pl.toNat f.src) b).sp.ms (exAll f.net (oneM f.net.pl.toNat f.src) b).sp.ar (oneM f.net.pl.toNat f.dst):=by
  unfold sndV at ho ⊢
  rw[if_pos hc]at ho ⊢
  split at ho
  ·rename_i h;rw[if_pos h]
  ·simp at ho
 have hw:(chkV f.net.tr.length (exAll f.net (oneM f.net.pl.toNat f.src) b).sp.ms (exAll f.net (oneM f.net.pl.toNat f.src) b).sp.ar (oneM f.net.pl.toNat f.dst)).way.length<=60:=by
  unfold sndV at ho
  rw[if_pos hc]at ho
  split at ho
  ·assumption
  ·simp at ho
 rw[e1]at ho ⊢
 obtain⟨hX,hcl⟩:=ze7 hmk hb2.1
 have hcl:=hcl hc
 have hbf:=ze5 hmk hb2.1
 have hA:=ze3 hmk hb2.1 hc
 have hZ:stays f.net (exAll f.net (oneM f.net.pl.toNat f.src) b).sp.ms:=fun z hz t ht=>by
  obtain⟨q,hq,rfl⟩:=zvu hz
  exact hcl q hq hq t ht
 have way:∀k:Nat,k<(exAll f.net (oneM f.net.pl.toNat f.src) b).sp.ms.length->(tw (exAll f.net (oneM f.net.pl.toNat f.src) b).sp.ar k).length<=60->okSeq f.net (oneM f.net.pl.toNat f.src) (tw (exAll f.net (oneM f.net.pl.toNat f.src) b).sp.ar k)=true/\many f.net (oneM f.net.pl.toNat f.src) (tw (exAll f.net (oneM f.net.pl.toNat f.src) b).sp.ar k)=(tw (exAll f.net (oneM f.net.pl.toNat f.src) b).sp.ar k).length/\fsq f.net (oneM f.net.pl.toNat f.src) (tw (exAll f.net (oneM f.net.pl.toNat f.src) b).sp.ar k)=(exAll f.net (oneM f.net.pl.toNat f.src) b).sp.ms.getD k []:=fun k hk hlen=>by
  obtain⟨q1,q2⟩:=z1gg hX hbf k k [] hk (z11j ..) (by simp)
  rw[M'e]at q1 q2
  refine⟨?_,q1.1,q1.2⟩
  unfold okSeq areTr
  rw[hmk,P'e,decide_eq_true hlen,P'e]
  exact L'h.2 q2
 unfold chkV at ho hw ⊢
 split at ho
 ·rename_i h1
  rw[if_pos h1]at hw ⊢
  obtain⟨k,hk,hkl,hkf⟩:=zl1 h1
  rw[z1fo]at hkl
  rw[hk,P'm]at hw ⊢
  obtain⟨w1,w2,w3⟩:=way k hkl hw
  refine .inr ⟨.inl rfl,rfl,w1,w2,_,w3,fun _=>?_,fun h=>by simp at h⟩
  have hM:=zj8 hkl
  have hMm:=hX.good _ hM
  obtain⟨s1,s2⟩:=ze8 hZ hX.lenb hMm hb2.1 hM
  refine⟨by simp only[okEx,hMm,hb,P'd],s1,hgd,fun hE=>?_⟩
  have hY:=(ze7 hMm hb2.1).1
  have hr:=z1e7 hX hA hY s2 hE
  rw[zgk hX.nodup hkl]at hr
  have hes:endS (exAll f.net (oneM f.net.pl.toNat f.src) b).sp.ms (oneM f.net.pl.toNat f.dst)=[findM (exAll f.net (oneM f.net.pl.toNat f.src) b).sp.ms (oneM f.net.pl.toNat f.dst)]:=by
   unfold endS
   rw[if_pos (zgm.2 (s2 _ hE))]
  rw[<-hes]at hr
  rw[(z1fm hkl).2 hr]at hkf
  simp at hkf
 ·rename_i h1
  rw[if_neg h1]at hw ⊢
  split at ho
  ·rename_i h2
   rw[if_pos h2]at hw ⊢
   obtain⟨k,hk,hkl,hkf⟩:=zl1 h2
   rw[hk,P'm]at hw ⊢
   obtain⟨w1,w2,w3⟩:=way k hkl hw
   refine .inr ⟨.inr rfl,rfl,w1,w2,_,w3,fun h=>by simp at h,fun _=>?_⟩
   rw[<-zj9 hkl];exact hkf
  ·rename_i h2
   rw[if_neg h2]
   split at ho
   ·rename_i h3
    rw[if_pos h3]
    refine .inl ⟨rfl,rfl,hc,?_⟩
    show List.getD _ 0 0∈_
    rw[N'u,L'v h3]
    exact P'l h3
   ·simp at ho
end Go.Proofs.YtbaclnecajkknaaGreat.Pi
namespace Go.Proofs.YtbaclnecajkknaaGreat.Pi
open Go
set_option linter.all false

inductive Rch (n:Net)(s:List Int):List Int->Prop
|base:Rch n s s
|step {m:List Int}{t:Int}(h:Rch n s m)(ht:t∈enabL n m):Rch n s (zgw (trAt n t) m)
theorem Rch.trans{n:Net}{a b c:List Int}(h:Rch n a b)(h':Rch n b c):Rch n a c:=by
 induction h' with
 |base=>exact h
 |step _ ht ih=>exact ih.step ht
structure Snd(f:Fl):Prop where
ends:∀m,Rch f.net (oneM f.net.pl.toNat f.src) m->Rch f.net m (oneM f.net.pl.toNat f.dst)
over:∀m,Rch f.net (oneM f.net.pl.toNat f.src) m->overB m (oneM f.net.pl.toNat f.dst)=false
used:∀t:Nat,t<f.net.tr.length->∃m,Rch f.net (oneM f.net.pl.toNat f.src) m/\(t:Int)∈enabL f.net m
section
variable {n:Net}{start:List Int}{b:Int}
end
/-! ### Two flows, marking by marking -/
structure Sim(f g:Fl)(R:List Int->List Int->Prop):Prop where
start:R (oneM f.net.pl.toNat f.src) (oneM g.net.pl.toNat g.src)
step:∀m m' t,Rch f.net (oneM f.net.pl.toNat f.src) m->Rch g.net (oneM g.net.pl.toNat g.src) m'->R m m'->t∈enabL f.net m->∃m₂,Rch g.net m' m₂/\R (zgw (trAt f.net t) m) m₂
theorem Sim.rch{f g:Fl}{R:List Int->List Int->Prop}(h:Sim f g R){m:List Int}(hm:Rch f.net (oneM f.net.pl.toNat f.src) m):∃m',Rch g.net (oneM g.net.pl.toNat g.src) m'/\R m m':=by
 induction hm with
 |base=>exact⟨_,.base,h.start⟩
 |step hm ht ih=>
  obtain⟨m',h1,h2⟩:=ih
  obtain⟨m₂,h3,h4⟩:=h.step _ m' _ hm h1 h2 ht
  exact⟨m₂,h1.trans h3,h4⟩
theorem Sim.from{f g:Fl}{R:List Int->List Int->Prop}(h:Sim f g R){a a' m:List Int}(ha:Rch f.net (oneM f.net.pl.toNat f.src) a)(ha':Rch g.net (oneM g.net.pl.toNat g.src) a')(hr:R a a')(hm:Rch f.net a m):∃m',Rch g.net a' m'/\R m m':=by
 induction hm with
 |base=>exact⟨_,.base,hr⟩
 |step hm ht ih=>
  obtain⟨m',h1,h2⟩:=ih
  obtain⟨m₂,h3,h4⟩:=h.step _ m' _ (ha.trans hm) (ha'.trans h1) h2 ht
  exact⟨m₂,h1.trans h3,h4⟩
end Go.Proofs.YtbaclnecajkknaaGreat.Pi
namespace Go.Proofs.YtbaclnecajkknaaGreat.Pi
open Go
set_option linter.all false

instance decTr:DecidableEq Tr:=fun a b=>decidable_of_iff (a.inn=b.inn/\a.out=b.out/\a.rst=b.rst) (by cases a;cases b;simp)
instance decNet:DecidableEq Net:=fun a b=>decidable_of_iff (a.pl=b.pl/\a.tr=b.tr) (by cases a;cases b;simp)
/-! ### Sizes of nets -/
/-! ### Copies, in part done -/
/-! ### A net's fields, zss -/
/-! ### Trees -/
structure Br where
op:Int
n:Int
deriving DecidableEq
/-! ### Letters and words -/
end Go.Proofs.YtbaclnecajkknaaGreat.Pi
namespace Go.Proofs.YtbaclnecajkknaaGreat.Pi
open Go
set_option linter.all false
def lessP(q p:Int):Int:=if q<p then p-1 else p
def dropL(q:Int)(l:List Int):List Int:=(l.filter fun p=>!(p==q)).map (lessP q)
def dropT(q:Int)(t:Tr):Tr:=⟨dropL q t.inn,dropL q t.out,dropL q t.rst⟩
theorem zk9{p:Int}{t:Tr}(h:goodT p t=true):(∀x∈t.inn,0<=x/\x<p)/\(∀x∈t.out,0<=x/\x<p)/\(∀x∈t.rst,0<=x/\x<p):=by
 by_cases hp:0<=p
 ·have:=zk5 h (m:=L'0 p.toNat 0) (by simp;omega)
  simp only[M'j]at this
  exact⟨fun x hx=>by have:=this.1 x hx;omega,fun x hx=>by have:=this.2.1 x hx;omega,fun x hx=>by have:=this.2.2 x hx;omega⟩
 ·obtain⟨h0,h1,-,-⟩:=zk8 h
  cases hi:t.inn with
  |nil=>exact absurd hi h0
  |cons a l=>
   rw[hi]at h1
   simp[z11n,inB]at h1
   omega
/-! ### The new numbers of z11n -/
/-! ### Which place is left out -/
end Go.Proofs.YtbaclnecajkknaaGreat.Pi
namespace Go.Proofs.YtbaclnecajkknaaGreat.Pi
open Go
set_option linter.all false

inductive Cn (n:Net)(bk:Bool)(p:Int):Int->Prop
|base:Cn n bk p p
|step {q x:Int}{t:Tr}(h:Cn n bk p q)(ht:t∈n.tr)(hi:q∈sideI bk t)(ho:x∈sideO bk t):Cn n bk p x
theorem zsk{l:List Int}:∀{P:List Bool}{i:Nat},(∀x∈l,0<=x)->((markB P l).getD i false=true↔P.getD i false=true\/(i<P.length/\(i:Int)∈l)):=by
 unfold markB
 induction l with
 |nil=>intros;simp
 |cons x l ih=>
  intro P i h0
  have hx:=h0 x (by simp)
  rw[P'o,ih (fun y hy=>h0 y (by simp[hy])),N'9]
  have key:(P.set x.toNat true).getD i false=true↔P.getD i false=true\/(i<P.length/\(i:Int)=x):=by
   simp only[N'u,L'k]
   by_cases hxi:x.toNat=i
   ·have e:(i:Int)=x:=by omega
    by_cases hl:i<P.length
    ·simp[hxi,e,hl]
    ·have:P[i]?=none:=L'r (by omega)
     simp[hxi,hl]
   ·have e:¬(i:Int)=x:=by omega
    simp[hxi,e]
  rw[key,M'z]
  constructor
  ·rintro((h|h)|h)
   ·exact .inl h
   ·exact .inr ⟨h.1,.inl h.2⟩
   ·exact .inr ⟨h.1,.inr h.2⟩
  ·rintro(h|⟨h1,h|h⟩)
   ·exact .inl (.inl h)
   ·exact .inl (.inr ⟨h1,h⟩)
   ·exact .inr ⟨h1,h⟩
structure ClI(n:Net)(bk:Bool)(p:Int)(s:Cl):Prop where
pll:s.pl.length=n.pl.toNat
trl:s.tr.length=n.tr.length
pls:∀i:Nat,s.pl.getD i false=true->Cn n bk p i
trs:∀k:Nat,s.tr.getD k false=true->k<n.tr.length/\hitB s.pl (sideI bk (trN n k))=true
out:∀k:Nat,s.tr.getD k false=true->∀x∈sideO bk (trN n k),s.pl.getD x.toNat false=true
one:s.pl.getD p.toNat false=true
section
variable {n:Net}{bk:Bool}{p:Int}
theorem z1ag(hg:goodN n=true){t:Tr}(ht:t∈n.tr):(∀x∈sideI bk t,0<=x/\x<n.pl)/\(∀x∈sideO bk t,0<=x/\x<n.pl):=by
 have h:=zk9 ((zjy hg).2.2.2 t ht)
 unfold sideI sideO
 cases bk
 ·exact⟨h.1,h.2.1⟩
 ·exact⟨h.2.1,h.1⟩
theorem zku{P Q:List Bool}{l:List Int}(h:∀i:Nat,P.getD i false=true->Q.getD i false=true)(hh:hitB P l=true):hitB Q l=true:=by
 unfold hitB at hh ⊢
 rw[N't]at hh ⊢
 obtain⟨x,h1,h2⟩:=hh
 exact⟨x,h1,h _ h2⟩
theorem ClI.step(hg:goodN n=true){s:Cl}(h:ClI n bk p s){k:Nat}(hk:k<n.tr.length):ClI n bk p (za8 n bk s k):=by
 by_cases hc:s.tr.getD k false=false/\hitB s.pl (sideI bk (trN n k))=true
 ·rw[zac hc.1 hc.2]
  have hm:trN n k∈n.tr:=by rw[z1fx hk];exact P'l _
  have hs:=z1ag (bk:=bk) hg hm
  have hmk:=fun i=>zsk (l:=sideO bk (trN n k)) (P:=s.pl) (i:=i) (fun x hx=>(hs.2 x hx).1)
  have hmono:∀i:Nat,s.pl.getD i false=true->(markB s.pl (sideO bk (trN n k))).getD i false=true:=fun i hi=>(hmk i).2 (.inl hi)
  have hmarked:∀x∈sideO bk (trN n k),(markB s.pl (sideO bk (trN n k))).getD x.toNat false=true:=fun x hx=>(hmk _).2 (.inr ⟨by rw[h.pll];have:=hs.2 x hx;omega,by rw[P'n (hs.2 x hx).1];exact hx⟩)
  refine⟨by rw[zsl];exact h.pll,by simp[h.trl],fun i hi=>?_,fun j hj=>?_,fun j hj x hx=>?_,hmono _ h.one⟩
  ·rcases(hmk i).1 hi with hi|⟨_,hi⟩
   ·exact h.pls i hi
   ·have:=hc.2
    unfold hitB at this
    rw[N't]at this
    obtain⟨q,hq1,hq2⟩:=this
    have hq:=h.pls _ hq2
    rw[P'n (hs.1 q hq1).1]at hq
    exact .step hq hm hq1 hi
  ·simp only[N'u,L'k]at hj
   by_cases e:k=j
   ·subst e
    exact⟨hk,zku hmono hc.2⟩
   ·simp only[e,if_false]at hj
    have:=h.trs j (by rw[N'u];exact hj)
    exact⟨this.1,zku hmono this.2⟩
  ·simp only[N'u,L'k]at hj
   by_cases e:k=j
   ·subst e;exact hmarked x hx
   ·simp only[e,if_false]at hj
    exact hmono _ (h.out j (by rw[N'u];exact hj) x hx)
 ·rw[zab]
  ·exact h
  ·cases h1:s.tr.getD k false with
   |true=>exact .inl rfl
   |false=>
    right
    cases h2:hitB s.pl (sideI bk (trN n k))with
    |true=>exact absurd ⟨h1,h2⟩ hc
    |false=>rfl
theorem ClI.ch{s:Cl}(h:ClI n bk p s)(c:Bool):ClI n bk p ⟨s.pl,s.tr,c⟩:=⟨h.pll,h.trl,h.pls,h.trs,h.out,h.one⟩
theorem ClI.k(hg:goodN n=true){s:Cl}(h:ClI n bk p s):∀k,k<=n.tr.length->ClI n bk p (clK n bk s k)
|0,_=>h.ch false
|k+1,hk=>by rw[za1];exact(h.k hg k (by omega)).step hg (by omega)
end
structure Gf(f:Fl):Prop where
net:goodN f.net=true
src:0<=f.src/\f.src<f.net.pl
dst:0<=f.dst/\f.dst<f.net.pl
ne:f.src≠f.dst
sp:∀t∈f.net.tr,z1cj f t=false
fwd:∀x:Int,0<=x->x<f.net.pl->Cn f.net false f.src x
bwd:∀x:Int,0<=x->x<f.net.pl->Cn f.net true f.dst x
out:∀t∈f.net.tr,t.out≠[]
end Go.Proofs.YtbaclnecajkknaaGreat.Pi
namespace Go.Proofs.YtbaclnecajkknaaGreat.Pi
open Go
set_option linter.all false

/-! ### Increasing lists as sets -/
theorem z131:∀{l:List Int} {x y:Int},y∈putI l x↔y∈l\/y=x
 |[],x,y=>by simp[putI]
 |z::l,x,y=>by
  unfold putI
  split
  ·have:=z131 (l:=l) (x:=x) (y:=y)
   simp only[M'z,this,or_assoc]
  ·split
   ·rename_i h1 h2
    subst h2
    simp only[M'z]
    constructor
    ·intro h;exact .inl h
    ·rintro(h|h)
     ·exact h
     ·exact .inl h
   ·simp only[M'z]
    constructor
    ·rintro(h|h|h)
     ·exact .inr h
     ·exact .inl (.inl h)
     ·exact .inl (.inr h)
    ·rintro((h|h)|h)
     ·exact .inr (.inl h)
     ·exact .inr (.inr h)
     ·exact .inl h
theorem z132:∀{l:List Int}{x:Int},l.Pairwise (·<·)->(putI l x).Pairwise (·<·)
 |[],x,_=>by simp[putI]
 |z::l,x,h=>by
  rw[P'q]at h
  unfold putI
  split
  ·rename_i hz
   rw[P'q]
   refine⟨fun y hy=>?_,z132 h.2⟩
   rcases z131.1 hy with hy|rfl
   ·exact h.1 y hy
   ·exact hz
  ·split
   ·rw[P'q];exact h
   ·rename_i h1 h2
    rw[P'q,P'q]
    refine⟨fun y hy=>?_,h⟩
    rcases M'z.1 hy with rfl| hy
    ·omega
    ·have:=h.1 y hy;omega
theorem zna{l:List Int}(h:incr l=true):l.Pairwise (·<·):=by simpa [incr]using h
theorem z111{l:List Int}(h:l.Pairwise (·<·)):incr l=true:=by simpa [incr]using h
def z1gk(l b:List Int):List Int:=b.foldl putI l
theorem z1gn:∀{b l:List Int} {y:Int},y∈z1gk l b↔y∈l\/y∈b
 |[],l,y=>by simp[z1gk]
 |x::b,l,y=>by
  have:=z1gn (b:=b) (l:=putI l x) (y:=y)
  unfold z1gk at this ⊢
  rw[P'o,this,z131,M'z,or_assoc]
theorem z1go:∀{b l:List Int},l.Pairwise (·<·)->(z1gk l b).Pairwise (·<·)
|[],_,h=>h
|x::b,l,h=>by unfold z1gk;rw[P'o];exact z1go (b:=b) (z132 h)
def mixO(a b:List Int)(p:Int):List Int:=z1gk (wout a [p]) b
theorem ztf{a b:List Int}{p:Int}(ha:incr a=true):incr (mixO a b p)=true:=z111 (z1go (zna (z1hm ha)))
theorem zti{a b:List Int}{p y:Int}(h:y∈mixO a b p):y∈a\/y∈b:=by
 rcases z1gn.1 h with h|h
 ·exact .inl (z1hq y h)
 ·exact .inr h
/-! ### Leaving out a place and a transition -/
def keepT(tr:List Tr)(tq:Int)(i:Nat):List Tr:=if 0<=tq/\tq<i then(tr.take i).eraseIdx tq.toNat else tr.take i
/-! ### A flow with one transition -/
/-! ### What is fused -/
end Go.Proofs.YtbaclnecajkknaaGreat.Pi
namespace Go.Proofs.YtbaclnecajkknaaGreat.Pi
open Go
set_option linter.all false
theorem z11s{a b:List Int}{n p:Int}(ha:z11n n a=true)(hb:∀x∈b,0<=x/\x<n):z11n n (mixO a b p)=true:=by
 simp only[z11n,L'c,L'h]
 refine⟨ztf (z11q ha),fun x hx=>?_⟩
 have:0<=x/\x<n:=by
  rcases zti hx with hx|hx
  ·exact z11p ha x hx
  ·exact hb x hx
 simp only[inB,L'c,decide_eq_true_eq]
 omega
theorem zjx{n:Net}(h1:1<=n.pl/\n.pl<=16)(h2:n.tr.length<=24)(h3:∀t∈n.tr,goodT n.pl t=true):goodN n=true:=by
 simp only[goodN,inB,L'c,decide_eq_true_eq,L'h]
 exact⟨⟨h1,h2⟩,h3⟩
end Go.Proofs.YtbaclnecajkknaaGreat.Pi
namespace Go.Proofs.YtbaclnecajkknaaGreat.Pi
open Go
set_option linter.all false

/-! ### Firing by transitions -/
theorem zt9{n:Net}{t:Tr}(ht:t∈n.tr):∃k:Nat,k<n.tr.length/\trAt n (k:Int)=t:=by
 obtain⟨k,hk,rfl⟩:=P'p.1 ht
 exact⟨k,hk,(z1fr (n:=n) (t:=(k:Int)) (by simpa using hk)).symm.trans (by simp)⟩
theorem zdp{n:Net}{m:List Int}{k:Int}(h:k∈enabL n m):trAt n k∈n.tr/\canT (trAt n k) m=true:=by
 obtain⟨h1,h2,h3⟩:=zdl.1 h
 exact⟨by rw[<-z1fr h2];exact P'l _,h3⟩
theorem Rch.tr{n:Net}{s m:List Int}(h:Rch n s m){t:Tr}(ht:t∈n.tr)(hc:canT t m=true):Rch n s (zgw t m):=by
 obtain⟨k,hk,rfl⟩:=zt9 ht
 exact h.step (zdl.2 ⟨by omega,by simpa using hk,hc⟩)
theorem Rch.ind{n:Net}{s:List Int}{P:List Int->Prop}(h0:P s)(hs:∀m t,Rch n s m->P m->t∈n.tr->canT t m=true->P (zgw t m)){m:List Int}(h:Rch n s m):P m:=by
 induction h with
 |base=>exact h0
 |step h ht ih=>obtain⟨h1,h2⟩:=zdp ht;exact hs _ _ h ih h1 h2
structure Mk(n:Net)(m:List Int):Prop where
len:(m.length:Int)=n.pl
pos:∀x:Int,0<=x->0<=at_ m x
theorem Mk.fire{n:Net}{m:List Int}{t:Tr}(h:Mk n m)(hg:goodT n.pl t=true)(hc:canT t m=true):Mk n (zgw t m):=by
 refine⟨by rw[zgy];exact h.len,fun x hx=>?_⟩
 rw[z4x hg h.len hx]
 have:=h.pos x hx
 by_cases hi:x∈t.inn
 ·have:=z8j hc hi
  split<;>split<;>simp[hi]<;>omega
 ·split<;>split<;>simp[hi]<;>omega
theorem Mk.rch{n:Net}{s m:List Int}(h:Mk n s)(hg:goodN n=true)(hr:Rch n s m):Mk n m:=
hr.ind (P:=Mk n) h fun m t _ hm ht hc=>hm.fire ((zjy hg).2.2.2 t ht) hc
theorem zua{n:Net}{p:Int}(hp:0<=p/\p<n.pl):Mk n (oneM n.pl.toNat p):=by
 refine⟨by simp[oneM];omega,fun x hx=>?_⟩
 rw[z51 ⟨hp.1,by omega⟩ hx];split<;>omega
theorem zu9{n:Net}{a b:List Int}(ha:Mk n a)(hb:Mk n b)(h:∀x:Int,0<=x->x<n.pl->at_ a x=at_ b x):a=b:=
z4u (by have:=ha.len;have:=hb.len;omega) fun x h0 h1=>h x h0 (by have:=ha.len;omega)
structure SndT(f:Fl):Prop where
ends:∀m,Rch f.net (oneM f.net.pl.toNat f.src) m->Rch f.net m (oneM f.net.pl.toNat f.dst)
over:∀m,Rch f.net (oneM f.net.pl.toNat f.src) m->1<=at_ m f.dst->m=oneM f.net.pl.toNat f.dst
used:∀t∈f.net.tr,∃m,Rch f.net (oneM f.net.pl.toNat f.src) m/\canT t m=true
/-! ### Places renumbered -/
def upP(d x:Int):Int:=if x<d then x else x+1
theorem zqm{d x:Int}:lessP d (upP d x)=x:=by unfold lessP upP;split<;>split<;>omega
theorem up_ne{d x:Int}:upP d x≠d:=by unfold upP;split<;>omega
theorem z1gs{d x:Int}(h:x≠d):upP d (lessP d x)=x:=by unfold lessP upP;split<;>split<;>omega
theorem zql{d x y:Int}(hx:x≠d)(hy:y≠d)(h:lessP d x=lessP d y):x=y:=by
 rw[<-z1gs hx,<-z1gs hy,h]
theorem up_in{d x p:Int}(hd:0<=d/\d<p)(h:0<=x/\x<p-1):0<=upP d x/\upP d x<p:=by unfold upP;split<;>omega
theorem zqk{d x p:Int}(hd:0<=d/\d<p)(hx:x≠d)(h:0<=x/\x<p):0<=lessP d x/\lessP d x<p-1:=by unfold lessP;split<;>omega
theorem zd1{d:Int}{l:List Int}{y:Int}:y∈dropL d l↔∃x∈l,x≠d/\y=lessP d x:=by
 unfold dropL
 rw[M's]
 constructor
 ·rintro⟨x,h,rfl⟩
  rw[N'z]at h
  exact⟨x,h.1,by simpa using h.2,rfl⟩
 ·rintro⟨x,h1,h2,rfl⟩
  exact⟨x,by rw[N'z];exact⟨h1,by simpa using h2⟩,rfl⟩
theorem zd0{d:Int}{l:List Int}{x:Int}(hx:x≠d):lessP d x∈dropL d l↔x∈l:=by
 rw[zd1]
 constructor
 ·rintro⟨y,h1,h2,h3⟩
  rw[zql hx h2 h3];exact h1
 ·intro h;exact⟨x,h,hx,rfl⟩
theorem zd3{d p:Int}{l:List Int}(hd:0<=d/\d<p)(h:z11n p l=true):z11n (p-1) (dropL d l)=true:=by
 have h1:=z11p h
 have h2:=zna (z11q h)
 simp only[z11n,L'c,L'h]
 refine⟨z111 ?_,fun y hy=>?_⟩
 ·unfold dropL
  rw[Q'y]
  refine List.Pairwise.imp_of_mem ?_ (h2.filter _)
  intro a b ha hb hab
  have e1:a≠d:=by have:=(N'z.1 ha).2;simpa using this
  have e2:b≠d:=by have:=(N'z.1 hb).2;simpa using this
  unfold lessP;split<;>split<;>omega
 ·obtain⟨x,hx,hne,rfl⟩:=zd1.1 hy
  have:=zqk hd hne (h1 x hx)
  simp only[inB,L'c,decide_eq_true_eq];omega
theorem zk2{d p:Int}{t:Tr}(hd:0<=d/\d<p)(h:goodT p t=true)(hn:∃x∈t.inn,x≠d):goodT (p-1) (dropT d t)=true:=by
 obtain⟨h1,h2,h3,h4⟩:=zk8 h
 obtain⟨x,hx,hxd⟩:=hn
 have:dropL d t.inn≠[]:=Q'b ((zd0 hxd).2 hx)
 simp only[goodT,dropT,zd3 hd h2,zd3 hd h3,zd3 hd h4,Q'e,N'e,List.isEmpty_eq_false_iff]
 exact this
theorem ze1{α:Type}{l:List α}{i:Nat}(hi:i<l.length){x:α}:x∈l↔x=l[i]\/x∈l.eraseIdx i:=by
 rw[List.eraseIdx_eq_take_drop_succ,L'j]
 have:=List.take_append_drop i l
 rw[N'l hi]at this
 constructor
 ·intro h
  rw[<-this,L'j,M'z]at h
  rcases h with h|h|h
  ·exact .inr (.inl h)
  ·exact .inl h
  ·exact .inr (.inr h)
 ·rintro(h|h|h)
  ·rw[h];exact P'l hi
  ·exact List.mem_of_mem_take h
  ·exact List.mem_of_mem_drop h
/-! ### A place with one taker that takes nothing else is passed over -/
def rpT(d:Int)(B:List Int)(u:Tr):Tr:=if hasB u.out d=true then⟨u.inn,mixO u.out B d,u.rst⟩else u
theorem z17m(d:Int)(B:List Int)(u:Tr):(rpT d B u).inn=u.inn:=by unfold rpT;split<;>rfl
theorem z17o(d:Int)(B:List Int)(u:Tr):(rpT d B u).rst=u.rst:=by unfold rpT;split<;>rfl
theorem z1hp{l m:List Int}{x:Int}:x∈wout l m↔x∈l/\x∉m:=by
 unfold wout
 rw[N'z]
 simp[hasB]
theorem z17n{d:Int}{B:List Int}{u:Tr}{x:Int}(hx:x≠d):x∈(rpT d B u).out↔x∈u.out\/(d∈u.out/\x∈B):=by
 unfold rpT
 by_cases h:d∈u.out
 ·rw[if_pos (by simp[hasB,h])]
  show x∈mixO u.out B d↔_
  unfold mixO
  rw[z1gn,z1hp]
  simp[hx,h]
 ·rw[if_neg (by simp[hasB,h])]
  simp[h]
structure Fz(f g:Fl)(d:Int)(i:Nat)(B:List Int):Prop where
gf:Gf f
nr:hasR f.net=false
hi:i<f.net.tr.length
inn:f.net.tr[i].inn=[d]
out:f.net.tr[i].out=B
ds:d≠f.src
dd:d≠f.dst
dB:d∉B
oth:∀u∈f.net.tr.eraseIdx i,d∉u.inn
dis:∀u∈f.net.tr.eraseIdx i,d∈u.out->∀x∈B,x∉u.out
pl:g.net.pl=f.net.pl-1
src:g.src=lessP d f.src
dst:g.dst=lessP d f.dst
trs:g.net.tr=(f.net.tr.eraseIdx i).map fun u=>dropT d (rpT d B u)
section
variable {f g:Fl}{d:Int}{i:Nat}{B:List Int}
theorem Fz.tin(h:Fz f g d i B):f.net.tr[i]'h.hi∈f.net.tr:=P'l _
theorem Fz.dI(h:Fz f g d i B):0<=d/\d<f.net.pl:=by
 have:=(zk9 ((zjy h.gf.net).2.2.2 _ h.tin)).1 d (by rw[h.inn];simp)
 exact this
theorem Fz.mem(h:Fz f g d i B){t:Tr}:t∈g.net.tr↔∃u∈f.net.tr.eraseIdx i,t=dropT d (rpT d B u):=by
 rw[h.trs,M's]
 exact⟨fun⟨u,h1,h2⟩=>⟨u,h1,h2.symm⟩,fun⟨u,h1,h2⟩=>⟨u,h1,h2.symm⟩⟩
theorem Fz.sub(_:Fz f g d i B){u:Tr}(hu:u∈f.net.tr.eraseIdx i):u∈f.net.tr:=List.mem_of_mem_eraseIdx hu
theorem Fz.inn_iff(_:Fz f g d i B){u:Tr}{x:Int}(hx:x≠d):lessP d x∈(dropT d (rpT d B u)).inn↔x∈u.inn:=by
 show lessP d x∈dropL d (rpT d B u).inn↔_
 rw[zd0 hx,z17m]
theorem Fz.out_iff(_:Fz f g d i B){u:Tr}{x:Int}(hx:x≠d):lessP d x∈(dropT d (rpT d B u)).out↔x∈u.out\/(d∈u.out/\x∈B):=by
 show lessP d x∈dropL d (rpT d B u).out↔_
 rw[zd0 hx,z17n hx]
theorem Fz.rst(h:Fz f g d i B){u:Tr}(hu:u∈f.net.tr):u.rst=[]:=by
 obtain⟨k,hk,rfl⟩:=P'p.1 hu
 exact zkq h.nr hk
theorem Fz.bne(h:Fz f g d i B):B≠[]:=by rw[<-h.out];exact h.gf.out _ h.tin
theorem Fz.bin(h:Fz f g d i B){x:Int}(hx:x∈B):0<=x/\x<f.net.pl:=by
 rw[<-h.out]at hx
 exact(zk9 ((zjy h.gf.net).2.2.2 _ h.tin)).2.1 x hx
theorem Fz.goodT(h:Fz f g d i B){u:Tr}(hu:u∈f.net.tr.eraseIdx i):Pi.goodT g.net.pl (dropT d (rpT d B u))=true:=by
 have hg:=(zjy h.gf.net).2.2.2 u (h.sub hu)
 rw[h.pl]
 refine zk2 h.dI ?_ ?_
 ·unfold rpT
  split
  ·obtain⟨h1,h2,h3,h4⟩:=zk8 hg
   simp[Pi.goodT,h1,h2,h4,z11s h3 (b:=B) (p:=d) (fun x hx=>h.bin hx)]
  ·exact hg
 ·rw[z17m]
  obtain⟨x,hx⟩:=P'y _ (zk8 hg).1
  exact⟨x,hx,fun e=>h.oth u hu (e▸hx)⟩
theorem Fz.srcI(h:Fz f g d i B):0<=g.src/\g.src<g.net.pl:=by rw[h.src,h.pl];exact zqk h.dI (Ne.symm h.ds) h.gf.src
theorem Fz.dstI(h:Fz f g d i B):0<=g.dst/\g.dst<g.net.pl:=by rw[h.dst,h.pl];exact zqk h.dI (Ne.symm h.dd) h.gf.dst
theorem Fz.goodN(h:Fz f g d i B):Pi.goodN g.net=true:=by
 obtain⟨g1,g2,g3,g4⟩:=zjy h.gf.net
 have:=h.srcI
 have hp:=h.pl
 refine zjx ⟨by omega,by omega⟩ ?_ fun t ht=>?_
 ·rw[h.trs,Q'1];exact L'g (List.length_eraseIdx_le ..) g3
 ·obtain⟨u,hu,rfl⟩:=h.mem.1 ht
  exact h.goodT hu
theorem Fz.in_g(h:Fz f g d i B){u:Tr}(hu:u∈f.net.tr.eraseIdx i):dropT d (rpT d B u)∈g.net.tr:=h.mem.2 ⟨u,hu,rfl⟩
theorem Fz.fwd(h:Fz f g d i B){x:Int}(hx:Cn f.net false f.src x):(x≠d->Cn g.net false g.src (lessP d x))/\(x=d->∀y∈B,Cn g.net false g.src (lessP d y)):=by
 induction hx with
 |base=>exact⟨fun _=>by rw[h.src];exact .base,fun e=>absurd e.symm h.ds⟩
 |@step q x t _ ht hi ho ih=>
  have hi:q∈t.inn:=hi
  have ho:x∈t.out:=ho
  rcases(ze1 h.hi).1 ht with rfl| ht
  ·rw[h.inn]at hi
   rw[h.out]at ho
   simp only[N'2]at hi
   exact⟨fun _=>ih.2 hi x ho,fun e=>absurd (e▸ho) h.dB⟩
  ·have hq:q≠d:=fun e=>h.oth t ht (e▸hi)
   have h1:=ih.1 hq
   refine⟨fun hx=>?_,fun e y hy=>?_⟩
   ·exact .step h1 (h.in_g ht) ((h.inn_iff hq).2 hi) ((h.out_iff hx).2 (.inl ho))
   ·subst e
    exact .step h1 (h.in_g ht) ((h.inn_iff hq).2 hi) ((h.out_iff (fun e=>h.dB (e▸hy))).2 (.inr ⟨ho,hy⟩))
theorem Fz.bwd(h:Fz f g d i B){x:Int}(hx:Cn f.net true f.dst x):(x≠d->Cn g.net true g.dst (lessP d x))/\(x=d->∃y∈B,Cn g.net true g.dst (lessP d y)):=by
 induction hx with
 |base=>exact⟨fun _=>by rw[h.dst];exact .base,fun e=>absurd e.symm h.dd⟩
 |@step q x t _ ht hi ho ih=>
  have hi:q∈t.out:=hi
  have ho:x∈t.inn:=ho
  rcases(ze1 h.hi).1 ht with rfl| ht
  ·rw[h.inn]at ho
   rw[h.out]at hi
   simp only[N'2]at ho
   exact⟨fun hx=>absurd ho hx,fun _=>⟨q,hi,ih.1 fun e=>h.dB (e▸hi)⟩⟩
  ·have hx:x≠d:=fun e=>h.oth t ht (e▸ho)
   refine⟨fun _=>?_,fun e=>absurd e hx⟩
   by_cases hq:q=d
   ·obtain⟨y,hy,hc⟩:=ih.2 hq
    exact .step hc (h.in_g ht) ((h.out_iff (fun e=>h.dB (e▸hy))).2 (.inr ⟨hq▸hi,hy⟩)) ((h.inn_iff hx).2 ho)
   ·exact .step (ih.1 hq) (h.in_g ht) ((h.out_iff hq).2 (.inl hi)) ((h.inn_iff hx).2 ho)
theorem Fz.good(h:Fz f g d i B):Gf g:=by
 have hpl:=h.pl
 refine⟨h.goodN,h.srcI,h.dstI,?_,fun t ht=>?_,fun x h0 h1=>?_,fun x h0 h1=>?_,fun t ht=>?_⟩
 ·rw[h.src,h.dst]
  exact fun e=>h.gf.ne (zql (Ne.symm h.ds) (Ne.symm h.dd) e)
 ·obtain⟨u,hu,rfl⟩:=h.mem.1 ht
  have hs:=h.gf.sp u (h.sub hu)
  have hsi:=h.gf.sp _ h.tin
  unfold z1cj at hs hsi ⊢
  simp only[Q'a,hasB,decide_eq_false_iff_not]at hs hsi ⊢
  have hr:(dropT d (rpT d B u)).rst=[]:=by show dropL d (rpT d B u).rst=[];rw[z17o,h.rst (h.sub hu)];rfl
  rw[hr,h.src,h.dst,h.inn_iff (Ne.symm h.dd),h.out_iff (Ne.symm h.ds)]
  refine⟨⟨⟨?_,hs.1.1.2⟩,by simp⟩,by simp⟩
  rintro(h1|⟨_,h1⟩)
  ·exact hs.1.1.1 h1
  ·rw[h.out]at hsi;exact hsi.1.1.1 h1
 ·have:=up_in (d:=d) (x:=x) (p:=f.net.pl) h.dI ⟨h0,by omega⟩
  have:=(h.fwd (h.gf.fwd (upP d x) this.1 this.2)).1 up_ne
  rwa [zqm]at this
 ·have:=up_in (d:=d) (x:=x) (p:=f.net.pl) h.dI ⟨h0,by omega⟩
  have:=(h.bwd (h.gf.bwd (upP d x) this.1 this.2)).1 up_ne
  rwa [zqm]at this
 ·obtain⟨u,hu,rfl⟩:=h.mem.1 ht
  obtain⟨x,hx⟩:=P'y _ (h.gf.out u (h.sub hu))
  by_cases hd:d∈u.out
  ·obtain⟨y,hy⟩:=P'y _ h.bne
   exact Q'b ((h.out_iff (fun e=>h.dB (e▸hy))).2 (.inr ⟨hd,hy⟩))
  ·exact Q'b ((h.out_iff (fun e=>hd (e▸hx))).2 (.inl hx))
/-! Markings. -/
def Fr(f:Fl)(d:Int)(B:List Int)(m m':List Int):Prop:=∀x:Int,0<=x->x<f.net.pl->x≠d->at_ m' (lessP d x)=at_ m x+(if x∈B then at_ m d else 0)
theorem Fz.atf(h:Fz f g d i B){u:Tr}{m:List Int}(hu:u∈f.net.tr)(hm:Mk f.net m){x:Int}(hx:0<=x):at_ (zgw u m) x=at_ m x-(if x∈u.inn then 1 else 0)+(if x∈u.out then 1 else 0):=by
 rw[z4x ((zjy h.gf.net).2.2.2 u hu) hm.len hx,h.rst hu];simp
theorem Fz.atg(h:Fz f g d i B){u:Tr}{m:List Int}(hu:u∈f.net.tr.eraseIdx i)(hm:Mk g.net m){x:Int}(h0:0<=x)(h1:x<f.net.pl)(hx:x≠d):at_ (zgw (dropT d (rpT d B u)) m) (lessP d x)=at_ m (lessP d x)-(if x∈u.inn then 1 else 0)+(if x∈u.out\/(d∈u.out/\x∈B)then 1 else 0):=by
 have hr:(dropT d (rpT d B u)).rst=[]:=by show dropL d (rpT d B u).rst=[];rw[z17o,h.rst (h.sub hu)];rfl
 rw[z4x (h.goodT hu) hm.len (zqk h.dI hx ⟨h0,h1⟩).1,hr]
 simp only[h.inn_iff hx,h.out_iff hx,List.not_mem_nil,if_false]
theorem Fz.pass(h:Fz f g d i B){m m':List Int}(hm:Mk f.net m)(hr:Fr f d B m m'):Fr f d B (zgw (f.net.tr[i]'h.hi) m) m':=by
 intro x h0 h1 hx
 rw[h.atf h.tin hm h0,h.atf h.tin hm h.dI.1,h.inn,h.out,hr x h0 h1 hx]
 simp only[N'2,hx,h.dB,if_false,if_true]
 split<;>omega
theorem Fz.same(h:Fz f g d i B){u:Tr}{m m':List Int}(hu:u∈f.net.tr.eraseIdx i)(hm:Mk f.net m)(hm':Mk g.net m')(hr:Fr f d B m m'):Fr f d B (zgw u m) (zgw (dropT d (rpT d B u)) m'):=by
 intro x h0 h1 hx
 rw[h.atg hu hm' h0 h1 hx,h.atf (h.sub hu) hm h0,h.atf (h.sub hu) hm h.dI.1,hr x h0 h1 hx,if_neg (h.oth u hu)]
 have hd:=h.dis u hu
 by_cases a:x∈B<;>by_cases b:d∈u.out<;>by_cases c:x∈u.out
 ·exact absurd c (hd b x a)
 all_goals simp[a,b,c]<;>omega
theorem Fz.can(h:Fz f g d i B){u:Tr}{m m':List Int}(hu:u∈f.net.tr.eraseIdx i)(hm:Mk f.net m)(hr:Fr f d B m m')(hc:canT u m=true):canT (dropT d (rpT d B u)) m'=true:=by
 refine z8k fun y hy=>?_
 have hy:y∈dropL d (rpT d B u).inn:=hy
 rw[z17m]at hy
 obtain⟨x,hx,hxd,rfl⟩:=zd1.1 hy
 have hp:=(zk9 ((zjy h.gf.net).2.2.2 u (h.sub hu))).1 x hx
 have h1:=z8j hc hx
 have h2:=hm.pos x hp.1
 have h3:=hm.pos d h.dI.1
 rw[hr x hp.1 hp.2 hxd]
 split<;>omega
theorem Fz.can'(h:Fz f g d i B){u:Tr}{m m':List Int}(hu:u∈f.net.tr.eraseIdx i)(hr:Fr f d B m m')(h0:at_ m d=0)(hc:canT (dropT d (rpT d B u)) m'=true):canT u m=true:=by
 refine z8k fun x hx=>?_
 have hxd:x≠d:=fun e=>h.oth u hu (e▸hx)
 have hp:=(zk9 ((zjy h.gf.net).2.2.2 u (h.sub hu))).1 x hx
 have h1:=z8j hc ((h.inn_iff hxd).2 hx)
 rw[hr x hp.1 hp.2 hxd,h0]at h1
 simpa using h1
theorem Fz.can_i(h:Fz f g d i B){m:List Int}(h1:at_ m d≠0):canT (f.net.tr[i]'h.hi) m=true:=by
 refine z8k fun x hx=>?_
 rw[h.inn,N'2]at hx
 subst hx;exact h1
theorem Fz.drain(h:Fz f g d i B):∀(k:Nat) (m m':List Int),Mk f.net m->Fr f d B m m'->at_ m d=k->∃m0,Rch f.net m m0/\Mk f.net m0/\Fr f d B m0 m'/\at_ m0 d=0
 |0,m,m',hm,hr,hk=>⟨m,.base,hm,hr,by simpa using hk⟩
 |k+1,m,m',hm,hr,hk=>by
  have hc:=h.can_i (m:=m) (by omega)
  have hg:=(zjy h.gf.net).2.2.2 _ h.tin
  obtain⟨m0,h1,h2,h3,h4⟩:=h.drain k (zgw (f.net.tr[i]'h.hi) m) m' (hm.fire hg hc) (h.pass hm hr) (by
   rw[h.atf h.tin hm h.dI.1,h.inn,h.out]
   simp only[N'2,h.dB,if_false,if_true];omega)
  exact⟨m0,(Rch.base.tr h.tin hc).trans h1,h2,h3,h4⟩
theorem Fz.forth(h:Fz f g d i B){a a' m:List Int}(ha:Mk f.net a)(ha':Mk g.net a')(hr:Fr f d B a a')(hm:Rch f.net a m):∃m',Rch g.net a' m'/\Fr f d B m m':=by
 refine(hm.ind (P:=fun m=>∃m',Rch g.net a' m'/\Fr f d B m m') ⟨a',.base,hr⟩ ?_)
 rintro m t hm⟨m',h1,h2⟩ ht hc
 have hmk:=ha.rch h.gf.net hm
 rcases(ze1 h.hi).1 ht with rfl| ht
 ·exact⟨m',h1,h.pass hmk h2⟩
 ·exact⟨_,h1.tr (h.in_g ht) (h.can ht hmk h2 hc),h.same ht hmk (ha'.rch h.goodN h1) h2⟩
theorem Fz.back(h:Fz f g d i B){a a' m':List Int}(ha:Mk f.net a)(ha':Mk g.net a')(hr:Fr f d B a a')(h0:at_ a d=0)(hm:Rch g.net a' m'):∃m,Rch f.net a m/\Fr f d B m m'/\at_ m d=0:=by
 refine(hm.ind (P:=fun m'=>∃m,Rch f.net a m/\Fr f d B m m'/\at_ m d=0) ⟨a,.base,hr,h0⟩ ?_)
 rintro m' t hm⟨m,h1,h2,h3⟩ ht hc
 obtain⟨u,hu,rfl⟩:=h.mem.1 ht
 have hmk:=ha.rch h.gf.net h1
 have hc':=h.can' hu h2 h3 hc
 have hs:=h.same hu hmk (ha'.rch h.goodN hm) h2
 have hmk2:=hmk.fire ((zjy h.gf.net).2.2.2 u (h.sub hu)) hc'
 obtain⟨m0,k1,_,k3,k4⟩:=h.drain (at_ (zgw u m) d).toNat _ _ hmk2 hs (by have:=hmk2.pos d h.dI.1;omega)
 exact⟨m0,(h1.tr (h.sub hu) hc').trans k1,k3,k4⟩
theorem Fz.one(h:Fz f g d i B){p p':Int}(hp:0<=p/\p<f.net.pl)(hd:p≠d)(e:p'=lessP d p):Fr f d B (oneM f.net.pl.toNat p) (oneM g.net.pl.toNat p')/\at_ (oneM f.net.pl.toNat p) d=0:=by
 have hpl:=h.pl
 have h0:at_ (oneM f.net.pl.toNat p) d=0:=by
  rw[z51 ⟨hp.1,by omega⟩ h.dI.1,if_neg (Ne.symm hd)]
 refine⟨fun x h1 h2 hx=>?_,h0⟩
 have hl:=zqk h.dI hd hp
 rw[h0,e,z51 ⟨hl.1,by omega⟩ (zqk h.dI hx ⟨h1,h2⟩).1,z51 ⟨hp.1,by omega⟩ h1]
 by_cases c:x=p
 ·subst c;simp
 ·have:¬lessP d x=lessP d p:=fun e=>c (zql hx hd e)
  simp[c,this]
theorem Fz.ext(h:Fz f g d i B){m a b:List Int}(ha:Mk g.net a)(hb:Mk g.net b)(h1:Fr f d B m a)(h2:Fr f d B m b):a=b:=by
 refine zu9 ha hb fun x h0 hx=>?_
 have hu:=up_in (d:=d) (x:=x) (p:=f.net.pl) h.dI ⟨h0,by have:=h.pl;omega⟩
 have e1:=h1 _ hu.1 hu.2 up_ne
 have e2:=h2 _ hu.1 hu.2 up_ne
 rw[zqm]at e1 e2
 omega
theorem Fz.ext'(_:Fz f g d i B){m a b:List Int}(ha:Mk f.net a)(hb:Mk f.net b)(h1:Fr f d B a m)(h2:Fr f d B b m)(h3:at_ a d=0)(h4:at_ b d=0):a=b:=by
 refine zu9 ha hb fun x h0 hx=>?_
 by_cases e:x=d
 ·subst e;omega
 ·have e1:=h1 x h0 hx e
  have e2:=h2 x h0 hx e
  rw[h3]at e1
  rw[h4]at e2
  simp only[ite_self]at e1 e2
  omega
theorem Fz.snd (h : Fz f g d i B) : SndT f ↔ SndT g := by
  have ms := zua h.gf.src
  have me := zua h.gf.dst
  have ms' := zua h.srcI
  have me' := zua h.dstI
  obtain ⟨rs, zs⟩ := h.one h.gf.src (Ne.symm h.ds) h.src
  obtain ⟨re, ze⟩ := h.one h.gf.dst (Ne.symm h.dd) h.dst
  have hpl := h.pl
  constructor
  · intro hf
    refine ⟨fun m' hm' => ?_, fun m' hm' h1 => ?_, fun t ht => ?_⟩
    · obtain ⟨m, k1, k2, k3⟩ := h.back ms ms' rs zs hm'
      obtain ⟨e', q1, q2⟩ := h.forth (ms.rch h.gf.net k1) (ms'.rch h.goodN hm') k2 (hf.ends m k1)
      rwa [h.ext ((ms'.rch h.goodN hm').rch h.goodN q1) me' q2 re] at q1
    · obtain ⟨m, k1, k2, k3⟩ := h.back ms ms' rs zs hm'
      have e := k2 f.dst h.gf.dst.1 h.gf.dst.2 (Ne.symm h.dd)
      rw [k3, <- h.dst] at e
      simp only [ite_self] at e
      have := hf.over m k1 (by omega)
      rw [this] at k2
      exact h.ext (ms'.rch h.goodN hm') me' k2 re
    · obtain ⟨u, hu, rfl⟩ := h.mem.1 ht
      obtain ⟨m, k1, k2⟩ := hf.used u (h.sub hu)
      obtain ⟨m', q1, q2⟩ := h.forth ms ms' rs k1
      exact ⟨m', q1, h.can hu (ms.rch h.gf.net k1) q2 k2⟩
  · intro hg
    refine ⟨fun m hm => ?_, fun m hm h1 => ?_, fun t ht => ?_⟩
    · obtain ⟨m', k1, k2⟩ := h.forth ms ms' rs hm
      have hmk := ms.rch h.gf.net hm
      obtain ⟨m0, q1, q2, q3, q4⟩ := h.drain (at_ m d).toNat m m' hmk k2 (by have := hmk.pos d h.dI.1; omega)
      obtain ⟨e, p1, p2, p3⟩ := h.back q2 (ms'.rch h.goodN k1) q3 q4 (hg.ends m' k1)
      rw [h.ext' (q2.rch h.gf.net p1) me p2 re p3 ze] at p1
      exact q1.trans p1
    · obtain ⟨m', k1, k2⟩ := h.forth ms ms' rs hm
      have hmk := ms.rch h.gf.net hm
      have hd0 := hmk.pos d h.dI.1
      have e := k2 f.dst h.gf.dst.1 h.gf.dst.2 (Ne.symm h.dd)
      have hov := hg.over m' k1 (by rw [h.dst, e]; split <;> omega)
      have key : ∀ x : Int, 0 <= x -> x < f.net.pl -> x ≠ d -> at_ m x + (if x ∈ B then at_ m d else 0) = if x = f.dst then 1 else 0 := by
        intro x h0 hx hxd
        rw [<- k2 x h0 hx hxd, hov, z51 (p := g.dst) ⟨h.dstI.1, by have := h.dstI.2; have := h.dstI.1; omega⟩ (zqk h.dI hxd ⟨h0, hx⟩).1, h.dst]
        by_cases c : x = f.dst
        · subst c; simp
        · have : ¬ lessP d x = lessP d f.dst := fun e => c (zql hxd (Ne.symm h.dd) e)
          simp [c, this]
      have hz : at_ m d = 0 := by
        obtain ⟨y, hy⟩ := P'y _ h.bne
        have hyi := h.bin hy
        have hyd : y ≠ d := fun e => h.dB (e ▸ hy)
        have k3 := key y hyi.1 hyi.2 hyd
        rw [if_pos hy] at k3
        have := hmk.pos y hyi.1
        by_cases c : y = f.dst
        · subst c; rw [if_pos rfl] at k3; omega
        · rw [if_neg c] at k3; omega
      refine zu9 hmk me fun x h0 hx => ?_
      rw [z51 ⟨h.gf.dst.1, by have := h.gf.dst.2; omega⟩ h0]
      by_cases c : x = d
      · subst c; rw [hz, if_neg h.dd]
      · have := key x h0 hx c
        rw [hz] at this
        simpa using this
    · rcases (ze1 h.hi).1 ht with rfl | ht
      · -- the taker itself: something gives to the place
        have hcn := h.gf.fwd d h.dI.1 h.dI.2
        have : ∃ u ∈ f.net.tr.eraseIdx i, d ∈ u.out := by
          generalize hx : d = x at hcn
          cases hcn with
          | base => exact absurd hx h.ds
          | @step q x t _ ht2 hi2 ho2 =>
            have ho2 : x ∈ t.out := ho2
            rcases (ze1 h.hi).1 ht2 with rfl | ht2
            · rw [h.out] at ho2; exact absurd (hx ▸ ho2) h.dB
            · exact ⟨t, ht2, ho2⟩
        obtain ⟨u, hu, hdu⟩ := this
        obtain ⟨m', k1, k2⟩ := hg.used _ (h.in_g hu)
        obtain ⟨m, q1, q2, q3⟩ := h.back ms ms' rs zs k1
        have hc := h.can' hu q2 q3 k2
        have hmk := ms.rch h.gf.net q1
        refine ⟨zgw u m, q1.tr (h.sub hu) hc, h.can_i ?_⟩
        rw [h.atf (h.sub hu) hmk h.dI.1, if_neg (h.oth u hu), if_pos hdu, q3]; omega
      · obtain ⟨m', k1, k2⟩ := hg.used _ (h.in_g ht)
        obtain ⟨m, q1, q2, q3⟩ := h.back ms ms' rs zs k1
        exact ⟨m, q1, h.can' ht q2 q3 k2⟩
end
end Go.Proofs.YtbaclnecajkknaaGreat.Pi
namespace Go.Proofs.YtbaclnecajkknaaGreat.Pi
open Go
set_option linter.all false

def chP(a b:Fl)(p:Int):Int:=if p=b.src then a.dst else if b.src<p then a.net.pl+(p-1)else a.net.pl+p
def chL(a b:Fl)(l:List Int):List Int:=l.foldl (fun out p=>putI out (chP a b p)) []
def chT(a b:Fl)(t:Tr):Tr:=⟨chL a b t.inn,chL a b t.out,chL a b t.rst⟩
def chF(a b:Fl):Fl:=⟨⟨a.net.pl+b.net.pl-1,a.net.tr++b.net.tr.map (chT a b)⟩,a.src,chP a b b.dst⟩
theorem z93{a b:Fl}:∀(l out:List Int){x:Int},x∈l.foldl (fun out p=>putI out (chP a b p)) out↔x∈out\/∃y∈l,x=chP a b y
 |[],out,x=>by simp
 |p::l,out,x=>by
  rw[P'o,z93 l (putI out (chP a b p)),z131]
  constructor
  ·rintro((h|h)|⟨y,h1,h2⟩)
   ·exact .inl h
   ·exact .inr ⟨p,by simp,h⟩
   ·exact .inr ⟨y,by simp[h1],h2⟩
  ·rintro(h|⟨y,h1,h2⟩)
   ·exact .inl (.inl h)
   ·rcases M'z.1 h1 with rfl| h1
    ·exact .inl (.inr h2)
    ·exact .inr ⟨y,h1,h2⟩
theorem z96{a b:Fl}{l:List Int}{x:Int}:x∈chL a b l↔∃y∈l,x=chP a b y:=by
 unfold chL;rw[z93];simp
/-! How it is made. -/
structure Ch(a b:Fl):Prop where
ga:Gf a
gb:Gf b
gc:Gf (chF a b)
section
variable {a b:Fl}
theorem Ch.cases(h:Ch a b){p:Int}(hp:0<=p/\p<b.net.pl):(p=b.src/\chP a b p=a.dst)\/(p≠b.src/\a.net.pl<=chP a b p/\chP a b p<a.net.pl+b.net.pl-1):=by
 have:=h.gb.src
 unfold chP
 by_cases e:p=b.src
 ·exact .inl ⟨e,if_pos e⟩
 ·right
  rw[if_neg e]
  split<;>omega
theorem Ch.inj(h:Ch a b){p q:Int}(hp:0<=p/\p<b.net.pl)(hq:0<=q/\q<b.net.pl)(e:chP a b p=chP a b q):p=q:=by
 have:=h.gb.src
 have:=h.ga.dst
 unfold chP at e
 split at e<;>split at e<;>(try split at e)<;>(try split at e)<;>omega
theorem Ch.onto(h:Ch a b){x:Int}(h0:0<=x)(h1:x<a.net.pl+b.net.pl-1):(x<a.net.pl/\x≠a.dst)\/∃y,(0<=y/\y<b.net.pl)/\x=chP a b y:=by
 have hs:=h.gb.src
 have hd:=h.ga.dst
 by_cases e:x=a.dst
 ·exact .inr ⟨b.src,hs,by unfold chP;rw[if_pos rfl];exact e⟩
 ·by_cases c:x<a.net.pl
  ·exact .inl ⟨c,e⟩
  ·right
   by_cases c2:x-a.net.pl<b.src
   ·exact⟨x-a.net.pl,by omega,by unfold chP;rw[if_neg (by omega),if_neg (by omega)];omega⟩
   ·exact⟨x-a.net.pl+1,by omega,by unfold chP;rw[if_neg (by omega),if_pos (by omega)];omega⟩
theorem Ch.dstI(h:Ch a b):0<=chP a b b.dst/\a.net.pl<=chP a b b.dst/\chP a b b.dst<a.net.pl+b.net.pl-1:=by
 rcases h.cases h.gb.dst with⟨h1,_⟩|⟨_,h2,h3⟩
 ·exact absurd h1.symm h.gb.ne
 ·have:=h.ga.dst;omega
theorem Ch.tr(_:Ch a b){t:Tr}:t∈(chF a b).net.tr↔t∈a.net.tr\/∃u∈b.net.tr,t=chT a b u:=by
 show t∈a.net.tr++b.net.tr.map (chT a b)↔_
 rw[L'j,M's]
 refine or_congr_right ⟨fun⟨u,h1,h2⟩=>⟨u,h1,h2.symm⟩,fun⟨u,h1,h2⟩=>⟨u,h1,h2.symm⟩⟩
theorem Ch.pla(h:Ch a b){t:Tr}(ht:t∈a.net.tr):(∀x∈t.inn,0<=x/\x<a.net.pl)/\(∀x∈t.out,0<=x/\x<a.net.pl)/\(∀x∈t.rst,0<=x/\x<a.net.pl):=zk9 ((zjy h.ga.net).2.2.2 t ht)
theorem Ch.plb(h:Ch a b){t:Tr}(ht:t∈b.net.tr):(∀x∈t.inn,0<=x/\x<b.net.pl)/\(∀x∈t.out,0<=x/\x<b.net.pl)/\(∀x∈t.rst,0<=x/\x<b.net.pl):=zk9 ((zjy h.gb.net).2.2.2 t ht)
theorem Ch.goodc(h:Ch a b){t:Tr}(ht:t∈(chF a b).net.tr):goodT (chF a b).net.pl t=true:=(zjy h.gc.net).2.2.2 t ht
theorem Ch.in_(h:Ch a b){l:List Int}(hl:∀x∈l,0<=x/\x<b.net.pl){y:Int}(hy:0<=y/\y<b.net.pl):chP a b y∈chL a b l↔y∈l:=by
 rw[z96]
 constructor
 ·rintro⟨z,h1,h2⟩
  rw[h.inj hy (hl z h1) h2];exact h1
 ·intro h1;exact⟨y,h1,rfl⟩
theorem Ch.not_in(h:Ch a b){l:List Int}(hl:∀x∈l,0<=x/\x<b.net.pl){x:Int}(hx:x<a.net.pl)(hd:x≠a.dst):x∉chL a b l:=by
 rw[z96]
 rintro⟨z,h1,h2⟩
 rcases h.cases (hl z h1)with⟨_,h3⟩|⟨_,h3,_⟩
 ·exact hd (h2.trans h3)
 ·omega
/-! Markings of both. -/
structure InA(a b:Fl)(m M:List Int):Prop where
lo:∀x:Int,0<=x->x<a.net.pl->at_ M x=at_ m x
hi:∀x:Int,a.net.pl<=x->x<a.net.pl+b.net.pl-1->at_ M x=0
structure InB(a b:Fl)(m M:List Int):Prop where
hi:∀y:Int,0<=y->y<b.net.pl->at_ M (chP a b y)=at_ m y
lo:∀x:Int,0<=x->x<a.net.pl->x≠a.dst->at_ M x=0
theorem Ch.ext(h:Ch a b){m M M':List Int}(hM:Mk (chF a b).net M)(hM':Mk (chF a b).net M')(h1:InB a b m M)(h2:InB a b m M'):M=M':=by
 refine zu9 hM hM' fun x h0 hx=>?_
 have hx:x<a.net.pl+b.net.pl-1:=hx
 rcases h.onto h0 hx with⟨c1,c2⟩|⟨y,hy,rfl⟩
 ·rw[h1.lo x h0 c1 c2,h2.lo x h0 c1 c2]
 ·rw[h1.hi y hy.1 hy.2,h2.hi y hy.1 hy.2]
theorem Ch.mid(h:Ch a b){M:List Int}(h1:InA a b (oneM a.net.pl.toNat a.dst) M):InB a b (oneM b.net.pl.toNat b.src) M:=by
 have hd:=h.ga.dst
 have hs:=h.gb.src
 refine⟨fun y h0 hy=>?_,fun x h0 hx hne=>?_⟩
 ·rw[z51 ⟨hs.1,by omega⟩ h0]
  rcases h.cases ⟨h0,hy⟩with⟨c1,c2⟩|⟨c1,c2,c3⟩
  ·rw[c2,h1.lo _ hd.1 hd.2,z51 ⟨hd.1,by omega⟩ hd.1,if_pos rfl,if_pos c1]
  ·rw[h1.hi _ c2 c3,if_neg c1]
 ·rw[h1.lo x h0 hx,z51 ⟨hd.1,by omega⟩ h0,if_neg hne]
theorem Ch.stepA(h:Ch a b){t:Tr}{m M:List Int}(ht:t∈a.net.tr)(hm:Mk a.net m)(hM:Mk (chF a b).net M)(h1:InA a b m M):InA a b (zgw t m) (zgw t M):=by
 have hp:=h.pla ht
 have hg:=(zjy h.ga.net).2.2.2 t ht
 have hgc:=h.goodc (h.tr.2 (.inl ht))
 refine⟨fun x h0 hx=>?_,fun x hx hx2=>?_⟩
 ·rw[z4x hg hm.len h0,z4x hgc hM.len h0,h1.lo x h0 hx]
 ·have hd:=h.ga.dst
  rw[z4x hgc hM.len (by omega),h1.hi x hx hx2]
  have n1:x∉t.inn:=fun e=>by have:=hp.1 x e;omega
  have n2:x∉t.out:=fun e=>by have:=hp.2.1 x e;omega
  have n3:x∉t.rst:=fun e=>by have:=hp.2.2 x e;omega
  simp[n1,n2,n3]
theorem Ch.canA(h:Ch a b){t:Tr}{m M:List Int}(ht:t∈a.net.tr)(h1:InA a b m M):canT t M=true↔canT t m=true:=by
 have hp:=(h.pla ht).1
 constructor<;>intro hc<;>refine z8k fun x hx=>?_
 ·have:=z8j hc hx
  rwa [h1.lo x (hp x hx).1 (hp x hx).2]at this
 ·have:=z8j hc hx
  rwa [h1.lo x (hp x hx).1 (hp x hx).2]
theorem Ch.stepB(h:Ch a b){u:Tr}{m M:List Int}(hu:u∈b.net.tr)(hm:Mk b.net m)(hM:Mk (chF a b).net M)(h1:InB a b m M):InB a b (zgw u m) (zgw (chT a b u) M):=by
 have hp:=h.plb hu
 have hg:=(zjy h.gb.net).2.2.2 u hu
 have hgc:=h.goodc (h.tr.2 (.inr ⟨u,hu,rfl⟩))
 have hd:=h.ga.dst
 refine⟨fun y h0 hy=>?_,fun x h0 hx hne=>?_⟩
 ·have hc:0<=chP a b y:=by
   rcases h.cases ⟨h0,hy⟩with⟨_,c2⟩|⟨_,c2,_⟩<;>omega
  rw[z4x hg hm.len h0,z4x hgc hM.len hc,h1.hi y h0 hy]
  show(if chP a b y∈chL a b u.rst then 0 else at_ m y-(if chP a b y∈chL a b u.inn then 1 else 0))+(if chP a b y∈chL a b u.out then 1 else 0)=_
  simp only[h.in_ hp.1 ⟨h0,hy⟩,h.in_ hp.2.1 ⟨h0,hy⟩,h.in_ hp.2.2 ⟨h0,hy⟩]
 ·rw[z4x hgc hM.len h0,h1.lo x h0 hx hne]
  show(if x∈chL a b u.rst then 0 else 0-(if x∈chL a b u.inn then 1 else 0))+(if x∈chL a b u.out then 1 else 0)=(0:Int)
  simp[h.not_in hp.1 hx hne,h.not_in hp.2.1 hx hne]
theorem Ch.canB(h:Ch a b){u:Tr}{m M:List Int}(hu:u∈b.net.tr)(h1:InB a b m M):canT (chT a b u) M=true↔canT u m=true:=by
 have hp:=(h.plb hu).1
 constructor<;>intro hc<;>refine z8k fun x hx=>?_
 ·have:=z8j hc (show chP a b x∈(chT a b u).inn from(h.in_ hp (hp x hx)).2 hx)
  rwa [h1.hi x (hp x hx).1 (hp x hx).2]at this
 ·obtain⟨y,hy,rfl⟩:=z96.1 (show x∈chL a b u.inn from hx)
  rw[h1.hi y (hp y hy).1 (hp y hy).2]
  exact z8j hc hy
theorem Ch.liftA(h:Ch a b){m m' M:List Int}(hm:Mk a.net m)(hM:Mk (chF a b).net M)(h1:InA a b m M)(hr:Rch a.net m m'):∃M',Rch (chF a b).net M M'/\InA a b m' M':=by
 refine(hr.ind (P:=fun m'=>∃M',Rch (chF a b).net M M'/\InA a b m' M') ⟨M,.base,h1⟩ ?_)
 rintro x t hx⟨M',k1,k2⟩ ht hc
 exact⟨_,k1.tr (h.tr.2 (.inl ht)) ((h.canA ht k2).2 hc),h.stepA ht (hm.rch h.ga.net hx) (hM.rch h.gc.net k1) k2⟩
theorem Ch.liftB(h:Ch a b){m m' M:List Int}(hm:Mk b.net m)(hM:Mk (chF a b).net M)(h1:InB a b m M)(hr:Rch b.net m m'):∃M',Rch (chF a b).net M M'/\InB a b m' M':=by
 refine(hr.ind (P:=fun m'=>∃M',Rch (chF a b).net M M'/\InB a b m' M') ⟨M,.base,h1⟩ ?_)
 rintro x t hx ⟨M',k1,k2⟩ ht hc
 exact⟨_,k1.tr (h.tr.2 (.inr ⟨t,ht,rfl⟩)) ((h.canB ht k2).2 hc),h.stepB ht (hm.rch h.gb.net hx) (hM.rch h.gc.net k1) k2⟩
theorem Ch.start(h:Ch a b):InA a b (oneM a.net.pl.toNat a.src) (oneM (chF a b).net.pl.toNat a.src):=by
 have hs:=h.ga.src
 have hb:=h.gb.src
 have hpl:(chF a b).net.pl=a.net.pl+b.net.pl-1:=rfl
 refine⟨fun x h0 hx=>?_,fun x hx hx2=>?_⟩
 ·rw[z51 ⟨hs.1,by omega⟩ h0,z51 ⟨hs.1,by omega⟩ h0]
 ·rw[z51 ⟨hs.1,by omega⟩ (by omega),if_neg (by omega)]
theorem Ch.stop(h:Ch a b):InB a b (oneM b.net.pl.toNat b.dst) (oneM (chF a b).net.pl.toNat (chP a b b.dst)):=by
 have hd:=h.gb.dst
 have hc:=h.dstI
 have ha:=h.ga.dst
 have hpl:(chF a b).net.pl=a.net.pl+b.net.pl-1:=rfl
 refine⟨fun y h0 hy=>?_,fun x h0 hx hne=>?_⟩
 ·have hcy:0<=chP a b y:=by
   rcases h.cases ⟨h0,hy⟩with⟨_,c2⟩|⟨_,c2,_⟩<;>omega
  rw[z51 ⟨hc.1,by omega⟩ hcy,z51 ⟨hd.1,by omega⟩ h0]
  by_cases e:y=b.dst
  ·subst e;simp
  ·have:¬chP a b y=chP a b b.dst:=fun e2=>e (h.inj ⟨h0,hy⟩ hd e2)
   simp[e,this]
 ·rw[z51 ⟨hc.1,by omega⟩ h0,if_neg (by omega)]
theorem Ch.rch(h:Ch a b)(ha:SndT a){M:List Int}(hM:Rch (chF a b).net (oneM (chF a b).net.pl.toNat a.src) M) :
  (∃m,Rch a.net (oneM a.net.pl.toNat a.src) m/\InA a b m M)\/(∃m,Rch b.net (oneM b.net.pl.toNat b.src) m/\InB a b m M):=by
 have hmk:=fun {M}=>(zua h.gc.src).rch (m:=M) h.gc.net
 have hma:=fun {m}=>(zua h.ga.src).rch (m:=m) h.ga.net
 have hmb:=fun {m}=>(zua h.gb.src).rch (m:=m) h.gb.net
 refine(hM.ind (P:=fun M=>(∃m,Rch a.net (oneM a.net.pl.toNat a.src) m/\InA a b m M)\/(∃m,Rch b.net (oneM b.net.pl.toNat b.src) m/\InB a b m M)) (.inl ⟨_,.base,h.start⟩) ?_)
 intro M t hM ih ht hc
 have hB:(∃m,Rch b.net (oneM b.net.pl.toNat b.src) m/\InB a b m M)->∃m,Rch b.net (oneM b.net.pl.toNat b.src) m/\InB a b m (zgw t M):=by
  rintro⟨m,h1,h2⟩
  rcases h.tr.1 ht with ht|⟨u,hu,rfl⟩
  ·obtain⟨x,hx⟩:=P'y _ (zk8 ((zjy h.ga.net).2.2.2 t ht)).1
   have hp:=(h.pla ht).1 x hx
   have hsp:=h.ga.sp t ht
   unfold z1cj at hsp
   simp only[Q'a,hasB,decide_eq_false_iff_not]at hsp
   have hne:x≠a.dst:=fun e=>hsp.1.1.2 (e▸hx)
   exact absurd (h2.lo x hp.1 hp.2 hne) (z8j hc hx)
  ·exact⟨_,h1.tr hu ((h.canB hu h2).1 hc),h.stepB hu (hmb h1) (hmk hM) h2⟩
 rcases ih with⟨m,h1,h2⟩|ih
 ·rcases h.tr.1 ht with ht'|⟨u,hu,rfl⟩
  ·exact .inl ⟨_,h1.tr ht' ((h.canA ht' h2).1 hc),h.stepA ht' (hma h1) (hmk hM) h2⟩
  ·right
   apply hB
   have hd:=h.ga.dst
   have hpb:=(h.plb hu).1
   obtain⟨y,hy⟩:=P'y _ (zk8 ((zjy h.gb.net).2.2.2 u hu)).1
   have hne:=z8j hc (show chP a b y∈(chT a b u).inn from(h.in_ hpb (hpb y hy)).2 hy)
   rcases h.cases (hpb y hy)with⟨_,c2⟩|⟨_,c2,c3⟩
   ·rw[c2,h2.lo _ hd.1 hd.2]at hne
    have:=(hma h1).pos a.dst hd.1
    have e:=ha.over m h1 (by omega)
    subst e
    exact⟨_,.base,h.mid h2⟩
   ·exact absurd (h2.hi _ c2 c3) hne
 ·exact .inr (hB ih)
theorem Ch.snd(h:Ch a b)(ha:SndT a)(hb:SndT b):SndT (chF a b):=by
 have hmk:=fun {M}=>(zua h.gc.src).rch (m:=M) h.gc.net
 have hma:=fun {m}=>(zua h.ga.src).rch (m:=m) h.ga.net
 have hmb:=fun {m}=>(zua h.gb.src).rch (m:=m) h.gb.net
 have hme:=zua h.gc.dst
 have toEnd:∀m M,Rch (chF a b).net (oneM (chF a b).net.pl.toNat (chF a b).src) M->Rch b.net (oneM b.net.pl.toNat b.src) m->InB a b m M->Rch (chF a b).net M (oneM (chF a b).net.pl.toNat (chF a b).dst):=by
  intro m M hM h1 h2
  obtain⟨M',k1,k2⟩:=h.liftB (hmb h1) (hmk hM) h2 (hb.ends m h1)
  rwa [h.ext ((hmk hM).rch h.gc.net k1) hme k2 h.stop]at k1
 obtain⟨M0,r0,i0⟩:=h.liftA (zua h.ga.src) (zua h.gc.src) h.start (ha.ends _ .base)
 have i1:=h.mid i0
 refine⟨fun M hM=>?_,fun M hM h1=>?_,fun t ht=>?_⟩
 ·rcases h.rch ha hM with⟨m,h1,h2⟩|⟨m,h1,h2⟩
  ·obtain⟨M',k1,k2⟩:=h.liftA (hma h1) (hmk hM) h2 (ha.ends m h1)
   exact k1.trans (toEnd _ _ (hM.trans k1) .base (h.mid k2))
  ·exact toEnd _ _ hM h1 h2
 ·have hc:=h.dstI
  have h1:1<=at_ M (chP a b b.dst):=h1
  rcases h.rch ha hM with⟨m,k1,k2⟩|⟨m,k1,k2⟩
  ·rw[k2.hi _ hc.2.1 hc.2.2]at h1;omega
  ·have e:=k2.hi b.dst h.gb.dst.1 h.gb.dst.2
   have:=hb.over m k1 (by omega)
   subst this
   exact h.ext (hmk hM) hme k2 h.stop
 ·rcases h.tr.1 ht with ht|⟨u,hu,rfl⟩
  ·obtain⟨m,k1,k2⟩:=ha.used t ht
   obtain⟨M,q1,q2⟩:=h.liftA (zua h.ga.src) (zua h.gc.src) h.start k1
   exact⟨M,q1,(h.canA ht q2).2 k2⟩
  ·obtain⟨m,k1,k2⟩:=hb.used u hu
   obtain⟨M,q1,q2⟩:=h.liftB (zua h.gb.src) (hmk r0) i1 k1
   exact⟨M,r0.trans q1,(h.canB hu q2).2 k2⟩
end
end Go.Proofs.YtbaclnecajkknaaGreat.Pi

