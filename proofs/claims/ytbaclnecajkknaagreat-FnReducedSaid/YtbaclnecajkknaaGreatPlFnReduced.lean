/- The plain laws. -/
import Derived.Test.YtbaclnecajkknaaGreatPiRy
import Derived.Laws.BitsLemmas
import Derived.Sort.AssemblyPlain
import Derived.Laws.Bits64
import Derived.Laws.Bits64b
namespace Go.Proofs.YtbaclnecajkknaaGreat.Pi
open Go
set_option linter.all false

abbrev bys(l:List Int):PV:=.sl true 1 (l.map (PV.int .u8))
abbrev rows(l:List (List Int)):PV:=.sl false 1 (l.map ints)
theorem z1ek{α:Type}{l:List α}{k:Nat}(hk:k<l.length):l.take (k+1)=l.take k++[l[k]]:=List.take_succ_eq_append_getElem hk
theorem z2z{α:Type}{l:List α}{p:α→Bool}{k:Nat}(hk:k<l.length)(h:(l.take k).all p=true)(hp:p l[k]=true):(l.take (k+1)).all p=true:=by
 rw[z1ek hk,List.all_append,h,List.all_cons,hp];rfl
theorem z2y{α:Type}{l:List α}{p:α→Bool}{k:Nat}(hk:k<l.length)(hp:p l[k]=false):l.all p=false:=by
 rw[List.all_eq_false];exact⟨l[k],List.getElem_mem hk,by simp [hp]⟩
theorem z3e{α:Type}{l:List α}{p:α→Bool}{k:Nat}(hk:k<l.length)(h:(l.take k).any p=false)(hp:p l[k]=false):(l.take (k+1)).any p=false:=by
 rw[z1ek hk,List.any_append,h,List.any_cons,hp];rfl
theorem z3f{α:Type}{l:List α}{p:α→Bool}{k:Nat}(hk:k<l.length)(hp:p l[k]=true):l.any p=true:=by
 rw[List.any_eq_true];exact⟨l[k],List.getElem_mem hk,hp⟩
def inB(lo hi n:Int):Bool:=decide (lo≤n)&&decide (n≤hi)
def goodM(p:Int)(m:List Int):Bool:=inB 1 16 p&&(m.length:Int) == p&&m.all (inB 0 50)
theorem zj2{p:Int}{m:List Int}(h:goodM p m=true):1≤p∧p≤16∧(m.length:Int)=p∧m.length≤16∧∀ x∈m,0≤x∧x≤50:=by
 simp [goodM,inB] at h
 refine⟨h.1.1.1,h.1.1.2,h.1.2,by omega,fun x hx=>h.2 x hx⟩
def zbh(a b:List Int):Bool:=(a.zip b).all fun p=>decide (p.2≤p.1)
def idxI{α:Type}(l:List α)(p:α→Bool):Int:=match l.findIdx? p with
 | some k=>k
 | none=>-1
theorem zkg{α:Type}{l:List α}{p:α→Bool}{k:Nat}(hk:k<l.length)(h:(l.take k).any p=false)(hp:p l[k]=true):idxI l p=k:=by
 have:l.findIdx? p=some k:=by
  rw[List.findIdx?_eq_some_iff_getElem]
  refine⟨hk,hp,fun j hj=>?_⟩
  rw[List.any_eq_false] at h
  have hjl:j<l.length:=by omega
  have:=h l[j] (by rw[List.mem_iff_getElem];exact⟨j,by simp;omega,by simp⟩)
  simpa using this
 simp [idxI,this]
theorem zkf{α:Type}{l:List α}{p:α→Bool}(h:l.any p=false):idxI l p = -1:=by
 have:l.findIdx? p=none:=by
  rw[List.findIdx?_eq_none_iff]
  rw[List.any_eq_false] at h
  intro x hx;simpa using h x hx
 simp [idxI,this]
theorem zkc{α:Type}(l:List α)(p:α→Bool):l.any p=decide (0≤idxI l p):=by
  unfold idxI
  cases h:l.findIdx? p with
  | none =>
    rw[List.findIdx?_eq_none_iff] at h
    simp only[List.any_eq_false.2 (fun x hx=>by simpa using h x hx)]
    rfl
  | some k =>
    rw[List.findIdx?_eq_some_iff_getElem] at h
    obtain⟨h1,h2,_⟩:=h
    rw[List.any_eq_true.2 ⟨l[k],List.getElem_mem h1,h2⟩]
    simp
theorem zke{α:Type}(l:List α)(p:α→Bool) : -1≤idxI l p∧idxI l p<l.length:=by
  unfold idxI
  cases h:l.findIdx? p with
  | none=>simp;omega
  | some k =>
    rw[List.findIdx?_eq_some_iff_getElem] at h
    obtain⟨h1,h2,_⟩:=h
    simp;omega

attribute [go_sem] Bool.false_and Bool.and_false bne_self_eq_false

def putI:List Int→Int→List Int
 | [],x=>[x]
 | y :: l,x=>if y<x then y :: putI l x else if y=x then y :: l else x :: y :: l
theorem z129 : ∀ {l:List Int} {x:Int} {k:Nat} (hk:k<l.length),(l.take k).all (fun y=>decide (y<x))=true→l[k]=x→putI l x=l
  | y :: l, x, 0, hk, h, hx => by
    simp only[List.getElem_cons_zero] at hx
    simp [putI,hx]
  | y :: l, x, k + 1, hk, h, hx => by
    simp only[List.take_succ_cons,List.all_cons,Bool.and_eq_true,decide_eq_true_eq] at h
    simp only[putI,h.1,if_true]
    rw[z129 (k:=k) (by simpa using hk) h.2 (by simpa using hx)]
theorem z12a : ∀ {l:List Int} {x:Int} {k:Nat},(l.take k).all (fun y=>decide (y<x))=true→(∀ h:k<l.length,x<l[k])→k≤l.length→putI l x=l.take k++x :: l.drop k
  | [], x, k, h, hx, hk => by have : k = 0 := by simpa using hk
                              subst this;rfl
  | y :: l, x, 0, h, hx, hk => by
    have:=hx (by simp)
    simp only[List.getElem_cons_zero] at this
    have h1:¬y<x:=by omega
    have h2:¬y=x:=by omega
    simp [putI,h1,h2]
  | y :: l, x, k + 1, h, hx, hk => by
    simp only[List.take_succ_cons,List.all_cons,Bool.and_eq_true,decide_eq_true_eq] at h
    simp only[putI,h.1,if_true,List.take_succ_cons,List.drop_succ_cons,List.cons_append]
    rw[z12a (k:=k) h.2 (fun hh=>by have:=hx (by simpa using hh);simpa using this) (by simpa using hk)]
theorem z12b : ∀ (l:List Int) (x:Int),l.length≤(putI l x).length∧(putI l x).length≤l.length+1
  | [],x=>by simp [putI]
  | y :: l, x => by
    have:=z12b l x
    simp only[putI]
    split
    · simp;omega
    · split<;>simp
theorem z12c{l:List Int}{x y:Int}(h:y∈putI l x):y∈l∨y=x:=by
  induction l with
  | nil=>simp [putI] at h;exact .inr h
  | cons z l ih =>
    simp only[putI] at h
    split at h
    · rcases List.mem_cons.1 h with h | h
      · exact .inl (by simp [h])
      · rcases ih h with h | h
        · exact .inl (by simp [h])
        · exact .inr h
    · split at h
      · exact .inl h
      · rcases List.mem_cons.1 h with h | h
        · exact .inr h
        · exact .inl h
end Go.Proofs.YtbaclnecajkknaaGreat.Pi
namespace Go.Proofs.YtbaclnecajkknaaGreat.Pi
open Go
set_option linter.all false

structure Tr where
 inn:List Int
 out:List Int
 rst:List Int
structure Net where
 pl:Int
 tr:List Tr
abbrev encT(t:Tr):PV:=.agg [ints t.inn,ints t.out,ints t.rst]
abbrev trs(l:List Tr):PV:=.sl false 3 (l.map encT)
abbrev encN(n:Net):PV:=.agg [I n.pl,trs n.tr]
def smT(t:Tr):Prop:=t.inn.length<2^40∧t.out.length<2^40∧t.rst.length<2^40
def smN(n:Net):Prop:=n.tr.length<2^40∧∀ t∈n.tr,smT t
def smNet(n:Net):Prop:=(0<n.tr.length∧n.tr.length≤30)∧n.pl≤20∧∀ t∈n.tr,t.inn.length≤20∧t.out.length≤20∧t.rst.length≤20
theorem smNet.smN{n:Net}(h:smNet n):smN n:=⟨by have:=h.1;omega,fun t ht=>by have:=h.2.2 t ht;exact⟨by omega,by omega,by omega⟩⟩
def incr(l:List Int):Bool:=decide (l.Pairwise (· < ·))
theorem zml{l:List Int}:(l.take 1).Pairwise (· < ·):=by cases l<;>simp
theorem z10f{l:List Int}{x y:Int}(h:(l++[x]).Pairwise (· < ·))(hxy:x<y):(l++[x]++[y]).Pairwise (· < ·):=by
 rw[List.pairwise_append]
 refine⟨h,by simp,?_⟩
 intro a ha b hb
 simp only[List.mem_singleton] at hb
 subst hb
 rcases List.mem_append.1 ha with ha | ha
 ·have:=(List.pairwise_append.1 h).2.2 a ha x (by simp);omega
 ·simp only[List.mem_singleton] at ha;omega
theorem zmn{l:List Int}{k:Nat}(hk:k+1<l.length)(h:(l.take (k+1)).Pairwise (· < ·))(hx:l[k]'(by omega)<l[k+1]):(l.take (k+2)).Pairwise (· < ·):=by
 rw[z1ek (show k<l.length by omega)] at h
 rw[z1ek hk,z1ek (show k<l.length by omega)]
 exact z10f h hx
theorem zmk{l:List Int}{k:Nat}(hk:k+1<l.length)(hx:¬l[k]'(by omega)<l[k+1]):incr l=false:=by
 unfold incr
 rw[decide_eq_false_iff_not]
 intro h
 exact hx (List.pairwise_iff_getElem.1 h k (k+1) (by omega) hk (by omega))
def z10z(p:Int)(l:List Int):Bool:=incr l&&l.all (inB 0 (p-1))
theorem z110(p:Int)(l:List Int):(incr l&&l.all (inB 0 (p-1)))=z10z p l:=rfl
def goodT(p:Int)(t:Tr):Bool:=!t.inn.isEmpty&&z10z p t.inn&&z10z p t.out&&z10z p t.rst
def goodN(n:Net):Bool:=inB 1 16 n.pl&&decide (n.tr.length≤24)&&n.tr.all (goodT n.pl)
theorem zj8{n:Net}{k:Nat}(hk:k<n.tr.length)(h:goodT n.pl n.tr[k]=false):goodN n=false:=by
 unfold goodN;rw[z2y hk h];simp
theorem zjj{p:Int}{t:Tr}(h:t.inn.length=0):goodT p t=false:=by
 have:t.inn=[]:=List.eq_nil_of_length_eq_zero h
 simp [goodT,this]
theorem zjd{p:Int}{t:Tr}(h:t.inn.length≠0)(h1:z10z p t.inn=true)(h2:z10z p t.out=true)(h3:z10z p t.rst=true):goodT p t=true:=by
 have:t.inn.isEmpty=false:=by cases e:t.inn with
  | nil=>simp [e] at h
  | cons=>rfl
 simp [goodT,this,h1,h2,h3]
def at_(m:List Int)(p:Int):Int:=m.getD p.toNat 0
theorem at_eq{m:List Int}{p:Int}(h:p.toNat<m.length):m[p.toNat]=at_ m p:=by
 unfold at_;rw[List.getD_eq_getElem?_getD,List.getElem?_eq_getElem h];rfl
def canT(t:Tr)(m:List Int):Bool:=t.inn.all fun p=>!(at_ m p == 0)
def decS(m:List Int)(p:Int):List Int:=m.set p.toNat (at_ m p-1)
def zerS(m:List Int)(p:Int):List Int:=m.set p.toNat 0
def incS(m:List Int)(p:Int):List Int:=m.set p.toNat (at_ m p+1)
def decL(m l:List Int):List Int:=l.foldl decS m
def zerL(m l:List Int):List Int:=l.foldl zerS m
def incL(m l:List Int):List Int:=l.foldl incS m
def zgc(t:Tr)(m:List Int):List Int:=incL (zerL (decL m t.inn) t.rst) t.out
theorem zgy{α β:Type}(f:β→α→β)(b:β){l:List α}{k:Nat}(hk:k<l.length):(l.take (k+1)).foldl f b=f ((l.take k).foldl f b) l[k]:=by
 rw[z1ek hk,List.foldl_append];rfl
theorem zbv(m l:List Int):(decL m l).length=m.length:=by
 unfold decL
 induction l generalizing m with
 | nil=>rfl
 | cons x l ih=>rw[List.foldl_cons,ih];simp [decS]
theorem z1h7(m l:List Int):(zerL m l).length=m.length:=by
 unfold zerL
 induction l generalizing m with
 | nil=>rfl
 | cons x l ih=>rw[List.foldl_cons,ih];simp [zerS]
theorem zmf(m l:List Int):(incL m l).length=m.length:=by
 unfold incL
 induction l generalizing m with
 | nil=>rfl
 | cons x l ih=>rw[List.foldl_cons,ih];simp [incS]
theorem zge(t:Tr)(m:List Int):(zgc t m).length=m.length:=by
 unfold zgc;rw[zmf,z1h7,zbv]
theorem z4k{m:List Int}{p lo hi:Int}(h : ∀ x∈m,lo≤x∧x≤hi)(hp:p.toNat<m.length):lo≤at_ m p∧at_ m p≤hi:=by
 rw[←at_eq hp];exact h _ (List.getElem_mem hp)
theorem zso{m:List Int}{i:Nat}{v x:Int}(h:x∈m.set i v):x∈m∨x=v:=List.mem_or_eq_of_mem_set h
theorem zbu{m l:List Int}{lo hi:Int}(h : ∀ x∈m,lo≤x∧x≤hi)(hl : ∀ p∈l,p.toNat<m.length) : ∀ x∈decL m l,lo-l.length≤x∧x≤hi:=by
  unfold decL
  induction l generalizing m lo with
  | nil=>intro x hx;have:=h x hx;simp;omega
  | cons p l ih =>
    rw[List.foldl_cons]
    have hp:=z4k h (hl p (by simp))
    intro x hx
    have h2:=ih (m:=decS m p) (lo:=lo-1) (by
      intro y hy
      rcases zso hy with hy | hy
      · have:=h y hy;omega
      · omega) (by intro q hq;simp [decS];exact hl q (by simp [hq])) x hx
    simp only[List.length_cons];omega
theorem z1h6{m l:List Int}{lo hi:Int}(h : ∀ x∈m,lo≤x∧x≤hi)(h0:lo≤0∧0≤hi) : ∀ x∈zerL m l,lo≤x∧x≤hi:=by
  unfold zerL
  induction l generalizing m with
  | nil=>exact h
  | cons p l ih =>
    rw[List.foldl_cons]
    refine ih ?_
    intro y hy
    rcases zso hy with hy | hy
    · exact h y hy
    · omega
theorem zme{m l:List Int}{lo hi:Int}(h : ∀ x∈m,lo≤x∧x≤hi)(hl : ∀ p∈l,p.toNat<m.length) : ∀ x∈incL m l,lo≤x∧x≤hi+l.length:=by
  unfold incL
  induction l generalizing m hi with
  | nil=>intro x hx;have:=h x hx;simp;omega
  | cons p l ih =>
    rw[List.foldl_cons]
    have hp:=z4k h (hl p (by simp))
    intro x hx
    have h2:=ih (m:=incS m p) (hi:=hi+1) (by
      intro y hy
      rcases zso hy with hy | hy
      · have:=h y hy;omega
      · omega) (by intro q hq;simp [incS];exact hl q (by simp [hq])) x hx
    simp only[List.length_cons];omega
theorem zbw{m l:List Int}{k:Nat}(hk:k<l.length):decL m (l.take (k+1))=(decL m (l.take k)).set (l[k].toNat) (at_ (decL m (l.take k)) l[k]-1):=by
 unfold decL;rw[zgy _ _ hk];rfl
theorem z1h8{m l:List Int}{k:Nat}(hk:k<l.length):zerL m (l.take (k+1))=(zerL m (l.take k)).set (l[k].toNat) 0:=by
 unfold zerL;rw[zgy _ _ hk];rfl
theorem zmg{m l:List Int}{k:Nat}(hk:k<l.length):incL m (l.take (k+1))=(incL m (l.take k)).set (l[k].toNat) (at_ (incL m (l.take k)) l[k]+1):=by
 unfold incL;rw[zgy _ _ hk];rfl
theorem z111{p:Int}{l:List Int}(h:z10z p l=true) : ∀ x∈l,0≤x∧x<p:=by
 simp only[z10z,Bool.and_eq_true,List.all_eq_true] at h
 intro x hx
 have:=h.2 x hx
 simp [inB] at this;omega
theorem zmj : ∀ {l:List Int} {lo hi:Int},l.Pairwise (· < ·)→(∀ x∈l,lo≤x∧x<hi)→lo≤hi→(l.length:Int)≤hi-lo
  | [],_,_,_,_,h=>by simp;omega
  | a :: l, lo, hi, hp, hb, h => by
    rw[List.pairwise_cons] at hp
    have ha:=hb a (by simp)
    have:=zmj (l:=l) (lo:=a+1) (hi:=hi) hp.2 (fun x hx=>⟨by have:=hp.1 x hx;omega,(hb x (by simp [hx])).2⟩) (by omega)
    simp only[List.length_cons];omega
theorem z113{p:Int}{l:List Int}(h:z10z p l=true)(h0:0≤p):(l.length:Int)≤p:=by
 have h1:l.Pairwise (· < ·):=by simp [z10z,incr] at h;exact h.1
 have:=zmj h1 (z111 h) h0;omega
theorem zjk{p:Int}{t:Tr}(h:goodT p t=true):t.inn≠[]∧z10z p t.inn=true∧z10z p t.out=true∧z10z p t.rst=true:=by
 simp [goodT] at h
 exact⟨h.1.1.1,h.1.1.2,h.1.2,h.2⟩
theorem zja{n:Net}(h:goodN n=true):1≤n.pl∧n.pl≤16∧n.tr.length≤24∧∀ t∈n.tr,goodT n.pl t=true:=by
 simp [goodN,inB] at h
 exact⟨h.1.1.1,h.1.1.2,h.1.2,h.2⟩
theorem zjh{p:Int}{t:Tr}{m:List Int}(h:goodT p t=true)(hm:(m.length:Int)=p):(∀ q∈t.inn,0≤q∧q.toNat<m.length)∧(∀ q∈t.out,0≤q∧q.toNat<m.length)∧(∀ q∈t.rst,0≤q∧q.toNat<m.length):=by
 obtain⟨_,h1,h2,h3⟩:=zjk h
 refine⟨fun q hq=>?_,fun q hq=>?_,fun q hq=>?_⟩
 ·have:=z111 h1 q hq;omega
 ·have:=z111 h2 q hq;omega
 ·have:=z111 h3 q hq;omega
theorem zjg{p:Int}{t:Tr}(h:goodT p t=true)(hp:0≤p∧p≤16):t.inn.length≤16∧t.out.length≤16∧t.rst.length≤16:=by
 obtain⟨_,h1,h2,h3⟩:=zjk h
 have:=z113 h1 hp.1
 have:=z113 h2 hp.1
 have:=z113 h3 hp.1
 omega
def zs4(n:Net)(m:List Int):Bool:=goodN n&&goodM n.pl m
def trAt(n:Net)(t:Int):Tr:=n.tr.getD t.toNat ⟨[],[],[]⟩
theorem z1ex{n:Net}{t:Int}(h:t.toNat<n.tr.length):n.tr[t.toNat]=trAt n t:=by
 unfold trAt;rw[List.getD_eq_getElem?_getD,List.getElem?_eq_getElem h];rfl
def canN(n:Net)(m:List Int)(t:Int):Bool:=zs4 n m&&inB 0 (n.tr.length-1) t&&canT (trAt n t) m
def zvy(n:Net)(m:List Int)(t:Int):Bool:=canN n m t&&(zgc (trAt n t) m).all (inB 0 50)
theorem zs5{n:Net}{m:List Int}(h:zs4 n m=true):goodN n=true∧goodM n.pl m=true:=by simpa [zs4] using h
theorem z8e{n:Net}{m:List Int}{t:Int}(h:canN n m t=true):goodN n=true∧goodM n.pl m=true∧0≤t∧t.toNat<n.tr.length∧canT (trAt n t) m=true∧goodT n.pl (trAt n t)=true:=by
 simp only[canN,Bool.and_eq_true,inB,decide_eq_true_eq] at h
 obtain⟨⟨h1,h2⟩,h3⟩:=h
 obtain⟨h4,h5⟩:=zs5 h1
 have h6:t.toNat<n.tr.length:=by omega
 refine⟨h4,h5,h2.1,h6,h3,?_⟩
 have:=(zja h4).2.2.2 n.tr[t.toNat] (List.getElem_mem h6)
 rwa [z1ex h6] at this
def enabK(n:Net)(m:List Int)(k:Nat):List Int:=((List.range k).filter fun i=>canT (n.tr.getD i ⟨[],[],[]⟩) m).map Int.ofNat
def enabL(n:Net)(m:List Int):List Int:=enabK n m n.tr.length
theorem zd2(n:Net)(m:List Int)(k:Nat):(enabK n m k).length≤k:=by
 have:=List.length_filter_le (fun i=>canT (n.tr.getD i ⟨[],[],[]⟩) m) (List.range k)
 simp only[enabK,List.length_map];simp at this ⊢;omega
theorem zd3{n:Net}{m:List Int}{k:Nat}(hk:k<n.tr.length)(h:canT n.tr[k] m=true):enabK n m (k+1)=enabK n m k++[(k:Int)]:=by
 have e:n.tr[k]?.getD ⟨[],[],[]⟩=n.tr[k]:=by rw[List.getElem?_eq_getElem hk];rfl
 simp [enabK,List.range_succ,List.filter_append,e,h]
theorem zd1{n:Net}{m:List Int}{k:Nat}(hk:k<n.tr.length)(h:canT n.tr[k] m=false):enabK n m (k+1)=enabK n m k:=by
 have e:n.tr[k]?.getD ⟨[],[],[]⟩=n.tr[k]:=by rw[List.getElem?_eq_getElem hk];rfl
 simp [enabK,List.range_succ,List.filter_append,e,h]
theorem zd4{n:Net}{m:List Int}{t:Int}:t∈enabL n m↔0≤t∧t.toNat<n.tr.length∧canT (trAt n t) m=true:=by
 simp only[enabL,enabK,List.mem_map,List.mem_filter,List.mem_range,trAt]
 constructor
 ·rintro⟨i,⟨h1,h2⟩,rfl⟩
  exact⟨by simp,by simpa using h1,by simpa using h2⟩
 ·rintro⟨h1,h2,h3⟩
  exact⟨t.toNat,⟨h2,h3⟩,by simp;omega⟩
def hasR(n:Net):Bool:=n.tr.any fun t=>decide (0<t.rst.length)
/-! Firing is monotone. -/
theorem zk2{n:Net}{k:Nat}(h:hasR n=false)(hk:k<n.tr.length):n.tr[k].rst=[]:=by
 simp only[hasR,List.any_eq_false,decide_eq_true_eq] at h
 have:=h _ (List.getElem_mem hk)
 exact List.eq_nil_of_length_eq_zero (by omega)
end Go.Proofs.YtbaclnecajkknaaGreat.Pi
namespace Go.Proofs.YtbaclnecajkknaaGreat.Pi
open Go
set_option linter.all false

theorem zw1{n:Net}{m:List Int}{t:Int}(h:zvy n m t=true):zs4 n (zgc (trAt n t) m)=true:=by
 obtain⟨h1,h2⟩:=Bool.and_eq_true ..▸h
 obtain⟨h3,h4,_⟩:=z8e h1
 have h5:=zj2 h4
 simp only[zs4,h3,Bool.true_and,goodM,zge,h2,Bool.and_true]
 simp [inB];omega
theorem zw0{n:Net}{m:List Int}{t:Int}(h:zvy n m t=true):t∈enabL n m:=by
 obtain⟨h1,h2⟩:=Bool.and_eq_true ..▸h
 obtain⟨h3,h4,h5,h6,h7,h8⟩:=z8e h1
 exact zd4.2 ⟨h5,h6,h7⟩
end Go.Proofs.YtbaclnecajkknaaGreat.Pi
namespace Go.Proofs.YtbaclnecajkknaaGreat.Pi
open Go
set_option linter.all false

/-! Tokens place by place. -/
theorem z50{m:List Int}{p q x:Int}(hp:0≤p∧p.toNat<m.length)(hq:0≤q):at_ (m.set p.toNat x) q=if q=p then x else at_ m q:=by
 unfold at_
 rw[List.getD_eq_getElem?_getD,List.getD_eq_getElem?_getD,List.getElem?_set]
 by_cases h:q=p
 ·subst h;simp [hp.2]
 ·have:p.toNat≠q.toNat:=by omega
  simp [h,this]
theorem z4q{a b:List Int}(hl:a.length=b.length)(h : ∀ p:Int,0≤p→p.toNat<a.length→at_ a p=at_ b p):a=b:=by
 apply List.ext_getElem hl
 intro i h1 h2
 have:=h i (by omega) (by simpa using h1)
 rw[←at_eq (by simpa using h1),←at_eq (by simpa using h2)] at this
 simpa using this
def zmz(m l:List Int):Prop:=∀ q∈l,0≤q∧q.toNat<m.length
theorem z4p{l:List Int} : ∀ {m:List Int} {p:Int},zmz m l→0≤p→at_ (decL m l) p=at_ m p-(l.count p:Nat):=by
  unfold decL
  induction l with
  | nil=>intros;simp
  | cons q l ih =>
    intro m p hm hp
    rw[List.foldl_cons,ih (fun r hr=>by simp [decS];exact hm r (by simp [hr])) hp]
    unfold decS
    rw[z50 (hm q (by simp)) hp,List.count_cons]
    by_cases h:p=q
    · subst h;simp;omega
    · have:(q == p)=false:=by simp;omega
      simp [h,this]
theorem z4v{l:List Int} : ∀ {m:List Int} {p:Int},zmz m l→0≤p→at_ (incL m l) p=at_ m p+(l.count p:Nat):=by
  unfold incL
  induction l with
  | nil=>intros;simp
  | cons q l ih =>
    intro m p hm hp
    rw[List.foldl_cons,ih (fun r hr=>by simp [incS];exact hm r (by simp [hr])) hp]
    unfold incS
    rw[z50 (hm q (by simp)) hp,List.count_cons]
    by_cases h:p=q
    · subst h;simp;omega
    · have:(q == p)=false:=by simp;omega
      simp [h,this]
theorem z51{l:List Int} : ∀ {m:List Int} {p:Int},zmz m l→0≤p→at_ (zerL m l) p=if p∈l then 0 else at_ m p:=by
  unfold zerL
  induction l with
  | nil=>intros;simp
  | cons q l ih =>
    intro m p hm hp
    rw[List.foldl_cons,ih (fun r hr=>by simp [zerS];exact hm r (by simp [hr])) hp]
    unfold zerS
    rw[z50 (hm q (by simp)) hp]
    by_cases h:p=q
    · subst h;simp
    · simp [h]
theorem zmh{l:List Int}(h:incr l=true)(p:Int):l.count p=if p∈l then 1 else 0:=by
  have h1:l.Pairwise (· < ·):=by simpa [incr] using h
  clear h
  induction l with
  | nil=>simp
  | cons q l ih =>
    rw[List.pairwise_cons] at h1
    rw[List.count_cons,ih h1.2]
    by_cases hq:p=q
    · subst hq
      have:p∉l:=fun hp=>by have:=h1.1 p hp;omega
      simp [this]
    · have:(q == p)=false:=by simp;omega
      simp [hq,this]
theorem z112{p:Int}{l:List Int}(h:z10z p l=true):incr l=true:=by
 simp only[z10z,Bool.and_eq_true] at h;exact h.1
theorem zn0{m m' l:List Int}(h:zmz m l)(hl:m'.length=m.length):zmz m' l:=fun q hq=>by rw[hl];exact h q hq
theorem z4s{t:Tr}{m:List Int}{p:Int}(h1:zmz m t.inn)(h2:zmz m t.out)(h3:zmz m t.rst)(hp:0≤p) :
  at_ (zgc t m) p=(if p∈t.rst then 0 else at_ m p-(t.inn.count p:Nat))+(t.out.count p:Nat):=by
 unfold zgc
 rw[z4v (zn0 h2 (by rw[z1h7,zbv])) hp,z51 (zn0 h3 (by rw[zbv])) hp,z4p h1 hp]
theorem zjf{p:Int}{t:Tr}{m:List Int}(h:goodT p t=true)(hm:(m.length:Int)=p):zmz m t.inn∧zmz m t.out∧zmz m t.rst:=zjh h hm
theorem z4t{p0:Int}{t:Tr}{m:List Int}{p:Int}(h:goodT p0 t=true)(hm:(m.length:Int)=p0)(hp:0≤p) :
  at_ (zgc t m) p=(if p∈t.rst then 0 else at_ m p-(if p∈t.inn then 1 else 0))+(if p∈t.out then 1 else 0):=by
 obtain⟨h1,h2,h3⟩:=zjf h hm
 obtain⟨_,g1,g2,g3⟩:=zjk h
 rw[z4s h1 h2 h3 hp,zmh (z112 g1),zmh (z112 g2)]
 have e1:(((if p∈t.inn then 1 else 0:Nat)):Int)=if p∈t.inn then 1 else 0:=by split<;>rfl
 have e2:(((if p∈t.out then 1 else 0:Nat)):Int)=if p∈t.out then 1 else 0:=by split<;>rfl
 rw[e1,e2]
/-! Nets turned. -/
theorem z8f{t:Tr}{m:List Int}(h:canT t m=true){p:Int}(hp:p∈t.inn):at_ m p≠0:=by
 simp only[canT,List.all_eq_true] at h
 simpa using h p hp
theorem z8g{t:Tr}{m:List Int}(h : ∀ p∈t.inn,at_ m p≠0):canT t m=true:=by
 simp only[canT,List.all_eq_true]
 intro p hp;simpa using h p hp
/-! Transitions with a property. -/
def idxK(f:Tr→Bool)(n:Net)(k:Nat):List Int:=((List.range k).filter fun i=>f (n.tr.getD i ⟨[],[],[]⟩)).map Int.ofNat
def idxL(f:Tr→Bool)(n:Net):List Int:=idxK f n n.tr.length
theorem zki(f:Tr→Bool)(n:Net)(k:Nat):(idxK f n k).length≤k:=by
 have:=List.length_filter_le (fun i=>f (n.tr.getD i ⟨[],[],[]⟩)) (List.range k)
 simp only[idxK,List.length_map];simp at this ⊢;omega
theorem zkj{f:Tr→Bool}{n:Net}{k:Nat}(hk:k<n.tr.length)(h:f n.tr[k]=true):idxK f n (k+1)=idxK f n k++[(k:Int)]:=by
 have e:n.tr[k]?.getD ⟨[],[],[]⟩=n.tr[k]:=by rw[List.getElem?_eq_getElem hk];rfl
 simp [idxK,List.range_succ,List.filter_append,e,h]
theorem zkh{f:Tr→Bool}{n:Net}{k:Nat}(hk:k<n.tr.length)(h:f n.tr[k]=false):idxK f n (k+1)=idxK f n k:=by
 have e:n.tr[k]?.getD ⟨[],[],[]⟩=n.tr[k]:=by rw[List.getElem?_eq_getElem hk];rfl
 simp [idxK,List.range_succ,List.filter_append,e,h]
def hasB(l:List Int)(p:Int):Bool:=decide (p∈l)
theorem zjy(l:List Int)(p:Int):hasB l p=l.any (fun x=>x == p):=by
 unfold hasB
 rw[Bool.eq_iff_iff,List.any_eq_true]
 simp only[decide_eq_true_eq,beq_iff_eq]
 exact⟨fun h=>⟨p,h,rfl⟩,fun⟨x,h,e⟩=>e▸h⟩
theorem zk0{l:List Int}{p:Int}(h:l.any (fun x=>x == p)=false):hasB l p=false:=by rw[zjy,h]
theorem zk1{l:List Int}{p:Int}{k:Nat}(hk:k<l.length)(h:l[k]=p):hasB l p=true:=by
 subst h;simp [hasB]
/-! Free choice. -/
def meetB(a b:List Int):Bool:=a.any (hasB b)
end Go.Proofs.YtbaclnecajkknaaGreat.Pi
namespace Go.Proofs.YtbaclnecajkknaaGreat.Pi
open Go
set_option linter.all false

def one(b:Bool):Int:=if b then 1 else 0
theorem zbj{a b:List Int}(hl:a.length=b.length):zbh a b=true↔∀ p:Int,0≤p→p.toNat<a.length→at_ b p≤at_ a p:=by
 unfold zbh
 rw[List.all_eq_true]
 constructor
 ·intro h p hp hpl
  have h1:=h (a[p.toNat],b[p.toNat]'(by omega)) (by
   rw[List.mem_iff_getElem]
   exact⟨p.toNat,by simp;omega,by simp⟩)
  simp only[decide_eq_true_eq] at h1
  rwa [at_eq,at_eq] at h1
 ·intro h x hx
  obtain⟨i,hi,rfl⟩:=List.mem_iff_getElem.1 hx
  simp only[List.length_zip] at hi
  have:=h i (by omega) (by simp;omega)
  rw[←at_eq (by simp;omega),←at_eq (by simp;omega)] at this
  simpa using this
end Go.Proofs.YtbaclnecajkknaaGreat.Pi
namespace Go.Proofs.YtbaclnecajkknaaGreat.Pi
open Go
set_option linter.all false

theorem z1a{orc:Orc}{m:Nat}{st:St}{Q:Out→Prop}{keep:List Bool}{b:ICode}(Inv:Nat→St→Prop)(n:Nat)(h0:Inv n (gc m ⟨clean keep st.fr,st.mem⟩))
    (step : ∀ k s,Inv k s→W orc m b s (fun o=>match o with | .next s'=>∃ j,j<k∧Inv j (gc m ⟨clean keep s'.fr,s'.mem⟩) | o=>Q o)):W orc m (.loop keep b) st Q:=by
  have key : ∀ (d k:Nat) (st:St),k<d→Inv k (gc m ⟨clean keep st.fr,st.mem⟩)→W orc m (.loop keep b) st Q:=by
    intro d
    induction d with
    | zero=>intro k st hk;omega
    | succ d ih =>
      intro k st hk hI
      obtain⟨o,h1,h2⟩:=step k _ hI
      cases o with
      | next s' =>
        obtain⟨j,hj,h5⟩:=h2
        obtain⟨o',h3,h4⟩:=ih j s' (by omega) h5
        simp only[run] at h3
        exact⟨o',by simp only[run];rw[znc,h1];exact h3,h4⟩
      | ret s'=>exact⟨_,by simp only[run];rw[znc,h1],h2⟩
      | exit i s'=>exact⟨_,by simp only[run];rw[znc,h1],h2⟩
  exact key (n+1) n st (by omega) h0
theorem z3b{α:Type}{l:List α}{p:α→Bool}{k:Nat}(hk:k<l.length)(h:(l.take k).any p=true):(l.take (k+1)).any p=true:=by
 rw[z1ek hk,List.any_append,h];rfl
theorem z39{α:Type}{l:List α}{p:α→Bool}{k:Nat}(hk:k<l.length)(h:p l[k]=true):(l.take (k+1)).any p=true:=by
 rw[z1ek hk,List.any_append];simp [h]
@[go_sem] theorem z1ab{mem:List Blk}{sz sz':Nat}{fl:Bool}{lo hi:Option PV}:z1aa mem sz (.nil fl sz') lo hi=if sz'=sz then(bound 0 lo).bind fun l=>(bound 0 hi).bind fun h=>if l=0∧h=0 then some (.nil fl sz) else none else none:=rfl
attribute [go_sem] List.getElem?_nil
abbrev bls(l:List Bool):PV:=.sl true 1 (l.map PV.bool)
/-! What can be come to: z10z and transitions are zs4 round by round. -/
structure Cl where
 pl:List Bool
 tr:List Bool
 ch:Bool
def hitB(P:List Bool)(l:List Int):Bool:=l.any fun p=>P.getD p.toNat false
def markB(P:List Bool)(l:List Int):List Bool:=l.foldl (fun a p=>a.set p.toNat true) P
theorem zrx(P:List Bool)(l:List Int):(markB P l).length=P.length:=by
 unfold markB
 induction l generalizing P with
 | nil=>rfl
 | cons p l ih=>rw[List.foldl_cons,ih];simp
theorem zry{P:List Bool}{l:List Int}{k:Nat}(hk:k<l.length):markB P (l.take (k+1))=(markB P (l.take k)).set (l[k].toNat) true:=by
 unfold markB;rw[zgy _ _ hk]
def sideI(bk:Bool)(t:Tr):List Int:=if bk then t.out else t.inn
def sideO(bk:Bool)(t:Tr):List Int:=if bk then t.inn else t.out
def trN(n:Net)(k:Nat):Tr:=n.tr.getD k ⟨[],[],[]⟩
theorem z1f3{n:Net}{k:Nat}(hk:k<n.tr.length):trN n k=n.tr[k]:=by
 unfold trN;rw[List.getD_eq_getElem?_getD,List.getElem?_eq_getElem hk];rfl
def z9t(n:Net)(bk:Bool)(s:Cl)(k:Nat):Cl:=if s.tr.getD k false||!hitB s.pl (sideI bk (trN n k)) then s else⟨markB s.pl (sideO bk (trN n k)),s.tr.set k true,true⟩
def clK(n:Net)(bk:Bool)(s:Cl)(k:Nat):Cl:=(List.range k).foldl (z9t n bk) ⟨s.pl,s.tr,false⟩
def z9n(n:Net)(bk:Bool)(s:Cl):Cl:=clK n bk s n.tr.length
def clRun(n:Net)(bk:Bool):Nat→Cl→Cl
 | 0,s=>s
 | f+1,s=>if (z9n n bk s).ch then clRun n bk f (z9n n bk s) else z9n n bk s
theorem z9m(n:Net)(bk:Bool)(s:Cl)(k:Nat):clK n bk s (k+1)=z9t n bk (clK n bk s k) k:=by
 simp [clK,List.range_succ,List.foldl_append]
theorem z9w{n:Net}{bk:Bool}{s:Cl}{k:Nat}(h:s.tr.getD k false=true∨hitB s.pl (sideI bk (trN n k))=false):z9t n bk s k=s:=by
 unfold z9t
 rcases h with h | h
 ·rw[h];rfl
 ·rw[h];simp
theorem z9x{n:Net}{bk:Bool}{s:Cl}{k:Nat}(h:s.tr.getD k false=false)(h2:hitB s.pl (sideI bk (trN n k))=true):z9t n bk s k=⟨markB s.pl (sideO bk (trN n k)),s.tr.set k true,true⟩:=by
 unfold z9t
 rw[h,h2];rfl
theorem z9v(n:Net)(bk:Bool)(s:Cl)(k:Nat):(z9t n bk s k).pl.length=s.pl.length∧(z9t n bk s k).tr.length=s.tr.length:=by
 unfold z9t
 split
 ·exact⟨rfl,rfl⟩
 ·exact⟨zrx ..,by simp⟩
theorem z9k(n:Net)(bk:Bool)(s:Cl)(k:Nat):(clK n bk s k).pl.length=s.pl.length∧(clK n bk s k).tr.length=s.tr.length:=by
  induction k with
  | zero=>exact⟨rfl,rfl⟩
  | succ k ih =>
    rw[z9m]
    have:=z9v n bk (clK n bk s k) k
    omega
theorem z9r(n:Net)(bk:Bool)(f:Nat) : ∀ (s:Cl),(clRun n bk f s).pl.length=s.pl.length∧(clRun n bk f s).tr.length=s.tr.length:=by
  induction f with
  | zero=>intro s;exact⟨rfl,rfl⟩
  | succ f ih =>
    intro s
    have h:=z9k n bk s n.tr.length
    have h2:=ih (z9n n bk s)
    unfold clRun
    unfold z9n at h2 ⊢
    split<;>omega
def cntF(l:List Bool):Nat:=l.countP (!·)
theorem zan{l:List Bool}{k:Nat}(hk:k<l.length)(h:l.getD k false=false):cntF (l.set k true)<cntF l:=by
  induction l generalizing k with
  | nil=>simp at hk
  | cons x l ih =>
    cases k with
    | zero=>simp at h;subst h;simp [cntF]
    | succ k =>
      have:=ih (k:=k) (by simpa using hk) (by simpa using h)
      simp only[cntF,List.set_cons_succ,List.countP_cons] at this ⊢
      omega
theorem z9u{n:Net}{bk:Bool}{s:Cl}{k:Nat}(hk:k<s.tr.length):cntF (z9t n bk s k).tr≤cntF s.tr∧((z9t n bk s k).ch=true→s.ch=true∨cntF (z9t n bk s k).tr<cntF s.tr):=by
 unfold z9t
 split
 ·exact⟨Nat.le_refl _,fun h=>.inl h⟩
 ·rename_i h
  have h1:s.tr.getD k false=false:=by
   cases e:s.tr.getD k false
   ·rfl
   ·rw[e] at h;simp at h
  have:=zan hk h1
  exact⟨by simp only;omega,fun _=>.inr this⟩
theorem z9j{n:Net}{bk:Bool}{s:Cl}{k:Nat}(hk:k≤s.tr.length):cntF (clK n bk s k).tr≤cntF s.tr∧((clK n bk s k).ch=true→cntF (clK n bk s k).tr<cntF s.tr):=by
  induction k with
  | zero=>exact⟨Nat.le_refl _,fun h=>by simp [clK] at h⟩
  | succ k ih =>
    have h1:=ih (by omega)
    rw[z9m]
    have h2:=z9u (n:=n) (bk:=bk) (s:=clK n bk s k) (k:=k) (by rw[(z9k ..).2];omega)
    refine⟨by omega,fun h=>?_⟩
    rcases h2.2 h with h3 | h3
    · have:=h1.2 h3;omega
    · omega
theorem zal(l:List Bool):cntF l≤l.length:=List.countP_le_length
theorem z9p{n:Net}{bk:Bool} : ∀ {f:Nat} {s:Cl},s.tr.length=n.tr.length→cntF s.tr<f→clRun n bk f s=clRun n bk (f+1) s
  | 0,_,_,h=>by omega
  | f + 1, s, hl, h => by
    show(if (z9n n bk s).ch then clRun n bk f (z9n n bk s) else z9n n bk s)=(if (z9n n bk s).ch then clRun n bk (f+1) (z9n n bk s) else z9n n bk s)
    cases e:(z9n n bk s).ch with
    | false=>rfl
    | true =>
      simp only[if_true]
      have h1:=(z9j (n:=n) (bk:=bk) (s:=s) (k:=n.tr.length) (by omega)).2 e
      exact z9p (by rw[z9n,(z9k ..).2,hl]) (by unfold z9n;omega)
theorem z9q{n:Net}{bk:Bool}{s:Cl}(hl:s.tr.length=n.tr.length) : ∀ {d f:Nat},cntF s.tr<f→clRun n bk f s=clRun n bk (f+d) s
 | 0,_,_=>rfl
 | d+1,f,h=>by rw[z9q (d:=d) hl h,z9p hl (by omega)];rfl
theorem z9s{n:Net}{bk:Bool}{s:Cl}(hl:s.tr.length=n.tr.length):clRun n bk (cntF s.tr+1) s=if (z9n n bk s).ch then clRun n bk (cntF (z9n n bk s).tr+1) (z9n n bk s) else z9n n bk s:=by
  show(if (z9n n bk s).ch then clRun n bk (cntF s.tr) (z9n n bk s) else z9n n bk s)=_
  cases e:(z9n n bk s).ch with
  | false=>rfl
  | true =>
    simp only[if_true]
    have h1:=(z9j (n:=n) (bk:=bk) (s:=s) (k:=n.tr.length) (by omega)).2 e
    have h2:(z9n n bk s).tr.length=n.tr.length:=by rw[z9n,(z9k ..).2,hl]
    have h3:=z9q (n:=n) (bk:=bk) h2 (d:=cntF s.tr-(cntF (z9n n bk s).tr+1)) (f:=cntF (z9n n bk s).tr+1) (by omega)
    rw[h3]
    congr 1
    unfold z9n;omega
theorem zam(k:Nat):cntF (List.replicate k false)=k:=by
 unfold cntF;rw[List.countP_replicate];simp
def z132(n:Net)(bk:Bool)(p:Int):Cl:=clRun n bk (n.tr.length+1) ⟨(List.replicate n.pl.toNat false).set p.toNat true,List.replicate n.tr.length false,true⟩
theorem z135(n:Net)(bk:Bool)(p:Int):(z132 n bk p).pl.length=n.pl.toNat∧(z132 n bk p).tr.length=n.tr.length:=by
 have:=z9r n bk (n.tr.length+1) ⟨(List.replicate n.pl.toNat false).set p.toNat true,List.replicate n.tr.length false,true⟩
 simpa [z132] using this
theorem z133(n:Net)(bk:Bool)(p:Int):z132 n bk p=clRun n bk (cntF (List.replicate n.tr.length false)+1) ⟨(List.replicate n.pl.toNat false).set p.toNat true,List.replicate n.tr.length false,true⟩:=by
 rw[zam];rfl
theorem zig{l:List Bool}{k:Nat}(hk:k<l.length):l[k]=l.getD k false:=by
 rw[List.getD_eq_getElem?_getD,List.getElem?_eq_getElem hk];rfl
def bothK(a b:List Bool)(k:Nat):List Int:=((List.range k).filter fun i=>a.getD i false&&b.getD i false).map Int.ofNat
def bothL(a b:List Bool):List Int:=bothK a b a.length
theorem z72(a b:List Bool)(k:Nat):(bothK a b k).length≤k:=by
 have:=List.length_filter_le (fun i=>a.getD i false&&b.getD i false) (List.range k)
 simp only[bothK,List.length_map];simp at this ⊢;omega
theorem z73{a b:List Bool}{k:Nat}(h:a.getD k false=true)(h2:b.getD k false=true):bothK a b (k+1)=bothK a b k++[(k:Int)]:=by
 simp only[bothK,List.range_succ,List.filter_append,List.filter_cons,h,h2,Bool.and_self,if_true,List.filter_nil,List.map_append];rfl
theorem z71{a b:List Bool}{k:Nat}(h:(a.getD k false&&b.getD k false)=false):bothK a b (k+1)=bothK a b k:=by
 simp only[bothK,List.range_succ,List.filter_append,List.filter_cons,h,Bool.false_eq_true,if_false,List.filter_nil,List.append_nil]
def wayP(n:Net)(a b:Int):List Int:=bothL (z132 n false a).pl (z132 n true b).pl
def wayT(n:Net)(a b:Int):List Int:=bothL (z132 n false a).tr (z132 n true b).tr
def okWay(n:Net)(a b:Int):Bool:=goodN n&&inB 0 (n.pl-1) a&&inB 0 (n.pl-1) b
/-! Flows. -/
structure Fl where
 net:Net
 src:Int
 dst:Int
abbrev encF(f:Fl):PV:=.agg [I f.net.pl,trs f.net.tr,I f.src,I f.dst]
def z1bp(f:Fl)(t:Tr):Bool:=hasB t.out f.src||hasB t.inn f.dst||hasB t.rst f.src||hasB t.rst f.dst
def ziu(f:Fl):Bool:=okWay f.net f.src f.dst&&!decide (f.src=f.dst)&&f.net.tr.all (fun t=>!z1bp f t)&&decide (((wayP f.net f.src f.dst).length:Int)=f.net.pl)&&decide ((wayT f.net f.src f.dst).length=f.net.tr.length)
theorem ziy{f:Fl}(h:ziu f=true):goodN f.net=true∧(0≤f.src∧f.src<f.net.pl)∧(0≤f.dst∧f.dst<f.net.pl)∧f.src≠f.dst∧(∀ t∈f.net.tr,z1bp f t=false)∧((wayP f.net f.src f.dst).length:Int)=f.net.pl∧(wayT f.net f.src f.dst).length=f.net.tr.length:=by
 simp only[ziu,okWay,inB,Bool.and_eq_true,decide_eq_true_eq,Bool.not_eq_true',decide_eq_false_iff_not,List.all_eq_true] at h
 obtain⟨⟨⟨⟨⟨⟨h1,h2⟩,h3⟩,h4⟩,h5⟩,h6⟩,h7⟩:=h
 exact⟨h1,by omega,by omega,h4,h5,h6,h7⟩
/-! Drawn flows: how much grows. -/
def growT:Nat→Nat
 | 0=>1
 | d+1=>2+2*growT d
def growC:Nat→Nat
 | 0=>0
 | d+1=>2+2*growC d
theorem zjq(d:Nat):d<growT d:=by
 induction d with
 | zero=>decide
 | succ d ih=>have:growT (d+1)=2+2*growT d:=rfl;omega
theorem zjr{d:Nat}(h:d≤3):growT d≤22∧growC d≤14:=by
 rcases d with _ | _ | _ | _ | d<;>first | omega | decide
def smq(q:Nat)(tr:List Tr):Prop:=∀ t∈tr,t.inn.length≤q∧t.out.length≤q∧t.rst.length≤q
theorem z1b6{q q':Nat}{tr:List Tr}(hq:q≤q')(h:smq q tr):smq q' tr:=fun t ht=>by have:=h t ht;omega
theorem z1b9{q:Nat}{tr:List Tr}{t:Tr}(h:smq q tr)(ht:t.inn.length≤q∧t.out.length≤q∧t.rst.length≤q):smq q (tr++[t]):=by
 intro u hu
 rcases List.mem_append.1 hu with hu | hu
 ·exact h u hu
 ·simp only[List.mem_singleton] at hu;subst hu;exact ht
theorem z1b8{q:Nat}{tr:List Tr}{t:Tr}{k:Nat}(h:smq q tr)(ht:t.inn.length≤q∧t.out.length≤q∧t.rst.length≤q):smq q (tr.set k t):=by
 intro u hu
 rcases List.mem_or_eq_of_mem_set hu with hu | rfl
 ·exact h u hu
 ·exact ht
theorem z1b7{q:Nat}:smq q []:=fun t ht=>by simp at ht
def oneM(n:Nat)(p:Int):List Int:=(List.replicate n 0).set p.toNat 1
theorem zwm{n:Net}{p:Int}(hg:goodN n=true)(hp:0≤p∧p<n.pl):goodM n.pl (oneM n.pl.toNat p)=true:=by
 have:=zja hg
 have h1:inB 1 16 n.pl=true:=by simp [inB];omega
 have h2:(((oneM n.pl.toNat p).length:Int) == n.pl)=true:=by simp only[oneM,List.length_set,List.length_replicate,beq_iff_eq];omega
 have h3:(oneM n.pl.toNat p).all (inB 0 50)=true:=by
  rw[List.all_eq_true]
  intro x hx
  rcases zso hx with hx | hx
  ·have:=(List.mem_replicate.1 hx).2;subst this;rfl
  ·subst hx;rfl
 simp [goodM,h1,h2,h3]
theorem z4x{n:Nat}{p q:Int}(hp:0≤p∧p.toNat<n)(hq:0≤q):at_ (oneM n p) q=if q=p then 1 else 0:=by
 unfold oneM
 rw[z50 (by simpa using hp) hq]
 split
 ·rfl
 ·unfold at_
  rw[List.getD_eq_getElem?_getD,List.getElem?_replicate]
  split<;>rfl
end Go.Proofs.YtbaclnecajkknaaGreat.Pi
namespace Go.Proofs.YtbaclnecajkknaaGreat.Pi
open Go
set_option linter.all false

@[go_sem] theorem z69{bl:Bool}{k:IntKind}{x y:Int}:binV bl .andNot (.int k x) (.int k y)=some (.int k (bits .andNot k x y)):=by simp [binV,binI]
def maskN(l:List Int):Nat:=l.foldl (fun a p=>a ||| 2 ^ p.toNat) 0
theorem zsb{l:List Int}{k:Nat}(hk:k<l.length):maskN (l.take (k+1))=maskN (l.take k) ||| 2 ^ l[k].toNat:=by
 unfold maskN;rw[zgy _ _ hk]
theorem zs6{l:List Int}(h : ∀ p∈l,0≤p)(i:Nat) : ∀ a:Nat,(l.foldl (fun a p=>a ||| 2 ^ p.toNat) a).testBit i=(a.testBit i||hasB l i):=by
  induction l with
  | nil=>intro a;simp [hasB]
  | cons p l ih =>
    intro a
    rw[List.foldl_cons,ih (fun q hq=>h q (by simp [hq])),Nat.testBit_or,Nat.testBit_two_pow]
    have hp:=h p (by simp)
    have e:decide (p.toNat=i)=decide ((i:Int)=p):=by rw[decide_eq_decide];omega
    rw[e]
    simp only[hasB,List.mem_cons]
    by_cases h1:(i:Int)=p<;>simp [h1]
theorem zs7{l:List Int}(h : ∀ p∈l,0≤p)(i:Nat):(maskN l).testBit i=hasB l i:=by
 unfold maskN;rw[zs6 h];simp
theorem zs9{l:List Int}{q:Nat}(h : ∀ p∈l,0≤p∧p<q):maskN l<2 ^ q:=by
 apply Nat.lt_pow_two_of_testBit
 intro i hi
 rw[zs7 (fun p hp=>(h p hp).1)]
 unfold hasB
 rw[decide_eq_false_iff_not]
 intro hm
 have:=(h _ hm).2;omega
theorem zsc{a b:List Int}(ha : ∀ p∈a,0≤p)(hb : ∀ p∈b,0≤p):meetB a b=decide ((maskN a &&& maskN b)≠0):=by
 rw[Bool.eq_iff_iff]
 simp only[decide_eq_true_eq,meetB,List.any_eq_true]
 constructor
 ·rintro⟨x,hx,hy⟩ h0
  have h1:(maskN a &&& maskN b).testBit x.toNat=true:=by
   rw[Nat.testBit_and,zs7 ha,zs7 hb,show((x.toNat:Nat):Int)=x by have:=ha x hx;omega,hy]
   simp [hasB,hx]
  rw[h0] at h1;simp at h1
 ·intro h0
  obtain⟨i,hi⟩:=Nat.exists_testBit_of_ne_zero h0
  rw[Nat.testBit_and,zs7 ha,zs7 hb,Bool.and_eq_true] at hi
  exact⟨i,by simpa [hasB] using hi.1,hi.2⟩
theorem z1gy(n:Int)(h0:0≤n)(h1:n<2 ^ 62):IntKind.i64.wrap n=n:=by rw[IntKind.wrap_i64];omega
theorem z34{a b:Nat}(ha:a<2 ^ 62)(hb:b<2 ^ 62):bits .and .i64 (a:Int) (b:Int)=((a &&& b:Nat):Int):=(bits_nat .i64 62 (by decide) z1gy a b ha hb).1
theorem zza{a b:Nat}(ha:a<2 ^ 62)(hb:b<2 ^ 62):bits .or .i64 (a:Int) (b:Int)=((a ||| b:Nat):Int):=(bits_nat .i64 62 (by decide) z1gy a b ha hb).2
theorem z32{a b:Nat}(ha:a<2 ^ 62)(hb:b<2 ^ 62):bits .andNot .i64 (a:Int) (b:Int)=((a &&& (2 ^ 64-(b+1)):Nat):Int):=by
 have hx:a &&& (2 ^ 64-(b+1))≤a:=Nat.and_le_left
 show IntKind.i64.wrap ((BitVec.ofInt 64 (a:Int) &&& ~~~BitVec.ofInt 64 (b:Int)).toNat:Int)=_
 rw[BitVec.toNat_and,BitVec.toNat_not,BitVec.ofInt_natCast,BitVec.ofInt_natCast,BitVec.toNat_ofNat,BitVec.toNat_ofNat,Nat.mod_eq_of_lt (by omega:a<2 ^ 64),Nat.mod_eq_of_lt (by omega:b<2 ^ 64),show 2 ^ 64-1-b=2 ^ 64-(b+1) by omega]
 exact z1gy _ (by omega) (by omega)
def wout(set l:List Int):List Int:=set.filter fun p=>!hasB l p
theorem z1gw{set l:List Int} : ∀ p∈wout set l,p∈set:=fun p hp=>(List.mem_filter.1 hp).1
theorem z1gs{set l:List Int}(h:incr set=true):incr (wout set l)=true:=by
 simp only[incr,decide_eq_true_eq] at h ⊢
 exact h.filter _
theorem z1gu{set l:List Int}(hs : ∀ p∈set,0≤p∧p<62)(hl : ∀ p∈l,0≤p∧p<62):maskN set &&& (2 ^ 64-(maskN l+1))=maskN (wout set l):=by
 apply Nat.eq_of_testBit_eq
 intro i
 have hlt:maskN l<2 ^ 64:=Nat.lt_of_lt_of_le (zs9 (q:=62) hl) (by decide)
 rw[Nat.testBit_and,Nat.testBit_two_pow_sub_succ hlt,zs7 (fun p hp=>(hs p hp).1),zs7 (fun p hp=>(hl p hp).1),zs7 (fun p hp=>(hs p (z1gw p hp)).1)]
 simp only[hasB,wout,List.mem_filter]
 by_cases h1:(i:Int)∈set
 ·have:=(hs _ h1).2
  have h2:i<64:=by omega
  by_cases h3:(i:Int)∈l<;>simp [h1,h2,h3]
 ·simp [h1]
def below(l:List Int)(k:Nat):List Int:=l.filter fun p=>decide (p<k)
theorem z5q{l:List Int}(h : ∀ p∈l,0≤p):below l 0=[]:=by
 unfold below
 rw[List.filter_eq_nil_iff]
 intro p hp
 have:=h p hp
 simp;omega
theorem z5p : ∀ {l:List Int} {k:Nat},l.Pairwise (· < ·)→below l (k+1)=below l k++(if (k:Int)∈l then [(k:Int)] else [])
  | [],k,_=>by simp [below]
  | x :: l, k, h => by
    rw[List.pairwise_cons] at h
    have ih:=z5p (l:=l) (k:=k) h.2
    unfold below at ih ⊢
    rcases Int.lt_trichotomy x k with h1 | h1 | h1
    · have a1:decide (x<((k+1:Nat):Int))=true:=by simp;omega
      have a2:decide (x<(k:Int))=true:=by simp;omega
      have a3:(k:Int)∈x :: l↔(k:Int)∈l:=by simp;omega
      simp only[List.filter_cons,a1,a2,if_true,ih,a3,List.cons_append]
    · have a1:decide (x<((k+1:Nat):Int))=true:=by simp;omega
      have a2:decide (x<(k:Int))=false:=by simp;omega
      have a4:l.filter (fun p=>decide (p<(k:Int)))=[]:=by
        rw[List.filter_eq_nil_iff];intro p hp;have:=h.1 p hp;simp;omega
      have a5:(k:Int)∉l:=fun hk=>by have:=h.1 _ hk;omega
      simp only[List.filter_cons,a1,a2,if_true,ih,Bool.false_eq_true,if_false,a4,a5]
      simp [h1]
    · have a1:decide (x<((k+1:Nat):Int))=false:=by simp;omega
      have a2:decide (x<(k:Int))=false:=by simp;omega
      have a3:(k:Int)∈x :: l↔(k:Int)∈l:=by simp;omega
      simp only[List.filter_cons,a1,a2,Bool.false_eq_true,if_false,ih,a3]
theorem z5n{l:List Int}{k:Nat}(h : ∀ p∈l,p<k):below l k=l:=by
 unfold below
 rw[List.filter_eq_self]
 intro p hp
 have:=h p hp
 simp;omega
theorem z5o(l:List Int)(k:Nat):(below l k).length≤l.length:=List.length_filter_le _ _
theorem zse{l:List Int}(h : ∀ p∈l,0≤p)(k:Nat)(h0:maskN l / 2 ^ k=0) : ∀ p∈l,p<k:=by
 intro p hp
 have h1:maskN l<2 ^ k:=Nat.lt_of_div_eq_zero (Nat.two_pow_pos k) h0
 rcases Int.lt_or_le p k with h2 | h2
 ·exact h2
 ·exfalso
  have h3:=zs7 h p.toNat
  rw[show((p.toNat:Nat):Int)=p by have:=h p hp;omega,Nat.testBit_lt_two_pow (Nat.lt_of_lt_of_le h1 (Nat.pow_le_pow_right (by decide) (by omega)))] at h3
  simp [hasB,hp] at h3
theorem zsd{l:List Int}(h : ∀ p∈l,0≤p)(k:Nat):hasB l k=decide (maskN l / 2 ^ k % 2=1):=by
 rw[←zs7 h,Nat.testBit_eq_decide_div_mod_eq]
end Go.Proofs.YtbaclnecajkknaaGreat.Pi
namespace Go.Proofs.YtbaclnecajkknaaGreat.Pi
open Go
set_option linter.all false

structure Tk where
 join:Int
 split:Int
 inn:List Int
 out:List Int
 cut:List Int
 stop:List Int
 role:Int
 deriving DecidableEq
structure Spc where
 conds:Int
 tasks:List Tk
 deriving DecidableEq
/-! ### Sizes -/
/-! ### Copies, in part done -/
theorem z18p{α:Type}{l:List α}{z x:α}{k n:Nat}(hk:k<n)(hl:l.length=k):(l++List.replicate (n-k) z).set k x=l++[x]++List.replicate (n-(k+1)) z:=by
 obtain⟨d,hd⟩ : ∃ d,n-k=d+1:=⟨n-k-1,by omega⟩
 rw[hd,show n-(k+1)=d by omega,List.replicate_succ]
 simp [List.set_append,hl]
/-! ### Equality, by steps -/
/-! ### Marks -/
/-! ### What a specification lays out -/
structure Mv where
 task:Int
 begin_:Bool
 pick:Int
 deriving DecidableEq
def cellT(b:Nat)(l:List Tr):PV:=if l=[] then .nil false 3 else .ref b 3 0 l.length
def blkT(t:TypeId)(l:List Tr):List Blk:=if l=[] then [] else [.row t false 3 (l.map encT)]
theorem z8k{b:Nat}:cellT b []=.nil false 3:=rfl
theorem z8j{b:Nat}{l:List Tr}(h:l≠[]):cellT b l=.ref b 3 0 l.length:=by simp [cellT,h]
theorem z6w{t:TypeId}{l:List Tr}(h:l≠[]):blkT t l=[.row t false 3 (l.map encT)]:=by simp [blkT,h]
/-! ### A specification's fields, zs4 -/
/-! ### Cases -/
structure Cs where
 state:Int
 mark:List Int
 deriving DecidableEq
end Go.Proofs.YtbaclnecajkknaaGreat.Pi
namespace Go.Proofs.YtbaclnecajkknaaGreat.Pi
open Go
set_option linter.all false

instance decTr:DecidableEq Tr:=fun a b=>decidable_of_iff (a.inn=b.inn∧a.out=b.out∧a.rst=b.rst) (by cases a;cases b;simp)
instance decNet:DecidableEq Net:=fun a b=>decidable_of_iff (a.pl=b.pl∧a.tr=b.tr) (by cases a;cases b;simp)
def blkL(t:TypeId)(l:List Tr):List Blk:=if l=[] then [] else [.lin t 3 (l.map encT)]
theorem z6v{t:TypeId}:blkL t []=[]:=rfl
theorem z6u{t:TypeId}{l:List Tr}(h:l≠[]):blkL t l=[.lin t 3 (l.map encT)]:=by simp [blkL,h]
/-! ### Sizes of nets -/
/-! ### Copies, in part done -/
/-! ### A net's fields, zs4 -/
/-! ### Trees -/
structure Br where
 op:Int
 n:Int
 deriving DecidableEq
/-! ### Letters and words -/
end Go.Proofs.YtbaclnecajkknaaGreat.Pi
namespace Go.Proofs.YtbaclnecajkknaaGreat.Pi
open Go
set_option linter.all false
def lessP(q p:Int):Int:=if q<p then p-1 else p
def dropL(q:Int)(l:List Int):List Int:=(l.filter fun p=>!(p == q)).map (lessP q)
def dropT(q:Int)(t:Tr):Tr:=⟨dropL q t.inn,dropL q t.out,dropL q t.rst⟩
def dropF(f:Fl)(q:Int):Fl:=⟨⟨f.net.pl-1,f.net.tr.map (dropT q)⟩,lessP q f.src,lessP q f.dst⟩
theorem zcl(q:Int):dropL q []=[]:=rfl
theorem zci(q:Int)(l:List Int):(dropL q l).length≤l.length:=by
 unfold dropL;rw[List.length_map];exact List.length_filter_le _ _
theorem zcn{q:Int}{l:List Int}{k:Nat}(h:k<l.length):dropL q (l.take (k+1))=if l[k]=q then dropL q (l.take k) else dropL q (l.take k)++[lessP q l[k]]:=by
 unfold dropL
 rw[List.take_succ_eq_append_getElem h,List.filter_append,List.map_append]
 split
 ·rename_i h;simp [h]
 ·rename_i h;simp [h]
theorem zjl{p:Int}{t:Tr}(h:goodT p t=true):(∀ x∈t.inn,0≤x∧x<p)∧(∀ x∈t.out,0≤x∧x<p)∧(∀ x∈t.rst,0≤x∧x<p):=by
  by_cases hp:0≤p
  · have:=zjh h (m:=List.replicate p.toNat 0) (by simp;omega)
    simp only[List.length_replicate] at this
    exact⟨fun x hx=>by have:=this.1 x hx;omega,fun x hx=>by have:=this.2.1 x hx;omega,fun x hx=>by have:=this.2.2 x hx;omega⟩
  · obtain⟨h0,h1,-,-⟩:=zjk h
    cases hi:t.inn with
    | nil=>exact absurd hi h0
    | cons a l =>
      rw[hi] at h1
      simp [z10z,inB] at h1
      omega
theorem ziw{f:Fl}(h:ziu f=true):f.net.tr≠[]:=by
 intro h0
 obtain⟨hg,hs,hd,hne,-,hw,-⟩:=ziy h
 have e : ∀ (bk:Bool) (p:Int),(z132 f.net bk p).pl=(List.replicate f.net.pl.toNat false).set p.toNat true:=by
  intro bk p
  simp [z132,clRun,z9n,clK,h0]
 have h1:wayP f.net f.src f.dst=[]:=by
  unfold wayP bothL bothK
  rw[e,e,List.map_eq_nil_iff,List.filter_eq_nil_iff]
  intro i hi
  simp only[List.getD_eq_getElem?_getD,List.getElem?_set,List.length_replicate,List.getElem?_replicate]
  rw[List.mem_range] at hi
  simp only[List.length_set,List.length_replicate] at hi
  by_cases a:f.src.toNat=i
  ·have:¬f.dst.toNat=i:=by omega
   simp [a,this,hi]
  ·simp [a,hi]
 rw[h1] at hw
 simp at hw;omega
def cellI(b:Nat)(l:List Int):PV:=if l=[] then .nil true 1 else .ref b 1 0 l.length
def blkI(t:TypeId)(l:List Int):List Blk:=if l=[] then [] else [.row t true 1 (l.map I)]
/-! ### The new numbers of z10z -/
def atV(q p:Int):Int:=if p=q then -1 else lessP q p
def atP(q:Int)(n k:Nat):List Int:=(List.range k).map (fun(i:Nat)=>atV q i)++List.replicate (n-k) 0
theorem z4d{q:Int}{n k:Nat}(h:k≤n):(atP q n k).length=n:=by simp [atP];omega
theorem z4f(q:Int)(n:Nat):atP q n 0=List.replicate n 0:=by simp [atP]
theorem z4e{q:Int}{n k:Nat}(hk:k<n):(atP q n k).set k (atV q k)=atP q n (k+1):=by
 unfold atP
 rw[z18p hk (by simp),List.range_succ,List.map_append]
 rfl
theorem z4c{q p:Int}{n:Nat}(h0:0≤p)(h:p<n):(atP q n n)[p.toNat]? = some (atV q p):=by
 unfold atP
 have hp:p.toNat<n:=by omega
 rw[List.getElem?_append_left (by simpa using hp),List.getElem?_map,List.getElem?_range hp]
 simp [show((p.toNat:Nat):Int)=p by omega]
theorem z4b{q:Int}{n:Nat}(hq:0≤q) : ∀ x∈atP q n n,-1≤x∧x<n:=by
 intro x hx
 unfold atP at hx
 simp only[Nat.sub_self,List.replicate_zero,List.append_nil,List.mem_map,List.mem_range] at hx
 obtain⟨i,hi,rfl⟩:=hx
 unfold atV lessP
 split
 ·omega
 ·split<;>omega
def cntQ(q:Int)(k:Nat):Int:=if q<k then k-1 else k
theorem z4g{q:Int}{k:Nat}(h:¬(k:Int)=q):atV q k=cntQ q k:=by unfold atV lessP cntQ;rw[if_neg h]
theorem zaq{q:Int}{k:Nat}:cntQ q (k+1)=if (k:Int)=q then cntQ q k else cntQ q k+1:=by
 unfold cntQ
 split<;>split<;>(try split)<;>omega
/-! ### Which place is left out -/
def zmq(f:Fl)(p:Int):Bool:=!(p == f.src)&&!(p == f.dst)
def takI(n:Net)(p:Int):List Int:=idxL (fun t=>hasB t.inn p) n
def givI(n:Net)(p:Int):List Int:=idxL (fun t=>hasB t.out p) n
def sameP(f:Fl)(q p:Nat):Bool:=zmq f p&&zmq f q&&(decide (givI f.net p=givI f.net q)&&decide (takI f.net p=takI f.net q))
def resQ(f:Fl):Option Nat:=(List.range f.net.pl.toNat).find? fun q=>(List.range q).any (sameP f q)
theorem z15t{f:Fl}(h : ∀ q,q<f.net.pl.toNat→∀ p,p<q→sameP f q p=false):resQ f=none:=by
 unfold resQ
 rw[List.find?_eq_none]
 intro q hq
 rw[List.mem_range] at hq
 simp only[List.any_eq_true,List.mem_range,not_exists,not_and]
 intro p hp
 rw[h q hq p hp];simp
theorem z15u{f:Fl}{q p:Nat}(hq:q<f.net.pl.toNat)(hp:p<q)(h0 : ∀ q',q'<q→∀ p',p'<q'→sameP f q' p'=false)(h:sameP f q p=true):resQ f=some q:=by
 unfold resQ
 rw[List.find?_eq_some_iff_getElem]
 refine⟨?_,q,by simpa using hq,by simp,?_⟩
 ·simp only[List.any_eq_true,List.mem_range]
  exact⟨p,hp,h⟩
 ·intro j hj
  simp only[List.getElem_range]
  have:(List.range j).any (sameP f j)=false:=by
   rw[List.any_eq_false]
   intro p' hp'
   rw[List.mem_range] at hp'
   rw[h0 j hj p' hp'];simp
  rw[this];rfl
def okRed(f:Fl):Bool:=ziu f&&!hasR f.net
def dropV(f:Fl):Option Fl:=if okRed f=true then(resQ f).map fun(q:Nat)=>dropF f (q:Int) else none
end Go.Proofs.YtbaclnecajkknaaGreat.Pi
namespace Go.Proofs.YtbaclnecajkknaaGreat.Pi
open Go
set_option linter.all false

/-! ### Increasing lists as sets -/
theorem z12d : ∀ {l:List Int} {x y:Int},y∈putI l x↔y∈l∨y=x
  | [],x,y=>by simp [putI]
  | z :: l, x, y => by
    unfold putI
    split
    · have:=z12d (l:=l) (x:=x) (y:=y)
      simp only[List.mem_cons,this,or_assoc]
    · split
      · rename_i h1 h2
        subst h2
        simp only[List.mem_cons]
        constructor
        · intro h;exact .inl h
        · rintro(h | h)
          · exact h
          · exact .inl h
      · simp only[List.mem_cons]
        constructor
        · rintro(h | h | h)
          · exact .inr h
          · exact .inl (.inl h)
          · exact .inl (.inr h)
        · rintro((h | h) | h)
          · exact .inr (.inl h)
          · exact .inr (.inr h)
          · exact .inl h
theorem z12e : ∀ {l:List Int} {x:Int},l.Pairwise (· < ·)→(putI l x).Pairwise (· < ·)
  | [],x,_=>by simp [putI]
  | z :: l, x, h => by
    rw[List.pairwise_cons] at h
    unfold putI
    split
    · rename_i hz
      rw[List.pairwise_cons]
      refine⟨fun y hy=>?_,z12e h.2⟩
      rcases z12d.1 hy with hy | rfl
      · exact h.1 y hy
      · exact hz
    · split
      · rw[List.pairwise_cons];exact h
      · rename_i h1 h2
        rw[List.pairwise_cons,List.pairwise_cons]
        refine⟨fun y hy=>?_,h⟩
        rcases List.mem_cons.1 hy with rfl | hy
        · omega
        · have:=h.1 y hy;omega
theorem zmm{l:List Int}(h:incr l=true):l.Pairwise (· < ·):=by simpa [incr] using h
theorem z10d{l:List Int}(h:l.Pairwise (· < ·)):incr l=true:=by simpa [incr] using h
def z1fq(l b:List Int):List Int:=b.foldl putI l
theorem z1ft : ∀ {b l:List Int} {y:Int},y∈z1fq l b↔y∈l∨y∈b
  | [],l,y=>by simp [z1fq]
  | x :: b, l, y => by
    have:=z1ft (b:=b) (l:=putI l x) (y:=y)
    unfold z1fq at this ⊢
    rw[List.foldl_cons,this,z12d,List.mem_cons,or_assoc]
theorem z1fu : ∀ {b l:List Int},l.Pairwise (· < ·)→(z1fq l b).Pairwise (· < ·)
 | [],_,h=>h
 | x :: b,l,h=>by unfold z1fq;rw[List.foldl_cons];exact z1fu (b:=b) (z12e h)
theorem z1fv{l b:List Int}{k:Nat}(h:k<b.length):z1fq l (b.take (k+1))=putI (z1fq l (b.take k)) b[k]:=by
 unfold z1fq;rw[List.take_succ_eq_append_getElem h,List.foldl_append];rfl
theorem z1fr{l:List Int} : ∀ {b:List Int},(z1fq l b).length≤l.length+b.length
  | []=>by simp [z1fq]
  | x :: b => by
    have h1:=z1fr (l:=putI l x) (b:=b)
    have h2:=z12b l x
    unfold z1fq at h1 ⊢
    rw[List.foldl_cons]
    simp only[List.length_cons]
    omega
theorem z1fs{l b:List Int}(hl : ∀ p∈l,0≤p)(hb : ∀ p∈b,0≤p):maskN (z1fq l b)=maskN l ||| maskN b:=by
 apply Nat.eq_of_testBit_eq
 intro i
 rw[Nat.testBit_or,zs7 hl,zs7 hb,zs7 (fun p hp=>by
  rcases z1ft.1 hp with h | h
  ·exact hl p h
  ·exact hb p h)]
 simp only[hasB,z1ft,Bool.decide_or]
def mixO(a b:List Int)(p:Int):List Int:=z1fq (wout a [p]) b
theorem zsr{a b:List Int}{p:Int}(ha:incr a=true):incr (mixO a b p)=true:=z10d (z1fu (zmm (z1gs ha)))
theorem zsu{a b:List Int}{p y:Int}(h:y∈mixO a b p):y∈a∨y∈b:=by
 rcases z1ft.1 h with h | h
 ·exact .inl (z1gw y h)
 ·exact .inr h
theorem zsa{p:Int}:maskN [p]=2 ^ p.toNat:=by simp [maskN]
theorem zst{a b:List Int}{p:Int}(ha : ∀ x∈a,0≤x∧x<62)(hb : ∀ x∈b,0≤x∧x<62)(hp:0≤p∧p<62):maskN (mixO a b p)=(maskN a &&& (2 ^ 64-(2 ^ p.toNat+1))) ||| maskN b:=by
 unfold mixO
 rw[z1fs (fun x hx=>(ha x (z1gw x hx)).1) (fun x hx=>(hb x hx).1),←zsa,z1gu ha (by simpa using hp)]
theorem zss(a b:List Int)(p:Int):(mixO a b p).length≤a.length+b.length:=by
 have h1:=z1fr (l:=wout a [p]) (b:=b)
 have h2:(wout a [p]).length≤a.length:=by unfold wout;exact List.length_filter_le _ _
 unfold mixO;omega
/-! ### Leaving out a place and a transition -/
def keepT(tr:List Tr)(tq:Int)(i:Nat):List Tr:=if 0≤tq∧tq<i then(tr.take i).eraseIdx tq.toNat else tr.take i
theorem znw(tr:List Tr)(tq:Int):keepT tr tq 0=[]:=by
 unfold keepT;split
 ·simp
 ·simp
theorem znv{tr:List Tr}{tq:Int}{i:Nat}(hi:i<tr.length)(h:(i:Int)=tq):keepT tr tq (i+1)=keepT tr tq i:=by
 unfold keepT
 rw[if_pos (by omega),if_neg (by omega),List.take_succ_eq_append_getElem hi,show tq.toNat=i by omega,List.eraseIdx_append_of_length_le (by simp;omega)]
 simp [show i-min i tr.length=0 by omega]
theorem znt{tr:List Tr}{tq:Int}{i:Nat}(hi:i<tr.length)(h:¬(i:Int)=tq):keepT tr tq (i+1)=keepT tr tq i++[tr[i]]:=by
 unfold keepT
 by_cases h1:0≤tq∧tq<i
 ·rw[if_pos (by omega),if_pos h1,List.take_succ_eq_append_getElem hi,List.eraseIdx_append_of_lt_length (by simp;omega)]
 ·rw[if_neg (by omega),if_neg h1,List.take_succ_eq_append_getElem hi]
theorem zns(tr:List Tr)(tq:Int)(i:Nat):(keepT tr tq i).length≤i:=by
 unfold keepT
 split
 ·exact Nat.le_trans (by rw[List.length_eraseIdx];split<;>omega) (List.length_take_le i tr)
 ·exact List.length_take_le i tr
theorem znr(tr:List Tr){tq:Int}(h:0≤tq∧tq<tr.length):keepT tr tq tr.length=tr.eraseIdx tq.toNat:=by
 unfold keepT;rw[if_pos h,List.take_length]
theorem znu(tr:List Tr):keepT tr (-1) tr.length=tr:=by
 unfold keepT;rw[if_neg (by omega),List.take_length]
def resU(t:TypeId)(L:List Tr):PV:=if L=[] then .nil false 3 else .un t false 3 (L.map encT)
def resN(t:TypeId)(L:List Tr):PV:=if L=[] then .nil false 3 else .unn t 3 (L.map encT)
theorem z15v{t:TypeId}{L:List Tr}(h:L≠[]):resU t L=.un t false 3 (L.map encT):=by simp [resU,h]
theorem z15i{t:TypeId}{L:List Tr}(h:L≠[]):resN t L=.unn t 3 (L.map encT):=by simp [resN,h]
def smF(f:Fl):Prop:=(1≤f.net.pl∧f.net.pl≤16)∧f.net.tr.length≤24∧(0≤f.src∧f.src<f.net.pl)∧(0≤f.dst∧f.dst<f.net.pl)∧∀ t∈f.net.tr,(t.inn.length≤40∧t.out.length≤40∧t.rst=[])∧(∀ x∈t.inn,0≤x∧x<f.net.pl)∧(∀ x∈t.out,0≤x∧x<f.net.pl)
theorem z1an{f:Fl}(h:ziu f=true)(hr:hasR f.net=false):smF f:=by
 obtain⟨hgn,hs,hd,-,-,-,-⟩:=ziy h
 obtain⟨hp1,hp2,hn,hT⟩:=zja hgn
 refine⟨⟨hp1,hp2⟩,hn,hs,hd,fun t ht=>?_⟩
 have h1:=zjg (hT t ht) ⟨by omega,hp2⟩
 have h2:=zjl (hT t ht)
 obtain⟨i,hi,rfl⟩:=List.getElem_of_mem ht
 exact⟨⟨by omega,by omega,zk2 hr hi⟩,h2.1,h2.2.1⟩
def zpm(f:Fl)(tr:List Tr)(q:Int):Fl:=⟨⟨f.net.pl-1,tr.map (dropT q)⟩,lessP q f.src,lessP q f.dst⟩
/-! ### A flow with one transition -/
theorem zix{f:Fl}(h:ziu f=true)(h1:f.net.tr.length=1){p:Int}(hp:(trN f.net 0).inn=[p]):p=f.src:=by
 obtain⟨hg,hs,hd,hne,-,-,hw⟩:=ziy h
 have ht0:trN f.net 0∈f.net.tr:=by rw[z1f3 (by omega)];exact List.getElem_mem _
 have hpl:=(zjl ((zja hg).2.2.2 _ ht0)).1 p (by rw[hp];simp)
 apply Decidable.byContradiction
 intro hps
 have hhit:hitB ((List.replicate f.net.pl.toNat false).set f.src.toNat true) (sideI false (trN f.net 0))=false:=by
  simp only[sideI,Bool.false_eq_true,if_false,hp,hitB,List.any_cons,List.any_nil,Bool.or_false,List.getD_eq_getElem?_getD]
  rw[List.getElem?_set_ne (by omega),List.getElem?_replicate]
  split<;>rfl
 have e:(z132 f.net false f.src).tr=[false]:=by
  unfold z132
  rw[h1]
  simp only[List.replicate_succ,List.replicate_zero]
  have e1:z9n f.net false ⟨(List.replicate f.net.pl.toNat false).set f.src.toNat true,[false],true⟩=⟨(List.replicate f.net.pl.toNat false).set f.src.toNat true,[false],false⟩:=by
   unfold z9n
   rw[h1,z9m]
   simp only[clK,List.range_zero,List.foldl_nil]
   exact z9w (.inr hhit)
  simp only[clRun,e1]
  simp
 have hT:wayT f.net f.src f.dst=[]:=by
  unfold wayT bothL bothK
  rw[e]
  simp
 rw[hT,h1] at hw
 simp at hw
/-! ### What is fused -/
def okFT(f:Fl)(p:Nat):Bool:=
 zmq f p&&(decide ((givI f.net p).length=1)&&(decide ((takI f.net p).length=1)&&(!(at_ (givI f.net p) 0 == at_ (takI f.net p) 0) &&
  (decide ((trAt f.net (at_ (takI f.net p) 0)).inn.length=1)&&(!decide ((trAt f.net (at_ (takI f.net p) 0)).out.length=0)&&!meetB (trAt f.net (at_ (givI f.net p) 0)).out (trAt f.net (at_ (takI f.net p) 0)).out)))))
def resFT(f:Fl):Option Nat:=(List.range f.net.pl.toNat).find? (okFT f)
def zi6(f:Fl)(p:Nat):List Tr:=
 let g:=at_ (givI f.net p) 0
 let t:=at_ (takI f.net p) 0
 (f.net.tr.set g.toNat ⟨(trAt f.net g).inn,mixO (trAt f.net g).out (trAt f.net t).out p,(trAt f.net g).rst⟩).eraseIdx t.toNat
def replO(p q:Int)(u:Tr):Tr:=if hasB u.out p=true then⟨u.inn,mixO u.out [q] p,u.rst⟩ else u
def okFP(f:Fl)(i:Nat):Bool:=
 decide ((trN f.net i).inn.length=1)&&(decide ((trN f.net i).out.length=1)&&(!(at_ (trN f.net i).inn 0 == f.src)&&(!(at_ (trN f.net i).inn 0 == at_ (trN f.net i).out 0) &&
  (decide ((takI f.net (at_ (trN f.net i).inn 0)).length=1)&&!(f.net.tr.any fun u=>hasB u.out (at_ (trN f.net i).inn 0)&&hasB u.out (at_ (trN f.net i).out 0))))))
def resFP(f:Fl):Option Nat:=(List.range f.net.tr.length).find? (okFP f)
def zi4(f:Fl)(i:Nat):List Tr:=(f.net.tr.map (replO (at_ (trN f.net i).inn 0) (at_ (trN f.net i).out 0))).eraseIdx i
theorem zgv{p:Nat→Bool}{n i:Nat}(hi:i<n)(h0 : ∀ j,j<i→p j=false)(h:p i=true):(List.range n).find? p=some i:=by
 rw[List.find?_eq_some_iff_getElem]
 refine⟨h,i,by simpa using hi,by simp,fun j hj=>?_⟩
 simp only[List.getElem_range]
 rw[h0 j hj];rfl
theorem zgu{p:Nat→Bool}{n:Nat}(h : ∀ j,j<n→p j=false):(List.range n).find? p=none:=by
 rw[List.find?_eq_none]
 intro j hj
 rw[List.mem_range] at hj
 rw[h j hj];simp
theorem zkl{P:Tr→Bool}{n:Net}(h:(idxL P n).length=1) : ∃ g:Nat,g<n.tr.length∧idxL P n=[(g:Int)]:=by
 obtain⟨x,hx⟩:=List.length_eq_one_iff.1 h
 have hm:x∈idxL P n:=by rw[hx];simp
 simp only[idxL,idxK,List.mem_map,List.mem_filter,List.mem_range] at hm
 obtain⟨g,⟨hg,-⟩,rfl⟩:=hm
 exact⟨g,hg,hx⟩
def mixT(a b:Tr)(p:Int):Tr:=⟨a.inn,mixO a.out b.out p,a.rst⟩
def okAB(f:Fl)(g t:Nat):Bool:=decide ((trN f.net t).inn.length=1)&&(!decide ((trN f.net t).out.length=0)&&!meetB (trN f.net g).out (trN f.net t).out)
theorem zvt{f:Fl}{p g t:Nat}(hi:zmq f p=true)(hg:givI f.net p=[(g:Int)])(ht:takI f.net p=[(t:Int)])(hne:g≠t):okFT f p=okAB f g t:=by
 have e:((at_ [(g:Int)] 0) == (at_ [(t:Int)] 0))=false:=by simp [at_];omega
 have e1:trAt f.net (g:Int)=trN f.net g:=rfl
 have e2:trAt f.net (t:Int)=trN f.net t:=rfl
 simp [okFT,okAB,hi,hg,ht,at_,e1,e2]
 intros;omega
theorem zi7{f:Fl}{p g t:Nat}(hg:givI f.net p=[(g:Int)])(ht:takI f.net p=[(t:Int)]):zi6 f p=(f.net.tr.set g (mixT (trN f.net g) (trN f.net t) p)).eraseIdx t:=by
 have e1:trAt f.net (g:Int)=trN f.net g:=rfl
 have e2:trAt f.net (t:Int)=trN f.net t:=rfl
 simp [zi6,hg,ht,at_,e1,e2,mixT]
theorem zvv{f:Fl}{p:Nat}(h:zmq f p=false):okFT f p=false:=by simp [okFT,h]
theorem zvu{f:Fl}{p:Nat}(h:(givI f.net p).length≠1):okFT f p=false:=by simp [okFT,h]
theorem zvx{f:Fl}{p:Nat}(h:(takI f.net p).length≠1):okFT f p=false:=by simp [okFT,h]
theorem zvw{f:Fl}{p g:Nat}(hg:givI f.net p=[(g:Int)])(ht:takI f.net p=[(g:Int)]):okFT f p=false:=by simp [okFT,hg,ht]
theorem z1am{f:Fl}{g t p:Nat}(h:smF f)(hl : ∀ u∈f.net.tr,u.inn.length≤16∧u.out.length≤16)(hg:g<f.net.tr.length)(ht:t<f.net.tr.length):smF ⟨⟨f.net.pl,f.net.tr.set g (mixT (trN f.net g) (trN f.net t) p)⟩,f.src,f.dst⟩:=by
 obtain⟨h1,h2,h3,h4,h5⟩:=h
 refine⟨h1,by simpa using h2,h3,h4,fun u hu=>?_⟩
 rcases List.mem_or_eq_of_mem_set hu with hu | rfl
 ·exact h5 u hu
 ·have a:=h5 _ (List.getElem_mem hg)
  have b:=h5 _ (List.getElem_mem ht)
  have a2:=hl _ (List.getElem_mem hg)
  have b2:=hl _ (List.getElem_mem ht)
  rw[z1f3 hg,z1f3 ht]
  have c:=zss f.net.tr[g].out f.net.tr[t].out (p:Int)
  refine⟨⟨a.1.1,by simp only[mixT];omega,a.1.2.2⟩,a.2.1,fun x hx=>?_⟩
  rcases zsu hx with hx | hx
  ·exact a.2.2 x hx
  ·exact b.2.2 x hx
end Go.Proofs.YtbaclnecajkknaaGreat.Pi
namespace Go.Proofs.YtbaclnecajkknaaGreat.Pi
open Go
set_option linter.all false
theorem z114{a b:List Int}{n p:Int}(ha:z10z n a=true)(hb : ∀ x∈b,0≤x∧x<n):z10z n (mixO a b p)=true:=by
 simp only[z10z,Bool.and_eq_true,List.all_eq_true]
 refine⟨zsr (z112 ha),fun x hx=>?_⟩
 have:0≤x∧x<n:=by
  rcases zsu hx with hx | hx
  ·exact z111 ha x hx
  ·exact hb x hx
 simp only[inB,Bool.and_eq_true,decide_eq_true_eq]
 omega
theorem zji{a b:Tr}{n p:Int}(ha:goodT n a=true)(hb:goodT n b=true):goodT n (mixT a b p)=true:=by
 obtain⟨h1,h2,h3,h4⟩:=zjk ha
 obtain⟨k1,k2,k3,k4⟩:=zjk hb
 simp [goodT,mixT,h1,h2,h4,z114 h3 (fun x hx=>z111 k3 x hx)]
theorem zj9{n:Net}(h1:1≤n.pl∧n.pl≤16)(h2:n.tr.length≤24)(h3 : ∀ t∈n.tr,goodT n.pl t=true):goodN n=true:=by
 simp only[goodN,inB,Bool.and_eq_true,decide_eq_true_eq,List.all_eq_true]
 exact⟨⟨h1,h2⟩,h3⟩
theorem zj7{n:Net}{g t p:Nat}(h:goodN n=true)(hg:g<n.tr.length)(ht:t<n.tr.length):goodN ⟨n.pl,n.tr.set g (mixT n.tr[g] n.tr[t] p)⟩=true:=by
 obtain⟨h1,h2,h3,h4⟩:=zja h
 refine zj9 ⟨h1,h2⟩ (by simpa using h3) (fun u hu=>?_)
 rcases List.mem_or_eq_of_mem_set hu with hu | rfl
 ·exact h4 u hu
 ·exact zji (h4 _ (List.getElem_mem hg)) (h4 _ (List.getElem_mem ht))
theorem z1al{n:Net}{s d:Int}{i:Nat}(h:smF ⟨n,s,d⟩):smF ⟨⟨n.pl,n.tr.eraseIdx i⟩,s,d⟩:=by
 obtain⟨h1,h2,h3,h4,h5⟩:=h
 exact⟨h1,Nat.le_trans (List.length_eraseIdx_le ..) h2,h3,h4,fun t ht=>h5 t (List.mem_of_mem_eraseIdx ht)⟩
def zi0(f:Fl):Option Fl:=if okRed f=true then(resFT f).map fun(q:Nat)=>zpm f (zi6 f q) (q:Int) else none
def zhw(f:Fl):Option Fl:=if okRed f=true then(resFP f).map fun(i:Nat)=>zpm f (zi4 f i) (at_ (trN f.net i).inn 0) else none
theorem zvr{f:Fl}{k:Nat}(h:(trN f.net k).inn.length≠1):okFP f k=false:=by simp [okFP,h]
theorem zvs{f:Fl}{k:Nat}(h:(trN f.net k).out.length≠1):okFP f k=false:=by simp [okFP,h]
theorem zvq{f:Fl}{k:Nat}{p q:Int}(h1:(trN f.net k).inn=[p])(h2:(trN f.net k).out=[q]):okFP f k=(!(p == f.src)&&(!(p == q)&&(decide ((takI f.net p).length=1)&&!(f.net.tr.any fun u=>hasB u.out p&&hasB u.out q)))):=by
 simp [okFP,h1,h2,at_]
theorem zi5{f:Fl}{k:Nat}{p q:Int}(h1:(trN f.net k).inn=[p])(h2:(trN f.net k).out=[q]):zi4 f k=(f.net.tr.map (replO p q)).eraseIdx k:=by
 simp [zi4,h1,h2,at_]
theorem z1ao{f:Fl}{p q:Int}(h:smF f)(hl : ∀ u∈f.net.tr,u.inn.length≤16∧u.out.length≤16)(hq:0≤q∧q<f.net.pl):smF ⟨⟨f.net.pl,f.net.tr.map (replO p q)⟩,f.src,f.dst⟩:=by
 obtain⟨h1,h2,h3,h4,h5⟩:=h
 refine⟨h1,by simpa using h2,h3,h4,fun u hu=>?_⟩
 simp only[List.mem_map] at hu
 obtain⟨v,hv,rfl⟩:=hu
 have a:=h5 _ hv
 have a2:=hl _ hv
 unfold replO
 split
 ·have c:=zss v.out [q] p
  simp only[List.length_cons,List.length_nil] at c
  refine⟨⟨a.1.1,by show(mixO v.out [q] p).length≤40;omega,a.1.2.2⟩,a.2.1,fun x hx=>?_⟩
  rcases zsu hx with hx | hx
  ·exact a.2.2 x hx
  ·simp at hx;subst hx;exact hq
 ·exact a
theorem zrt{α β:Type}(g:α→β) : ∀ (l:List α) (k:Nat),(l.map g).eraseIdx k=(l.eraseIdx k).map g
 | [],_=>by simp
 | x :: l,0=>by simp
 | x :: l,k+1=>by simp [zrt g l k]
def mapK(g:Tr→Tr)(l:List Tr)(k:Nat):List Tr:=(l.take k).map g++l.drop k
theorem zrr(g:Tr→Tr)(l:List Tr):mapK g l 0=l:=by simp [mapK]
theorem zrm(g:Tr→Tr)(l:List Tr):mapK g l l.length=l.map g:=by simp [mapK]
theorem zro(g:Tr→Tr)(l:List Tr)(k:Nat):(mapK g l k).length=l.length:=by simp [mapK];omega
theorem zrn{g:Tr→Tr}{l:List Tr}{k:Nat}(hk:k<l.length):(mapK g l k)[k]? = some l[k]:=by
 unfold mapK
 rw[List.getElem?_append_right (by simp;omega)]
 simp [show min k l.length=k by omega,hk]
theorem zrq{g:Tr→Tr}{l:List Tr}{k:Nat}(hk:k<l.length):mapK g l (k+1)=(mapK g l k).set k (g l[k]):=by
 unfold mapK
 rw[List.set_append_right _ _ (by simp;omega),List.take_succ_eq_append_getElem hk,List.map_append,List.append_assoc]
 simp only[List.length_map,List.length_take,show min k l.length=k by omega,Nat.sub_self]
 rw[List.drop_eq_getElem_cons hk]
 rfl
theorem zrp{g:Tr→Tr}{l:List Tr}{k:Nat}(hk:k<l.length)(h:g l[k]=l[k]):mapK g l (k+1)=mapK g l k:=by
 rw[zrq hk,h]
 have:=zrn (g:=g) hk
 rw[List.getElem?_eq_some_iff] at this
 obtain⟨h1,h2⟩:=this
 rw[←h2,List.set_getElem_self]
theorem zsv{a:List Int}{p q:Int}:mixO a [q] p=putI (wout a [p]) q:=rfl
end Go.Proofs.YtbaclnecajkknaaGreat.Pi
namespace Go.Proofs.YtbaclnecajkknaaGreat.Pi
open Go
set_option linter.all false

structure Arc3 where
 src:Int
 by_:Int
 dst:Int
structure Sp where
 ms:List (List Int)
 ar:List Arc3
structure Ex where
 sp:Sp
 code:Int
def findM(l:List (List Int))(m:List Int):Int:=idxI l (fun x=>decide (x=m))
def ze7(n:Net)(b:Int)(k:Nat)(s:Ex)(t:Int):Ex:=
 if s.code≠0 then s else
 let m:=zgc (trAt n t) (s.sp.ms.getD k [])
 if m.all (inB 0 50)=false then⟨s.sp,3⟩
 else if 0≤findM s.sp.ms m then⟨⟨s.sp.ms,s.sp.ar++[⟨k,t,findM s.sp.ms m⟩]⟩,0⟩
 else if b≤s.sp.ms.length then⟨s.sp,2⟩
 else⟨⟨s.sp.ms++[m],s.sp.ar++[⟨k,t,s.sp.ms.length⟩]⟩,0⟩
def exL(n:Net)(b:Int)(k:Nat)(s:Ex)(l:List Int):Ex:=l.foldl (ze7 n b k) s
def exRun(n:Net)(b:Int):Nat→Nat→Ex→Ex
 | 0,_,s=>s
 | f+1,k,s=>if s.code≠0 then s else if k<s.sp.ms.length then exRun n b f (k+1) (exL n b k s (enabL n (s.sp.ms.getD k []))) else s
def exAll(n:Net)(start:List Int)(b:Int):Ex:=exRun n b (b.toNat+2) 0 ⟨⟨[start],[]⟩,0⟩
theorem zei{n:Net}{b:Int}{k:Nat}{s:Ex}{t:Int}(h:s.code≠0):ze7 n b k s t=s:=by
 unfold ze7;rw[if_pos h]
theorem zdy{n:Net}{b:Int}{k:Nat}{l:List Int}{s:Ex}(h:s.code≠0):exL n b k s l=s:=by
 unfold exL
 induction l with
 | nil=>rfl
 | cons t l ih=>rw[List.foldl_cons,zei h];exact ih
theorem ze5{n:Net}{b:Int}{f k:Nat}{s:Ex}(h:s.code≠0):exRun n b f k s=s:=by
 cases f with
 | zero=>rfl
 | succ f=>show(if s.code≠0 then s else _)=s;rw[if_pos h]
theorem zdw{n:Net}{b:Int}{k:Nat}{s:Ex}{l:List Int}{j:Nat}(hj:j<l.length):exL n b k s (l.drop j)=exL n b k (ze7 n b k s l[j]) (l.drop (j+1)):=by
 rw[List.drop_eq_getElem_cons hj];rfl
theorem zek{n:Net}{b:Int}{k:Nat}{s:Ex}{t:Int}(h0:s.code=0)(h:(zgc (trAt n t) (s.sp.ms.getD k [])).all (inB 0 50)=false):ze7 n b k s t=⟨s.sp,3⟩:=by
 unfold ze7;rw[if_neg (by omega)];simp only[h,if_true]
theorem zeg{n:Net}{b:Int}{k:Nat}{s:Ex}{t:Int}(h0:s.code=0)(h:(zgc (trAt n t) (s.sp.ms.getD k [])).all (inB 0 50)=true)(h2:0≤findM s.sp.ms (zgc (trAt n t) (s.sp.ms.getD k []))):ze7 n b k s t=⟨⟨s.sp.ms,s.sp.ar++[⟨k,t,findM s.sp.ms (zgc (trAt n t) (s.sp.ms.getD k []))⟩]⟩,0⟩:=by
 unfold ze7;rw[if_neg (by omega)];simp only[h];rw[if_neg (by simp),if_pos h2]
theorem zec{n:Net}{b:Int}{k:Nat}{s:Ex}{t:Int}(h0:s.code=0)(h:(zgc (trAt n t) (s.sp.ms.getD k [])).all (inB 0 50)=true)(h2:¬0≤findM s.sp.ms (zgc (trAt n t) (s.sp.ms.getD k [])))(h3:b≤s.sp.ms.length):ze7 n b k s t=⟨s.sp,2⟩:=by
 unfold ze7;rw[if_neg (by omega)];simp only[h];rw[if_neg (by simp),if_neg h2,if_pos h3]
theorem zee{n:Net}{b:Int}{k:Nat}{s:Ex}{t:Int}(h0:s.code=0)(h:(zgc (trAt n t) (s.sp.ms.getD k [])).all (inB 0 50)=true)(h2:¬0≤findM s.sp.ms (zgc (trAt n t) (s.sp.ms.getD k [])))(h3:¬b≤s.sp.ms.length):ze7 n b k s t=⟨⟨s.sp.ms++[zgc (trAt n t) (s.sp.ms.getD k [])],s.sp.ar++[⟨k,t,s.sp.ms.length⟩]⟩,0⟩:=by
 unfold ze7;rw[if_neg (by omega)];simp only[h];rw[if_neg (by simp),if_neg h2,if_neg h3]
theorem zg2{l:List (List Int)}{m:List Int}:0≤findM l m↔m∈l:=by
 have:=zkc l (fun x=>decide (x=m))
 unfold findM
 constructor
 ·intro h
  rw[decide_eq_true h] at this
  rw[List.any_eq_true] at this
  obtain⟨x,hx,hy⟩:=this
  have:x=m:=by simpa using hy
  exact this▸hx
 ·intro h
  have h2:(l.any fun x=>decide (x=m))=true:=by rw[List.any_eq_true];exact⟨m,h,by simp⟩
  rw[h2] at this
  exact of_decide_eq_true this.symm
theorem zg1{l:List (List Int)}{m:List Int}(h:0≤findM l m):(findM l m).toNat<l.length∧l[(findM l m).toNat]? = some m:=by
  unfold findM idxI at h ⊢
  cases e:l.findIdx? (fun x=>decide (x=m)) with
  | none=>rw[e] at h;simp at h
  | some k =>
    rw[List.findIdx?_eq_some_iff_getElem] at e
    obtain⟨h1,h2,_⟩:=e
    refine⟨by simpa using h1,?_⟩
    have:l[k]=m:=by simpa using h2
    simp [List.getElem?_eq_getElem h1,this]
structure ExOk(n:Net)(start:List Int)(b:Int)(s:Ex):Prop where
 first:s.sp.ms[0]? = some start
 good : ∀ m∈s.sp.ms,zs4 n m=true
 lenb:s.sp.ms.length≤b.toNat
 nodup:s.sp.ms.Nodup
 arcs : ∀ a∈s.sp.ar,0≤a.src∧a.src.toNat<s.sp.ms.length∧0≤a.dst∧a.dst.toNat<s.sp.ms.length∧zvy n (s.sp.ms.getD a.src.toNat []) a.by_=true∧s.sp.ms.getD a.dst.toNat []=zgc (trAt n a.by_) (s.sp.ms.getD a.src.toNat [])
 back : ∀ j:Nat,0<j→j<s.sp.ms.length→∃ i,∃ h:i<s.sp.ar.length,s.sp.ar[i].dst=j∧s.sp.ar[i].src<j∧∀ i',(h':i'<i)→(s.sp.ar[i']'(by omega)).dst≠j
theorem ExOk.sp{n:Net}{start:List Int}{b:Int}{s:Ex}(h:ExOk n start b s)(c:Int):ExOk n start b ⟨s.sp,c⟩:=⟨h.first,h.good,h.lenb,h.nodup,h.arcs,h.back⟩
theorem zij{l:List (List Int)}{k:Nat}(hk:k<l.length):l.getD k []∈l:=by
 rw[List.getD_eq_getElem?_getD,List.getElem?_eq_getElem hk];exact List.getElem_mem hk
theorem zik{l:List (List Int)}{k:Nat}(hk:k<l.length):l[k]=l.getD k []:=by
 rw[List.getD_eq_getElem?_getD,List.getElem?_eq_getElem hk];rfl
theorem zif{l:List (List Int)}{m:List Int}{k:Nat}(hk:k<l.length):(l++[m]).getD k []=l.getD k []:=by
 rw[List.getD_eq_getElem?_getD,List.getD_eq_getElem?_getD,List.getElem?_append_left hk]
theorem zii{l:List (List Int)}{m:List Int}:(l++[m]).getD l.length []=m:=by
 rw[List.getD_eq_getElem?_getD,List.getElem?_append_right (Nat.le_refl _)];simp
theorem zd6{n:Net}{m:List Int}{t:Int}(hm:zs4 n m=true)(ht:t∈enabL n m)(ha:(zgc (trAt n t) m).all (inB 0 50)=true):zvy n m t=true:=by
 obtain⟨h1,h2,h3⟩:=zd4.1 ht
 have h4:inB 0 (n.tr.length-1) t=true:=by simp [inB];omega
 simp only[zvy,canN,hm,h3,h4,ha,Bool.and_self]
theorem zef{n:Net}{start:List Int}{b:Int}{k:Nat}{s:Ex}{t:Int}(h:ExOk n start b s)(hk:k<s.sp.ms.length)(ht:t∈enabL n (s.sp.ms.getD k [])):ExOk n start b (ze7 n b k s t):=by
  by_cases h0:s.code=0
  case neg=>rw[zei h0];exact h
  cases ha:(zgc (trAt n t) (s.sp.ms.getD k [])).all (inB 0 50) with
  | false=>rw[zek h0 ha];exact h.sp 3
  | true =>
    have hf:=zd6 (h.good _ (zij hk)) ht ha
    by_cases h2:0≤findM s.sp.ms (zgc (trAt n t) (s.sp.ms.getD k []))
    · rw[zeg h0 ha h2]
      obtain⟨g1,g2⟩:=zg1 h2
      refine⟨h.first,h.good,h.lenb,h.nodup,fun a hm=>?_,fun j hj hl=>?_⟩
      · rcases List.mem_append.1 hm with hm | hm
        · exact h.arcs a hm
        · simp only[List.mem_singleton] at hm
          subst hm
          refine⟨by simp,by simpa using hk,h2,g1,by simpa using hf,?_⟩
          simp only[Int.toNat_natCast]
          rw[List.getD_eq_getElem?_getD,g2];rfl
      · obtain⟨i,hi,e1,e2,e3⟩:=h.back j hj hl
        refine⟨i,by simp;omega,by simp only;rw[List.getElem_append_left hi];exact e1,by simp only;rw[List.getElem_append_left hi];exact e2,fun i' h'=>?_⟩
        simp only
        rw[List.getElem_append_left (by omega)];exact e3 i' h'
    · by_cases h3:b≤s.sp.ms.length
      · rw[zec h0 ha h2 h3];exact h.sp 2
      · rw[zee h0 ha h2 h3]
        have hnm:zgc (trAt n t) (s.sp.ms.getD k [])∉s.sp.ms:=fun hm=>h2 (zg2.2 hm)
        generalize hM:zgc (trAt n t) (s.sp.ms.getD k [])=M at *
        refine⟨?_,fun m hm=>?_,by simp;omega,?_,fun a hm=>?_,fun j hj hl=>?_⟩
        · simp only
          rw[List.getElem?_append_left (by omega)];exact h.first
        · rcases List.mem_append.1 hm with hm | hm
          · exact h.good m hm
          · simp only[List.mem_singleton] at hm
            subst hm;rw[←hM];exact zw1 hf
        · simp only
          rw[List.nodup_append]
          refine⟨h.nodup,by simp,fun x hx y hy=>?_⟩
          simp only[List.mem_singleton] at hy
          subst hy
          intro e;subst e;exact hnm hx
        · rcases List.mem_append.1 hm with hm | hm
          · obtain⟨a1,a2,a3,a4,a5,a6⟩:=h.arcs a hm
            refine⟨a1,by simp;omega,a3,by simp;omega,?_,?_⟩
            · simp only;rw[zif a2];exact a5
            · simp only;rw[zif a2,zif a4];exact a6
          · simp only[List.mem_singleton] at hm
            subst hm
            refine⟨by simp,by simp;omega,by simp,by simp,?_,?_⟩
            · simp only[Int.toNat_natCast];rw[zif hk];exact hf
            · simp only[Int.toNat_natCast];rw[zif hk,zii];exact hM.symm
        · simp only[List.length_append,List.length_cons,List.length_nil] at hl
          by_cases hj2:j<s.sp.ms.length
          · obtain⟨i,hi,e1,e2,e3⟩:=h.back j hj hj2
            refine⟨i,by simp;omega,by simp only;rw[List.getElem_append_left hi];exact e1,by simp only;rw[List.getElem_append_left hi];exact e2,fun i' h'=>?_⟩
            simp only
            rw[List.getElem_append_left (by omega)];exact e3 i' h'
          · have:j=s.sp.ms.length:=by omega
            subst this
            refine⟨s.sp.ar.length,by simp,by simp,by simp;omega,fun i' h'=>?_⟩
            simp only
            rw[List.getElem_append_left h']
            have:=h.arcs _ (List.getElem_mem h')
            omega
theorem zeh{n:Net}{b:Int}{k:Nat}{s:Ex}{t:Int} : ∃ l,(ze7 n b k s t).sp.ms=s.sp.ms++l:=by
  by_cases h0:s.code=0
  case neg=>rw[zei h0];exact⟨[],by simp⟩
  cases ha:(zgc (trAt n t) (s.sp.ms.getD k [])).all (inB 0 50) with
  | false=>rw[zek h0 ha];exact⟨[],by simp⟩
  | true =>
    by_cases h2:0≤findM s.sp.ms (zgc (trAt n t) (s.sp.ms.getD k []))
    · rw[zeg h0 ha h2];exact⟨[],by simp⟩
    · by_cases h3:b≤s.sp.ms.length
      · rw[zec h0 ha h2 h3];exact⟨[],by simp⟩
      · rw[zee h0 ha h2 h3];exact⟨_,rfl⟩
theorem zed{n:Net}{b:Int}{k:Nat}{s:Ex}{t:Int}(h0:s.code=0)(h:(ze7 n b k s t).code=0):(zgc (trAt n t) (s.sp.ms.getD k [])).all (inB 0 50)=true∧zgc (trAt n t) (s.sp.ms.getD k [])∈(ze7 n b k s t).sp.ms:=by
  cases ha:(zgc (trAt n t) (s.sp.ms.getD k [])).all (inB 0 50) with
  | false=>rw[zek h0 ha] at h;simp at h
  | true =>
    refine⟨rfl,?_⟩
    by_cases h2:0≤findM s.sp.ms (zgc (trAt n t) (s.sp.ms.getD k []))
    · rw[zeg h0 ha h2];exact zg2.1 h2
    · by_cases h3:b≤s.sp.ms.length
      · rw[zec h0 ha h2 h3] at h;simp at h
      · rw[zee h0 ha h2 h3];simp
theorem zin{l l':List (List Int)}{k:Nat}(hk:k<l.length):(l++l').getD k []=l.getD k []:=by
 rw[List.getD_eq_getElem?_getD,List.getD_eq_getElem?_getD,List.getElem?_append_left hk]
theorem zdx{n:Net}{start:List Int}{b:Int}{k:Nat} : ∀ (l:List Int) (s:Ex),ExOk n start b s→k<s.sp.ms.length→(∀ t∈l,t∈enabL n (s.sp.ms.getD k [])) →
    ExOk n start b (exL n b k s l)∧(∃ l',(exL n b k s l).sp.ms=s.sp.ms++l')∧((exL n b k s l).code=0→s.code=0∧∀ t∈l,(zgc (trAt n t) (s.sp.ms.getD k [])).all (inB 0 50)=true∧zgc (trAt n t) (s.sp.ms.getD k [])∈(exL n b k s l).sp.ms)
  | [],s,h,hk,_=>⟨h,⟨[],by simp [exL]⟩,fun hc=>⟨hc,by simp⟩⟩
  | t :: l, s, h, hk, hl => by
    have h1:=zef h hk (hl t (by simp))
    obtain⟨p,hp⟩:=zeh (n:=n) (b:=b) (k:=k) (s:=s) (t:=t)
    have e:(ze7 n b k s t).sp.ms.getD k []=s.sp.ms.getD k []:=by rw[hp,zin hk]
    obtain⟨f1,⟨p2,f2⟩,f3⟩:=zdx (k:=k) l (ze7 n b k s t) h1 (by rw[hp];simp;omega) (fun u hu=>by rw[e];exact hl u (by simp [hu]))
    refine⟨f1,⟨p++p2,by show(exL n b k (ze7 n b k s t) l).sp.ms=_;rw[f2,hp,List.append_assoc]⟩,fun hc=>?_⟩
    obtain⟨c1,c2⟩:=f3 hc
    have h0:s.code=0:=by
      by_cases h0:s.code=0
      · exact h0
      · rw[zei h0] at c1;exact c1
    refine⟨h0,fun u hu=>?_⟩
    rcases List.mem_cons.1 hu with rfl | hu
    · obtain⟨d1,d2⟩:=zed h0 c1
      refine⟨d1,?_⟩
      show _∈(exL n b k (ze7 n b k s u) l).sp.ms
      rw[f2];exact List.mem_append_left _ d2
    · have:=c2 u hu
      rw[e] at this;exact this
def za4(n:Net)(s:Ex)(k:Nat):Prop:=∀ i,i<k→i<s.sp.ms.length→∀ t∈enabL n (s.sp.ms.getD i []),(zgc (trAt n t) (s.sp.ms.getD i [])).all (inB 0 50)=true∧zgc (trAt n t) (s.sp.ms.getD i [])∈s.sp.ms
theorem ze4{n:Net}{start:List Int}{b:Int} : ∀ (f k:Nat) (s:Ex),ExOk n start b s→za4 n s k→b.toNat<k+f→k≤s.sp.ms.length →
    ExOk n start b (exRun n b f k s)∧((exRun n b f k s).code=0→za4 n (exRun n b f k s) (exRun n b f k s).sp.ms.length)
  | 0,k,s,h,hc,hb,hk=>by have:=h.lenb;omega
  | f + 1, k, s, h, hc, hb, hk => by
    by_cases h0:s.code≠0
    · rw[ze5 h0];exact⟨h,fun e=>absurd e h0⟩
    · show ExOk n start b (if s.code≠0 then s else if k<s.sp.ms.length then exRun n b f (k+1) (exL n b k s (enabL n (s.sp.ms.getD k []))) else s)∧_
      have er:exRun n b (f+1) k s=if s.code≠0 then s else if k<s.sp.ms.length then exRun n b f (k+1) (exL n b k s (enabL n (s.sp.ms.getD k []))) else s:=rfl
      rw[er,if_neg h0]
      by_cases hl:k<s.sp.ms.length
      · rw[if_pos hl]
        obtain⟨f1,⟨p,f2⟩,f3⟩:=zdx (start:=start) (k:=k) (enabL n (s.sp.ms.getD k [])) s h hl (fun t ht=>ht)
        by_cases hc0:(exL n b k s (enabL n (s.sp.ms.getD k []))).code=0
        · refine ze4 f (k+1) (exL n b k s (enabL n (s.sp.ms.getD k []))) f1 (fun i hi hl2 t ht=>?_) (by omega) (by rw[f2,List.length_append];omega)
          by_cases hik:i<k
          · have e:(exL n b k s (enabL n (s.sp.ms.getD k []))).sp.ms.getD i []=s.sp.ms.getD i []:=by rw[f2,zin (l:=s.sp.ms) (by omega)]
            rw[e] at ht ⊢
            obtain⟨d1,d2⟩:=hc i hik (by omega) t ht
            exact⟨d1,by rw[f2];exact List.mem_append_left _ d2⟩
          · have:i=k:=by omega
            subst this
            have e:(exL n b i s (enabL n (s.sp.ms.getD i []))).sp.ms.getD i []=s.sp.ms.getD i []:=by rw[f2,zin hl]
            rw[e] at ht ⊢
            exact(f3 hc0).2 t ht
        · rw[ze5 hc0];exact⟨f1,fun e=>absurd e hc0⟩
      · rw[if_neg hl]
        refine⟨h,fun _ i hi hl2 t ht=>hc i (by omega) hl2 t ht⟩
theorem zdq{n:Net}{start:List Int}{b:Int}(hm:zs4 n start=true)(hb:1≤b):ExOk n start b (exAll n start b)∧((exAll n start b).code=0→za4 n (exAll n start b) (exAll n start b).sp.ms.length):=by
 unfold exAll
 refine ze4 _ 0 _ ⟨rfl,fun m hm2=>?_,by simp;omega,by simp,fun a ha=>by simp at ha,fun j hj hl=>?_⟩ (fun i hi=>by omega) (by omega) (by omega)
 ·simp only[List.mem_singleton] at hm2;subst hm2;exact hm
 ·simp only[List.length_cons,List.length_nil] at hl;omega
end Go.Proofs.YtbaclnecajkknaaGreat.Pi
namespace Go.Proofs.YtbaclnecajkknaaGreat.Pi
open Go
set_option linter.all false

def arcTo(ar:List Arc3)(p:Int):Int:=idxI ar (fun a=>decide (a.dst=p))
theorem zg0{l:List (List Int)}(hn:l.Nodup){k:Nat}(hk:k<l.length):findM l (l.getD k [])=k:=by
 unfold findM
 refine zkg hk ?_ (by rw[zik hk];simp)
 rw[List.any_eq_false]
 intro x hx
 obtain⟨i,h1,rfl⟩:=List.mem_iff_getElem.1 hx
 have h2:i<k:=by simp at h1;omega
 have h3:=List.pairwise_iff_getElem.1 hn i k (by omega) hk h2
 rw[List.getElem_take,←zik hk]
 simpa using h3
theorem ze9(n:Net)(b:Int)(k:Nat)(s:Ex)(t:Int):(ze7 n b k s t).sp.ar.length≤s.sp.ar.length+1:=by
  by_cases h0:s.code=0
  case neg=>rw[zei h0];omega
  cases ha:(zgc (trAt n t) (s.sp.ms.getD k [])).all (inB 0 50) with
  | false=>rw[zek h0 ha];simp only;omega
  | true =>
    by_cases h2:0≤findM s.sp.ms (zgc (trAt n t) (s.sp.ms.getD k []))
    · rw[zeg h0 ha h2];simp
    · by_cases h3:b≤s.sp.ms.length
      · rw[zec h0 ha h2 h3];simp only;omega
      · rw[zee h0 ha h2 h3];simp
theorem zdt(n:Net)(b:Int)(k:Nat) : ∀ (l:List Int) (s:Ex),(exL n b k s l).sp.ar.length≤s.sp.ar.length+l.length
  | [],s=>by simp [exL]
  | t :: l, s => by
    have h1:=ze9 n b k s t
    have h2:=zdt n b k l (ze7 n b k s t)
    show(exL n b k (ze7 n b k s t) l).sp.ar.length≤_
    simp only[List.length_cons];omega
theorem ze1{n:Net}{b:Int}(hn:n.tr.length≤24) : ∀ (f k:Nat) (s:Ex),(exRun n b f k s).sp.ar.length≤s.sp.ar.length+24*f
  | 0,k,s=>by simp [exRun]
  | f + 1, k, s => by
    show(if s.code≠0 then s else if k<s.sp.ms.length then exRun n b f (k+1) (exL n b k s (enabL n (s.sp.ms.getD k []))) else s).sp.ar.length≤_
    split
    · omega
    · split
      · have h1:=zdt n b k (enabL n (s.sp.ms.getD k [])) s
        have h2:(enabL n (s.sp.ms.getD k [])).length≤n.tr.length:=zd2 ..
        have h3:=ze1 (b:=b) hn f (k+1) (exL n b k s (enabL n (s.sp.ms.getD k [])))
        omega
      · omega
theorem zdn{n:Net}{start:List Int}{b:Int}(hn:n.tr.length≤24)(hb:b≤400):(exAll n start b).sp.ar.length≤20000:=by
 have:=ze1 (b:=b) hn (b.toNat+2) 0 ⟨⟨[start],[]⟩,0⟩
 unfold exAll
 simp only[List.length_nil] at this
 omega
theorem zeb(n:Net)(b:Int)(k:Nat)(s:Ex)(t:Int)(h:s.code=0∨s.code=2∨s.code=3):(ze7 n b k s t).code=0∨(ze7 n b k s t).code=2∨(ze7 n b k s t).code=3:=by
  by_cases h0:s.code=0
  case neg=>rw[zei h0];exact h
  cases ha:(zgc (trAt n t) (s.sp.ms.getD k [])).all (inB 0 50) with
  | false=>rw[zek h0 ha];simp
  | true =>
    by_cases h2:0≤findM s.sp.ms (zgc (trAt n t) (s.sp.ms.getD k []))
    · rw[zeg h0 ha h2];simp
    · by_cases h3:b≤s.sp.ms.length
      · rw[zec h0 ha h2 h3];simp
      · rw[zee h0 ha h2 h3];simp
theorem zdv(n:Net)(b:Int)(k:Nat) : ∀ (l:List Int) (s:Ex),(s.code=0∨s.code=2∨s.code=3)→(exL n b k s l).code=0∨(exL n b k s l).code=2∨(exL n b k s l).code=3
 | [],s,h=>h
 | t :: l,s,h=>zdv n b k l (ze7 n b k s t) (zeb n b k s t h)
theorem ze3{n:Net}{b:Int} : ∀ (f k:Nat) (s:Ex),(s.code=0∨s.code=2∨s.code=3)→(exRun n b f k s).code=0∨(exRun n b f k s).code=2∨(exRun n b f k s).code=3
  | 0,k,s,h=>h
  | f + 1, k, s, h => by
    have er:exRun n b (f+1) k s=if s.code≠0 then s else if k<s.sp.ms.length then exRun n b f (k+1) (exL n b k s (enabL n (s.sp.ms.getD k []))) else s:=rfl
    rw[er]
    split
    · exact h
    · split
      · exact ze3 f (k+1) _ (zdv n b k _ s h)
      · exact h
theorem zdp(n:Net)(start:List Int)(b:Int):(exAll n start b).code=0∨(exAll n start b).code=2∨(exAll n start b).code=3:=ze3 _ _ _ (.inl rfl)
def revI(l c:List Int)(i:Nat):Prop:=∃ h:c.length=l.length,∀ p,(hp:p<l.length)→c[p]'(by omega)=if p<i∨l.length≤p+i then l[l.length-1-p]'(by omega) else l[p]
theorem z161(l:List Int):revI l l 0:=⟨rfl,fun p hp=>by rw[if_neg (by omega)]⟩
theorem z160{l c:List Int}{i:Nat}(h:revI l c i)(hi:2*i+1<l.length):revI l ((c.set i (c[l.length-1-i]'(by have:=h.1;omega))).set (l.length-1-i) (c[i]'(by have:=h.1;omega))) (i+1):=by
 obtain⟨h1,h2⟩:=h
 refine⟨by simp [h1],fun p hp=>?_⟩
 have hi1:=h2 i (by omega)
 have hi2:=h2 (l.length-1-i) (by omega)
 rw[if_neg (by omega)] at hi1 hi2
 rw[List.getElem_set]
 by_cases e1:l.length-1-i=p
 ·rw[if_pos e1,if_pos (by omega),hi1]
  congr 1;omega
 ·rw[if_neg e1,List.getElem_set]
  by_cases e2:i=p
  ·rw[if_pos e2,if_pos (by omega),hi2]
   congr 1;omega
  ·rw[if_neg e2,h2 p hp]
   by_cases e3:p<i∨l.length≤p+i
   ·rw[if_pos e3,if_pos (by omega)]
   ·rw[if_neg e3,if_neg (by omega)]
theorem z15z{l c:List Int}{i:Nat}(h:revI l c i)(hi:l.length≤2*i+1):c=l.reverse:=by
 obtain⟨h1,h2⟩:=h
 refine List.ext_getElem (by simp [h1]) (fun p hp hp2=>?_)
 rw[h2 p (by omega),List.getElem_reverse]
 split
 ·rfl
 ·congr 1;omega
end Go.Proofs.YtbaclnecajkknaaGreat.Pi
namespace Go.Proofs.YtbaclnecajkknaaGreat.Pi
open Go
set_option linter.all false

inductive Rk (ar:List Arc3) (S:List Int):Int→Prop
 | base {k:Int} (h:k∈S):Rk ar S k
 | step {a:Arc3} (h:a∈ar) (r:Rk ar S a.dst):Rk ar S a.src
def z44(ar:List Arc3)(n:Nat):Prop:=∀ a∈ar,0≤a.src∧a.src<n∧0≤a.dst∧a.dst<n
open Classical in
noncomputable def toL(ar:List Arc3)(n:Nat)(S:List Int):List Bool:=(List.range n).map fun(k:Nat)=>decide (Rk ar S (k:Int))
theorem z1eu(ar:List Arc3)(n:Nat)(S:List Int):(toL ar n S).length=n:=by simp [toL]
theorem z1es{ar:List Arc3}{n:Nat}{S:List Int}{k:Nat}(hk:k<n):(toL ar n S)[k]'(by rw[z1eu];exact hk)=true↔Rk ar S k:=by simp [toL]
def sndB(ar:List Arc3)(S:List Int)(c:List Bool):Prop:=∀ k:Nat,c[k]? = some true→Rk ar S k
def hasS(S:List Int)(c:List Bool):Prop:=∀ k∈S,c[k.toNat]? = some true
def clsB(ar:List Arc3)(c:List Bool):Prop:=∀ a∈ar,c[a.dst.toNat]? = some true→c[a.src.toNat]? = some true
theorem z1ev{ar:List Arc3}{n:Nat}{S:List Int}{c:List Bool}(hl:c.length=n)(hS : ∀ k∈S,0≤k∧k<n)(hs:sndB ar S c)(hb:hasS S c)(hc:clsB ar c):c=toL ar n S:=by
  have h : ∀ k,Rk ar S k→c[k.toNat]? = some true:=by
    intro k hk
    induction hk with
    | base h=>exact hb _ h
    | step h _ ih=>exact hc _ h ih
  apply List.ext_getElem?
  intro k
  by_cases hk:k<n
  · rw[List.getElem?_eq_getElem (by omega),List.getElem?_eq_getElem (by rw[z1eu];exact hk)]
    congr 1
    cases e:c[k]'(by omega) with
    | true=>exact((z1es hk).2 (hs k (by rw[List.getElem?_eq_getElem (by omega),e]))).symm
    | false =>
      cases e2:(toL ar n S)[k]'(by rw[z1eu];exact hk) with
      | false=>rfl
      | true =>
        have:=h _ ((z1es hk).1 e2)
        rw[Int.toNat_natCast,List.getElem?_eq_getElem (by omega),e] at this
        cases this
  · rw[List.getElem?_eq_none (by omega),List.getElem?_eq_none (by rw[z1eu];omega)]
theorem z1ba{ar:List Arc3}{S:List Int}{c:List Bool}{k:Int}(h:sndB ar S c)(h0:0≤k)(hk:Rk ar S k):sndB ar S (c.set k.toNat true):=by
 intro j hj
 rw[List.getElem?_set] at hj
 split at hj
 ·rename_i e
  rw[←e,Int.toNat_of_nonneg h0];exact hk
 ·exact h j hj
theorem z18s{c:List Bool}{k j:Nat}(h:c[j]? = some true):(c.set k true)[j]? = some true:=by
 rw[List.getElem?_set]
 split
 ·rename_i e;subst e
  rw[if_pos (List.getElem?_eq_some_iff.1 h).1]
 ·exact h
theorem zk4{S:List Int}{c:List Bool}{k:Nat}(h:hasS S c):hasS S (c.set k true):=fun x hx=>z18s (h x hx)
def putS(c:List Bool)(S:List Int):List Bool:=S.foldl (fun c k=>c.set k.toNat true) c
theorem z1be{ar:List Arc3}{S:List Int}{n:Nat}:sndB ar S (List.replicate n false):=by
 intro k hk
 rw[List.getElem?_replicate] at hk
 split at hk<;>cases hk
/-! ### From where arcs come to a marking -/
def befs(ar:List Arc3)(j:Int):List Int:=(ar.filter fun a=>decide (a.dst=j)).map (·.src)
def pvB(l:List Int):PV:=if l=[] then .nil true 1 else ints l
def befP(ar:List Arc3)(n:Nat):List PV:=(List.range n).map fun(j:Nat)=>pvB (befs ar j)
theorem z59(ar:List Arc3)(n:Nat):(befP ar n).length=n:=by simp [befP]
theorem z58{ar:List Arc3}{n:Nat}{j:Int}(h0:0≤j)(h:j<n):(befP ar n)[j.toNat]? = some (pvB (befs ar j)):=by
 simp only[befP,List.getElem?_map]
 rw[List.getElem?_range (by omega)]
 simp [Int.toNat_of_nonneg h0]
theorem z5b(n:Nat):befP [] n=List.replicate n (.nil true 1):=by
 apply List.ext_getElem
 ·simp [befP]
 ·intro i h1 h2
  simp [befP,befs,pvB]
theorem z5e{ar:List Arc3}{k:Nat}{j:Int}(hk:k<ar.length):befs (ar.take (k+1)) j=if ar[k].dst=j then befs (ar.take k) j++[ar[k].src] else befs (ar.take k) j:=by
 unfold befs
 rw[List.take_succ_eq_append_getElem hk,List.filter_append,List.map_append]
 split
 ·rename_i h;simp [h]
 ·rename_i h;simp [h]
theorem z5a{ar:List Arc3}{n k:Nat}(hk:k<ar.length)(h0:0≤ar[k].dst):befP (ar.take (k+1)) n=(befP (ar.take k) n).set ar[k].dst.toNat (ints (befs (ar.take k) ar[k].dst++[ar[k].src])):=by
 apply List.ext_getElem?
 intro j
 rw[List.getElem?_set,z59]
 by_cases hj:j<n
 ·simp only[befP,List.getElem?_map,List.getElem?_range hj,Option.map_some]
  rw[z5e hk]
  by_cases e:ar[k].dst=(j:Int)
  ·rw[if_pos e,if_pos (by omega),if_pos (by omega),e]
   simp [pvB]
  ·rw[if_neg e,if_neg (by omega)]
 ·simp only[befP,List.getElem?_map]
  rw[List.getElem?_eq_none (by simp;omega)]
  split
  ·rw[if_neg (by omega)];rfl
  ·rfl
theorem z5d{ar:List Arc3}{j x:Int}:x∈befs ar j↔∃ a∈ar,a.dst=j∧a.src=x:=by
 simp only[befs,List.mem_map,List.mem_filter,decide_eq_true_eq]
 constructor
 ·rintro⟨a,⟨h1,h2⟩,h3⟩;exact⟨a,h1,h2,h3⟩
 ·rintro⟨a,h1,h2,h3⟩;exact⟨a,⟨h1,h2⟩,h3⟩
theorem z5c(ar:List Arc3)(j:Int):(befs ar j).length≤ar.length:=by unfold befs;rw[List.length_map];exact List.length_filter_le _ _
structure BF(ar:List Arc3)(n:Nat)(S:List Int)(c:List Bool)(q:List Int)(i:Nat):Prop where
 len:c.length=n
 snd:sndB ar S c
 has:hasS S c
 inn : ∀ x∈q,0≤x∧x<n
 mkd : ∀ x∈q,c[x.toNat]? = some true
 all : ∀ k:Nat,c[k]? = some true→(k:Int)∈q
 cnt:q.length+cntF c≤n
 le:i≤q.length
 done : ∀ j,(hj:j<i)→∀ a∈ar,a.dst=q[j]'(by omega)→c[a.src.toNat]? = some true
theorem BF.end_{ar:List Arc3}{n:Nat}{S:List Int}{c:List Bool}{q:List Int}(h:BF ar n S c q q.length)(ha:z44 ar n)(hS : ∀ k∈S,0≤k∧k<n):c=toL ar n S:=by
 refine z1ev h.len hS h.snd h.has fun a hm hd=>?_
 have:=h.all _ hd
 rw[Int.toNat_of_nonneg (ha a hm).2.2.1] at this
 obtain⟨j,hj,e⟩:=List.mem_iff_getElem.1 this
 exact h.done j hj a hm e.symm
structure BG(ar:List Arc3)(n:Nat)(S:List Int)(i:Nat)(L:List Int)(m:Nat)(x:Int)(c:List Bool)(q:List Int):Prop extends BF ar n S c q i where
 lt:i<q.length
 at_:q[i]? = some x
 up : ∀ j,j<m→∀ y,L[j]? = some y→c[y.toNat]? = some true
theorem BG.next{ar:List Arc3}{n:Nat}{S:List Int}{i:Nat}{x:Int}{c:List Bool}{q:List Int}(h:BG ar n S i (befs ar x) (befs ar x).length x c q):BF ar n S c q (i+1):=by
 refine⟨h.len,h.snd,h.has,h.inn,h.mkd,h.all,h.cnt,h.lt,fun j hj a hm e=>?_⟩
 by_cases hji:j=i
 ·subst hji
  have hx:=h.at_
  rw[List.getElem?_eq_getElem h.lt] at hx
  rw[Option.some.inj hx] at e
  obtain⟨k,hk,he⟩:=List.mem_iff_getElem.1 (z5d.2 ⟨a,hm,e,rfl⟩)
  exact h.up k hk _ (by rw[List.getElem?_eq_getElem hk,he])
 ·exact h.done j (by omega) a hm e
theorem BG.old{ar:List Arc3}{n:Nat}{S:List Int}{i:Nat}{L:List Int}{m:Nat}{x:Int}{c:List Bool}{q:List Int}(h:BG ar n S i L m x c q)(hm:m<L.length)(hc:c[L[m].toNat]? = some true):BG ar n S i L (m+1) x c q:=by
 refine⟨h.toBF,h.lt,h.at_,fun j hj y hy=>?_⟩
 by_cases e:j=m
 ·subst e
  rw[List.getElem?_eq_getElem hm] at hy
  cases hy;exact hc
 ·exact h.up j (by omega) y hy
theorem BG.new{ar:List Arc3}{n:Nat}{S:List Int}{i:Nat}{m:Nat}{x:Int}{c:List Bool}{q:List Int}(h:BG ar n S i (befs ar x) m x c q)(ha:z44 ar n)(hm:m<(befs ar x).length)(hc:c[(befs ar x)[m].toNat]? = some false) :
  BG ar n S i (befs ar x) (m+1) x (c.set (befs ar x)[m].toNat true) (q++[(befs ar x)[m]]):=by
 obtain⟨a,h1,h2,h3⟩:=z5d.1 (List.getElem_mem hm)
 obtain⟨a1,a2,a3,a4⟩:=ha a h1
 have hl:=h.len
 have hx:=h.at_
 have hi:=h.lt
 rw[List.getElem?_eq_getElem hi] at hx
 have hq:x∈q:=by rw[←Option.some.inj hx];exact List.getElem_mem hi
 generalize hy:(befs ar x)[m]=y at *
 subst h3
 have hcy:a.src.toNat<c.length:=by omega
 have hRk:Rk ar S a.src:=by
  refine .step h1 ?_
  have hr:=h.snd _ (h.mkd x hq)
  rw[Int.toNat_of_nonneg (h.inn x hq).1] at hr
  rw[h2];exact hr
 have hcnt:=zan hcy (by rw[List.getD_eq_getElem?_getD,hc];rfl)
 have hcn:=h.cnt
 refine⟨⟨by simpa using hl,z1ba h.snd a1 hRk,zk4 h.has,fun z hz=>?_,fun z hz=>?_,fun k hk=>?_,by rw[List.length_append];simp only[List.length_cons,List.length_nil];omega,by rw[List.length_append];have:=h.le;omega,fun j hj a' hm' e=>?_⟩,by rw[List.length_append];omega,?_,fun j hj z hz=>?_⟩
 ·rcases List.mem_append.1 hz with hz | hz
  ·exact h.inn z hz
  ·rw[List.mem_singleton] at hz;subst hz;exact⟨a1,a2⟩
 ·rcases List.mem_append.1 hz with hz | hz
  ·exact z18s (h.mkd z hz)
  ·rw[List.mem_singleton] at hz;subst hz;rw[List.getElem?_set_self hcy]
 ·rw[List.getElem?_set] at hk
  split at hk
  ·rename_i e
   refine List.mem_append.2 (.inr ?_)
   rw[List.mem_singleton];omega
  ·exact List.mem_append.2 (.inl (h.all k hk))
 ·have hjq:j<q.length:=by omega
  rw[List.getElem_append_left hjq] at e
  exact z18s (h.done j hj a' hm' e)
 ·rw[List.getElem?_append_left hi,List.getElem?_eq_getElem hi];exact hx
 ·by_cases e:j=m
  ·subst e
   rw[List.getElem?_eq_getElem hm,hy] at hz
   cases hz
   rw[List.getElem?_set_self hcy]
  ·exact z18s (h.up j (by omega) z hz)
theorem BF.look{ar:List Arc3}{n:Nat}{S:List Int}{c:List Bool}{q:List Int}{i:Nat}(h:BF ar n S c q i)(hi:i<q.length):BG ar n S i (befs ar q[i]) 0 q[i] c q:=⟨h,hi,List.getElem?_eq_getElem hi,fun j hj=>by omega⟩
theorem BF.start{ar:List Arc3}{n:Nat}{p:Int}(h0:0≤p)(h:p<n):BF ar n [p] ((List.replicate n false).set p.toNat true) [p] 0:=by
 have hp:p.toNat<(List.replicate n false).length:=by simp;omega
 have hc:=zan (l:=List.replicate n false) (k:=p.toNat) hp (by rw[List.getD_eq_getElem?_getD,List.getElem?_replicate];split<;>rfl)
 have hl:=zal (List.replicate n false)
 rw[List.length_replicate] at hl
 refine⟨by simp,z1ba z1be h0 (.base (by simp)),fun k hk=>?_,fun x hx=>?_,fun x hx=>?_,fun k hk=>?_,by simp only[List.length_cons,List.length_nil];omega,Nat.zero_le _,fun j hj=>by omega⟩
 ·rw[List.mem_singleton] at hk;subst hk;rw[List.getElem?_set_self hp]
 ·rw[List.mem_singleton] at hx;subst hx;exact⟨h0,h⟩
 ·rw[List.mem_singleton] at hx;subst hx;rw[List.getElem?_set_self hp]
 ·rw[List.getElem?_set] at hk
  split at hk
  ·rename_i e;rw[List.mem_singleton];omega
  ·rw[List.getElem?_replicate] at hk;split at hk<;>cases hk
end Go.Proofs.YtbaclnecajkknaaGreat.Pi
namespace Go.Proofs.YtbaclnecajkknaaGreat.Pi
open Go
set_option linter.all false

/-! ### How a space is laid out -/
structure Bfs(ar:List Arc3)(n:Nat):Prop where
 inn:z44 ar n
 srt : ∀ i j,i≤j→∀ (hi:i<ar.length) (hj:j<ar.length),ar[i].src≤ar[j].src
 pre : ∀ i,(hi:i<ar.length)→∀ q:Nat,1≤q→(q:Int)<ar[i].dst→∃ j,∃ hj:j<i,(ar[j]'(by omega)).dst=q
 back : ∀ q:Nat,0<q→q<n→∃ i,∃ h:i<ar.length,ar[i].dst=q∧ar[i].src<q∧∀ i',(h':i'<i)→(ar[i']'(by omega)).dst≠q
structure ExB(s:Ex)(k:Nat):Prop where
 le : ∀ a∈s.sp.ar,a.src≤k
 srt : ∀ i j,i≤j→∀ (hi:i<s.sp.ar.length) (hj:j<s.sp.ar.length),s.sp.ar[i].src≤s.sp.ar[j].src
 pre : ∀ i,(hi:i<s.sp.ar.length)→∀ q:Nat,1≤q→(q:Int)<s.sp.ar[i].dst→∃ j,∃ hj:j<i,(s.sp.ar[j]'(by omega)).dst=q
theorem ExB.add{s:Ex}{k:Nat}{ms:List (List Int)}{t d c:Int}(h:ExB s k)(hd : ∀ q:Nat,1≤q→(q:Int)<d→∃ j,∃ hj:j<s.sp.ar.length,s.sp.ar[j].dst=q):ExB ⟨⟨ms,s.sp.ar++[⟨k,t,d⟩]⟩,c⟩ k:=by
 refine⟨fun a ha=>?_,fun i j hij hi hj=>?_,fun i hi q h1 h2=>?_⟩
 ·rcases List.mem_append.1 ha with ha | ha
  ·exact h.le a ha
  ·rw[List.mem_singleton] at ha;subst ha;exact Int.le_refl _
 ·simp only[List.length_append,List.length_cons,List.length_nil] at hi hj
  simp only[List.getElem_append]
  by_cases hj2:j<s.sp.ar.length
  ·rw[dif_pos (show i<s.sp.ar.length by omega),dif_pos hj2];exact h.srt i j hij _ _
  ·rw[dif_neg hj2]
   by_cases hi2:i<s.sp.ar.length
   ·rw[dif_pos hi2]
    simp only[List.getElem_singleton]
    exact h.le _ (List.getElem_mem hi2)
   ·rw[dif_neg hi2];simp
 ·simp only[List.length_append,List.length_cons,List.length_nil] at hi
  by_cases hi2:i<s.sp.ar.length
  ·simp only[List.getElem_append,dif_pos hi2] at h2
   obtain⟨j,hj,e⟩:=h.pre i hi2 q h1 h2
   exact⟨j,hj,by simp only[List.getElem_append,dif_pos (show j<s.sp.ar.length by omega)];exact e⟩
  ·have:i=s.sp.ar.length:=by omega
   subst this
   simp only[List.getElem_append,dif_neg hi2,List.getElem_singleton] at h2
   obtain⟨j,hj,e⟩:=hd q h1 h2
   exact⟨j,hj,by simp only[List.getElem_append,dif_pos hj];exact e⟩
theorem ExB.stop{s:Ex}{k:Nat}(h:ExB s k)(c:Int):ExB ⟨s.sp,c⟩ k:=⟨h.le,h.srt,h.pre⟩
theorem zea{n:Net}{start:List Int}{b:Int}{k:Nat}{s:Ex}{t:Int}(ho:ExOk n start b s)(h:ExB s k):ExB (ze7 n b k s t) k:=by
  have all : ∀ q:Nat,1≤q→q<s.sp.ms.length→∃ j,∃ hj:j<s.sp.ar.length,s.sp.ar[j].dst=q:=fun q h1 h2=>by
    obtain⟨i,hi,e,_⟩:=ho.back q (by omega) h2
    exact⟨i,hi,e⟩
  by_cases h0:s.code=0
  case neg=>rw[zei h0];exact h
  cases ha:(zgc (trAt n t) (s.sp.ms.getD k [])).all (inB 0 50) with
  | false=>rw[zek h0 ha];exact h.stop 3
  | true =>
    by_cases h2:0≤findM s.sp.ms (zgc (trAt n t) (s.sp.ms.getD k []))
    · rw[zeg h0 ha h2]
      have:=(zg1 h2).1
      exact h.add fun q h3 h4=>all q h3 (by omega)
    · by_cases h3:b≤s.sp.ms.length
      · rw[zec h0 ha h2 h3];exact h.stop 2
      · rw[zee h0 ha h2 h3]
        exact h.add fun q h3 h4=>all q h3 (by omega)
theorem zdu{n:Net}{start:List Int}{b:Int}{k:Nat} : ∀ (l:List Int) (s:Ex),ExOk n start b s→ExB s k→k<s.sp.ms.length→(∀ t∈l,t∈enabL n (s.sp.ms.getD k []))→ExB (exL n b k s l) k
  | [],s,_,h,_,_=>h
  | t :: l, s, ho, h, hk, hl => by
    have h1:=zef ho hk (hl t (by simp))
    obtain⟨p,hp⟩:=zeh (n:=n) (b:=b) (k:=k) (s:=s) (t:=t)
    have e:(ze7 n b k s t).sp.ms.getD k []=s.sp.ms.getD k []:=by rw[hp,zin hk]
    exact zdu l (ze7 n b k s t) h1 (zea ho h) (by rw[hp];simp;omega) (fun u hu=>by rw[e];exact hl u (by simp [hu]))
theorem ExB.up{s:Ex}{k k':Nat}(h:ExB s k)(hk:k≤k'):ExB s k':=⟨fun a ha=>by have:=h.le a ha;omega,h.srt,h.pre⟩
theorem ze2{n:Net}{start:List Int}{b:Int} : ∀ (f k:Nat) (s:Ex),ExOk n start b s→ExB s k→∃ k',ExB (exRun n b f k s) k'
  | 0,k,s,_,h=>⟨k,h⟩
  | f + 1, k, s, ho, h => by
    have er:exRun n b (f+1) k s=if s.code≠0 then s else if k<s.sp.ms.length then exRun n b f (k+1) (exL n b k s (enabL n (s.sp.ms.getD k []))) else s:=rfl
    rw[er]
    split
    · exact⟨k,h⟩
    · split
      · rename_i hl
        exact ze2 f (k+1) _ (zdx (start:=start) (k:=k) _ s ho hl (fun t ht=>ht)).1 ((zdu _ s ho h hl (fun t ht=>ht)).up (by omega))
      · exact⟨k,h⟩
theorem zdo{n:Net}{start:List Int}{b:Int}(hm:zs4 n start=true)(hb:1≤b):Bfs (exAll n start b).sp.ar (exAll n start b).sp.ms.length:=by
 have ho:=(zdq hm hb).1
 obtain⟨k,h⟩ : ∃ k,ExB (exAll n start b) k:=by
  unfold exAll
  refine ze2 (start:=start) _ 0 _ ⟨rfl,fun m hm2=>?_,by simp;omega,by simp,fun a ha=>by simp at ha,fun j hj hl=>?_⟩ ⟨fun a ha=>by simp at ha,fun i j _ hi=>by simp at hi,fun i hi=>by simp at hi⟩
  ·simp only[List.mem_singleton] at hm2;subst hm2;exact hm
  ·simp only[List.length_cons,List.length_nil] at hl;omega
 refine⟨fun a ha=>?_,h.srt,h.pre,ho.back⟩
 have:=ho.arcs a ha
 omega
/-! ### Ways of some arcs -/
def Dk(ar:List Arc3)(p:Int):Nat→Int→Prop
 | 0,k=>k=p
 | d+1,k=>∃ a∈ar,a.src=k∧Dk ar p d a.dst
structure isFar(ar:List Arc3)(p:Int)(n:Nat)(F:List Int):Prop where
 len:F.length=n
 val : ∀ k:Nat,k<n→(F[k]? = some (-1)∧∀ e,¬Dk ar p e k)∨∃ d:Nat,F[k]? = some (d:Int)∧Dk ar p d k∧∀ e,e<d→¬Dk ar p e k
def treeW(ar:List Arc3):Nat→Nat→List Int
  | 0,_=>[]
  | f + 1, k => if k = 0 then [] else match ar[(arcTo ar k).toNat]? with
    | some a=>treeW ar f a.src.toNat++[a.by_]
    | none=>[]
def tw(ar:List Arc3)(k:Nat):List Int:=treeW ar (k+1) k
section
variable {ar : List Arc3} {n : Nat}
theorem Bfs.arc(h:Bfs ar n){q:Nat}(h0:0<q)(hq:q<n) : ∃ i,∃ hi:i<ar.length,arcTo ar q=i∧ar[i].dst=q∧0≤ar[i].src∧ar[i].src<q∧∀ i',(h':i'<i)→(ar[i']'(by omega)).dst≠q:=by
 obtain⟨i,hi,e1,e2,e3⟩:=h.back q h0 hq
 refine⟨i,hi,?_,e1,(h.inn _ (List.getElem_mem hi)).1,e2,e3⟩
 unfold arcTo
 refine zkg hi ?_ (decide_eq_true e1)
 rw[List.any_eq_false]
 intro x hx
 obtain⟨i',h1,rfl⟩:=List.mem_iff_getElem.1 hx
 have h2:i'<i:=by simp at h1;omega
 have:=e3 i' h2
 simpa using this
theorem z1ff(h:Bfs ar n) : ∀ (f g k:Nat),k<n→k<f→k<g→treeW ar f k=treeW ar g k
  | 0,_,k,_,hf,_=>by omega
  | f+1,0,k,_,_,hg=>by omega
  | f + 1, g + 1, k, hn, hf, hg => by
    unfold treeW
    split
    · rfl
    · rename_i h0
      obtain⟨i,hi,e,_,e2,e3,_⟩:=h.arc (by omega) hn
      rw[e,Int.toNat_natCast,List.getElem?_eq_getElem hi]
      simp only
      rw[z1ff h f g _ (by omega) (by omega) (by omega)]
theorem z1fn:tw ar 0=[]:=rfl
theorem z1fl(h:Bfs ar n){k i:Nat}(h0:0<k)(hk:k<n)(hi:i<ar.length)(e:arcTo ar k=i):tw ar k=tw ar ar[i].src.toNat++[ar[i].by_]:=by
 obtain⟨j,hj,e1,_,e2,e3,_⟩:=h.arc h0 hk
 have hij:j=i:=by rw[e] at e1;omega
 subst hij
 show(if k=0 then [] else match ar[(arcTo ar k).toNat]? with | some a=>treeW ar k a.src.toNat++[a.by_] | none=>[])=_
 rw[if_neg (by omega),e,Int.toNat_natCast,List.getElem?_eq_getElem hj]
 simp only
 rw[z1ff h k (ar[j].src.toNat+1) _ (by omega) (by omega) (by omega)];rfl
inductive Tp (ar:List Arc3) (p:Nat):Nat→List Int→Prop
 | refl:Tp ar p p []
 | step {c i:Nat} {U:List Int} (hi:i<ar.length) (e:arcTo ar c=i) (h0:0<c) (t:Tp ar p c U):Tp ar p ar[i].src.toNat (ar[i].by_ :: U)
theorem Tp.path(h:Bfs ar n){p t:Nat}{U:List Int}(hp:p<n)(ht:Tp ar p t U):t<n∧Dk ar p U.length t:=by
  induction ht with
  | refl=>exact⟨hp,rfl⟩
  | step hi e h0 t ih =>
    rename_i c i U
    obtain⟨j,hj,e1,e2,e3,e4,_⟩:=h.arc h0 ih.1
    have:j=i:=by rw[e] at e1;omega
    subst this
    refine⟨by omega,_,List.getElem_mem hi,(Int.toNat_of_nonneg e3).symm,?_⟩
    rw[e2];exact ih.2
theorem tw_tp(h:Bfs ar n){p:Nat}(hp:p<n) : ∀ (k:Nat) (U:List Int),k<n→Tp ar p k U→Tp ar p 0 (tw ar k++U)
  | 0,U,_,ht=>by rw[z1fn];exact ht
  | k + 1, U, hk, ht => by
    obtain⟨i,hi,e1,e2,e3,e4,_⟩:=h.arc (q:=k+1) (by omega) hk
    rw[z1fl h (by omega) hk hi e1,List.append_assoc]
    exact tw_tp h hp ar[i].src.toNat _ (by omega) (.step hi e1 (by omega) ht)
termination_by k => k
decreasing_by all_goals omega
inductive Gd (ar:List Arc3) (F:List Int) (p:Nat):Nat→List Int→Prop
 | refl:Gd ar F p p []
 | step {t i:Nat} {W:List Int} (hne:t≠p) (hi:i<ar.length) (hs:ar[i].src=t) (hf : ∀ u v,F[ar[i].dst.toNat]? = some u→F[t]? = some v→u=v-1) (hm : ∀ j,(hj:j<i)→(ar[j]'(by omega)).src=t→∀ u v,F[(ar[j]'(by omega)).dst.toNat]? = some u→F[t]? = some v→u≠v-1)
   (g:Gd ar F p ar[i].dst.toNat W):Gd ar F p t (ar[i].by_ :: W)
theorem isFar.at_{p:Nat}{F:List Int}(hF:isFar ar p n F){k d:Nat}(hk:k<n)(hd:Dk ar p d k)(hm : ∀ e,e<d→¬Dk ar p e k):F[k]? = some (d:Int):=by
 rcases hF.val k hk with⟨_,h⟩ | ⟨d',h1,h2,h3⟩
 ·exact(h d hd).elim
 ·have:d'=d:=by
   rcases Nat.lt_trichotomy d d' with h | h | h
   ·exact(h3 d h hd).elim
   ·exact h.symm
   ·exact(hm d' h h2).elim
  rw[h1,this]
end
end Go.Proofs.YtbaclnecajkknaaGreat.Pi
namespace Go.Proofs.YtbaclnecajkknaaGreat.Pi
open Go
set_option linter.all false

structure FQ(ar:List Arc3)(p:Int)(n:Nat)(F q:List Int)(w:Int→Prop):Prop where
 len:F.length=n
 val : ∀ k:Nat,∀ u,F[k]? = some u→u = -1∨∃ d:Nat,u=d∧Dk ar p d k
 zero:F[p.toNat]? = some 0
 inn : ∀ x∈q,0≤x∧∃ d:Nat,F[x.toNat]? = some (d:Int)
 srt:q.Pairwise fun x y=>∀ u v,F[x.toNat]? = some u→F[y.toNat]? = some v→u≤v
 bnd : ∀ k:Nat,∀ u,F[k]? = some u→∀ x∈q,∀ v,F[x.toNat]? = some v→u≤v+1
 cls : ∀ a∈ar,∀ u,F[a.dst.toNat]? = some u→0≤u→a.dst∉q→¬w a.dst→∃ v,F[a.src.toNat]? = some v∧0≤v∧v≤u+1
section
variable {ar : List Arc3} {p : Int} {n : Nat} {F q : List Int}
theorem FQ.end_(h:FQ ar p n F [] fun _=>False)(ha:z44 ar n)(hp:0≤p∧p<n):isFar ar p n F:=by
  have key : ∀ (e k:Nat),k<n→Dk ar p e k→∃ u,F[k]? = some u∧0≤u∧u≤e:=by
    intro e
    induction e with
    | zero =>
      intro k hk hd
      simp only[Dk] at hd
      refine⟨0,?_,by omega,by omega⟩
      have:=h.zero
      rwa [←hd,Int.toNat_natCast] at this
    | succ e ih =>
      rintro k hk ⟨a,hm,e1,hd⟩
      obtain⟨a1,a2,a3,a4⟩:=ha a hm
      obtain⟨u,h1,h2,h3⟩:=ih a.dst.toNat (by omega) (by rw[Int.toNat_of_nonneg a3];exact hd)
      obtain⟨v,h4,h5,h6⟩:=h.cls a hm u h1 h2 (by simp) (by simp)
      rw[e1,Int.toNat_natCast] at h4
      exact⟨v,h4,h5,by omega⟩
  refine⟨h.len,fun k hk=>?_⟩
  have hkl:k<F.length:=by rw[h.len];exact hk
  rcases h.val k _ (List.getElem?_eq_getElem hkl) with h1 | ⟨d,h1,h2⟩
  · refine .inl ⟨by rw[List.getElem?_eq_getElem hkl,h1],fun e hd=>?_⟩
    obtain⟨u,g1,g2,_⟩:=key e k hk hd
    rw[List.getElem?_eq_getElem hkl,h1] at g1
    have:=Option.some.inj g1
    omega
  · refine .inr ⟨d,by rw[List.getElem?_eq_getElem hkl,h1],h2,fun e he hd=>?_⟩
    obtain⟨u,g1,_,g3⟩:=key e k hk hd
    rw[List.getElem?_eq_getElem hkl,h1] at g1
    have:=Option.some.inj g1
    omega
theorem FQ.start(ha:z44 ar n)(hp:0≤p∧p<n):FQ ar p n ((List.replicate n (-1)).set p.toNat 0) [p] fun _=>False:=by
 have hl:p.toNat<(List.replicate n (-1:Int)).length:=by simp;omega
 have hz:((List.replicate n (-1:Int)).set p.toNat 0)[p.toNat]? = some 0:=by rw[List.getElem?_set_self hl]
 have hall : ∀ (k:Nat) (u:Int),((List.replicate n (-1:Int)).set p.toNat 0)[k]? = some u→(k=p.toNat∧u=0)∨u = -1:=by
  intro k u h
  rw[List.getElem?_set] at h
  split at h
  ·rename_i e
   exact .inl ⟨e.symm,(Option.some.inj h).symm⟩
  ·rw[List.getElem?_replicate] at h
   split at h
   ·exact .inr (Option.some.inj h).symm
   ·cases h
 refine⟨by simp,fun k u h=>?_,hz,fun x hx=>?_,by simp,fun k u h x hx v hv=>?_,fun a hm u h h0 hq _=>?_⟩
 ·rcases hall k u h with⟨h1,h2⟩ | h1
  ·exact .inr ⟨0,h2,by simp only[Dk];omega⟩
  ·exact .inl h1
 ·rw[List.mem_singleton] at hx;subst hx;exact⟨hp.1,0,hz⟩
 ·rw[List.mem_singleton] at hx;subst hx
  rw[hz] at hv
  have:=Option.some.inj hv
  rcases hall k u h with⟨_,h2⟩ | h1<;>omega
 ·rcases hall _ u h with⟨h1,_⟩ | h1
  ·refine(hq ?_).elim
   rw[List.mem_singleton]
   have:=(ha a hm).2.2.1
   omega
  ·omega
structure FW(ar:List Arc3)(p:Int)(n:Nat)(x:Int)(d:Nat)(m:Nat)(F q:List Int):Prop extends FQ ar p n F q (fun y=>y=x) where
 at_:F[x.toNat]? = some (d:Int)
 pos:0≤x∧x<n
 dk:Dk ar p d x
 low : ∀ y∈q,∀ v,F[y.toNat]? = some v→(d:Int)≤v
 top : ∀ k:Nat,∀ u,F[k]? = some u→u≤d+1
 up : ∀ j,j<m→∀ a,ar[j]? = some a→a.dst=x→∃ v,F[a.src.toNat]? = some v∧0≤v∧v≤d+1
theorem FQ.look{x:Int}(h:FQ ar p n F (x :: q) fun _=>False) : ∃ d:Nat,FW ar p n x d 0 F q:=by
 obtain⟨h0,d,hd⟩:=h.inn x (by simp)
 have hlt:=(List.getElem?_eq_some_iff.1 hd).1
 have hs:=List.pairwise_cons.1 h.srt
 refine⟨d,⟨h.len,h.val,h.zero,fun y hy=>h.inn y (by simp [hy]),hs.2,fun k u hu y hy=>h.bnd k u hu y (by simp [hy]),fun a hm u hu h1 hq hw=>h.cls a hm u hu h1 (by simp;exact⟨hw,hq⟩) (by simp)⟩,hd,⟨h0,by have:=h.len;omega⟩,?_,fun y hy v hv=>hs.1 y hy _ v hd hv,fun k u hu=>by have:=h.bnd k u hu x (by simp) _ hd;omega,fun j hj=>by omega⟩
 rcases h.val _ _ hd with h1 | ⟨d',h1,h2⟩
 ·omega
 ·have:d'=d:=by omega
  rw[←this,←Int.toNat_of_nonneg h0];exact h2
theorem FW.next{x:Int}{d:Nat}(h:FW ar p n x d ar.length F q):FQ ar p n F q fun _=>False:=by
 refine⟨h.len,h.val,h.zero,h.inn,h.srt,h.bnd,fun a hm u hu h1 hq _=>?_⟩
 by_cases e:a.dst=x
 ·obtain⟨j,hj,he⟩:=List.mem_iff_getElem.1 hm
  obtain⟨v,g1,g2,g3⟩:=h.up j hj a (by rw[List.getElem?_eq_getElem hj,he]) e
  rw[e,h.at_] at hu
  have:=Option.some.inj hu
  exact⟨v,g1,g2,by omega⟩
 ·exact h.cls a hm u hu h1 hq e
theorem FW.old{x:Int}{d m:Nat}(h:FW ar p n x d m F q)(hm:m<ar.length)(hc:ar[m].dst=x→∃ v,F[ar[m].src.toNat]? = some v∧0≤v):FW ar p n x d (m+1) F q:=by
 refine⟨h.toFQ,h.at_,h.pos,h.dk,h.low,h.top,fun j hj a ha e=>?_⟩
 by_cases ej:j=m
 ·subst ej
  rw[List.getElem?_eq_getElem hm] at ha
  cases ha
  obtain⟨v,g1,g2⟩:=hc e
  exact⟨v,g1,g2,h.top _ v g1⟩
 ·exact h.up j (by omega) a ha e
theorem FW.new{x:Int}{d m:Nat}(h:FW ar p n x d m F q)(ha:z44 ar n)(hm:m<ar.length)(hd:ar[m].dst=x)(hc:F[ar[m].src.toNat]? = some (-1)):FW ar p n x d (m+1) (F.set ar[m].src.toNat (d+1)) (q++[ar[m].src]):=by
 have hmm:=List.getElem_mem hm
 obtain⟨a1,a2,a3,a4⟩:=ha _ hmm
 have hup:=h.up
 have hdk:Dk ar p (d+1) ar[m].src:=⟨ar[m],hmm,rfl,by rw[hd];exact h.dk⟩
 generalize hy:ar[m].src=y at *
 have hyl:y.toNat<F.length:=(List.getElem?_eq_some_iff.1 hc).1
 have hself:(F.set y.toNat ((d:Int)+1))[y.toNat]? = some ((d:Int)+1):=by rw[List.getElem?_set_self hyl]
 have get : ∀ (k:Nat) (u:Int),(F.set y.toNat ((d:Int)+1))[k]? = some u→(k=y.toNat∧u=d+1)∨(k≠y.toNat∧F[k]? = some u):=by
  intro k u hu
  rw[List.getElem?_set] at hu
  split at hu
  ·rename_i e
   exact .inl ⟨e.symm,(Option.some.inj hu).symm⟩
  ·rename_i e;exact .inr ⟨fun h=>e h.symm,hu⟩
 have keep : ∀ (k:Nat) (u:Int),F[k]? = some u→0≤u→(F.set y.toNat ((d:Int)+1))[k]? = some u:=by
  intro k u hu h0
  rw[List.getElem?_set_ne];exact hu
  rintro rfl
  rw[hc] at hu
  have:=Option.some.inj hu
  omega
 have hqy : ∀ z∈q,z.toNat≠y.toNat:=by
  intro z hz e
  obtain⟨_,d',h1⟩:=h.inn z hz
  rw[e,hc] at h1
  have:=Option.some.inj h1
  omega
 refine⟨⟨by simp [h.len],fun k u hu=>?_,keep _ _ h.zero (by omega),fun z hz=>?_,?_,fun k u hu z hz v hv=>?_,fun a hma u hu h1 hq hw=>?_⟩,keep _ _ h.at_ (by omega),h.pos,h.dk,fun z hz v hv=>?_,fun k u hu=>?_,fun j hj a hja e=>?_⟩
 ·rcases get k u hu with⟨rfl,rfl⟩ | ⟨_,h1⟩
  ·exact .inr ⟨d+1,by omega,by rw[Int.toNat_of_nonneg a1];exact hdk⟩
  ·exact h.val k u h1
 ·rcases List.mem_append.1 hz with hz | hz
  ·obtain⟨h0,d',h1⟩:=h.inn z hz
   exact⟨h0,d',keep _ _ h1 (by omega)⟩
  ·rw[List.mem_singleton] at hz;subst hz
   exact⟨a1,d+1,by rw[hself];congr 1⟩
 ·rw[List.pairwise_append]
  refine⟨h.srt.imp_of_mem fun {z z'} hz hz' hp u v hu hv=>?_,by simp,fun z hz z' hz' u v hu hv=>?_⟩
  ·rcases get _ u hu with⟨e,_⟩ | ⟨_,g1⟩
   ·exact(hqy z hz e).elim
   rcases get _ v hv with⟨e,_⟩ | ⟨_,g2⟩
   ·exact(hqy z' hz' e).elim
   exact hp u v g1 g2
  ·rw[List.mem_singleton] at hz';subst hz'
   rcases get _ u hu with⟨e,_⟩ | ⟨_,g1⟩
   ·exact(hqy z hz e).elim
   rw[hself] at hv
   have:=Option.some.inj hv
   have:=h.top _ u g1
   omega
 ·have hku:u≤d+1:=by
   rcases get k u hu with⟨_,rfl⟩ | ⟨_,g1⟩
   ·omega
   ·exact h.top k u g1
  have hvd:(d:Int)≤v:=by
   rcases get _ v hv with⟨_,rfl⟩ | ⟨e,g1⟩
   ·omega
   ·rcases List.mem_append.1 hz with hz | hz
    ·exact h.low z hz v g1
    ·rw[List.mem_singleton] at hz;subst hz;exact(e rfl).elim
  omega
 ·rcases get _ u hu with⟨e,_⟩ | ⟨_,g1⟩
  ·refine(hq (List.mem_append.2 (.inr ?_))).elim
   rw[List.mem_singleton]
   have:=(ha a hma).2.2.1
   omega
  ·obtain⟨v,g2,g3,g4⟩:=h.cls a hma u g1 h1 (fun hz=>hq (List.mem_append.2 (.inl hz))) hw
   exact⟨v,keep _ _ g2 g3,g3,g4⟩
 ·rcases List.mem_append.1 hz with hz | hz
  ·rcases get _ v hv with⟨_,rfl⟩ | ⟨_,g1⟩
   ·omega
   ·exact h.low z hz v g1
  ·rw[List.mem_singleton] at hz;subst hz
   rw[hself] at hv
   have:=Option.some.inj hv
   omega
 ·rcases get k u hu with⟨_,rfl⟩ | ⟨_,g1⟩
  ·omega
  ·exact h.top k u g1
 ·by_cases ej:j=m
  ·subst ej
   rw[List.getElem?_eq_getElem hm] at hja
   cases hja
   rw[hy]
   exact⟨d+1,hself,by omega,by omega⟩
  ·obtain⟨v,g1,g2,g3⟩:=hup j (by omega) a hja e
   exact⟨v,keep _ _ g1 g2,g2,g3⟩
theorem z1fi(h:Bfs ar n) : ∀ k:Nat,k<n→(tw ar k).length≤k
  | 0,_=>by simp [z1fn]
  | k + 1, hk => by
    obtain⟨i,hi,e1,e2,e3,e4,_⟩:=h.arc (q:=k+1) (by omega) hk
    rw[z1fl h (by omega) hk hi e1,List.length_append,List.length_cons,List.length_nil]
    have:=z1fi h ar[i].src.toNat (by omega)
    omega
termination_by k => k
decreasing_by all_goals omega
theorem isFar.begin_(h:Bfs ar n){p:Nat}(hp:p<n){F:List Int}(hF:isFar ar p n F) : ∃ d:Nat,F[0]? = some (d:Int)∧d<n:=by
 have hd:=(Tp.path h hp (tw_tp h hp p [] hp .refl)).2
 rw[List.append_nil] at hd
 rcases hF.val 0 (by omega) with⟨_,h1⟩ | ⟨d,h1,_,h3⟩
 ·exact(h1 _ hd).elim
 ·refine⟨d,h1,?_⟩
  have:=z1fi h p hp
  apply Decidable.byContradiction
  intro hn
  exact h3 _ (by omega) hd
theorem isFar.pos{p:Nat}{F:List Int}(hF:isFar ar p n F){t j:Nat}(ht:t<n)(htp:t≠p)(hFt:F[t]? = some (j:Int)):0<j:=by
 rcases hF.val t ht with⟨h1,_⟩ | ⟨d,h1,h2,_⟩
 ·rw[hFt] at h1;have:=Option.some.inj h1;omega
 ·rw[hFt] at h1
  have e:=Option.some.inj h1
  cases d with
  | zero=>simp only[Dk] at h2;omega
  | succ d=>omega
end
end Go.Proofs.YtbaclnecajkknaaGreat.Pi
namespace Go.Proofs.YtbaclnecajkknaaGreat.Pi
open Go
set_option linter.all false

structure Vd where
 ok:Int
 kind:Int
 way:List Int
 dead:Int
def overB(a b:List Int):Bool:=zbh a b&&!decide (a=b)
def deadK(ar:List Arc3)(k:Nat):List Int:=((List.range k).filter fun(t:Nat)=>!ar.any fun a=>decide (a.by_=(t:Int))).map fun(t:Nat)=>(t:Int)
theorem zbq(ar:List Arc3)(k:Nat):deadK ar (k+1)=deadK ar k++(if (ar.any fun a=>decide (a.by_=(k:Int)))=true then [] else [(k:Int)]):=by
 unfold deadK
 rw[List.range_succ,List.filter_append,List.map_append]
 congr 1
 rw[List.filter_cons]
 cases ar.any fun a=>decide (a.by_=(k:Int))<;>simp
theorem zbp(ar:List Arc3)(k:Nat):(deadK ar k).length≤k:=by
 unfold deadK
 rw[List.length_map]
 exact Nat.le_trans (List.length_filter_le ..) (by simp)
def endS(ms:List (List Int))(E:List Int):List Int:=if 0≤findM ms E then [findM ms E] else []
noncomputable def chkV(nt:Nat)(ms:List (List Int))(ar:List Arc3)(E:List Int):Vd:=
 if 0≤idxI (toL ar ms.length (endS ms E)) (fun x=>x == false) then⟨2,1,tw ar (idxI (toL ar ms.length (endS ms E)) (fun x=>x == false)).toNat,0⟩
 else if 0≤idxI ms (fun m=>overB m E) then⟨2,2,tw ar (idxI ms (fun m=>overB m E)).toNat,0⟩
 else if 0<(deadK ar nt).length then⟨2,3,[],(deadK ar nt).getD 0 0⟩
 else⟨1,0,[],0⟩
noncomputable def sndV(f:Fl)(b:Int):Vd:=
  if (exAll f.net (oneM f.net.pl.toNat f.src) b).code = 0 then
    if (chkV f.net.tr.length (exAll f.net (oneM f.net.pl.toNat f.src) b).sp.ms (exAll f.net (oneM f.net.pl.toNat f.src) b).sp.ar (oneM f.net.pl.toNat f.dst)).way.length≤60 then
      chkV f.net.tr.length (exAll f.net (oneM f.net.pl.toNat f.src) b).sp.ms (exAll f.net (oneM f.net.pl.toNat f.src) b).sp.ar (oneM f.net.pl.toNat f.dst)
    else⟨3,0,[],0⟩
  else⟨3,0,[],0⟩
theorem zwr{f:Fl}(h:ziu f=true):zs4 f.net (oneM f.net.pl.toNat f.src)=true:=by
 obtain⟨g1,g2,_⟩:=ziy h
 simp only[zs4,g1,Bool.true_and]
 exact zwm g1 g2
end Go.Proofs.YtbaclnecajkknaaGreat.Pi
namespace Go.Proofs.YtbaclnecajkknaaGreat.Pi
open Go
set_option linter.all false

end Go.Proofs.YtbaclnecajkknaaGreat.Pi
namespace Go.Proofs.YtbaclnecajkknaaGreat.Pi
open Go
set_option linter.all false

end Go.Proofs.YtbaclnecajkknaaGreat.Pi
namespace Go.Proofs.YtbaclnecajkknaaGreat.Pi
open Go
set_option linter.all false

theorem z1bf{f:Fl}{b:Int}(h:(sndV f b).ok=1):(exAll f.net (oneM f.net.pl.toNat f.src) b).code=0∧chkV f.net.tr.length (exAll f.net (oneM f.net.pl.toNat f.src) b).sp.ms (exAll f.net (oneM f.net.pl.toNat f.src) b).sp.ar (oneM f.net.pl.toNat f.dst)=⟨1,0,[],0⟩:=by
 unfold sndV at h
 split at h
 ·rename_i hc
  refine⟨hc,?_⟩
  split at h
  ·unfold chkV at h ⊢
   split at h
   ·simp at h
   ·rename_i h1
    rw[if_neg h1]
    split at h
    ·simp at h
    ·rename_i h2
     rw[if_neg h2]
     split at h
     ·simp at h
     ·rename_i h3
      rw[if_neg h3]
  ·simp at h
 ·simp at h
theorem z9h{nt:Nat}{ms:List (List Int)}{ar:List Arc3}{E:List Int}(h:(chkV nt ms ar E).ok=1):(∀ k:Nat,k<ms.length→Rk ar (endS ms E) k)∧(∀ m∈ms,overB m E=false)∧deadK ar nt=[]:=by
 unfold chkV at h
 split at h
 ·simp at h
 ·rename_i h1
  split at h
  ·simp at h
  ·rename_i h2
   split at h
   ·simp at h
   ·rename_i h3
    refine⟨fun k hk=>?_,fun m hm=>?_,?_⟩
    ·have h4:=zkc (toL ar ms.length (endS ms E)) (fun x=>x == false)
     rw[decide_eq_false h1,List.any_eq_false] at h4
     have h5:=h4 _ (List.getElem_mem (by rw[z1eu];exact hk:k<(toL ar ms.length (endS ms E)).length))
     have h6:(toL ar ms.length (endS ms E))[k]'(by rw[z1eu];exact hk)=true:=by
      revert h5
      cases (toL ar ms.length (endS ms E))[k]'(by rw[z1eu];exact hk)<;>simp
     exact(z1es hk).1 h6
    ·have h4:=zkc ms (fun m=>overB m E)
     rw[decide_eq_false h2,List.any_eq_false] at h4
     have:=h4 m hm
     simpa using this
    ·exact List.length_eq_zero_iff.1 (by omega)
end Go.Proofs.YtbaclnecajkknaaGreat.Pi
namespace Go.Proofs.YtbaclnecajkknaaGreat.Pi
open Go
set_option linter.all false

def cmpL:List Int→List Int→Int
 | [],[]=>0
 | [],_ :: _=>-1
 | _ :: _,[]=>1
 | a :: as,b :: bs=>if a<b then -1 else if b<a then 1 else cmpL as bs
/-! ### Sorting by insertion -/
section
variable {α : Type} [Inhabited α] (le : α → α → Prop)
end

/-! ### Strictly sorted lists -/
def inOrd:List (List Int)→List Int→List (List Int)
 | [],m=>[m]
 | x :: xs,m=>if cmpL m x=0 then x :: xs else if cmpL m x<0 then m :: x :: xs else x :: inOrd xs m
/-! ### Least marks -/
/-! ### What stands next to its like, element by element -/
end Go.Proofs.YtbaclnecajkknaaGreat.Pi
namespace Go.Proofs.YtbaclnecajkknaaGreat.Pi
open Go
set_option linter.all false

end Go.Proofs.YtbaclnecajkknaaGreat.Pi
namespace Go.Proofs.YtbaclnecajkknaaGreat.Pi
open Go
set_option linter.all false

section
variable {α β : Type} [Inhabited α] (e : α → β)
end
@[go_sem] theorem z6o{bl:Bool}{k:IntKind}{x y:Int}:binV bl .xor (.int k x) (.int k y)=some (.int k (bits .xor k x y)):=by simp [binV,binI]
section
variable {α : Type} [Inhabited α] (lt : α → α → Bool)
end
section
variable {α : Type} [Inhabited α]
end
end Go.Proofs.YtbaclnecajkknaaGreat.Pi
namespace Go.Proofs.YtbaclnecajkknaaGreat.Pi
open Go
set_option linter.all false

/-! ### Level by level -/
structure Lvl(ar:List Arc3)(p:Int)(n d:Nat)(F:List Int):Prop where
 len:F.length=n
 val : ∀ k:Nat,k<n→(F[k]? = some (-1)∧∀ e,e≤d→¬Dk ar p e k)∨∃ e:Nat,e≤d∧F[k]? = some (e:Int)∧Dk ar p e k∧∀ e',e'<e→¬Dk ar p e' k
structure Lvm(ar:List Arc3)(p:Int)(n d j:Nat)(f:Bool)(F:List Int):Prop where
 len:F.length=n
 val : ∀ k:Nat,k<n→(F[k]? = some (-1)∧(∀ e,e≤d→¬Dk ar p e k)∧∀ i,(hi:i<j)→∀ a,ar[i]? = some a→a.src=k→F[a.dst.toNat]?≠some (d:Int))∨(∃ e:Nat,e≤d∧F[k]? = some (e:Int)∧Dk ar p e k∧∀ e',e'<e→¬Dk ar p e' k)∨(f=true∧F[k]? = some ((d+1:Nat):Int)∧Dk ar p (d+1) k∧∀ e',e'<d+1→¬Dk ar p e' k)
section
variable {ar : List Arc3} {p : Int} {n d : Nat} {F : List Int}
theorem Lvl.start(hp:0≤p∧p<n):Lvl ar p n 0 ((List.replicate n (-1)).set p.toNat 0):=by
 refine⟨by simp,fun k hk=>?_⟩
 by_cases e:k=p.toNat
 ·subst e
  refine .inr ⟨0,Nat.le_refl _,?_,by simp only[Dk];omega,fun e' h=>by omega⟩
  rw[List.getElem?_set_self (by simpa using hk)];rfl
 ·refine .inl ⟨?_,fun e' he hd=>?_⟩
  ·rw[List.getElem?_set_ne (fun h=>e h.symm),List.getElem?_replicate,if_pos hk]
  ·obtain rfl:e'=0:=by omega
   simp only[Dk] at hd
   omega
theorem Lvm.up{j:Nat}{f:Bool}(h:Lvm ar p n d j f F):Lvm ar p n d j true F:=⟨h.len,fun k hk=>by
 rcases h.val k hk with h1 | h1 | h1
 ·exact .inl h1
 ·exact .inr (.inl h1)
 ·exact .inr (.inr ⟨rfl,h1.2⟩)⟩
theorem Lvm.two{j:Nat}{f:Bool}(h:Lvm ar p n d j f F){k:Nat}(hk:k<n){v:Int}(hv:F[k]? = some v):v = -1∨0≤v:=by
 rcases h.val k hk with⟨h1,_⟩ | ⟨e,_,h1,_⟩ | ⟨_,h1,_⟩
 ·rw[h1] at hv;exact .inl (Option.some.inj hv).symm
 ·rw[h1] at hv;have:=Option.some.inj hv;exact .inr (by omega)
 ·rw[h1] at hv;have:=Option.some.inj hv;exact .inr (by omega)
theorem Lvm.old{j:Nat}{f:Bool}(h:Lvm ar p n d j f F)(hj:j<ar.length)(hin:z44 ar n)(hc:¬(F[ar[j].dst.toNat]? = some (d:Int)∧F[ar[j].src.toNat]? = some (-1))):Lvm ar p n d (j+1) f F:=⟨h.len,fun k hk=>by
 rcases h.val k hk with⟨h1,h2,h3⟩ | h1 | h1
 ·refine .inl ⟨h1,h2,fun i hi a ha hs=>?_⟩
  by_cases e:i=j
  ·subst e
   rw[List.getElem?_eq_getElem hj] at ha
   cases ha
   intro hd
   refine hc ⟨hd,?_⟩
   rw[hs,Int.toNat_natCast];exact h1
  ·exact h3 i (by omega) a ha hs
 ·exact .inr (.inl h1)
 ·exact .inr (.inr h1)⟩
theorem Lvm.dk{j:Nat}{f:Bool}(h:Lvm ar p n d j f F){k:Nat}(hk:k<n)(he:F[k]? = some (d:Int)):Dk ar p d k:=by
 rcases h.val k hk with⟨h1,_⟩ | ⟨e,_,h2,h3,_⟩ | ⟨_,h2,_⟩
 ·rw[h1] at he;have:=Option.some.inj he;omega
 ·rw[h2] at he
  have:e=d:=by have:=Option.some.inj he;omega
  rwa [←this]
 ·rw[h2] at he;have:=Option.some.inj he;omega
theorem Lvm.new{j:Nat}{f:Bool}(h:Lvm ar p n d j f F)(hj:j<ar.length)(hin:z44 ar n)(h1:F[ar[j].dst.toNat]? = some (d:Int))(h2:F[ar[j].src.toNat]? = some (-1)):Lvm ar p n d (j+1) true (F.set ar[j].src.toNat ((d+1:Nat):Int)):=by
 obtain⟨a1,a2,a3,a4⟩:=hin _ (List.getElem_mem hj)
 have hx:ar[j].src.toNat<F.length:=by rw[h.len];omega
 have hdk:Dk ar p (d+1) (ar[j].src.toNat:Nat):=⟨ar[j],List.getElem_mem hj,(Int.toNat_of_nonneg a1).symm,by
  have:=h.dk (k:=ar[j].dst.toNat) (by omega) h1
  rwa [Int.toNat_of_nonneg a3] at this⟩
 refine⟨by simpa using h.len,fun k hk=>?_⟩
 by_cases e:k=ar[j].src.toNat
 ·subst e
  refine .inr (.inr ⟨rfl,by rw[List.getElem?_set_self hx],hdk,?_⟩)
  rcases h.val _ hk with⟨_,g2,_⟩ | ⟨e,_,g2,_⟩ | ⟨_,g2,_⟩
  ·exact fun e' he=>g2 e' (by omega)
  ·rw[g2] at h2;have:=Option.some.inj h2;omega
  ·rw[g2] at h2;have:=Option.some.inj h2;omega
 ·have hs:(F.set ar[j].src.toNat ((d+1:Nat):Int))[k]? = F[k]?:=List.getElem?_set_ne (fun h=>e h.symm)
  rw[hs]
  rcases h.val k hk with⟨g1,g2,g3⟩ | g1 | g1
  ·refine .inl ⟨g1,g2,fun i hi a ha hsr=>?_⟩
   by_cases ei:i=j
   ·subst ei
    rw[List.getElem?_eq_getElem hj] at ha
    cases ha
    exact absurd (by omega) e
   ·by_cases hh:ar[j].src.toNat=a.dst.toNat
    ·rw[←hh,List.getElem?_set_self hx]
     intro hc;have:=Option.some.inj hc;omega
    ·rw[List.getElem?_set_ne hh]
     exact g3 i (by omega) a ha hsr
  ·exact .inr (.inl g1)
  ·exact .inr (.inr ⟨rfl,g1.2⟩)
theorem Lvm.end_{f:Bool}(h:Lvm ar p n d ar.length f F)(hin:z44 ar n):Lvl ar p n (d+1) F:=⟨h.len,fun k hk=>by
 rcases h.val k hk with⟨h1,h2,h3⟩ | ⟨e,he,h1⟩ | ⟨_,h1⟩
 ·refine .inl ⟨h1,fun e he hd=>?_⟩
  by_cases e1:e≤d
  ·exact h2 e e1 hd
  ·obtain rfl:e=d+1:=by omega
   obtain⟨a,ha,hs,hd2⟩:=hd
   obtain⟨i,hi,rfl⟩:=List.mem_iff_getElem.1 ha
   obtain⟨a1,a2,a3,a4⟩:=hin _ ha
   have hd3:Dk ar p d (ar[i].dst.toNat:Nat):=by rw[Int.toNat_of_nonneg a3];exact hd2
   rcases h.val ar[i].dst.toNat (by omega) with⟨_,g2,_⟩ | ⟨e,g0,g1,g2,g3⟩ | ⟨_,_,_,g3⟩
   ·exact g2 d (Nat.le_refl _) hd3
   ·by_cases ed:e=d
    ·subst ed
     exact h3 i hi _ (List.getElem?_eq_getElem hi) hs g1
    ·rw[Int.toNat_of_nonneg a3] at g2
     exact h2 (e+1) (by omega) ⟨ar[i],ha,hs,g2⟩
   ·exact g3 d (by omega) hd3
 ·exact .inr ⟨e,by omega,h1⟩
 ·exact .inr ⟨d+1,Nat.le_refl _,h1⟩⟩
theorem Lvm.done(h:Lvm ar p n d ar.length false F)(hin:z44 ar n)(hp:0≤p∧p<n):isFar ar p n F:=by
  have hl:=h.end_ hin
  have key : ∀ (e k:Nat),k<n→Dk ar p e k→∃ e':Nat,e'≤d∧F[k]? = some (e':Int)∧Dk ar p e' k:=by
    intro e
    induction e with
    | zero =>
      intro k hk hd
      rcases h.val k hk with⟨_,g2,_⟩ | ⟨e,g0,g1,g2,_⟩ | ⟨g,_⟩
      · exact absurd hd (g2 0 (by omega))
      · exact⟨e,g0,g1,g2⟩
      · cases g
    | succ e ih =>
      rintro k hk ⟨a,ha,hs,hd⟩
      obtain⟨a1,a2,a3,a4⟩:=hin a ha
      obtain⟨e',e1,_,e3⟩:=ih a.dst.toNat (by omega) (by rw[Int.toNat_of_nonneg a3];exact hd)
      rw[Int.toNat_of_nonneg a3] at e3
      have hd2:Dk ar p (e'+1) k:=⟨a,ha,hs,e3⟩
      rcases h.val k hk with⟨g1,_,_⟩ | ⟨e,g0,g1,g2,_⟩ | ⟨g,_⟩
      · rcases hl.val k hk with⟨_,q2⟩ | ⟨q,_,q1,_⟩
        · exact absurd hd2 (q2 _ (by omega))
        · rw[g1] at q1;have:=Option.some.inj q1;omega
      · exact⟨e,g0,g1,g2⟩
      · cases g
  refine⟨h.len,fun k hk=>?_⟩
  rcases h.val k hk with⟨h1,h2,_⟩ | ⟨e,_,h1,h2,h3⟩ | ⟨g,_⟩
  · refine .inl ⟨h1,fun e hd=>?_⟩
    obtain⟨e',_,g1,_⟩:=key e k hk hd
    rw[h1] at g1;have:=Option.some.inj g1;omega
  · exact .inr ⟨e,h1,h2,h3⟩
  · cases g
end
/-! ### Certificates -/
structure Crt where
 mks:List (List Int)
 stp:List Int
 rnk:List Int
def sortT(ms:List (List Int)):List (List Int):=ms.foldl inOrd []
def vals(ms:List (List Int))(S:List Int):List Int:=(sortT ms).map fun m=>S.getD (findM ms m).toNat 0
end Go.Proofs.YtbaclnecajkknaaGreat.Pi
namespace Go.Proofs.YtbaclnecajkknaaGreat.Pi
open Go
set_option linter.all false

def negB(l:List Int):Bool:=l.any fun x=>decide (x<0)
def okAt(p:Int)(M:List (List Int))(i:Nat):Bool:=goodM p (M.getD i [])&&(decide (i=0)||decide (cmpL (M.getD (i-1) []) (M.getD i [])<0))
def formB(p:Int)(c:Crt):Bool:=inB 1 400 c.mks.length&&decide (c.stp.length=c.mks.length)&&decide (c.rnk.length=c.mks.length)&&!negB c.stp&&!negB c.rnk&&(List.range c.mks.length).all (okAt p c.mks)
/-! ### What arcs say of each place of a row -/
end Go.Proofs.YtbaclnecajkknaaGreat.Pi
namespace Go.Proofs.YtbaclnecajkknaaGreat.Pi
open Go
set_option linter.all false

def svC(c:Crt)(m:List Int):Int:=c.stp.getD (findM c.mks m).toNat 0
def rvC(c:Crt)(m:List Int):Int:=c.rnk.getD (findM c.mks m).toNat 0
structure Tkn(f:Fl)(c:Crt):Prop where
 form:formB f.net.pl c=true
 start:oneM f.net.pl.toNat f.src∈c.mks
 step : ∀ m∈c.mks,∀ t∈enabL f.net m,zgc (trAt f.net t) m∈c.mks
 sv0:svC c (oneM f.net.pl.toNat f.src)=0
 reach : ∀ m∈c.mks,m≠oneM f.net.pl.toNat f.src→∃ m'∈c.mks,∃ t∈enabL f.net m',zgc (trAt f.net t) m'=m∧svC c m'<svC c m
 sink : ∀ m∈c.mks,m≠oneM f.net.pl.toNat f.dst→∃ t∈enabL f.net m,rvC c (zgc (trAt f.net t) m)<rvC c m
 over : ∀ m∈c.mks,overB m (oneM f.net.pl.toNat f.dst)=false
 fin:oneM f.net.pl.toNat f.dst∈c.mks
 rv0:rvC c (oneM f.net.pl.toNat f.dst)=0
 used : ∀ t:Nat,t<f.net.tr.length→∃ m∈c.mks,(t:Int)∈enabL f.net m
theorem zv6{T:List (List Int)}{m:List Int}(h:m∈T) : ∃ i,i<T.length∧T.getD i []=m:=by
 obtain⟨i,hi,rfl⟩:=List.mem_iff_getElem.1 h
 exact⟨i,hi,(zik hi).symm⟩
section
variable {n : Net} {c : Crt}
end
end Go.Proofs.YtbaclnecajkknaaGreat.Pi
namespace Go.Proofs.YtbaclnecajkknaaGreat.Pi
open Go
set_option linter.all false

theorem zbs{ar:List Arc3}{nt:Nat}(h:deadK ar nt=[]){t:Nat}(ht:t<nt) : ∃ a∈ar,a.by_=(t:Int):=by
 unfold deadK at h
 rw[List.map_eq_nil_iff,List.filter_eq_nil_iff] at h
 have:=h t (List.mem_range.2 ht)
 simp only[Bool.not_eq_true,Bool.not_eq_false'] at this
 rw[List.any_eq_true] at this
 obtain⟨a,ha,hb⟩:=this
 exact⟨a,ha,of_decide_eq_true hb⟩
/-! ### The own verdict shows that a flow is unsound -/
theorem zkd{α:Type}{l:List α}{q:α→Bool}(h:0≤idxI l q) : ∃ k:Nat,idxI l q=k∧∃ hk:k<l.length,q l[k]=true:=by
  unfold idxI at h ⊢
  cases e:l.findIdx? q with
  | none=>rw[e] at h;simp at h
  | some k =>
    rw[List.findIdx?_eq_some_iff_getElem] at e
    obtain⟨h1,h2,_⟩:=e
    exact⟨k,rfl,h1,h2⟩
def stays(n:Net)(Z:List (List Int)):Prop:=∀ z∈Z,∀ t∈enabL n z,(zgc (trAt n t) z).all (inB 0 50)=true∧zgc (trAt n t) z∈Z
section
variable {n : Net} {Z : List (List Int)} {start : List Int} {b : Int}
theorem ze8{k:Nat}{s:Ex}{t:Int}(h:(ze7 n b k s t).code=0):(∀ a∈s.sp.ar,a∈(ze7 n b k s t).sp.ar)∧∃ a∈(ze7 n b k s t).sp.ar,a.src=k∧a.by_=t:=by
  by_cases h0:s.code=0
  case neg=>rw[zei h0] at h;exact absurd h h0
  cases ha:(zgc (trAt n t) (s.sp.ms.getD k [])).all (inB 0 50) with
  | false=>rw[zek h0 ha] at h;simp at h
  | true =>
    by_cases h2:0≤findM s.sp.ms (zgc (trAt n t) (s.sp.ms.getD k []))
    · rw[zeg h0 ha h2]
      exact⟨fun a h=>List.mem_append_left _ h,_,List.mem_append_right _ (List.mem_singleton.2 rfl),rfl,rfl⟩
    · by_cases h3:b≤s.sp.ms.length
      · rw[zec h0 ha h2 h3] at h;simp at h
      · rw[zee h0 ha h2 h3]
        exact⟨fun a h=>List.mem_append_left _ h,_,List.mem_append_right _ (List.mem_singleton.2 rfl),rfl,rfl⟩
theorem zds{k:Nat} : ∀ (l:List Int) (s:Ex),(exL n b k s l).code=0→s.code=0∧(∀ a∈s.sp.ar,a∈(exL n b k s l).sp.ar)∧∀ t∈l,∃ a∈(exL n b k s l).sp.ar,a.src=k∧a.by_=t
  | [],s,h=>⟨h,fun a h=>h,by simp⟩
  | t :: l, s, h => by
    obtain⟨c0,c1,c2⟩:=zds l (ze7 n b k s t) h
    obtain⟨d1,a,d2,d3⟩:=ze8 c0
    refine⟨?_,fun a ha=>c1 a (d1 a ha),fun u hu=>?_⟩
    · by_cases h0:s.code=0
      · exact h0
      · rw[zei h0] at c0;exact c0
    · rcases List.mem_cons.1 hu with rfl | hu
      · exact⟨a,c1 a d2,d3⟩
      · exact c2 u hu
def toldA(n:Net)(s:Ex)(k:Nat):Prop:=∀ i:Nat,i<k→i<s.sp.ms.length→∀ t∈enabL n (s.sp.ms.getD i []),∃ a∈s.sp.ar,a.src=i∧a.by_=t
theorem ze0 : ∀ (f k:Nat) (s:Ex),ExOk n start b s→toldA n s k→b.toNat<k+f→(exRun n b f k s).code=0→toldA n (exRun n b f k s) (exRun n b f k s).sp.ms.length
  | 0, k, s, ho, h, hb, hc => by
    have:=ho.lenb
    show toldA n s s.sp.ms.length
    exact fun i hi=>h i (by omega)
  | f + 1, k, s, ho, h, hb, hc => by
    have er:exRun n b (f+1) k s=if s.code≠0 then s else if k<s.sp.ms.length then exRun n b f (k+1) (exL n b k s (enabL n (s.sp.ms.getD k []))) else s:=rfl
    by_cases h0:s.code≠0
    · rw[ze5 h0] at hc;exact absurd hc h0
    rw[er,if_neg h0] at hc ⊢
    by_cases hl:k<s.sp.ms.length
    · rw[if_pos hl] at hc ⊢
      obtain⟨f1,⟨p,f2⟩,f3⟩:=zdx (start:=start) (k:=k) (enabL n (s.sp.ms.getD k [])) s ho hl (fun t ht=>ht)
      have hc0:(exL n b k s (enabL n (s.sp.ms.getD k []))).code=0:=by
        by_cases e:(exL n b k s (enabL n (s.sp.ms.getD k []))).code=0
        · exact e
        · rw[ze5 e] at hc;exact absurd hc e
      obtain⟨_,g1,g2⟩:=zds _ s hc0
      refine ze0 f (k+1) _ f1 (fun i hi hl2 t ht=>?_) (by omega) hc
      by_cases hik:i<k
      · have e:(exL n b k s (enabL n (s.sp.ms.getD k []))).sp.ms.getD i []=s.sp.ms.getD i []:=by rw[f2,zin (l:=s.sp.ms) (by omega)]
        rw[e] at ht
        obtain⟨a,ha,h1⟩:=h i hik (by omega) t ht
        exact⟨a,g1 a ha,h1⟩
      · have:i=k:=by omega
        subst this
        have e:(exL n b i s (enabL n (s.sp.ms.getD i []))).sp.ms.getD i []=s.sp.ms.getD i []:=by rw[f2,zin hl]
        rw[e] at ht
        exact g2 t ht
    · rw[if_neg hl]
      exact fun i hi hl2=>h i (by omega) hl2
theorem zdm(hm:zs4 n start=true)(hb:1≤b)(hc:(exAll n start b).code=0):toldA n (exAll n start b) (exAll n start b).sp.ms.length:=by
 unfold exAll at hc ⊢
 refine ze0 (start:=start) _ 0 _ ⟨rfl,fun m hm2=>?_,by simp;omega,by simp,fun a ha=>by simp at ha,fun j hj hl=>?_⟩ (fun i hi=>by omega) (by omega) hc
 ·simp only[List.mem_singleton] at hm2;subst hm2;exact hm
 ·simp only[List.length_cons,List.length_nil] at hl;omega
end
end Go.Proofs.YtbaclnecajkknaaGreat.Pi
namespace Go.Proofs.YtbaclnecajkknaaGreat.Pi
open Go
set_option linter.all false

inductive Rch (n:Net) (s:List Int):List Int→Prop
 | base:Rch n s s
 | step {m:List Int} {t:Int} (h:Rch n s m) (ht:t∈enabL n m):Rch n s (zgc (trAt n t) m)
theorem Rch.trans{n:Net}{a b c:List Int}(h:Rch n a b)(h':Rch n b c):Rch n a c:=by
 induction h' with
 | base=>exact h
 | step _ ht ih=>exact ih.step ht
theorem Rch.head{n:Net}{m e:List Int}{t:Int}(ht:t∈enabL n m)(h:Rch n (zgc (trAt n t) m) e):Rch n m e:=(Rch.base.step ht).trans h
structure Snd(f:Fl):Prop where
 ends : ∀ m,Rch f.net (oneM f.net.pl.toNat f.src) m→Rch f.net m (oneM f.net.pl.toNat f.dst)
 over : ∀ m,Rch f.net (oneM f.net.pl.toNat f.src) m→overB m (oneM f.net.pl.toNat f.dst)=false
 used : ∀ t:Nat,t<f.net.tr.length→∃ m,Rch f.net (oneM f.net.pl.toNat f.src) m∧(t:Int)∈enabL f.net m
section
variable {n : Net} {start : List Int} {b : Int}
theorem z1bn(hm:zs4 n start=true)(hb:1≤b)(hc:(exAll n start b).code=0):stays n (exAll n start b).sp.ms:=by
 have h:=(zdq hm hb).2 hc
 intro z hz t ht
 obtain⟨k,hk,rfl⟩:=zv6 hz
 exact h k hk hk t ht
theorem z1bm(hm:zs4 n start=true)(hb:1≤b)(hc:(exAll n start b).code=0){m:List Int}:m∈(exAll n start b).sp.ms↔Rch n start m:=by
  have hst:=z1bn hm hb hc
  have ho:=(zdq hm hb).1
  constructor
  · intro h
    obtain⟨k,hk,rfl⟩:=zv6 h
    clear h
    induction k using Nat.strongRecOn with
    | _ k ih =>
      rcases Nat.eq_zero_or_pos k with rfl | h0
      · have e:(exAll n start b).sp.ms.getD 0 []=start:=by rw[List.getD_eq_getElem?_getD,ho.first];rfl
        rw[e];exact .base
      · obtain⟨i,hi,e1,e2,_⟩:=ho.back k h0 hk
        obtain⟨a1,a2,a3,a4,a5,a6⟩:=ho.arcs _ (List.getElem_mem hi)
        rw[e1,Int.toNat_natCast] at a6
        rw[a6]
        exact(ih _ (by omega) a2).step (zw0 a5)
  · intro h
    induction h with
    | base=>exact List.mem_iff_getElem?.2 ⟨0,ho.first⟩
    | step _ ht ih=>exact(hst _ ih _ ht).2
theorem z162(hm:zs4 n start=true)(hb:1≤b)(hc:(exAll n start b).code=0){k:Int}{E:List Int}(hE:E∈(exAll n start b).sp.ms)(h:Rk (exAll n start b).sp.ar [findM (exAll n start b).sp.ms E] k):Rch n ((exAll n start b).sp.ms.getD k.toNat []) E:=by
  have ho:=(zdq hm hb).1
  induction h with
  | base h =>
    simp only[List.mem_singleton] at h
    subst h
    have:=(zg1 (zg2.2 hE)).2
    rw[List.getD_eq_getElem?_getD,this];exact .base
  | step ha _ ih =>
    obtain⟨a1,a2,a3,a4,a5,a6⟩:=ho.arcs _ ha
    rw[a6] at ih
    exact Rch.head (zw0 a5) ih
theorem z12r(hm:zs4 n start=true)(hb:1≤b)(hc:(exAll n start b).code=0){M E:List Int}(hM:M∈(exAll n start b).sp.ms)(h:Rch n M E):E∈(exAll n start b).sp.ms∧∀ e,Rk (exAll n start b).sp.ar [e] (findM (exAll n start b).sp.ms E)→Rk (exAll n start b).sp.ar [e] (findM (exAll n start b).sp.ms M):=by
  have hst:=z1bn hm hb hc
  have ho:=(zdq hm hb).1
  have hA:=zdm hm hb hc
  induction h with
  | base=>exact⟨hM,fun _ h=>h⟩
  | @step m t _ ht ih =>
    obtain⟨h1,h2⟩:=ih
    have h3:=(hst _ h1 _ ht).2
    refine⟨h3,fun e he=>h2 e ?_⟩
    obtain⟨q,hq,hqe⟩:=zv6 h1
    rw[←hqe] at ht
    obtain⟨a,ha,s1,s2⟩:=hA q hq hq _ ht
    obtain⟨b1,b2,b3,b4,b5,b6⟩:=ho.arcs a ha
    rw[s1,Int.toNat_natCast,hqe,s2] at b6
    have g1:findM (exAll n start b).sp.ms (zgc (trAt n t) m)=a.dst:=by rw[←b6,zg0 ho.nodup b4];omega
    have g2:findM (exAll n start b).sp.ms ((exAll n start b).sp.ms.getD q [])=a.src:=by rw[zg0 ho.nodup hq,s1]
    rw[g1] at he
    rw[←hqe,g2]
    exact .step ha he
end
theorem z9i{f:Fl}{b:Int}(hg:ziu f=true)(hb:1≤b)(hc:(exAll f.net (oneM f.net.pl.toNat f.src) b).code=0) :
    (chkV f.net.tr.length (exAll f.net (oneM f.net.pl.toNat f.src) b).sp.ms (exAll f.net (oneM f.net.pl.toNat f.src) b).sp.ar (oneM f.net.pl.toNat f.dst)).ok=1↔Snd f:=by
  have hm:=zwr hg
  have hr:=fun m=>z1bm (m:=m) hm hb hc
  have h1:=fun k E=>z162 (k:=k) (E:=E) hm hb hc
  have h2:=fun M E=>z12r (M:=M) (E:=E) hm hb hc
  have ho:=(zdq hm hb).1
  have hA:=zdm hm hb hc
  generalize exAll f.net (oneM f.net.pl.toNat f.src) b=X at *
  have hpos:0<X.sp.ms.length:=by
    have:=ho.first
    rcases Nat.eq_zero_or_pos X.sp.ms.length with h | h
    · rw[List.length_eq_zero_iff.1 h] at this;simp at this
    · exact h
  constructor
  · intro h
    obtain⟨c1,c2,c3⟩:=z9h h
    have hE:0≤findM X.sp.ms (oneM f.net.pl.toNat f.dst):=by
      have key : ∀ z,Rk X.sp.ar (endS X.sp.ms (oneM f.net.pl.toNat f.dst)) z→0≤findM X.sp.ms (oneM f.net.pl.toNat f.dst):=by
        intro z hz
        induction hz with
        | base h =>
          unfold endS at h
          split at h
          · assumption
          · cases h
        | step _ _ ih=>exact ih
      exact key _ (c1 0 hpos)
    have hEm:=zg2.1 hE
    have hes:endS X.sp.ms (oneM f.net.pl.toNat f.dst)=[findM X.sp.ms (oneM f.net.pl.toNat f.dst)]:=by unfold endS;rw[if_pos hE]
    rw[hes] at c1
    refine⟨fun m hmr=>?_,fun m hmr=>c2 m ((hr m).2 hmr),fun t ht=>?_⟩
    · obtain⟨k,hk,rfl⟩:=zv6 ((hr m).2 hmr)
      have:=h1 k _ hEm (c1 k hk)
      rwa [Int.toNat_natCast] at this
    · obtain⟨a,ha,hat⟩:=zbs c3 ht
      obtain⟨a1,a2,a3,a4,a5,a6⟩:=ho.arcs a ha
      exact⟨_,(hr _).1 (zij a2),hat▸zw0 a5⟩
  · intro h
    have hEm:oneM f.net.pl.toNat f.dst∈X.sp.ms:=(hr _).2 (h.ends _ .base)
    have hE:=zg2.2 hEm
    have hes:endS X.sp.ms (oneM f.net.pl.toNat f.dst)=[findM X.sp.ms (oneM f.net.pl.toNat f.dst)]:=by unfold endS;rw[if_pos hE]
    unfold chkV
    rw[if_neg,if_neg,if_neg]
    · intro hd
      obtain⟨t,htm⟩:=List.exists_mem_of_length_pos hd
      unfold deadK at htm
      rw[List.mem_map] at htm
      obtain⟨k,hk,rfl⟩:=htm
      rw[List.mem_filter,List.mem_range] at hk
      obtain⟨hk,hk2⟩:=hk
      obtain⟨m,hmr,hen⟩:=h.used k hk
      obtain⟨q,hq,rfl⟩:=zv6 ((hr m).2 hmr)
      obtain⟨a,ha,s1,s2⟩:=hA q hq hq _ hen
      have:(X.sp.ar.any fun a=>decide (a.by_=(k:Int)))=true:=List.any_eq_true.2 ⟨a,ha,by simp [s2]⟩
      rw[this] at hk2;simp at hk2
    · intro hi
      obtain⟨k,_,hk,hk2⟩:=zkd hi
      have:=h.over _ ((hr _).1 (List.getElem_mem hk))
      rw[this] at hk2;cases hk2
    · intro hi
      obtain⟨k,_,hk,hk2⟩:=zkd hi
      rw[z1eu] at hk
      have hmk:=zij hk
      have hrk:=(h2 _ _ hmk (h.ends _ ((hr _).1 hmk))).2 (findM X.sp.ms (oneM f.net.pl.toNat f.dst)) (.base (by simp))
      rw[zg0 ho.nodup hk,←hes] at hrk
      rw[(z1es hk).2 hrk] at hk2
      cases hk2
theorem z1bl{f:Fl}{b:Int}(hg:ziu f=true)(hb:1≤b)(h:(sndV f b).ok=1):Snd f:=by
 obtain⟨hc,h2⟩:=z1bf h
 exact(z9i hg hb hc).1 (by rw[h2])
theorem z1fw{f:Fl}{b:Int}(hg:ziu f=true)(hb:1≤b)(h:(sndV f b).ok=2):¬Snd f:=by
 unfold sndV at h
 split at h
 ·rename_i hc
  split at h
  ·intro hs
   rw[(z9i hg hb hc).2 hs] at h;cases h
  ·cases h
 ·cases h
theorem z1bb(f:Fl)(b:Int):(sndV f b).ok=1∨(sndV f b).ok=2∨(sndV f b).ok=3:=by
 unfold sndV
 split
 ·split
  ·unfold chkV
   split
   ·exact .inr (.inl rfl)
   ·split
    ·exact .inr (.inl rfl)
    ·split
     ·exact .inr (.inl rfl)
     ·exact .inl rfl
  ·exact .inr (.inr rfl)
 ·exact .inr (.inr rfl)
theorem z1bc{f g:Fl}{b:Int}(hf:ziu f=true)(hg:ziu g=true)(hb:1≤b)(h:Snd f↔Snd g):(sndV f b).ok=3∨(sndV g b).ok=3∨(sndV f b).ok=(sndV g b).ok:=by
 rcases z1bb f b with h1 | h1 | h1<;>rcases z1bb g b with h2 | h2 | h2<;>rw[h1,h2]
 all_goals first
  | (simp;done)
  | (exact absurd (h.1 (z1bl hf hb h1)) (z1fw hg hb h2))
  | (exact absurd (h.2 (z1bl hg hb h2)) (z1fw hf hb h1))
/-! ### Two flows, marking by marking -/
structure Sim(f g:Fl)(R:List Int→List Int→Prop):Prop where
 start:R (oneM f.net.pl.toNat f.src) (oneM g.net.pl.toNat g.src)
 step : ∀ m m' t,Rch f.net (oneM f.net.pl.toNat f.src) m→Rch g.net (oneM g.net.pl.toNat g.src) m'→R m m'→t∈enabL f.net m→∃ m₂,Rch g.net m' m₂∧R (zgc (trAt f.net t) m) m₂
theorem Sim.rch{f g:Fl}{R:List Int→List Int→Prop}(h:Sim f g R){m:List Int}(hm:Rch f.net (oneM f.net.pl.toNat f.src) m) : ∃ m',Rch g.net (oneM g.net.pl.toNat g.src) m'∧R m m':=by
  induction hm with
  | base=>exact⟨_,.base,h.start⟩
  | step hm ht ih =>
    obtain⟨m',h1,h2⟩:=ih
    obtain⟨m₂,h3,h4⟩:=h.step _ m' _ hm h1 h2 ht
    exact⟨m₂,h1.trans h3,h4⟩
theorem Sim.from{f g:Fl}{R:List Int→List Int→Prop}(h:Sim f g R){a a' m:List Int}(ha:Rch f.net (oneM f.net.pl.toNat f.src) a)(ha':Rch g.net (oneM g.net.pl.toNat g.src) a')(hr:R a a')(hm:Rch f.net a m) : ∃ m',Rch g.net a' m'∧R m m':=by
  induction hm with
  | base=>exact⟨_,.base,hr⟩
  | step hm ht ih =>
    obtain⟨m',h1,h2⟩:=ih
    obtain⟨m₂,h3,h4⟩:=h.step _ m' _ (ha.trans hm) (ha'.trans h1) h2 ht
    exact⟨m₂,h1.trans h3,h4⟩
end Go.Proofs.YtbaclnecajkknaaGreat.Pi
namespace Go.Proofs.YtbaclnecajkknaaGreat.Pi
open Go
set_option linter.all false

inductive Cn (n:Net) (bk:Bool) (p:Int):Int→Prop
 | base:Cn n bk p p
 | step {q x:Int} {t:Tr} (h:Cn n bk p q) (ht:t∈n.tr) (hi:q∈sideI bk t) (ho:x∈sideO bk t):Cn n bk p x
theorem zrw{l:List Int} : ∀ {P:List Bool} {i:Nat},(∀ x∈l,0≤x)→((markB P l).getD i false=true↔P.getD i false=true∨(i<P.length∧(i:Int)∈l)):=by
  unfold markB
  induction l with
  | nil=>intros;simp
  | cons x l ih =>
    intro P i h0
    have hx:=h0 x (by simp)
    rw[List.foldl_cons,ih (fun y hy=>h0 y (by simp [hy])),List.length_set]
    have key:(P.set x.toNat true).getD i false=true↔P.getD i false=true∨(i<P.length∧(i:Int)=x):=by
      simp only[List.getD_eq_getElem?_getD,List.getElem?_set]
      by_cases hxi:x.toNat=i
      · have e:(i:Int)=x:=by omega
        by_cases hl:i<P.length
        · simp [hxi,e,hl]
        · have:P[i]? = none:=List.getElem?_eq_none (by omega)
          simp [hxi,hl]
      · have e:¬(i:Int)=x:=by omega
        simp [hxi,e]
    rw[key,List.mem_cons]
    constructor
    · rintro((h | h) | h)
      · exact .inl h
      · exact .inr ⟨h.1,.inl h.2⟩
      · exact .inr ⟨h.1,.inr h.2⟩
    · rintro(h | ⟨h1,h | h⟩)
      · exact .inl (.inl h)
      · exact .inl (.inr ⟨h1,h⟩)
      · exact .inr ⟨h1,h⟩
structure ClI(n:Net)(bk:Bool)(p:Int)(s:Cl):Prop where
 pll:s.pl.length=n.pl.toNat
 trl:s.tr.length=n.tr.length
 pls : ∀ i:Nat,s.pl.getD i false=true→Cn n bk p i
 trs : ∀ k:Nat,s.tr.getD k false=true→k<n.tr.length∧hitB s.pl (sideI bk (trN n k))=true
 out : ∀ k:Nat,s.tr.getD k false=true→∀ x∈sideO bk (trN n k),s.pl.getD x.toNat false=true
 one:s.pl.getD p.toNat false=true
section
variable {n : Net} {bk : Bool} {p : Int}
theorem z19m(hg:goodN n=true){t:Tr}(ht:t∈n.tr):(∀ x∈sideI bk t,0≤x∧x<n.pl)∧(∀ x∈sideO bk t,0≤x∧x<n.pl):=by
 have h:=zjl ((zja hg).2.2.2 t ht)
 unfold sideI sideO
 cases bk
 ·exact⟨h.1,h.2.1⟩
 ·exact⟨h.2.1,h.1⟩
theorem zk6{P Q:List Bool}{l:List Int}(h : ∀ i:Nat,P.getD i false=true→Q.getD i false=true)(hh:hitB P l=true):hitB Q l=true:=by
 unfold hitB at hh ⊢
 rw[List.any_eq_true] at hh ⊢
 obtain⟨x,h1,h2⟩:=hh
 exact⟨x,h1,h _ h2⟩
theorem ClI.step(hg:goodN n=true){s:Cl}(h:ClI n bk p s){k:Nat}(hk:k<n.tr.length):ClI n bk p (z9t n bk s k):=by
  by_cases hc:s.tr.getD k false=false∧hitB s.pl (sideI bk (trN n k))=true
  · rw[z9x hc.1 hc.2]
    have hm:trN n k∈n.tr:=by rw[z1f3 hk];exact List.getElem_mem _
    have hs:=z19m (bk:=bk) hg hm
    have hmk:=fun i=>zrw (l:=sideO bk (trN n k)) (P:=s.pl) (i:=i) (fun x hx=>(hs.2 x hx).1)
    have hmono : ∀ i:Nat,s.pl.getD i false=true→(markB s.pl (sideO bk (trN n k))).getD i false=true:=fun i hi=>(hmk i).2 (.inl hi)
    have hmarked : ∀ x∈sideO bk (trN n k),(markB s.pl (sideO bk (trN n k))).getD x.toNat false=true:=fun x hx=>(hmk _).2 (.inr ⟨by rw[h.pll];have:=hs.2 x hx;omega,by rw[Int.toNat_of_nonneg (hs.2 x hx).1];exact hx⟩)
    refine⟨by rw[zrx];exact h.pll,by simp [h.trl],fun i hi=>?_,fun j hj=>?_,fun j hj x hx=>?_,hmono _ h.one⟩
    · rcases(hmk i).1 hi with hi | ⟨_,hi⟩
      · exact h.pls i hi
      · have:=hc.2
        unfold hitB at this
        rw[List.any_eq_true] at this
        obtain⟨q,hq1,hq2⟩:=this
        have hq:=h.pls _ hq2
        rw[Int.toNat_of_nonneg (hs.1 q hq1).1] at hq
        exact .step hq hm hq1 hi
    · simp only[List.getD_eq_getElem?_getD,List.getElem?_set] at hj
      by_cases e:k=j
      · subst e
        exact⟨hk,zk6 hmono hc.2⟩
      · simp only[e,if_false] at hj
        have:=h.trs j (by rw[List.getD_eq_getElem?_getD];exact hj)
        exact⟨this.1,zk6 hmono this.2⟩
    · simp only[List.getD_eq_getElem?_getD,List.getElem?_set] at hj
      by_cases e:k=j
      · subst e;exact hmarked x hx
      · simp only[e,if_false] at hj
        exact hmono _ (h.out j (by rw[List.getD_eq_getElem?_getD];exact hj) x hx)
  · rw[z9w]
    · exact h
    · cases h1:s.tr.getD k false with
      | true=>exact .inl rfl
      | false =>
        right
        cases h2:hitB s.pl (sideI bk (trN n k)) with
        | true=>exact absurd ⟨h1,h2⟩ hc
        | false=>rfl
theorem ClI.ch{s:Cl}(h:ClI n bk p s)(c:Bool):ClI n bk p ⟨s.pl,s.tr,c⟩:=⟨h.pll,h.trl,h.pls,h.trs,h.out,h.one⟩
theorem ClI.k(hg:goodN n=true){s:Cl}(h:ClI n bk p s) : ∀ k,k≤n.tr.length→ClI n bk p (clK n bk s k)
 | 0,_=>h.ch false
 | k+1,hk=>by rw[z9m];exact(h.k hg k (by omega)).step hg (by omega)
theorem z9l{s:Cl} : ∀ k,(clK n bk s k).ch=false→clK n bk s k=⟨s.pl,s.tr,false⟩∧∀ j,j<k→s.tr.getD j false=true∨hitB s.pl (sideI bk (trN n j))=false
  | 0,_=>⟨rfl,fun j h=>by omega⟩
  | k + 1, h => by
    rw[z9m] at h ⊢
    by_cases hc:(clK n bk s k).tr.getD k false=false∧hitB (clK n bk s k).pl (sideI bk (trN n k))=true
    · rw[z9x hc.1 hc.2] at h;cases h
    · have hc2:(clK n bk s k).tr.getD k false=true∨hitB (clK n bk s k).pl (sideI bk (trN n k))=false:=by
        cases h1:(clK n bk s k).tr.getD k false with
        | true=>exact .inl rfl
        | false =>
          right
          cases h2:hitB (clK n bk s k).pl (sideI bk (trN n k)) with
          | true=>exact absurd ⟨h1,h2⟩ hc
          | false=>rfl
      rw[z9w hc2] at h ⊢
      obtain⟨h1,h2⟩:=z9l k h
      refine⟨h1,fun j hj=>?_⟩
      by_cases e:j=k
      · subst e;rw[h1] at hc2;exact hc2
      · exact h2 j (by omega)
theorem z9o(hg:goodN n=true) : ∀ (f:Nat) (s:Cl),ClI n bk p s→cntF s.tr<f→∃ s0,ClI n bk p s0∧clRun n bk f s=⟨s0.pl,s0.tr,false⟩∧∀ j,j<n.tr.length→s0.tr.getD j false=true∨hitB s0.pl (sideI bk (trN n j))=false
  | 0,_,_,h=>by omega
  | f + 1, s, h, hf => by
    unfold clRun
    have hk:=h.k hg n.tr.length (Nat.le_refl _)
    cases e:(z9n n bk s).ch with
    | false =>
      obtain⟨h1,h2⟩:=z9l n.tr.length e
      rw[if_neg (by simp)]
      exact⟨s,h,h1,h2⟩
    | true =>
      rw[if_pos rfl]
      have hc:=(z9j (n:=n) (bk:=bk) (s:=s) (k:=n.tr.length) (by rw[h.trl];omega)).2 e
      exact z9o hg f _ hk (by unfold z9n;omega)
theorem z134(hg:goodN n=true)(hp:0≤p∧p<n.pl):(∀ x:Int,0≤x→x<n.pl→((z132 n bk p).pl.getD x.toNat false=true↔Cn n bk p x))∧(∀ k:Nat,k<n.tr.length→((z132 n bk p).tr.getD k false=true↔∃ q∈sideI bk (trN n k),Cn n bk p q)):=by
  have h0:ClI n bk p ⟨(List.replicate n.pl.toNat false).set p.toNat true,List.replicate n.tr.length false,true⟩:=by
    refine⟨by simp,by simp,fun i hi=>?_,fun k hk=>?_,fun k hk=>?_,?_⟩
    · simp only[List.getD_eq_getElem?_getD,List.getElem?_set,List.length_replicate,List.getElem?_replicate] at hi
      by_cases e:p.toNat=i
      · have:(i:Int)=p:=by omega
        rw[this];exact .base
      · simp only[e,if_false] at hi
        split at hi<;>simp at hi
    · simp only[List.getD_eq_getElem?_getD,List.getElem?_replicate] at hk
      split at hk<;>simp at hk
    · simp only[List.getD_eq_getElem?_getD,List.getElem?_replicate] at hk
      split at hk<;>simp at hk
    · simp only[List.getD_eq_getElem?_getD,List.getElem?_set,List.length_replicate,if_true]
      rw[if_pos (by omega)];rfl
  obtain⟨s,hs,he,hcl⟩:=z9o hg (n.tr.length+1) _ h0 (by rw[zam];omega)
  unfold z132
  rw[he]
  simp only
  have hall : ∀ x:Int,Cn n bk p x→s.pl.getD x.toNat false=true:=by
    intro x hx
    induction hx with
    | base=>exact hs.one
    | @step q x t _ ht hi ho ih =>
      obtain⟨k,hk,rfl⟩:=List.mem_iff_getElem.1 ht
      have hit:hitB s.pl (sideI bk (trN n k))=true:=by
        unfold hitB;rw[List.any_eq_true]
        exact⟨q,by rw[z1f3 hk];exact hi,ih⟩
      rcases hcl k hk with h1 | h1
      · exact hs.out k h1 x (by rw[z1f3 hk];exact ho)
      · rw[hit] at h1;cases h1
  refine⟨fun x hx0 hx1=>⟨fun h=>?_,hall x⟩,fun k hk=>⟨fun h=>?_,fun⟨q,hq,hc⟩=>?_⟩⟩
  · have:=hs.pls _ h
    rwa [Int.toNat_of_nonneg hx0] at this
  · have hh:=(hs.trs k h).2
    unfold hitB at hh
    rw[List.any_eq_true] at hh
    obtain⟨q,hq,h2⟩:=hh
    have:=hs.pls _ h2
    have hm:trN n k∈n.tr:=by rw[z1f3 hk];exact List.getElem_mem _
    rw[Int.toNat_of_nonneg ((z19m (bk:=bk) hg hm).1 q hq).1] at this
    exact⟨q,hq,this⟩
  · rcases hcl k hk with h1 | h1
    · exact h1
    · have:hitB s.pl (sideI bk (trN n k))=true:=by
        unfold hitB;rw[List.any_eq_true]
        exact⟨q,hq,hall q hc⟩
      rw[this] at h1;cases h1
end
theorem zfy{α:Type}{l:List α}{p:α→Bool}:(l.filter p).length=l.length↔∀ x∈l,p x=true:=by
  induction l with
  | nil=>simp
  | cons a l ih =>
    rw[List.filter_cons]
    have:=List.length_filter_le p l
    cases h:p a with
    | true=>simp [ih,h]
    | false=>simp [h];omega
theorem z74{a b:List Bool}{m:Nat}(hm:a.length=m):(bothL a b).length=m↔∀ i:Nat,i<m→a.getD i false=true∧b.getD i false=true:=by
 unfold bothL bothK
 rw[List.length_map,hm]
 have:=zfy (l:=List.range m) (p:=fun i=>a.getD i false&&b.getD i false)
 rw[List.length_range] at this
 rw[this]
 constructor
 ·intro h i hi
  simpa using h i (by simpa using hi)
 ·intro h i hi
  simpa using h i (by simpa using hi)
structure Gf(f:Fl):Prop where
 net:goodN f.net=true
 src:0≤f.src∧f.src<f.net.pl
 dst:0≤f.dst∧f.dst<f.net.pl
 ne:f.src≠f.dst
 sp : ∀ t∈f.net.tr,z1bp f t=false
 fwd : ∀ x:Int,0≤x→x<f.net.pl→Cn f.net false f.src x
 bwd : ∀ x:Int,0≤x→x<f.net.pl→Cn f.net true f.dst x
 out : ∀ t∈f.net.tr,t.out≠[]
theorem ziv{f:Fl}:ziu f=true↔Gf f:=by
 constructor
 ·intro h
  obtain⟨g1,g2,g3,g4,g5,g6,g7⟩:=ziy h
  have hpl:=(zja g1).1
  have a:=z134 (bk:=false) g1 g2
  have b:=z134 (bk:=true) g1 g3
  unfold wayP at g6
  unfold wayT at g7
  have g6':=(z74 (b:=(z132 f.net true f.dst).pl) (z135 f.net false f.src).1).1 (by omega)
  have g7':=(z74 (b:=(z132 f.net true f.dst).tr) (z135 f.net false f.src).2).1 (by omega)
  refine⟨g1,g2,g3,g4,g5,fun x h0 h1=>(a.1 x h0 h1).1 (g6' x.toNat (by omega)).1,fun x h0 h1=>(b.1 x h0 h1).1 (g6' x.toNat (by omega)).2,fun t ht=>?_⟩
  obtain⟨k,hk,rfl⟩:=List.mem_iff_getElem.1 ht
  obtain⟨q,hq,_⟩:=(b.2 k hk).1 (g7' k hk).2
  rw[z1f3 hk] at hq
  intro e
  unfold sideI at hq
  simp only[if_true] at hq
  rw[e] at hq;cases hq
 ·intro h
  have hpl:=(zja h.net).1
  have a:=z134 (bk:=false) h.net h.src
  have b:=z134 (bk:=true) h.net h.dst
  have e1:inB 0 (f.net.pl-1) f.src=true:=by have:=h.src;simp [inB];omega
  have e2:inB 0 (f.net.pl-1) f.dst=true:=by have:=h.dst;simp [inB];omega
  have e3:f.net.tr.all (fun t=>!z1bp f t)=true:=by rw[List.all_eq_true];intro t ht;rw[h.sp t ht];rfl
  have e4:((wayP f.net f.src f.dst).length:Int)=f.net.pl:=by
   have:=(z74 (b:=(z132 f.net true f.dst).pl) (z135 f.net false f.src).1).2 fun i hi=>by
    have h1:=(a.1 (i:Int) (by omega) (by omega)).2 (h.fwd _ (by omega) (by omega))
    have h2:=(b.1 (i:Int) (by omega) (by omega)).2 (h.bwd _ (by omega) (by omega))
    rw[Int.toNat_natCast] at h1 h2
    exact⟨h1,h2⟩
   unfold wayP;omega
  have e5:(wayT f.net f.src f.dst).length=f.net.tr.length:=by
   refine(z74 (b:=(z132 f.net true f.dst).tr) (z135 f.net false f.src).2).2 fun k hk=>?_
   have hm:f.net.tr[k]∈f.net.tr:=List.getElem_mem _
   have hs:=zjl ((zja h.net).2.2.2 _ hm)
   have hi:=(zjk ((zja h.net).2.2.2 _ hm)).1
   have ho:=h.out _ hm
   refine⟨(a.2 k hk).2 ?_,(b.2 k hk).2 ?_⟩
   ·rw[z1f3 hk]
    obtain⟨q,hq⟩:=List.exists_mem_of_ne_nil _ hi
    exact⟨q,hq,h.fwd q (hs.1 q hq).1 (hs.1 q hq).2⟩
   ·rw[z1f3 hk]
    obtain⟨q,hq⟩:=List.exists_mem_of_ne_nil _ ho
    exact⟨q,hq,h.bwd q (hs.2.1 q hq).1 (hs.2.1 q hq).2⟩
  simp only[ziu,okWay,h.net,e1,e2,e3,e4,e5,h.ne,decide_true,decide_false,Bool.not_false,Bool.and_self]
end Go.Proofs.YtbaclnecajkknaaGreat.Pi
namespace Go.Proofs.YtbaclnecajkknaaGreat.Pi
open Go
set_option linter.all false

/-! ### Firing by transitions -/
theorem zsl{n:Net}{t:Tr}(ht:t∈n.tr) : ∃ k:Nat,k<n.tr.length∧trAt n (k:Int)=t:=by
 obtain⟨k,hk,rfl⟩:=List.mem_iff_getElem.1 ht
 exact⟨k,hk,(z1ex (n:=n) (t:=(k:Int)) (by simpa using hk)).symm.trans (by simp)⟩
theorem zd8{n:Net}{m:List Int}{k:Int}(h:k∈enabL n m):trAt n k∈n.tr∧canT (trAt n k) m=true:=by
 obtain⟨h1,h2,h3⟩:=zd4.1 h
 exact⟨by rw[←z1ex h2];exact List.getElem_mem _,h3⟩
theorem Rch.tr{n:Net}{s m:List Int}(h:Rch n s m){t:Tr}(ht:t∈n.tr)(hc:canT t m=true):Rch n s (zgc t m):=by
 obtain⟨k,hk,rfl⟩:=zsl ht
 exact h.step (zd4.2 ⟨by omega,by simpa using hk,hc⟩)
theorem Rch.ind{n:Net}{s:List Int}{P:List Int→Prop}(h0:P s)(hs : ∀ m t,Rch n s m→P m→t∈n.tr→canT t m=true→P (zgc t m)){m:List Int}(h:Rch n s m):P m:=by
 induction h with
 | base=>exact h0
 | step h ht ih=>obtain⟨h1,h2⟩:=zd8 ht;exact hs _ _ h ih h1 h2
structure Mk(n:Net)(m:List Int):Prop where
 len:(m.length:Int)=n.pl
 pos : ∀ x:Int,0≤x→0≤at_ m x
theorem Mk.fire{n:Net}{m:List Int}{t:Tr}(h:Mk n m)(hg:goodT n.pl t=true)(hc:canT t m=true):Mk n (zgc t m):=by
 refine⟨by rw[zge];exact h.len,fun x hx=>?_⟩
 rw[z4t hg h.len hx]
 have:=h.pos x hx
 by_cases hi:x∈t.inn
 ·have:=z8f hc hi
  split<;>split<;>simp [hi]<;>omega
 ·split<;>split<;>simp [hi]<;>omega
theorem Mk.rch{n:Net}{s m:List Int}(h:Mk n s)(hg:goodN n=true)(hr:Rch n s m):Mk n m:=
 hr.ind (P:=Mk n) h fun m t _ hm ht hc=>hm.fire ((zja hg).2.2.2 t ht) hc
theorem ztm{n:Net}{p:Int}(hp:0≤p∧p<n.pl):Mk n (oneM n.pl.toNat p):=by
 refine⟨by simp [oneM];omega,fun x hx=>?_⟩
 rw[z4x ⟨hp.1,by omega⟩ hx];split<;>omega
theorem ztl{n:Net}{a b:List Int}(ha:Mk n a)(hb:Mk n b)(h : ∀ x:Int,0≤x→x<n.pl→at_ a x=at_ b x):a=b:=
 z4q (by have:=ha.len;have:=hb.len;omega) fun x h0 h1=>h x h0 (by have:=ha.len;omega)
theorem zbo{n:Net}{m:List Int}{p:Int}(hm:Mk n m)(hp:0≤p∧p<n.pl):zbh m (oneM n.pl.toNat p)=true↔1≤at_ m p:=by
 rw[zbj (by have:=hm.len;have:=(ztm hp).len;omega)]
 constructor
 ·intro h
  have:=h p hp.1 (by have:=hm.len;omega)
  rwa [z4x ⟨hp.1,by omega⟩ hp.1,if_pos rfl] at this
 ·intro h x h0 _
  rw[z4x ⟨hp.1,by omega⟩ h0]
  split
  ·rename_i e;subst e;exact h
  ·exact hm.pos x h0
structure SndT(f:Fl):Prop where
 ends : ∀ m,Rch f.net (oneM f.net.pl.toNat f.src) m→Rch f.net m (oneM f.net.pl.toNat f.dst)
 over : ∀ m,Rch f.net (oneM f.net.pl.toNat f.src) m→1≤at_ m f.dst→m=oneM f.net.pl.toNat f.dst
 used : ∀ t∈f.net.tr,∃ m,Rch f.net (oneM f.net.pl.toNat f.src) m∧canT t m=true
theorem z1bd{f:Fl}(hf:Gf f):Snd f↔SndT f:=by
 have hm:=fun {m}=>(ztm hf.src).rch (m:=m) hf.net
 constructor
 ·intro h
  refine⟨h.ends,fun m hr h1=>?_,fun t ht=>?_⟩
  ·have:=h.over m hr
   unfold overB at this
   rw[(zbo (hm hr) hf.dst).2 h1,Bool.true_and] at this
   simpa using this
  ·obtain⟨k,hk,rfl⟩:=zsl ht
   obtain⟨m,h1,h2⟩:=h.used k hk
   exact⟨m,h1,(zd8 h2).2⟩
 ·intro h
  refine⟨h.ends,fun m hr=>?_,fun k hk=>?_⟩
  ·unfold overB
   cases hc:zbh m (oneM f.net.pl.toNat f.dst) with
   | false=>rfl
   | true=>simp [h.over m hr ((zbo (hm hr) hf.dst).1 hc)]
  ·have ht:trAt f.net (k:Int)∈f.net.tr:=by
    rw[←z1ex (n:=f.net) (t:=(k:Int)) (by simpa using hk)];exact List.getElem_mem _
   obtain⟨m,h1,h2⟩:=h.used _ ht
   exact⟨m,h1,zd4.2 ⟨by omega,by simpa using hk,h2⟩⟩
/-! ### Places renumbered -/
def upP(d x:Int):Int:=if x<d then x else x+1
theorem zpy{d x:Int}:lessP d (upP d x)=x:=by unfold lessP upP;split<;>split<;>omega
theorem up_ne{d x:Int}:upP d x≠d:=by unfold upP;split<;>omega
theorem z1fy{d x:Int}(h:x≠d):upP d (lessP d x)=x:=by unfold lessP upP;split<;>split<;>omega
theorem zpx{d x y:Int}(hx:x≠d)(hy:y≠d)(h:lessP d x=lessP d y):x=y:=by
 rw[←z1fy hx,←z1fy hy,h]
theorem up_in{d x p:Int}(hd:0≤d∧d<p)(h:0≤x∧x<p-1):0≤upP d x∧upP d x<p:=by unfold upP;split<;>omega
theorem zpw{d x p:Int}(hd:0≤d∧d<p)(hx:x≠d)(h:0≤x∧x<p):0≤lessP d x∧lessP d x<p-1:=by unfold lessP;split<;>omega
theorem zck{d:Int}{l:List Int}{y:Int}:y∈dropL d l↔∃ x∈l,x≠d∧y=lessP d x:=by
 unfold dropL
 rw[List.mem_map]
 constructor
 ·rintro⟨x,h,rfl⟩
  rw[List.mem_filter] at h
  exact⟨x,h.1,by simpa using h.2,rfl⟩
 ·rintro⟨x,h1,h2,rfl⟩
  exact⟨x,by rw[List.mem_filter];exact⟨h1,by simpa using h2⟩,rfl⟩
theorem zcj{d:Int}{l:List Int}{x:Int}(hx:x≠d):lessP d x∈dropL d l↔x∈l:=by
 rw[zck]
 constructor
 ·rintro⟨y,h1,h2,h3⟩
  rw[zpx hx h2 h3];exact h1
 ·intro h;exact⟨x,h,hx,rfl⟩
theorem zcm{d p:Int}{l:List Int}(hd:0≤d∧d<p)(h:z10z p l=true):z10z (p-1) (dropL d l)=true:=by
 have h1:=z111 h
 have h2:=zmm (z112 h)
 simp only[z10z,Bool.and_eq_true,List.all_eq_true]
 refine⟨z10d ?_,fun y hy=>?_⟩
 ·unfold dropL
  rw[List.pairwise_map]
  refine List.Pairwise.imp_of_mem ?_ (h2.filter _)
  intro a b ha hb hab
  have e1:a≠d:=by have:=(List.mem_filter.1 ha).2;simpa using this
  have e2:b≠d:=by have:=(List.mem_filter.1 hb).2;simpa using this
  unfold lessP;split<;>split<;>omega
 ·obtain⟨x,hx,hne,rfl⟩:=zck.1 hy
  have:=zpw hd hne (h1 x hx)
  simp only[inB,Bool.and_eq_true,decide_eq_true_eq];omega
theorem zje{d p:Int}{t:Tr}(hd:0≤d∧d<p)(h:goodT p t=true)(hn : ∃ x∈t.inn,x≠d):goodT (p-1) (dropT d t)=true:=by
 obtain⟨h1,h2,h3,h4⟩:=zjk h
 obtain⟨x,hx,hxd⟩:=hn
 have:dropL d t.inn≠[]:=List.ne_nil_of_mem ((zcj hxd).2 hx)
 simp only[goodT,dropT,zcm hd h2,zcm hd h3,zcm hd h4,Bool.and_true,Bool.not_eq_true',List.isEmpty_eq_false_iff]
 exact this
theorem zdk{α:Type}{l:List α}{i:Nat}(hi:i<l.length){x:α}:x∈l↔x=l[i]∨x∈l.eraseIdx i:=by
 rw[List.eraseIdx_eq_take_drop_succ,List.mem_append]
 have:=List.take_append_drop i l
 rw[List.drop_eq_getElem_cons hi] at this
 constructor
 ·intro h
  rw[←this,List.mem_append,List.mem_cons] at h
  rcases h with h | h | h
  ·exact .inr (.inl h)
  ·exact .inl h
  ·exact .inr (.inr h)
 ·rintro(h | h | h)
  ·rw[h];exact List.getElem_mem hi
  ·exact List.mem_of_mem_take h
  ·exact List.mem_of_mem_drop h
/-! ### A place with one taker that takes nothing else is passed over -/
def rpT(d:Int)(B:List Int)(u:Tr):Tr:=if hasB u.out d=true then⟨u.inn,mixO u.out B d,u.rst⟩ else u
theorem z16s(d:Int)(B:List Int)(u:Tr):(rpT d B u).inn=u.inn:=by unfold rpT;split<;>rfl
theorem z16u(d:Int)(B:List Int)(u:Tr):(rpT d B u).rst=u.rst:=by unfold rpT;split<;>rfl
theorem z1gv{l m:List Int}{x:Int}:x∈wout l m↔x∈l∧x∉m:=by
 unfold wout
 rw[List.mem_filter]
 simp [hasB]
theorem z16t{d:Int}{B:List Int}{u:Tr}{x:Int}(hx:x≠d):x∈(rpT d B u).out↔x∈u.out∨(d∈u.out∧x∈B):=by
 unfold rpT
 by_cases h:d∈u.out
 ·rw[if_pos (by simp [hasB,h])]
  show x∈mixO u.out B d↔_
  unfold mixO
  rw[z1ft,z1gv]
  simp [hx,h]
 ·rw[if_neg (by simp [hasB,h])]
  simp [h]
structure Fz(f g:Fl)(d:Int)(i:Nat)(B:List Int):Prop where
 gf:Gf f
 nr:hasR f.net=false
 hi:i<f.net.tr.length
 inn:f.net.tr[i].inn=[d]
 out:f.net.tr[i].out=B
 ds:d≠f.src
 dd:d≠f.dst
 dB:d∉B
 oth : ∀ u∈f.net.tr.eraseIdx i,d∉u.inn
 dis : ∀ u∈f.net.tr.eraseIdx i,d∈u.out→∀ x∈B,x∉u.out
 pl:g.net.pl=f.net.pl-1
 src:g.src=lessP d f.src
 dst:g.dst=lessP d f.dst
 trs:g.net.tr=(f.net.tr.eraseIdx i).map fun u=>dropT d (rpT d B u)
section
variable {f g : Fl} {d : Int} {i : Nat} {B : List Int}
theorem Fz.tin(h:Fz f g d i B):f.net.tr[i]'h.hi∈f.net.tr:=List.getElem_mem _
theorem Fz.dI(h:Fz f g d i B):0≤d∧d<f.net.pl:=by
 have:=(zjl ((zja h.gf.net).2.2.2 _ h.tin)).1 d (by rw[h.inn];simp)
 exact this
theorem Fz.mem(h:Fz f g d i B){t:Tr}:t∈g.net.tr↔∃ u∈f.net.tr.eraseIdx i,t=dropT d (rpT d B u):=by
 rw[h.trs,List.mem_map]
 exact⟨fun⟨u,h1,h2⟩=>⟨u,h1,h2.symm⟩,fun⟨u,h1,h2⟩=>⟨u,h1,h2.symm⟩⟩
theorem Fz.sub(_:Fz f g d i B){u:Tr}(hu:u∈f.net.tr.eraseIdx i):u∈f.net.tr:=List.mem_of_mem_eraseIdx hu
theorem Fz.inn_iff(_:Fz f g d i B){u:Tr}{x:Int}(hx:x≠d):lessP d x∈(dropT d (rpT d B u)).inn↔x∈u.inn:=by
 show lessP d x∈dropL d (rpT d B u).inn↔_
 rw[zcj hx,z16s]
theorem Fz.out_iff(_:Fz f g d i B){u:Tr}{x:Int}(hx:x≠d):lessP d x∈(dropT d (rpT d B u)).out↔x∈u.out∨(d∈u.out∧x∈B):=by
 show lessP d x∈dropL d (rpT d B u).out↔_
 rw[zcj hx,z16t hx]
theorem Fz.rst(h:Fz f g d i B){u:Tr}(hu:u∈f.net.tr):u.rst=[]:=by
 obtain⟨k,hk,rfl⟩:=List.mem_iff_getElem.1 hu
 exact zk2 h.nr hk
theorem Fz.bne(h:Fz f g d i B):B≠[]:=by rw[←h.out];exact h.gf.out _ h.tin
theorem Fz.bin(h:Fz f g d i B){x:Int}(hx:x∈B):0≤x∧x<f.net.pl:=by
 rw[←h.out] at hx
 exact(zjl ((zja h.gf.net).2.2.2 _ h.tin)).2.1 x hx
theorem Fz.goodT(h:Fz f g d i B){u:Tr}(hu:u∈f.net.tr.eraseIdx i):Pi.goodT g.net.pl (dropT d (rpT d B u))=true:=by
 have hg:=(zja h.gf.net).2.2.2 u (h.sub hu)
 rw[h.pl]
 refine zje h.dI ?_ ?_
 ·unfold rpT
  split
  ·obtain⟨h1,h2,h3,h4⟩:=zjk hg
   simp [Pi.goodT,h1,h2,h4,z114 h3 (b:=B) (p:=d) (fun x hx=>h.bin hx)]
  ·exact hg
 ·rw[z16s]
  obtain⟨x,hx⟩:=List.exists_mem_of_ne_nil _ (zjk hg).1
  exact⟨x,hx,fun e=>h.oth u hu (e▸hx)⟩
theorem Fz.srcI(h:Fz f g d i B):0≤g.src∧g.src<g.net.pl:=by rw[h.src,h.pl];exact zpw h.dI (Ne.symm h.ds) h.gf.src
theorem Fz.dstI(h:Fz f g d i B):0≤g.dst∧g.dst<g.net.pl:=by rw[h.dst,h.pl];exact zpw h.dI (Ne.symm h.dd) h.gf.dst
theorem Fz.goodN(h:Fz f g d i B):Pi.goodN g.net=true:=by
 obtain⟨g1,g2,g3,g4⟩:=zja h.gf.net
 have:=h.srcI
 have hp:=h.pl
 refine zj9 ⟨by omega,by omega⟩ ?_ fun t ht=>?_
 ·rw[h.trs,List.length_map];exact Nat.le_trans (List.length_eraseIdx_le ..) g3
 ·obtain⟨u,hu,rfl⟩:=h.mem.1 ht
  exact h.goodT hu
theorem Fz.in_g(h:Fz f g d i B){u:Tr}(hu:u∈f.net.tr.eraseIdx i):dropT d (rpT d B u)∈g.net.tr:=h.mem.2 ⟨u,hu,rfl⟩
theorem Fz.fwd(h:Fz f g d i B){x:Int}(hx:Cn f.net false f.src x):(x≠d→Cn g.net false g.src (lessP d x))∧(x=d→∀ y∈B,Cn g.net false g.src (lessP d y)):=by
  induction hx with
  | base=>exact⟨fun _=>by rw[h.src];exact .base,fun e=>absurd e.symm h.ds⟩
  | @step q x t _ ht hi ho ih =>
    have hi:q∈t.inn:=hi
    have ho:x∈t.out:=ho
    rcases(zdk h.hi).1 ht with rfl | ht
    · rw[h.inn] at hi
      rw[h.out] at ho
      simp only[List.mem_singleton] at hi
      exact⟨fun _=>ih.2 hi x ho,fun e=>absurd (e▸ho) h.dB⟩
    · have hq:q≠d:=fun e=>h.oth t ht (e▸hi)
      have h1:=ih.1 hq
      refine⟨fun hx=>?_,fun e y hy=>?_⟩
      · exact .step h1 (h.in_g ht) ((h.inn_iff hq).2 hi) ((h.out_iff hx).2 (.inl ho))
      · subst e
        exact .step h1 (h.in_g ht) ((h.inn_iff hq).2 hi) ((h.out_iff (fun e=>h.dB (e▸hy))).2 (.inr ⟨ho,hy⟩))
theorem Fz.bwd(h:Fz f g d i B){x:Int}(hx:Cn f.net true f.dst x):(x≠d→Cn g.net true g.dst (lessP d x))∧(x=d→∃ y∈B,Cn g.net true g.dst (lessP d y)):=by
  induction hx with
  | base=>exact⟨fun _=>by rw[h.dst];exact .base,fun e=>absurd e.symm h.dd⟩
  | @step q x t _ ht hi ho ih =>
    have hi:q∈t.out:=hi
    have ho:x∈t.inn:=ho
    rcases(zdk h.hi).1 ht with rfl | ht
    · rw[h.inn] at ho
      rw[h.out] at hi
      simp only[List.mem_singleton] at ho
      exact⟨fun hx=>absurd ho hx,fun _=>⟨q,hi,ih.1 fun e=>h.dB (e▸hi)⟩⟩
    · have hx:x≠d:=fun e=>h.oth t ht (e▸ho)
      refine⟨fun _=>?_,fun e=>absurd e hx⟩
      by_cases hq:q=d
      · obtain⟨y,hy,hc⟩:=ih.2 hq
        exact .step hc (h.in_g ht) ((h.out_iff (fun e=>h.dB (e▸hy))).2 (.inr ⟨hq▸hi,hy⟩)) ((h.inn_iff hx).2 ho)
      · exact .step (ih.1 hq) (h.in_g ht) ((h.out_iff hq).2 (.inl hi)) ((h.inn_iff hx).2 ho)
theorem Fz.good(h:Fz f g d i B):Gf g:=by
 have hpl:=h.pl
 refine⟨h.goodN,h.srcI,h.dstI,?_,fun t ht=>?_,fun x h0 h1=>?_,fun x h0 h1=>?_,fun t ht=>?_⟩
 ·rw[h.src,h.dst]
  exact fun e=>h.gf.ne (zpx (Ne.symm h.ds) (Ne.symm h.dd) e)
 ·obtain⟨u,hu,rfl⟩:=h.mem.1 ht
  have hs:=h.gf.sp u (h.sub hu)
  have hsi:=h.gf.sp _ h.tin
  unfold z1bp at hs hsi ⊢
  simp only[Bool.or_eq_false_iff,hasB,decide_eq_false_iff_not] at hs hsi ⊢
  have hr:(dropT d (rpT d B u)).rst=[]:=by show dropL d (rpT d B u).rst=[];rw[z16u,h.rst (h.sub hu)];rfl
  rw[hr,h.src,h.dst,h.inn_iff (Ne.symm h.dd),h.out_iff (Ne.symm h.ds)]
  refine⟨⟨⟨?_,hs.1.1.2⟩,by simp⟩,by simp⟩
  rintro(h1 | ⟨_,h1⟩)
  ·exact hs.1.1.1 h1
  ·rw[h.out] at hsi;exact hsi.1.1.1 h1
 ·have:=up_in (d:=d) (x:=x) (p:=f.net.pl) h.dI ⟨h0,by omega⟩
  have:=(h.fwd (h.gf.fwd (upP d x) this.1 this.2)).1 up_ne
  rwa [zpy] at this
 ·have:=up_in (d:=d) (x:=x) (p:=f.net.pl) h.dI ⟨h0,by omega⟩
  have:=(h.bwd (h.gf.bwd (upP d x) this.1 this.2)).1 up_ne
  rwa [zpy] at this
 ·obtain⟨u,hu,rfl⟩:=h.mem.1 ht
  obtain⟨x,hx⟩:=List.exists_mem_of_ne_nil _ (h.gf.out u (h.sub hu))
  by_cases hd:d∈u.out
  ·obtain⟨y,hy⟩:=List.exists_mem_of_ne_nil _ h.bne
   exact List.ne_nil_of_mem ((h.out_iff (fun e=>h.dB (e▸hy))).2 (.inr ⟨hd,hy⟩))
  ·exact List.ne_nil_of_mem ((h.out_iff (fun e=>hd (e▸hx))).2 (.inl hx))
/-! Markings. -/
def Fr(f:Fl)(d:Int)(B:List Int)(m m':List Int):Prop:=∀ x:Int,0≤x→x<f.net.pl→x≠d→at_ m' (lessP d x)=at_ m x+(if x∈B then at_ m d else 0)
theorem Fz.atf(h:Fz f g d i B){u:Tr}{m:List Int}(hu:u∈f.net.tr)(hm:Mk f.net m){x:Int}(hx:0≤x):at_ (zgc u m) x=at_ m x-(if x∈u.inn then 1 else 0)+(if x∈u.out then 1 else 0):=by
 rw[z4t ((zja h.gf.net).2.2.2 u hu) hm.len hx,h.rst hu];simp
theorem Fz.atg(h:Fz f g d i B){u:Tr}{m:List Int}(hu:u∈f.net.tr.eraseIdx i)(hm:Mk g.net m){x:Int}(h0:0≤x)(h1:x<f.net.pl)(hx:x≠d):at_ (zgc (dropT d (rpT d B u)) m) (lessP d x)=at_ m (lessP d x)-(if x∈u.inn then 1 else 0)+(if x∈u.out∨(d∈u.out∧x∈B) then 1 else 0):=by
 have hr:(dropT d (rpT d B u)).rst=[]:=by show dropL d (rpT d B u).rst=[];rw[z16u,h.rst (h.sub hu)];rfl
 rw[z4t (h.goodT hu) hm.len (zpw h.dI hx ⟨h0,h1⟩).1,hr]
 simp only[h.inn_iff hx,h.out_iff hx,List.not_mem_nil,if_false]
theorem Fz.pass(h:Fz f g d i B){m m':List Int}(hm:Mk f.net m)(hr:Fr f d B m m'):Fr f d B (zgc (f.net.tr[i]'h.hi) m) m':=by
 intro x h0 h1 hx
 rw[h.atf h.tin hm h0,h.atf h.tin hm h.dI.1,h.inn,h.out,hr x h0 h1 hx]
 simp only[List.mem_singleton,hx,h.dB,if_false,if_true]
 split<;>omega
theorem Fz.same(h:Fz f g d i B){u:Tr}{m m':List Int}(hu:u∈f.net.tr.eraseIdx i)(hm:Mk f.net m)(hm':Mk g.net m')(hr:Fr f d B m m'):Fr f d B (zgc u m) (zgc (dropT d (rpT d B u)) m'):=by
 intro x h0 h1 hx
 rw[h.atg hu hm' h0 h1 hx,h.atf (h.sub hu) hm h0,h.atf (h.sub hu) hm h.dI.1,hr x h0 h1 hx,if_neg (h.oth u hu)]
 have hd:=h.dis u hu
 by_cases a:x∈B<;>by_cases b:d∈u.out<;>by_cases c:x∈u.out
 ·exact absurd c (hd b x a)
 all_goals simp [a,b,c]<;>omega
theorem Fz.can(h:Fz f g d i B){u:Tr}{m m':List Int}(hu:u∈f.net.tr.eraseIdx i)(hm:Mk f.net m)(hr:Fr f d B m m')(hc:canT u m=true):canT (dropT d (rpT d B u)) m'=true:=by
 refine z8g fun y hy=>?_
 have hy:y∈dropL d (rpT d B u).inn:=hy
 rw[z16s] at hy
 obtain⟨x,hx,hxd,rfl⟩:=zck.1 hy
 have hp:=(zjl ((zja h.gf.net).2.2.2 u (h.sub hu))).1 x hx
 have h1:=z8f hc hx
 have h2:=hm.pos x hp.1
 have h3:=hm.pos d h.dI.1
 rw[hr x hp.1 hp.2 hxd]
 split<;>omega
theorem Fz.can'(h:Fz f g d i B){u:Tr}{m m':List Int}(hu:u∈f.net.tr.eraseIdx i)(hr:Fr f d B m m')(h0:at_ m d=0)(hc:canT (dropT d (rpT d B u)) m'=true):canT u m=true:=by
 refine z8g fun x hx=>?_
 have hxd:x≠d:=fun e=>h.oth u hu (e▸hx)
 have hp:=(zjl ((zja h.gf.net).2.2.2 u (h.sub hu))).1 x hx
 have h1:=z8f hc ((h.inn_iff hxd).2 hx)
 rw[hr x hp.1 hp.2 hxd,h0] at h1
 simpa using h1
theorem Fz.can_i(h:Fz f g d i B){m:List Int}(h1:at_ m d≠0):canT (f.net.tr[i]'h.hi) m=true:=by
 refine z8g fun x hx=>?_
 rw[h.inn,List.mem_singleton] at hx
 subst hx;exact h1
theorem Fz.drain(h:Fz f g d i B) : ∀ (k:Nat) (m m':List Int),Mk f.net m→Fr f d B m m'→at_ m d=k→∃ m0,Rch f.net m m0∧Mk f.net m0∧Fr f d B m0 m'∧at_ m0 d=0
  | 0,m,m',hm,hr,hk=>⟨m,.base,hm,hr,by simpa using hk⟩
  | k + 1, m, m', hm, hr, hk => by
    have hc:=h.can_i (m:=m) (by omega)
    have hg:=(zja h.gf.net).2.2.2 _ h.tin
    obtain⟨m0,h1,h2,h3,h4⟩:=h.drain k (zgc (f.net.tr[i]'h.hi) m) m' (hm.fire hg hc) (h.pass hm hr) (by
      rw[h.atf h.tin hm h.dI.1,h.inn,h.out]
      simp only[List.mem_singleton,h.dB,if_false,if_true];omega)
    exact⟨m0,(Rch.base.tr h.tin hc).trans h1,h2,h3,h4⟩
theorem Fz.forth(h:Fz f g d i B){a a' m:List Int}(ha:Mk f.net a)(ha':Mk g.net a')(hr:Fr f d B a a')(hm:Rch f.net a m) : ∃ m',Rch g.net a' m'∧Fr f d B m m':=by
 refine(hm.ind (P:=fun m=>∃ m',Rch g.net a' m'∧Fr f d B m m') ⟨a',.base,hr⟩ ?_)
 rintro m t hm ⟨m',h1,h2⟩ ht hc
 have hmk:=ha.rch h.gf.net hm
 rcases(zdk h.hi).1 ht with rfl | ht
 ·exact⟨m',h1,h.pass hmk h2⟩
 ·exact⟨_,h1.tr (h.in_g ht) (h.can ht hmk h2 hc),h.same ht hmk (ha'.rch h.goodN h1) h2⟩
theorem Fz.back(h:Fz f g d i B){a a' m':List Int}(ha:Mk f.net a)(ha':Mk g.net a')(hr:Fr f d B a a')(h0:at_ a d=0)(hm:Rch g.net a' m') : ∃ m,Rch f.net a m∧Fr f d B m m'∧at_ m d=0:=by
 refine(hm.ind (P:=fun m'=>∃ m,Rch f.net a m∧Fr f d B m m'∧at_ m d=0) ⟨a,.base,hr,h0⟩ ?_)
 rintro m' t hm ⟨m,h1,h2,h3⟩ ht hc
 obtain⟨u,hu,rfl⟩:=h.mem.1 ht
 have hmk:=ha.rch h.gf.net h1
 have hc':=h.can' hu h2 h3 hc
 have hs:=h.same hu hmk (ha'.rch h.goodN hm) h2
 have hmk2:=hmk.fire ((zja h.gf.net).2.2.2 u (h.sub hu)) hc'
 obtain⟨m0,k1,_,k3,k4⟩:=h.drain (at_ (zgc u m) d).toNat _ _ hmk2 hs (by have:=hmk2.pos d h.dI.1;omega)
 exact⟨m0,(h1.tr (h.sub hu) hc').trans k1,k3,k4⟩
theorem Fz.one(h:Fz f g d i B){p p':Int}(hp:0≤p∧p<f.net.pl)(hd:p≠d)(e:p'=lessP d p):Fr f d B (oneM f.net.pl.toNat p) (oneM g.net.pl.toNat p')∧at_ (oneM f.net.pl.toNat p) d=0:=by
 have hpl:=h.pl
 have h0:at_ (oneM f.net.pl.toNat p) d=0:=by
  rw[z4x ⟨hp.1,by omega⟩ h.dI.1,if_neg (Ne.symm hd)]
 refine⟨fun x h1 h2 hx=>?_,h0⟩
 have hl:=zpw h.dI hd hp
 rw[h0,e,z4x ⟨hl.1,by omega⟩ (zpw h.dI hx ⟨h1,h2⟩).1,z4x ⟨hp.1,by omega⟩ h1]
 by_cases c:x=p
 ·subst c;simp
 ·have:¬lessP d x=lessP d p:=fun e=>c (zpx hx hd e)
  simp [c,this]
theorem Fz.ext(h:Fz f g d i B){m a b:List Int}(ha:Mk g.net a)(hb:Mk g.net b)(h1:Fr f d B m a)(h2:Fr f d B m b):a=b:=by
 refine ztl ha hb fun x h0 hx=>?_
 have hu:=up_in (d:=d) (x:=x) (p:=f.net.pl) h.dI ⟨h0,by have:=h.pl;omega⟩
 have e1:=h1 _ hu.1 hu.2 up_ne
 have e2:=h2 _ hu.1 hu.2 up_ne
 rw[zpy] at e1 e2
 omega
theorem Fz.ext'(_:Fz f g d i B){m a b:List Int}(ha:Mk f.net a)(hb:Mk f.net b)(h1:Fr f d B a m)(h2:Fr f d B b m)(h3:at_ a d=0)(h4:at_ b d=0):a=b:=by
 refine ztl ha hb fun x h0 hx=>?_
 by_cases e:x=d
 ·subst e;omega
 ·have e1:=h1 x h0 hx e
  have e2:=h2 x h0 hx e
  rw[h3] at e1
  rw[h4] at e2
  simp only[ite_self] at e1 e2
  omega
theorem Fz.snd (h : Fz f g d i B) : SndT f ↔ SndT g := by
  have ms := ztm h.gf.src
  have me := ztm h.gf.dst
  have ms' := ztm h.srcI
  have me' := ztm h.dstI
  obtain ⟨rs, zs⟩ := h.one h.gf.src (Ne.symm h.ds) h.src
  obtain ⟨re, ze⟩ := h.one h.gf.dst (Ne.symm h.dd) h.dst
  have hpl := h.pl
  constructor
  · intro hf
    refine ⟨fun m' hm' => ?_, fun m' hm' h1 => ?_, fun t ht => ?_⟩
    · obtain ⟨m, k1, k2, k3⟩ := h.back ms ms' rs zs hm'
      obtain ⟨e', q1, q2⟩ := h.forth (ms.rch h.gf.net k1) (ms'.rch h.goodN hm') k2 (hf.ends m k1)
      rwa [h.ext ((ms'.rch h.goodN hm').rch h.goodN q1) me' q2 re] at q1
    · obtain ⟨m, k1, k2, k3⟩ := h.back ms ms' rs zs hm'
      have e := k2 f.dst h.gf.dst.1 h.gf.dst.2 (Ne.symm h.dd)
      rw [k3, ← h.dst] at e
      simp only [ite_self] at e
      have := hf.over m k1 (by omega)
      rw [this] at k2
      exact h.ext (ms'.rch h.goodN hm') me' k2 re
    · obtain ⟨u, hu, rfl⟩ := h.mem.1 ht
      obtain ⟨m, k1, k2⟩ := hf.used u (h.sub hu)
      obtain ⟨m', q1, q2⟩ := h.forth ms ms' rs k1
      exact ⟨m', q1, h.can hu (ms.rch h.gf.net k1) q2 k2⟩
  · intro hg
    refine ⟨fun m hm => ?_, fun m hm h1 => ?_, fun t ht => ?_⟩
    · obtain ⟨m', k1, k2⟩ := h.forth ms ms' rs hm
      have hmk := ms.rch h.gf.net hm
      obtain ⟨m0, q1, q2, q3, q4⟩ := h.drain (at_ m d).toNat m m' hmk k2 (by have := hmk.pos d h.dI.1; omega)
      obtain ⟨e, p1, p2, p3⟩ := h.back q2 (ms'.rch h.goodN k1) q3 q4 (hg.ends m' k1)
      rw [h.ext' (q2.rch h.gf.net p1) me p2 re p3 ze] at p1
      exact q1.trans p1
    · obtain ⟨m', k1, k2⟩ := h.forth ms ms' rs hm
      have hmk := ms.rch h.gf.net hm
      have hd0 := hmk.pos d h.dI.1
      have e := k2 f.dst h.gf.dst.1 h.gf.dst.2 (Ne.symm h.dd)
      have hov := hg.over m' k1 (by rw [h.dst, e]; split <;> omega)
      have key : ∀ x : Int, 0 ≤ x → x < f.net.pl → x ≠ d → at_ m x + (if x ∈ B then at_ m d else 0) = if x = f.dst then 1 else 0 := by
        intro x h0 hx hxd
        rw [← k2 x h0 hx hxd, hov, z4x (p := g.dst) ⟨h.dstI.1, by have := h.dstI.2; have := h.dstI.1; omega⟩ (zpw h.dI hxd ⟨h0, hx⟩).1, h.dst]
        by_cases c : x = f.dst
        · subst c; simp
        · have : ¬ lessP d x = lessP d f.dst := fun e => c (zpx hxd (Ne.symm h.dd) e)
          simp [c, this]
      have hz : at_ m d = 0 := by
        obtain ⟨y, hy⟩ := List.exists_mem_of_ne_nil _ h.bne
        have hyi := h.bin hy
        have hyd : y ≠ d := fun e => h.dB (e ▸ hy)
        have k3 := key y hyi.1 hyi.2 hyd
        rw [if_pos hy] at k3
        have := hmk.pos y hyi.1
        by_cases c : y = f.dst
        · subst c; rw [if_pos rfl] at k3; omega
        · rw [if_neg c] at k3; omega
      refine ztl hmk me fun x h0 hx => ?_
      rw [z4x ⟨h.gf.dst.1, by have := h.gf.dst.2; omega⟩ h0]
      by_cases c : x = d
      · subst c; rw [hz, if_neg h.dd]
      · have := key x h0 hx c
        rw [hz] at this
        simpa using this
    · rcases (zdk h.hi).1 ht with rfl | ht
      · -- the taker itself: something gives to the place
        have hcn := h.gf.fwd d h.dI.1 h.dI.2
        have : ∃ u ∈ f.net.tr.eraseIdx i, d ∈ u.out := by
          generalize hx : d = x at hcn
          cases hcn with
          | base => exact absurd hx h.ds
          | @step q x t _ ht2 hi2 ho2 =>
            have ho2 : x ∈ t.out := ho2
            rcases (zdk h.hi).1 ht2 with rfl | ht2
            · rw [h.out] at ho2; exact absurd (hx ▸ ho2) h.dB
            · exact ⟨t, ht2, ho2⟩
        obtain ⟨u, hu, hdu⟩ := this
        obtain ⟨m', k1, k2⟩ := hg.used _ (h.in_g hu)
        obtain ⟨m, q1, q2, q3⟩ := h.back ms ms' rs zs k1
        have hc := h.can' hu q2 q3 k2
        have hmk := ms.rch h.gf.net q1
        refine ⟨zgc u m, q1.tr (h.sub hu) hc, h.can_i ?_⟩
        rw [h.atf (h.sub hu) hmk h.dI.1, if_neg (h.oth u hu), if_pos hdu, q3]; omega
      · obtain ⟨m', k1, k2⟩ := hg.used _ (h.in_g ht)
        obtain ⟨m, q1, q2, q3⟩ := h.back ms ms' rs zs k1
        exact ⟨m, q1, h.can' ht q2 q3 k2⟩
end
end Go.Proofs.YtbaclnecajkknaaGreat.Pi
namespace Go.Proofs.YtbaclnecajkknaaGreat.Pi
open Go
set_option linter.all false

theorem zw5{f:Fl}(h:okRed f=true):Gf f∧hasR f.net=false:=by
 simp only[okRed,Bool.and_eq_true,Bool.not_eq_true'] at h
 exact⟨ziv.1 h.1,h.2⟩
theorem zkk{P:Tr→Bool}{n:Net}{k:Nat}(hk:k<n.tr.length):(k:Int)∈idxL P n↔P n.tr[k]=true:=by
 unfold idxL idxK
 rw[List.mem_map]
 have e:n.tr.getD k ⟨[],[],[]⟩=n.tr[k]:=by rw[List.getD_eq_getElem?_getD,List.getElem?_eq_getElem hk];rfl
 constructor
 ·rintro⟨i,h1,h2⟩
  rw[List.mem_filter] at h1
  have:i=k:=by have:(i:Int)=(k:Int):=h2;omega
  subst this
  rw[←e];exact h1.2
 ·intro h
  exact⟨k,by rw[List.mem_filter,List.mem_range];exact⟨hk,by rw[e];exact h⟩,rfl⟩
theorem zdj{α:Type}{l:List α}{i:Nat}{x:α}(hx:x∈l.eraseIdx i) : ∃ j:Nat,∃ hj:j<l.length,j≠i∧l[j]=x:=by
 rw[List.eraseIdx_eq_take_drop_succ,List.mem_append] at hx
 rcases hx with h | h
 ·obtain⟨j,hj,rfl⟩:=List.mem_iff_getElem.1 h
  rw[List.length_take] at hj
  exact⟨j,by omega,by omega,by rw[List.getElem_take]⟩
 ·obtain⟨j,hj,rfl⟩:=List.mem_iff_getElem.1 h
  rw[List.length_drop] at hj
  exact⟨i+1+j,by omega,by omega,by rw[List.getElem_drop]⟩
theorem zmr{f:Fl}{p:Int}:zmq f p=true↔p≠f.src∧p≠f.dst:=by
 simp [zmq]
theorem zsk{a b:List Int}(h:meetB a b=false){x:Int}(hx:x∈b):x∉a:=by
 intro ha
 have:meetB a b=true:=by
  unfold meetB
  rw[List.any_eq_true]
  exact⟨x,ha,by simp [hasB,hx]⟩
 rw[this] at h;cases h
theorem zi2{f g:Fl}(h:zi0 f=some g) : ∃ d i B,Fz f g d i B:=by
 unfold zi0 at h
 split at h
 case isFalse=>cases h
 rename_i ho
 obtain⟨gf,nr⟩:=zw5 ho
 simp only[Option.map_eq_some_iff] at h
 obtain⟨p,hp,rfl⟩:=h
 have hok:okFT f p=true:=List.find?_some hp
 have hok0:=hok
 simp only[okFT,Bool.and_eq_true,decide_eq_true_eq] at hok
 obtain⟨hin,hgl,htl,-⟩:=hok
 obtain⟨gi,hgi,hG⟩:=zkl hgl
 obtain⟨ti,hti,hT⟩:=zkl htl
 have hG':givI f.net (p:Int)=[(gi:Int)]:=hG
 have hT':takI f.net (p:Int)=[(ti:Int)]:=hT
 have hne:gi≠ti:=by
  intro e;subst e
  rw[zvw hG' hT'] at hok0;cases hok0
 rw[zvt hin hG' hT' hne] at hok0
 simp only[okAB,Bool.and_eq_true,decide_eq_true_eq,Bool.not_eq_true',decide_eq_false_iff_not,z1f3 hgi,z1f3 hti] at hok0
 obtain⟨h1,h2,h3⟩:=hok0
 obtain⟨hd1,hd2⟩:=zmr.1 hin
 have giv : ∀ k:Nat,(hk:k<f.net.tr.length)→((p:Int)∈f.net.tr[k].out↔k=gi):=fun k hk=>by
  have:=zkk (P:=fun t=>hasB t.out (p:Int)) hk
  have e:idxL (fun t=>hasB t.out (p:Int)) f.net=[(gi:Int)]:=hG
  rw[e] at this
  simp only[List.mem_singleton,hasB,decide_eq_true_eq] at this
  rw[←this];omega
 have tak : ∀ k:Nat,(hk:k<f.net.tr.length)→((p:Int)∈f.net.tr[k].inn↔k=ti):=fun k hk=>by
  have:=zkk (P:=fun t=>hasB t.inn (p:Int)) hk
  have e:idxL (fun t=>hasB t.inn (p:Int)) f.net=[(ti:Int)]:=hT
  rw[e] at this
  simp only[List.mem_singleton,hasB,decide_eq_true_eq] at this
  rw[←this];omega
 obtain⟨y,hy⟩:=List.length_eq_one_iff.1 h1
 have hyp:y=p:=by
  have:=(tak ti hti).2 rfl
  rw[hy,List.mem_singleton] at this;exact this.symm
 subst hyp
 refine⟨(p:Int),ti,f.net.tr[ti].out,gf,nr,hti,hy,rfl,hd1,hd2,fun hc=>hne ((giv ti hti).1 hc).symm,fun u hu hc=>?_,fun u hu hc x hx=>?_,rfl,rfl,rfl,?_⟩
 ·obtain⟨j,hj,hji,rfl⟩:=zdj hu
  exact hji ((tak j hj).1 hc)
 ·obtain⟨j,hj,hji,rfl⟩:=zdj hu
  have:=(giv j hj).1 hc
  subst this
  exact zsk h3 hx
 ·show(zi6 f p).map _=_
  rw[zi7 hG' hT',z1f3 hgi,z1f3 hti,←zrt,←zrt]
  congr 1
  apply List.ext_getElem
  ·simp
  ·intro k hk1 hk2
   simp only[List.length_map,List.length_set] at hk1
   simp only[List.getElem_map,List.getElem_set]
   by_cases e:gi=k
   ·subst e
    have:=(giv gi hgi).2 rfl
    simp [rpT,hasB,this,mixT]
   ·have:¬(p:Int)∈f.net.tr[k].out:=fun hc=>e ((giv k hk1).1 hc).symm
    simp [rpT,hasB,this,e]
theorem zhy{f g:Fl}(h:zhw f=some g) : ∃ d i B,Fz f g d i B:=by
 unfold zhw at h
 split at h
 case isFalse=>cases h
 rename_i ho
 obtain⟨gf,nr⟩:=zw5 ho
 simp only[Option.map_eq_some_iff] at h
 obtain⟨k,hk,rfl⟩:=h
 have hok:okFP f k=true:=List.find?_some hk
 have hkl:k<f.net.tr.length:=by
  have:=List.mem_of_find?_eq_some hk
  simpa using this
 have hok0:=hok
 simp only[okFP,Bool.and_eq_true,decide_eq_true_eq] at hok
 obtain⟨p,hp⟩:=List.length_eq_one_iff.1 hok.1
 obtain⟨q,hq⟩:=List.length_eq_one_iff.1 hok.2.1
 rw[zvq hp hq] at hok0
 simp only[Bool.and_eq_true,decide_eq_true_eq,Bool.not_eq_true',beq_eq_false_iff_ne,ne_eq,List.any_eq_false,not_and] at hok0
 obtain⟨h1,h2,h3,h4⟩:=hok0
 rw[zi5 hp hq]
 have hat:at_ (trN f.net k).inn 0=p:=by rw[hp];rfl
 rw[hat]
 rw[z1f3 hkl] at hp hq
 obtain⟨ti,hti,hT⟩:=zkl h3
 have tak : ∀ j:Nat,(hj:j<f.net.tr.length)→(p∈f.net.tr[j].inn↔j=ti):=fun j hj=>by
  have:=zkk (P:=fun t=>hasB t.inn p) hj
  have e:idxL (fun t=>hasB t.inn p) f.net=[(ti:Int)]:=hT
  rw[e] at this
  simp only[List.mem_singleton,hasB,decide_eq_true_eq] at this
  rw[←this];omega
 have hkt:k=ti:=(tak k hkl).1 (by rw[hp];simp)
 subst hkt
 have hdst:p≠f.dst:=by
  intro e
  have:=gf.sp _ (List.getElem_mem hkl)
  unfold z1bp at this
  simp only[Bool.or_eq_false_iff,hasB,decide_eq_false_iff_not] at this
  rw[hp] at this
  exact this.1.1.2 (by simp [e])
 refine⟨p,k,[q],gf,nr,hkl,hp,hq,h1,hdst,by simpa using h2,fun u hu hc=>?_,fun u hu hc x hx=>?_,rfl,rfl,rfl,?_⟩
 ·obtain⟨j,hj,hji,rfl⟩:=zdj hu
  exact hji ((tak j hj).1 hc)
 ·simp only[List.mem_singleton] at hx
  subst hx
  intro hc2
  have:=h4 u (List.mem_of_mem_eraseIdx hu)
  simp [hasB,hc,hc2] at this
 ·show((f.net.tr.map (replO p q)).eraseIdx k).map _=_
  rw[zrt,List.map_map]
  rfl
/-! ### A place that another one stands for -/
structure Dz(f g:Fl)(q p:Int):Prop where
 gf:Gf f
 nr:hasR f.net=false
 qI:0≤q∧q<f.net.pl
 pI:0≤p∧p<f.net.pl
 ne:p≠q
 qs:q≠f.src
 qd:q≠f.dst
 ps:p≠f.src
 pd:p≠f.dst
 inn : ∀ u∈f.net.tr,(q∈u.inn↔p∈u.inn)
 out : ∀ u∈f.net.tr,(q∈u.out↔p∈u.out)
 is:g=dropF f q
section
variable {f g : Fl} {q p : Int}
theorem Dz.pl(h:Dz f g q p):g.net.pl=f.net.pl-1:=by rw[h.is];rfl
theorem Dz.src(h:Dz f g q p):g.src=lessP q f.src:=by rw[h.is];rfl
theorem Dz.dst(h:Dz f g q p):g.dst=lessP q f.dst:=by rw[h.is];rfl
theorem Dz.mem(h:Dz f g q p){t:Tr}:t∈g.net.tr↔∃ u∈f.net.tr,t=dropT q u:=by
 rw[h.is]
 show t∈f.net.tr.map (dropT q)↔_
 rw[List.mem_map]
 exact⟨fun⟨u,h1,h2⟩=>⟨u,h1,h2.symm⟩,fun⟨u,h1,h2⟩=>⟨u,h1,h2.symm⟩⟩
theorem Dz.in_g(h:Dz f g q p){u:Tr}(hu:u∈f.net.tr):dropT q u∈g.net.tr:=h.mem.2 ⟨u,hu,rfl⟩
theorem Dz.inn_iff(_:Dz f g q p){u:Tr}{x:Int}(hx:x≠q):lessP q x∈(dropT q u).inn↔x∈u.inn:=zcj hx
theorem Dz.out_iff(_:Dz f g q p){u:Tr}{x:Int}(hx:x≠q):lessP q x∈(dropT q u).out↔x∈u.out:=zcj hx
theorem Dz.rst(h:Dz f g q p){u:Tr}(hu:u∈f.net.tr):u.rst=[]:=by
 obtain⟨k,hk,rfl⟩:=List.mem_iff_getElem.1 hu
 exact zk2 h.nr hk
theorem Dz.goodT(h:Dz f g q p){u:Tr}(hu:u∈f.net.tr):Pi.goodT g.net.pl (dropT q u)=true:=by
 have hg:=(zja h.gf.net).2.2.2 u hu
 rw[h.pl]
 refine zje h.qI hg ?_
 obtain⟨x,hx⟩:=List.exists_mem_of_ne_nil _ (zjk hg).1
 by_cases e:x=q
 ·subst e;exact⟨p,(h.inn u hu).1 hx,h.ne⟩
 ·exact⟨x,hx,e⟩
theorem Dz.srcI(h:Dz f g q p):0≤g.src∧g.src<g.net.pl:=by rw[h.src,h.pl];exact zpw h.qI (Ne.symm h.qs) h.gf.src
theorem Dz.dstI(h:Dz f g q p):0≤g.dst∧g.dst<g.net.pl:=by rw[h.dst,h.pl];exact zpw h.qI (Ne.symm h.qd) h.gf.dst
theorem Dz.goodN(h:Dz f g q p):Pi.goodN g.net=true:=by
 obtain⟨g1,g2,g3,g4⟩:=zja h.gf.net
 have:=h.srcI
 have hp:=h.pl
 refine zj9 ⟨by omega,by omega⟩ ?_ fun t ht=>?_
 ·rw[h.is];show(f.net.tr.map (dropT q)).length≤24;rw[List.length_map];exact g3
 ·obtain⟨u,hu,rfl⟩:=h.mem.1 ht
  exact h.goodT hu
theorem Dz.fwd(h:Dz f g q p){x:Int}(hx:Cn f.net false f.src x):(x≠q→Cn g.net false g.src (lessP q x))∧(x=q→Cn g.net false g.src (lessP q p)):=by
  induction hx with
  | base=>exact⟨fun _=>by rw[h.src];exact .base,fun e=>absurd e.symm h.qs⟩
  | @step y x t _ ht hi ho ih =>
    have hi:y∈t.inn:=hi
    have ho:x∈t.out:=ho
    obtain⟨z,hz1,hz2,hz3⟩ : ∃ z,z≠q∧z∈t.inn∧Cn g.net false g.src (lessP q z):=by
      by_cases e:y=q
      · exact⟨p,h.ne,(h.inn t ht).1 (e▸hi),ih.2 e⟩
      · exact⟨y,e,hi,ih.1 e⟩
    exact⟨fun e=>.step hz3 (h.in_g ht) ((h.inn_iff hz1).2 hz2) ((h.out_iff e).2 ho),fun e=>.step hz3 (h.in_g ht) ((h.inn_iff hz1).2 hz2) ((h.out_iff h.ne).2 ((h.out t ht).1 (e▸ho)))⟩
theorem Dz.bwd(h:Dz f g q p){x:Int}(hx:Cn f.net true f.dst x):(x≠q→Cn g.net true g.dst (lessP q x))∧(x=q→Cn g.net true g.dst (lessP q p)):=by
  induction hx with
  | base=>exact⟨fun _=>by rw[h.dst];exact .base,fun e=>absurd e.symm h.qd⟩
  | @step y x t _ ht hi ho ih =>
    have hi:y∈t.out:=hi
    have ho:x∈t.inn:=ho
    obtain⟨z,hz1,hz2,hz3⟩ : ∃ z,z≠q∧z∈t.out∧Cn g.net true g.dst (lessP q z):=by
      by_cases e:y=q
      · exact⟨p,h.ne,(h.out t ht).1 (e▸hi),ih.2 e⟩
      · exact⟨y,e,hi,ih.1 e⟩
    exact⟨fun e=>.step hz3 (h.in_g ht) ((h.out_iff hz1).2 hz2) ((h.inn_iff e).2 ho),fun e=>.step hz3 (h.in_g ht) ((h.out_iff hz1).2 hz2) ((h.inn_iff h.ne).2 ((h.inn t ht).1 (e▸ho)))⟩
theorem Dz.good(h:Dz f g q p):Gf g:=by
 have hpl:=h.pl
 refine⟨h.goodN,h.srcI,h.dstI,?_,fun t ht=>?_,fun x h0 h1=>?_,fun x h0 h1=>?_,fun t ht=>?_⟩
 ·rw[h.src,h.dst]
  exact fun e=>h.gf.ne (zpx (Ne.symm h.qs) (Ne.symm h.qd) e)
 ·obtain⟨u,hu,rfl⟩:=h.mem.1 ht
  have hs:=h.gf.sp u hu
  unfold z1bp at hs ⊢
  simp only[Bool.or_eq_false_iff,hasB,decide_eq_false_iff_not] at hs ⊢
  have hr:(dropT q u).rst=[]:=by show dropL q u.rst=[];rw[h.rst hu];rfl
  rw[hr,h.src,h.dst,h.inn_iff (Ne.symm h.qd),h.out_iff (Ne.symm h.qs)]
  exact⟨⟨⟨hs.1.1.1,hs.1.1.2⟩,by simp⟩,by simp⟩
 ·have:=up_in (d:=q) (x:=x) (p:=f.net.pl) h.qI ⟨h0,by omega⟩
  have:=(h.fwd (h.gf.fwd (upP q x) this.1 this.2)).1 up_ne
  rwa [zpy] at this
 ·have:=up_in (d:=q) (x:=x) (p:=f.net.pl) h.qI ⟨h0,by omega⟩
  have:=(h.bwd (h.gf.bwd (upP q x) this.1 this.2)).1 up_ne
  rwa [zpy] at this
 ·obtain⟨u,hu,rfl⟩:=h.mem.1 ht
  obtain⟨x,hx⟩:=List.exists_mem_of_ne_nil _ (h.gf.out u hu)
  by_cases e:x=q
  ·exact List.ne_nil_of_mem ((h.out_iff h.ne).2 ((h.out u hu).1 (e▸hx)))
  ·exact List.ne_nil_of_mem ((h.out_iff e).2 hx)
def Dr(f:Fl)(q p:Int)(m m':List Int):Prop:=(∀ x:Int,0≤x→x<f.net.pl→x≠q→at_ m' (lessP q x)=at_ m x)∧at_ m q=at_ m p
theorem Dz.atf(h:Dz f g q p){u:Tr}{m:List Int}(hu:u∈f.net.tr)(hm:Mk f.net m){x:Int}(hx:0≤x):at_ (zgc u m) x=at_ m x-(if x∈u.inn then 1 else 0)+(if x∈u.out then 1 else 0):=by
 rw[z4t ((zja h.gf.net).2.2.2 u hu) hm.len hx,h.rst hu];simp
theorem Dz.same(h:Dz f g q p){u:Tr}{m m':List Int}(hu:u∈f.net.tr)(hm:Mk f.net m)(hm':Mk g.net m')(hr:Dr f q p m m'):Dr f q p (zgc u m) (zgc (dropT q u) m'):=by
 refine⟨fun x h0 h1 hx=>?_,?_⟩
 ·have hrs:(dropT q u).rst=[]:=by show dropL q u.rst=[];rw[h.rst hu];rfl
  rw[z4t (h.goodT hu) hm'.len (zpw h.qI hx ⟨h0,h1⟩).1,hrs,h.atf hu hm h0,hr.1 x h0 h1 hx]
  simp only[h.inn_iff hx,h.out_iff hx,List.not_mem_nil,if_false]
 ·rw[h.atf hu hm h.qI.1,h.atf hu hm h.pI.1,hr.2]
  simp only[h.inn u hu,h.out u hu]
theorem Dz.can(h:Dz f g q p){u:Tr}{m m':List Int}(hu:u∈f.net.tr)(hr:Dr f q p m m'):canT (dropT q u) m'=true↔canT u m=true:=by
 have hp:=(zjl ((zja h.gf.net).2.2.2 u hu)).1
 constructor
 ·intro hc
  refine z8g fun x hx=>?_
  by_cases e:x=q
  ·subst e
   have:=z8f hc ((h.inn_iff h.ne).2 ((h.inn u hu).1 hx))
   rw[hr.1 p h.pI.1 h.pI.2 h.ne] at this
   rw[hr.2];exact this
  ·have:=z8f hc ((h.inn_iff e).2 hx)
   rwa [hr.1 x (hp x hx).1 (hp x hx).2 e] at this
 ·intro hc
  refine z8g fun y hy=>?_
  obtain⟨x,hx,hne,rfl⟩:=zck.1 hy
  rw[hr.1 x (hp x hx).1 (hp x hx).2 hne]
  exact z8f hc hx
theorem Dz.forth(h:Dz f g q p){a a' m:List Int}(ha:Mk f.net a)(ha':Mk g.net a')(hr:Dr f q p a a')(hm:Rch f.net a m) : ∃ m',Rch g.net a' m'∧Dr f q p m m':=by
 refine(hm.ind (P:=fun m=>∃ m',Rch g.net a' m'∧Dr f q p m m') ⟨a',.base,hr⟩ ?_)
 rintro m t hm ⟨m',h1,h2⟩ ht hc
 exact⟨_,h1.tr (h.in_g ht) ((h.can ht h2).2 hc),h.same ht (ha.rch h.gf.net hm) (ha'.rch h.goodN h1) h2⟩
theorem Dz.back(h:Dz f g q p){a a' m':List Int}(ha:Mk f.net a)(ha':Mk g.net a')(hr:Dr f q p a a')(hm:Rch g.net a' m') : ∃ m,Rch f.net a m∧Dr f q p m m':=by
 refine(hm.ind (P:=fun m'=>∃ m,Rch f.net a m∧Dr f q p m m') ⟨a,.base,hr⟩ ?_)
 rintro m' t hm ⟨m,h1,h2⟩ ht hc
 obtain⟨u,hu,rfl⟩:=h.mem.1 ht
 exact⟨_,h1.tr hu ((h.can hu h2).1 hc),h.same hu (ha.rch h.gf.net h1) (ha'.rch h.goodN hm) h2⟩
theorem Dz.one(h:Dz f g q p){y y':Int}(hy:0≤y∧y<f.net.pl)(hd:y≠q)(hyp:y≠p)(e:y'=lessP q y):Dr f q p (oneM f.net.pl.toNat y) (oneM g.net.pl.toNat y'):=by
 have hpl:=h.pl
 refine⟨fun x h1 h2 hx=>?_,?_⟩
 ·have hl:=zpw h.qI hd hy
  rw[e,z4x ⟨hl.1,by omega⟩ (zpw h.qI hx ⟨h1,h2⟩).1,z4x ⟨hy.1,by omega⟩ h1]
  by_cases c:x=y
  ·subst c;simp
  ·have:¬lessP q x=lessP q y:=fun e=>c (zpx hx hd e)
   simp [c,this]
 ·rw[z4x ⟨hy.1,by omega⟩ h.qI.1,z4x ⟨hy.1,by omega⟩ h.pI.1,if_neg (Ne.symm hd),if_neg (Ne.symm hyp)]
theorem Dz.ext(h:Dz f g q p){m a b:List Int}(ha:Mk g.net a)(hb:Mk g.net b)(h1:Dr f q p m a)(h2:Dr f q p m b):a=b:=by
 refine ztl ha hb fun x h0 hx=>?_
 have hu:=up_in (d:=q) (x:=x) (p:=f.net.pl) h.qI ⟨h0,by have:=h.pl;omega⟩
 have e1:=h1.1 _ hu.1 hu.2 up_ne
 have e2:=h2.1 _ hu.1 hu.2 up_ne
 rw[zpy] at e1 e2
 omega
theorem Dz.ext'(h:Dz f g q p){m a b:List Int}(ha:Mk f.net a)(hb:Mk f.net b)(h1:Dr f q p a m)(h2:Dr f q p b m):a=b:=by
 refine ztl ha hb fun x h0 hx=>?_
 by_cases e:x=q
 ·subst e
  have e1:=h1.1 p h.pI.1 h.pI.2 h.ne
  have e2:=h2.1 p h.pI.1 h.pI.2 h.ne
  rw[h1.2,h2.2];omega
 ·have e1:=h1.1 x h0 hx e
  have e2:=h2.1 x h0 hx e
  omega
theorem Dz.snd(h:Dz f g q p):SndT f↔SndT g:=by
 have ms:=ztm h.gf.src
 have me:=ztm h.gf.dst
 have ms':=ztm h.srcI
 have me':=ztm h.dstI
 have rs:=h.one h.gf.src (Ne.symm h.qs) (Ne.symm h.ps) h.src
 have re:=h.one h.gf.dst (Ne.symm h.qd) (Ne.symm h.pd) h.dst
 constructor
 ·intro hf
  refine⟨fun m' hm'=>?_,fun m' hm' h1=>?_,fun t ht=>?_⟩
  ·obtain⟨m,k1,k2⟩:=h.back ms ms' rs hm'
   obtain⟨e',q1,q2⟩:=h.forth (ms.rch h.gf.net k1) (ms'.rch h.goodN hm') k2 (hf.ends m k1)
   rwa [h.ext ((ms'.rch h.goodN hm').rch h.goodN q1) me' q2 re] at q1
  ·obtain⟨m,k1,k2⟩:=h.back ms ms' rs hm'
   have e:=k2.1 f.dst h.gf.dst.1 h.gf.dst.2 (Ne.symm h.qd)
   rw[←h.dst] at e
   rw[hf.over m k1 (by omega)] at k2
   exact h.ext (ms'.rch h.goodN hm') me' k2 re
  ·obtain⟨u,hu,rfl⟩:=h.mem.1 ht
   obtain⟨m,k1,k2⟩:=hf.used u hu
   obtain⟨m',q1,q2⟩:=h.forth ms ms' rs k1
   exact⟨m',q1,(h.can hu q2).2 k2⟩
 ·intro hg
  refine⟨fun m hm=>?_,fun m hm h1=>?_,fun t ht=>?_⟩
  ·obtain⟨m',k1,k2⟩:=h.forth ms ms' rs hm
   obtain⟨e,q1,q2⟩:=h.back (ms.rch h.gf.net hm) (ms'.rch h.goodN k1) k2 (hg.ends m' k1)
   rwa [h.ext' ((ms.rch h.gf.net hm).rch h.gf.net q1) me q2 re] at q1
  ·obtain⟨m',k1,k2⟩:=h.forth ms ms' rs hm
   have e:=k2.1 f.dst h.gf.dst.1 h.gf.dst.2 (Ne.symm h.qd)
   rw[←h.dst] at e
   rw[hg.over m' k1 (by omega)] at k2
   exact h.ext' (ms.rch h.gf.net hm) me k2 re
  ·obtain⟨m',k1,k2⟩:=hg.used _ (h.in_g ht)
   obtain⟨m,q1,q2⟩:=h.back ms ms' rs k1
   exact⟨m,q1,(h.can ht q2).1 k2⟩
end
theorem zco{f g:Fl}(h:dropV f=some g) : ∃ q p,Dz f g q p:=by
 unfold dropV at h
 split at h
 case isFalse=>cases h
 rename_i ho
 obtain⟨gf,nr⟩:=zw5 ho
 simp only[Option.map_eq_some_iff] at h
 obtain⟨q,hq,rfl⟩:=h
 have hok:=List.find?_some hq
 have hql:=List.mem_of_find?_eq_some hq
 rw[List.mem_range] at hql
 simp only[List.any_eq_true,List.mem_range] at hok
 obtain⟨p,hp,hs⟩:=hok
 simp only[sameP,Bool.and_eq_true,decide_eq_true_eq] at hs
 obtain⟨⟨h1,h2⟩,h3,h4⟩:=hs
 obtain⟨a1,a2⟩:=zmr.1 h1
 obtain⟨b1,b2⟩:=zmr.1 h2
 refine⟨(q:Int),(p:Int),gf,nr,by omega,by omega,by omega,b1,b2,a1,a2,fun u hu=>?_,fun u hu=>?_,rfl⟩
 ·obtain⟨k,hk,rfl⟩:=List.mem_iff_getElem.1 hu
  have e1:=zkk (P:=fun t=>hasB t.inn (p:Int)) hk
  have e2:=zkk (P:=fun t=>hasB t.inn (q:Int)) hk
  rw[show idxL (fun t=>hasB t.inn (p:Int)) f.net=idxL (fun t=>hasB t.inn (q:Int)) f.net from h4] at e1
  simp only[hasB,decide_eq_true_eq] at e1 e2
  rw[←e1,←e2]
 ·obtain⟨k,hk,rfl⟩:=List.mem_iff_getElem.1 hu
  have e1:=zkk (P:=fun t=>hasB t.out (p:Int)) hk
  have e2:=zkk (P:=fun t=>hasB t.out (q:Int)) hk
  rw[show idxL (fun t=>hasB t.out (p:Int)) f.net=idxL (fun t=>hasB t.out (q:Int)) f.net from h3] at e1
  simp only[hasB,decide_eq_true_eq] at e1 e2
  rw[←e1,←e2]
/-! ### A transition that is there twice -/
def dupT(f:Fl)(i:Nat):Bool:=(f.net.tr.take i).any fun u=>decide (u.inn=(trN f.net i).inn)&&decide (u.out=(trN f.net i).out)
def resDT(f:Fl):Option Nat:=(List.range f.net.tr.length).find? (dupT f)
def zcq(f:Fl)(i:Nat):Fl:=⟨⟨f.net.pl,f.net.tr.eraseIdx i⟩,f.src,f.dst⟩
def zct(f:Fl):Option Fl:=if okRed f=true then(resDT f).map (zcq f) else none
theorem zcw{f:Fl}{i:Nat}(hr:hasR f.net=false)(hi:i<f.net.tr.length)(h:dupT f i=true){t:Tr}:t∈(zcq f i).net.tr↔t∈f.net.tr:=by
 show t∈f.net.tr.eraseIdx i↔_
 rw[zdk hi]
 refine⟨.inr,fun h0=>?_⟩
 rcases h0 with rfl | h0
 ·unfold dupT at h
  rw[List.any_eq_true] at h
  obtain⟨u,hu,he⟩:=h
  rw[z1f3 hi,Bool.and_eq_true,decide_eq_true_eq,decide_eq_true_eq] at he
  have hu2:u∈f.net.tr:=List.mem_of_mem_take hu
  have e:u=f.net.tr[i]:=by
   obtain⟨k,hk,rfl⟩:=List.mem_iff_getElem.1 hu2
   have r1:=zk2 hr hk
   have r2:=zk2 hr hi
   cases h1:f.net.tr[k];cases h2:f.net.tr[i]
   rw[h1,h2] at he
   rw[h1] at r1
   rw[h2] at r2
   simp only at he r1 r2
   rw[he.1,he.2,r1,r2]
  rw[←e,List.eraseIdx_eq_take_drop_succ,List.mem_append]
  exact .inl hu
 ·exact h0
section
variable {f : Fl} {i : Nat}
theorem z12s{n n':Net}(h : ∀ t,t∈n.tr→t∈n'.tr){a m:List Int}(hm:Rch n a m):Rch n' a m:=
 hm.ind (P:=Rch n' a) .base fun _ t _ h1 ht hc=>h1.tr (h t ht) hc
theorem zai{n n':Net}(h : ∀ t,t∈n.tr→t∈n'.tr){bk:Bool}{p x:Int}(hx:Cn n bk p x):Cn n' bk p x:=by
 induction hx with
 | base=>exact .base
 | step _ ht hi ho ih=>exact .step ih (h _ ht) hi ho
theorem zcr(gf:Gf f)(hr:hasR f.net=false)(hi:i<f.net.tr.length)(h:dupT f i=true):Gf (zcq f i):=by
 have hm:=fun {t}=>zcw (t:=t) hr hi h
 obtain⟨g1,g2,g3,g4⟩:=zja gf.net
 refine⟨zj9 ⟨g1,g2⟩ (Nat.le_trans (List.length_eraseIdx_le ..) g3) fun t ht=>g4 t (hm.1 ht),gf.src,gf.dst,gf.ne,fun t ht=>gf.sp t (hm.1 ht),fun x h0 h1=>zai (fun t=>hm.2) (gf.fwd x h0 h1),fun x h0 h1=>zai (fun t=>hm.2) (gf.bwd x h0 h1),fun t ht=>gf.out t (hm.1 ht)⟩
theorem zcs(hr:hasR f.net=false)(hi:i<f.net.tr.length)(h:dupT f i=true):SndT f↔SndT (zcq f i):=by
 have hm:=fun {t}=>zcw (t:=t) hr hi h
 have r1:=fun a m=>z12s (n:=f.net) (n':=(zcq f i).net) (fun t=>hm.2) (a:=a) (m:=m)
 have r2:=fun a m=>z12s (n:=(zcq f i).net) (n':=f.net) (fun t=>hm.1) (a:=a) (m:=m)
 constructor
 ·intro hf
  exact⟨fun m h1=>r1 _ _ (hf.ends m (r2 _ _ h1)),fun m h1=>hf.over m (r2 _ _ h1),fun t ht=>by
   obtain⟨m,k1,k2⟩:=hf.used t (hm.1 ht)
   exact⟨m,r1 _ _ k1,k2⟩⟩
 ·intro hf
  exact⟨fun m h1=>r2 _ _ (hf.ends m (r1 _ _ h1)),fun m h1=>hf.over m (r1 _ _ h1),fun t ht=>by
   obtain⟨m,k1,k2⟩:=hf.used t (hm.2 ht)
   exact⟨m,r2 _ _ k1,k2⟩⟩
end
/-! ### The rules -/
structure Rkp(f g:Fl):Prop where
 gf:Gf f
 gg:Gf g
 snd:SndT f↔SndT g
 nr:hasR g.net=false
 less:g.net.tr.length+g.net.pl<f.net.tr.length+f.net.pl
theorem nr_of{n:Net}(h : ∀ t∈n.tr,t.rst=[]):hasR n=false:=by
 unfold hasR
 rw[List.any_eq_false]
 intro t ht
 rw[h t ht];simp
theorem Fz.kept{f g:Fl}{d:Int}{i:Nat}{B:List Int}(h:Fz f g d i B):Rkp f g:=by
 refine⟨h.gf,h.good,h.snd,nr_of fun t ht=>?_,?_⟩
 ·obtain⟨u,hu,rfl⟩:=h.mem.1 ht
  show dropL d (rpT d B u).rst=[]
  rw[z16u,h.rst (h.sub hu)];rfl
 ·have:=h.hi
  rw[h.trs,List.length_map,List.length_eraseIdx,if_pos this,h.pl];omega
theorem zi3{f g:Fl}(h:zi0 f=some g):Rkp f g:=by obtain⟨d,i,B,hz⟩:=zi2 h;exact hz.kept
theorem zhz{f g:Fl}(h:zhw f=some g):Rkp f g:=by obtain⟨d,i,B,hz⟩:=zhy h;exact hz.kept
theorem zcp{f g:Fl}(h:dropV f=some g):Rkp f g:=by
 obtain⟨q,p,hz⟩:=zco h
 refine⟨hz.gf,hz.good,hz.snd,nr_of fun t ht=>?_,?_⟩
 ·obtain⟨u,hu,rfl⟩:=hz.mem.1 ht
  show dropL q u.rst=[]
  rw[hz.rst hu];rfl
 ·rw[hz.is]
  show(f.net.tr.map (dropT q)).length+(f.net.pl-1)<_
  rw[List.length_map];omega
theorem zcu{f g:Fl}(h:zct f=some g):Gf f∧hasR f.net=false∧∃ i,i<f.net.tr.length∧dupT f i=true∧g=zcq f i:=by
 unfold zct at h
 split at h
 case isFalse=>cases h
 rename_i ho
 obtain⟨gf,nr⟩:=zw5 ho
 simp only[Option.map_eq_some_iff] at h
 obtain⟨i,hi,rfl⟩:=h
 have hok:=List.find?_some hi
 have hil:=List.mem_of_find?_eq_some hi
 rw[List.mem_range] at hil
 exact⟨gf,nr,i,hil,hok,rfl⟩
theorem zcv{f g:Fl}(h:zct f=some g):Rkp f g:=by
 obtain⟨gf,nr,i,hi,hd,rfl⟩:=zcu h
 refine⟨gf,zcr gf nr hi hd,zcs nr hi hd,nr_of fun t ht=>?_,?_⟩
 ·have hm:=(zcw nr hi hd).1 ht
  obtain⟨k,hk,rfl⟩:=List.mem_iff_getElem.1 hm
  exact zk2 nr hk
 ·show(f.net.tr.eraseIdx i).length+f.net.pl<_
  rw[List.length_eraseIdx,if_pos hi];omega
theorem Rkp.alike{f g:Fl}(h:Rkp f g){b:Int}(hb:1≤b):(sndV f b).ok=3∨(sndV g b).ok=3∨(sndV f b).ok=(sndV g b).ok:=
 z1bc (ziv.2 h.gf) (ziv.2 h.gg) hb ((z1bd h.gf).trans (h.snd.trans (z1bd h.gg).symm))
end Go.Proofs.YtbaclnecajkknaaGreat.Pi

