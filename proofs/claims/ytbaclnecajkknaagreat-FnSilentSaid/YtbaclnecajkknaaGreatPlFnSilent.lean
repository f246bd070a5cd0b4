/- The plain laws. -/
import Derived.Test.YtbaclnecajkknaaGreatPiRy
import Derived.Laws.BitsLemmas
import Derived.Sort.AssemblyPlain
import Derived.Laws.Bits64
import Derived.Laws.Bits64b
namespace Go.Proofs.YtbaclnecajkknaaGreat.Pi
open Go
set_option linter.all false

abbrev bys(l:List Int):PV:=.sl true 1 (l.map (PV.int .u8))
abbrev rows(l:List (List Int)):PV:=.sl false 1 (l.map ints)
theorem z1ek{α:Type}{l:List α}{k:Nat}(hk:k<l.length):l.take (k+1)=l.take k++[l[k]]:=List.take_succ_eq_append_getElem hk
theorem z2z{α:Type}{l:List α}{p:α→Bool}{k:Nat}(hk:k<l.length)(h:(l.take k).all p=true)(hp:p l[k]=true):(l.take (k+1)).all p=true:=by
 rw[z1ek hk,List.all_append,h,List.all_cons,hp];rfl
theorem z2y{α:Type}{l:List α}{p:α→Bool}{k:Nat}(hk:k<l.length)(hp:p l[k]=false):l.all p=false:=by
 rw[List.all_eq_false];exact⟨l[k],List.getElem_mem hk,by simp [hp]⟩
theorem z3e{α:Type}{l:List α}{p:α→Bool}{k:Nat}(hk:k<l.length)(h:(l.take k).any p=false)(hp:p l[k]=false):(l.take (k+1)).any p=false:=by
 rw[z1ek hk,List.any_append,h,List.any_cons,hp];rfl
def inB(lo hi n:Int):Bool:=decide (lo≤n)&&decide (n≤hi)
def goodM(p:Int)(m:List Int):Bool:=inB 1 16 p&&(m.length:Int) == p&&m.all (inB 0 50)
theorem zj2{p:Int}{m:List Int}(h:goodM p m=true):1≤p∧p≤16∧(m.length:Int)=p∧m.length≤16∧∀ x∈m,0≤x∧x≤50:=by
 simp [goodM,inB] at h
 refine⟨h.1.1.1,h.1.1.2,h.1.2,by omega,fun x hx=>h.2 x hx⟩
def zbh(a b:List Int):Bool:=(a.zip b).all fun p=>decide (p.2≤p.1)
def idxI{α:Type}(l:List α)(p:α→Bool):Int:=match l.findIdx? p with
 | some k=>k
 | none=>-1
theorem zkg{α:Type}{l:List α}{p:α→Bool}{k:Nat}(hk:k<l.length)(h:(l.take k).any p=false)(hp:p l[k]=true):idxI l p=k:=by
 have:l.findIdx? p=some k:=by
  rw[List.findIdx?_eq_some_iff_getElem]
  refine⟨hk,hp,fun j hj=>?_⟩
  rw[List.any_eq_false] at h
  have hjl:j<l.length:=by omega
  have:=h l[j] (by rw[List.mem_iff_getElem];exact⟨j,by simp;omega,by simp⟩)
  simpa using this
 simp [idxI,this]
theorem zkf{α:Type}{l:List α}{p:α→Bool}(h:l.any p=false):idxI l p = -1:=by
 have:l.findIdx? p=none:=by
  rw[List.findIdx?_eq_none_iff]
  rw[List.any_eq_false] at h
  intro x hx;simpa using h x hx
 simp [idxI,this]
theorem zkc{α:Type}(l:List α)(p:α→Bool):l.any p=decide (0≤idxI l p):=by
  unfold idxI
  cases h:l.findIdx? p with
  | none =>
    rw[List.findIdx?_eq_none_iff] at h
    simp only[List.any_eq_false.2 (fun x hx=>by simpa using h x hx)]
    rfl
  | some k =>
    rw[List.findIdx?_eq_some_iff_getElem] at h
    obtain⟨h1,h2,_⟩:=h
    rw[List.any_eq_true.2 ⟨l[k],List.getElem_mem h1,h2⟩]
    simp
attribute [go_sem] Bool.false_and Bool.and_false bne_self_eq_false

def putI:List Int→Int→List Int
 | [],x=>[x]
 | y :: l,x=>if y<x then y :: putI l x else if y=x then y :: l else x :: y :: l
theorem z129 : ∀ {l:List Int} {x:Int} {k:Nat} (hk:k<l.length),(l.take k).all (fun y=>decide (y<x))=true→l[k]=x→putI l x=l
  | y :: l, x, 0, hk, h, hx => by
    simp only[List.getElem_cons_zero] at hx
    simp [putI,hx]
  | y :: l, x, k + 1, hk, h, hx => by
    simp only[List.take_succ_cons,List.all_cons,Bool.and_eq_true,decide_eq_true_eq] at h
    simp only[putI,h.1,if_true]
    rw[z129 (k:=k) (by simpa using hk) h.2 (by simpa using hx)]
theorem z12a : ∀ {l:List Int} {x:Int} {k:Nat},(l.take k).all (fun y=>decide (y<x))=true→(∀ h:k<l.length,x<l[k])→k≤l.length→putI l x=l.take k++x :: l.drop k
  | [], x, k, h, hx, hk => by have : k = 0 := by simpa using hk
                              subst this;rfl
  | y :: l, x, 0, h, hx, hk => by
    have:=hx (by simp)
    simp only[List.getElem_cons_zero] at this
    have h1:¬y<x:=by omega
    have h2:¬y=x:=by omega
    simp [putI,h1,h2]
  | y :: l, x, k + 1, h, hx, hk => by
    simp only[List.take_succ_cons,List.all_cons,Bool.and_eq_true,decide_eq_true_eq] at h
    simp only[putI,h.1,if_true,List.take_succ_cons,List.drop_succ_cons,List.cons_append]
    rw[z12a (k:=k) h.2 (fun hh=>by have:=hx (by simpa using hh);simpa using this) (by simpa using hk)]
theorem z12b : ∀ (l:List Int) (x:Int),l.length≤(putI l x).length∧(putI l x).length≤l.length+1
  | [],x=>by simp [putI]
  | y :: l, x => by
    have:=z12b l x
    simp only[putI]
    split
    · simp;omega
    · split<;>simp
theorem z12c{l:List Int}{x y:Int}(h:y∈putI l x):y∈l∨y=x:=by
  induction l with
  | nil=>simp [putI] at h;exact .inr h
  | cons z l ih =>
    simp only[putI] at h
    split at h
    · rcases List.mem_cons.1 h with h | h
      · exact .inl (by simp [h])
      · rcases ih h with h | h
        · exact .inl (by simp [h])
        · exact .inr h
    · split at h
      · exact .inl h
      · rcases List.mem_cons.1 h with h | h
        · exact .inr h
        · exact .inl h
end Go.Proofs.YtbaclnecajkknaaGreat.Pi
namespace Go.Proofs.YtbaclnecajkknaaGreat.Pi
open Go
set_option linter.all false

structure Tr where
 inn:List Int
 out:List Int
 rst:List Int
structure Net where
 pl:Int
 tr:List Tr
abbrev encT(t:Tr):PV:=.agg [ints t.inn,ints t.out,ints t.rst]
abbrev trs(l:List Tr):PV:=.sl false 3 (l.map encT)
abbrev encN(n:Net):PV:=.agg [I n.pl,trs n.tr]
def smT(t:Tr):Prop:=t.inn.length<2^40∧t.out.length<2^40∧t.rst.length<2^40
def smN(n:Net):Prop:=n.tr.length<2^40∧∀ t∈n.tr,smT t
def smNet(n:Net):Prop:=(0<n.tr.length∧n.tr.length≤30)∧n.pl≤20∧∀ t∈n.tr,t.inn.length≤20∧t.out.length≤20∧t.rst.length≤20
theorem smNet.smN{n:Net}(h:smNet n):smN n:=⟨by have:=h.1;omega,fun t ht=>by have:=h.2.2 t ht;exact⟨by omega,by omega,by omega⟩⟩
def incr(l:List Int):Bool:=decide (l.Pairwise (· < ·))
theorem zml{l:List Int}:(l.take 1).Pairwise (· < ·):=by cases l<;>simp
theorem z10f{l:List Int}{x y:Int}(h:(l++[x]).Pairwise (· < ·))(hxy:x<y):(l++[x]++[y]).Pairwise (· < ·):=by
 rw[List.pairwise_append]
 refine⟨h,by simp,?_⟩
 intro a ha b hb
 simp only[List.mem_singleton] at hb
 subst hb
 rcases List.mem_append.1 ha with ha | ha
 ·have:=(List.pairwise_append.1 h).2.2 a ha x (by simp);omega
 ·simp only[List.mem_singleton] at ha;omega
theorem zmn{l:List Int}{k:Nat}(hk:k+1<l.length)(h:(l.take (k+1)).Pairwise (· < ·))(hx:l[k]'(by omega)<l[k+1]):(l.take (k+2)).Pairwise (· < ·):=by
 rw[z1ek (show k<l.length by omega)] at h
 rw[z1ek hk,z1ek (show k<l.length by omega)]
 exact z10f h hx
theorem zmk{l:List Int}{k:Nat}(hk:k+1<l.length)(hx:¬l[k]'(by omega)<l[k+1]):incr l=false:=by
 unfold incr
 rw[decide_eq_false_iff_not]
 intro h
 exact hx (List.pairwise_iff_getElem.1 h k (k+1) (by omega) hk (by omega))
def z10z(p:Int)(l:List Int):Bool:=incr l&&l.all (inB 0 (p-1))
theorem z110(p:Int)(l:List Int):(incr l&&l.all (inB 0 (p-1)))=z10z p l:=rfl
def goodT(p:Int)(t:Tr):Bool:=!t.inn.isEmpty&&z10z p t.inn&&z10z p t.out&&z10z p t.rst
def goodN(n:Net):Bool:=inB 1 16 n.pl&&decide (n.tr.length≤24)&&n.tr.all (goodT n.pl)
theorem zj8{n:Net}{k:Nat}(hk:k<n.tr.length)(h:goodT n.pl n.tr[k]=false):goodN n=false:=by
 unfold goodN;rw[z2y hk h];simp
theorem zjj{p:Int}{t:Tr}(h:t.inn.length=0):goodT p t=false:=by
 have:t.inn=[]:=List.eq_nil_of_length_eq_zero h
 simp [goodT,this]
theorem zjd{p:Int}{t:Tr}(h:t.inn.length≠0)(h1:z10z p t.inn=true)(h2:z10z p t.out=true)(h3:z10z p t.rst=true):goodT p t=true:=by
 have:t.inn.isEmpty=false:=by cases e:t.inn with
  | nil=>simp [e] at h
  | cons=>rfl
 simp [goodT,this,h1,h2,h3]
def at_(m:List Int)(p:Int):Int:=m.getD p.toNat 0
theorem at_eq{m:List Int}{p:Int}(h:p.toNat<m.length):m[p.toNat]=at_ m p:=by
 unfold at_;rw[List.getD_eq_getElem?_getD,List.getElem?_eq_getElem h];rfl
def canT(t:Tr)(m:List Int):Bool:=t.inn.all fun p=>!(at_ m p == 0)
def decS(m:List Int)(p:Int):List Int:=m.set p.toNat (at_ m p-1)
def zerS(m:List Int)(p:Int):List Int:=m.set p.toNat 0
def incS(m:List Int)(p:Int):List Int:=m.set p.toNat (at_ m p+1)
def decL(m l:List Int):List Int:=l.foldl decS m
def zerL(m l:List Int):List Int:=l.foldl zerS m
def incL(m l:List Int):List Int:=l.foldl incS m
def zgc(t:Tr)(m:List Int):List Int:=incL (zerL (decL m t.inn) t.rst) t.out
theorem zgy{α β:Type}(f:β→α→β)(b:β){l:List α}{k:Nat}(hk:k<l.length):(l.take (k+1)).foldl f b=f ((l.take k).foldl f b) l[k]:=by
 rw[z1ek hk,List.foldl_append];rfl
theorem zbv(m l:List Int):(decL m l).length=m.length:=by
 unfold decL
 induction l generalizing m with
 | nil=>rfl
 | cons x l ih=>rw[List.foldl_cons,ih];simp [decS]
theorem z1h7(m l:List Int):(zerL m l).length=m.length:=by
 unfold zerL
 induction l generalizing m with
 | nil=>rfl
 | cons x l ih=>rw[List.foldl_cons,ih];simp [zerS]
theorem zmf(m l:List Int):(incL m l).length=m.length:=by
 unfold incL
 induction l generalizing m with
 | nil=>rfl
 | cons x l ih=>rw[List.foldl_cons,ih];simp [incS]
theorem zge(t:Tr)(m:List Int):(zgc t m).length=m.length:=by
 unfold zgc;rw[zmf,z1h7,zbv]
theorem z4k{m:List Int}{p lo hi:Int}(h : ∀ x∈m,lo≤x∧x≤hi)(hp:p.toNat<m.length):lo≤at_ m p∧at_ m p≤hi:=by
 rw[←at_eq hp];exact h _ (List.getElem_mem hp)
theorem zso{m:List Int}{i:Nat}{v x:Int}(h:x∈m.set i v):x∈m∨x=v:=List.mem_or_eq_of_mem_set h
theorem zbu{m l:List Int}{lo hi:Int}(h : ∀ x∈m,lo≤x∧x≤hi)(hl : ∀ p∈l,p.toNat<m.length) : ∀ x∈decL m l,lo-l.length≤x∧x≤hi:=by
  unfold decL
  induction l generalizing m lo with
  | nil=>intro x hx;have:=h x hx;simp;omega
  | cons p l ih =>
    rw[List.foldl_cons]
    have hp:=z4k h (hl p (by simp))
    intro x hx
    have h2:=ih (m:=decS m p) (lo:=lo-1) (by
      intro y hy
      rcases zso hy with hy | hy
      · have:=h y hy;omega
      · omega) (by intro q hq;simp [decS];exact hl q (by simp [hq])) x hx
    simp only[List.length_cons];omega
theorem z1h6{m l:List Int}{lo hi:Int}(h : ∀ x∈m,lo≤x∧x≤hi)(h0:lo≤0∧0≤hi) : ∀ x∈zerL m l,lo≤x∧x≤hi:=by
  unfold zerL
  induction l generalizing m with
  | nil=>exact h
  | cons p l ih =>
    rw[List.foldl_cons]
    refine ih ?_
    intro y hy
    rcases zso hy with hy | hy
    · exact h y hy
    · omega
theorem zme{m l:List Int}{lo hi:Int}(h : ∀ x∈m,lo≤x∧x≤hi)(hl : ∀ p∈l,p.toNat<m.length) : ∀ x∈incL m l,lo≤x∧x≤hi+l.length:=by
  unfold incL
  induction l generalizing m hi with
  | nil=>intro x hx;have:=h x hx;simp;omega
  | cons p l ih =>
    rw[List.foldl_cons]
    have hp:=z4k h (hl p (by simp))
    intro x hx
    have h2:=ih (m:=incS m p) (hi:=hi+1) (by
      intro y hy
      rcases zso hy with hy | hy
      · have:=h y hy;omega
      · omega) (by intro q hq;simp [incS];exact hl q (by simp [hq])) x hx
    simp only[List.length_cons];omega
theorem zbw{m l:List Int}{k:Nat}(hk:k<l.length):decL m (l.take (k+1))=(decL m (l.take k)).set (l[k].toNat) (at_ (decL m (l.take k)) l[k]-1):=by
 unfold decL;rw[zgy _ _ hk];rfl
theorem z1h8{m l:List Int}{k:Nat}(hk:k<l.length):zerL m (l.take (k+1))=(zerL m (l.take k)).set (l[k].toNat) 0:=by
 unfold zerL;rw[zgy _ _ hk];rfl
theorem zmg{m l:List Int}{k:Nat}(hk:k<l.length):incL m (l.take (k+1))=(incL m (l.take k)).set (l[k].toNat) (at_ (incL m (l.take k)) l[k]+1):=by
 unfold incL;rw[zgy _ _ hk];rfl
theorem z111{p:Int}{l:List Int}(h:z10z p l=true) : ∀ x∈l,0≤x∧x<p:=by
 simp only[z10z,Bool.and_eq_true,List.all_eq_true] at h
 intro x hx
 have:=h.2 x hx
 simp [inB] at this;omega
theorem zmj : ∀ {l:List Int} {lo hi:Int},l.Pairwise (· < ·)→(∀ x∈l,lo≤x∧x<hi)→lo≤hi→(l.length:Int)≤hi-lo
  | [],_,_,_,_,h=>by simp;omega
  | a :: l, lo, hi, hp, hb, h => by
    rw[List.pairwise_cons] at hp
    have ha:=hb a (by simp)
    have:=zmj (l:=l) (lo:=a+1) (hi:=hi) hp.2 (fun x hx=>⟨by have:=hp.1 x hx;omega,(hb x (by simp [hx])).2⟩) (by omega)
    simp only[List.length_cons];omega
theorem z113{p:Int}{l:List Int}(h:z10z p l=true)(h0:0≤p):(l.length:Int)≤p:=by
 have h1:l.Pairwise (· < ·):=by simp [z10z,incr] at h;exact h.1
 have:=zmj h1 (z111 h) h0;omega
theorem zjk{p:Int}{t:Tr}(h:goodT p t=true):t.inn≠[]∧z10z p t.inn=true∧z10z p t.out=true∧z10z p t.rst=true:=by
 simp [goodT] at h
 exact⟨h.1.1.1,h.1.1.2,h.1.2,h.2⟩
theorem zja{n:Net}(h:goodN n=true):1≤n.pl∧n.pl≤16∧n.tr.length≤24∧∀ t∈n.tr,goodT n.pl t=true:=by
 simp [goodN,inB] at h
 exact⟨h.1.1.1,h.1.1.2,h.1.2,h.2⟩
theorem zjh{p:Int}{t:Tr}{m:List Int}(h:goodT p t=true)(hm:(m.length:Int)=p):(∀ q∈t.inn,0≤q∧q.toNat<m.length)∧(∀ q∈t.out,0≤q∧q.toNat<m.length)∧(∀ q∈t.rst,0≤q∧q.toNat<m.length):=by
 obtain⟨_,h1,h2,h3⟩:=zjk h
 refine⟨fun q hq=>?_,fun q hq=>?_,fun q hq=>?_⟩
 ·have:=z111 h1 q hq;omega
 ·have:=z111 h2 q hq;omega
 ·have:=z111 h3 q hq;omega
theorem zjg{p:Int}{t:Tr}(h:goodT p t=true)(hp:0≤p∧p≤16):t.inn.length≤16∧t.out.length≤16∧t.rst.length≤16:=by
 obtain⟨_,h1,h2,h3⟩:=zjk h
 have:=z113 h1 hp.1
 have:=z113 h2 hp.1
 have:=z113 h3 hp.1
 omega
def zs4(n:Net)(m:List Int):Bool:=goodN n&&goodM n.pl m
def trAt(n:Net)(t:Int):Tr:=n.tr.getD t.toNat ⟨[],[],[]⟩
theorem z1ex{n:Net}{t:Int}(h:t.toNat<n.tr.length):n.tr[t.toNat]=trAt n t:=by
 unfold trAt;rw[List.getD_eq_getElem?_getD,List.getElem?_eq_getElem h];rfl
def canN(n:Net)(m:List Int)(t:Int):Bool:=zs4 n m&&inB 0 (n.tr.length-1) t&&canT (trAt n t) m
def zvy(n:Net)(m:List Int)(t:Int):Bool:=canN n m t&&(zgc (trAt n t) m).all (inB 0 50)
theorem zs5{n:Net}{m:List Int}(h:zs4 n m=true):goodN n=true∧goodM n.pl m=true:=by simpa [zs4] using h
theorem z8e{n:Net}{m:List Int}{t:Int}(h:canN n m t=true):goodN n=true∧goodM n.pl m=true∧0≤t∧t.toNat<n.tr.length∧canT (trAt n t) m=true∧goodT n.pl (trAt n t)=true:=by
 simp only[canN,Bool.and_eq_true,inB,decide_eq_true_eq] at h
 obtain⟨⟨h1,h2⟩,h3⟩:=h
 obtain⟨h4,h5⟩:=zs5 h1
 have h6:t.toNat<n.tr.length:=by omega
 refine⟨h4,h5,h2.1,h6,h3,?_⟩
 have:=(zja h4).2.2.2 n.tr[t.toNat] (List.getElem_mem h6)
 rwa [z1ex h6] at this
def enabK(n:Net)(m:List Int)(k:Nat):List Int:=((List.range k).filter fun i=>canT (n.tr.getD i ⟨[],[],[]⟩) m).map Int.ofNat
def enabL(n:Net)(m:List Int):List Int:=enabK n m n.tr.length
theorem zd2(n:Net)(m:List Int)(k:Nat):(enabK n m k).length≤k:=by
 have:=List.length_filter_le (fun i=>canT (n.tr.getD i ⟨[],[],[]⟩) m) (List.range k)
 simp only[enabK,List.length_map];simp at this ⊢;omega
theorem zd3{n:Net}{m:List Int}{k:Nat}(hk:k<n.tr.length)(h:canT n.tr[k] m=true):enabK n m (k+1)=enabK n m k++[(k:Int)]:=by
 have e:n.tr[k]?.getD ⟨[],[],[]⟩=n.tr[k]:=by rw[List.getElem?_eq_getElem hk];rfl
 simp [enabK,List.range_succ,List.filter_append,e,h]
theorem zd1{n:Net}{m:List Int}{k:Nat}(hk:k<n.tr.length)(h:canT n.tr[k] m=false):enabK n m (k+1)=enabK n m k:=by
 have e:n.tr[k]?.getD ⟨[],[],[]⟩=n.tr[k]:=by rw[List.getElem?_eq_getElem hk];rfl
 simp [enabK,List.range_succ,List.filter_append,e,h]
theorem zd4{n:Net}{m:List Int}{t:Int}:t∈enabL n m↔0≤t∧t.toNat<n.tr.length∧canT (trAt n t) m=true:=by
 simp only[enabL,enabK,List.mem_map,List.mem_filter,List.mem_range,trAt]
 constructor
 ·rintro⟨i,⟨h1,h2⟩,rfl⟩
  exact⟨by simp,by simpa using h1,by simpa using h2⟩
 ·rintro⟨h1,h2,h3⟩
  exact⟨t.toNat,⟨h2,h3⟩,by simp;omega⟩
/-! Firing is monotone. -/
end Go.Proofs.YtbaclnecajkknaaGreat.Pi
namespace Go.Proofs.YtbaclnecajkknaaGreat.Pi
open Go
set_option linter.all false

theorem zw1{n:Net}{m:List Int}{t:Int}(h:zvy n m t=true):zs4 n (zgc (trAt n t) m)=true:=by
 obtain⟨h1,h2⟩:=Bool.and_eq_true ..▸h
 obtain⟨h3,h4,_⟩:=z8e h1
 have h5:=zj2 h4
 simp only[zs4,h3,Bool.true_and,goodM,zge,h2,Bool.and_true]
 simp [inB];omega
theorem zw0{n:Net}{m:List Int}{t:Int}(h:zvy n m t=true):t∈enabL n m:=by
 obtain⟨h1,h2⟩:=Bool.and_eq_true ..▸h
 obtain⟨h3,h4,h5,h6,h7,h8⟩:=z8e h1
 exact zd4.2 ⟨h5,h6,h7⟩
def areTr(n:Net)(l:List Int):Bool:=decide (l.length≤60)&&l.all (inB 0 (n.tr.length-1))
end Go.Proofs.YtbaclnecajkknaaGreat.Pi
namespace Go.Proofs.YtbaclnecajkknaaGreat.Pi
open Go
set_option linter.all false

/-! Tokens place by place. -/
/-! Nets turned. -/
/-! Transitions with a property. -/
def hasB(l:List Int)(p:Int):Bool:=decide (p∈l)
theorem zjy(l:List Int)(p:Int):hasB l p=l.any (fun x=>x == p):=by
 unfold hasB
 rw[Bool.eq_iff_iff,List.any_eq_true]
 simp only[decide_eq_true_eq,beq_iff_eq]
 exact⟨fun h=>⟨p,h,rfl⟩,fun⟨x,h,e⟩=>e▸h⟩
theorem zk0{l:List Int}{p:Int}(h:l.any (fun x=>x == p)=false):hasB l p=false:=by rw[zjy,h]
theorem zk1{l:List Int}{p:Int}{k:Nat}(hk:k<l.length)(h:l[k]=p):hasB l p=true:=by
 subst h;simp [hasB]
/-! Free choice. -/
end Go.Proofs.YtbaclnecajkknaaGreat.Pi
namespace Go.Proofs.YtbaclnecajkknaaGreat.Pi
open Go
set_option linter.all false

def one(b:Bool):Int:=if b then 1 else 0
end Go.Proofs.YtbaclnecajkknaaGreat.Pi
namespace Go.Proofs.YtbaclnecajkknaaGreat.Pi
open Go
set_option linter.all false

theorem z1a{orc:Orc}{m:Nat}{st:St}{Q:Out→Prop}{keep:List Bool}{b:ICode}(Inv:Nat→St→Prop)(n:Nat)(h0:Inv n (gc m ⟨clean keep st.fr,st.mem⟩))
    (step : ∀ k s,Inv k s→W orc m b s (fun o=>match o with | .next s'=>∃ j,j<k∧Inv j (gc m ⟨clean keep s'.fr,s'.mem⟩) | o=>Q o)):W orc m (.loop keep b) st Q:=by
  have key : ∀ (d k:Nat) (st:St),k<d→Inv k (gc m ⟨clean keep st.fr,st.mem⟩)→W orc m (.loop keep b) st Q:=by
    intro d
    induction d with
    | zero=>intro k st hk;omega
    | succ d ih =>
      intro k st hk hI
      obtain⟨o,h1,h2⟩:=step k _ hI
      cases o with
      | next s' =>
        obtain⟨j,hj,h5⟩:=h2
        obtain⟨o',h3,h4⟩:=ih j s' (by omega) h5
        simp only[run] at h3
        exact⟨o',by simp only[run];rw[znc,h1];exact h3,h4⟩
      | ret s'=>exact⟨_,by simp only[run];rw[znc,h1],h2⟩
      | exit i s'=>exact⟨_,by simp only[run];rw[znc,h1],h2⟩
  exact key (n+1) n st (by omega) h0
theorem z3b{α:Type}{l:List α}{p:α→Bool}{k:Nat}(hk:k<l.length)(h:(l.take k).any p=true):(l.take (k+1)).any p=true:=by
 rw[z1ek hk,List.any_append,h];rfl
theorem z39{α:Type}{l:List α}{p:α→Bool}{k:Nat}(hk:k<l.length)(h:p l[k]=true):(l.take (k+1)).any p=true:=by
 rw[z1ek hk,List.any_append];simp [h]
@[go_sem] theorem z1ab{mem:List Blk}{sz sz':Nat}{fl:Bool}{lo hi:Option PV}:z1aa mem sz (.nil fl sz') lo hi=if sz'=sz then(bound 0 lo).bind fun l=>(bound 0 hi).bind fun h=>if l=0∧h=0 then some (.nil fl sz) else none else none:=rfl
attribute [go_sem] List.getElem?_nil
abbrev bls(l:List Bool):PV:=.sl true 1 (l.map PV.bool)
/-! What can be come to: z10z and transitions are zs4 round by round. -/
structure Cl where
 pl:List Bool
 tr:List Bool
 ch:Bool
def hitB(P:List Bool)(l:List Int):Bool:=l.any fun p=>P.getD p.toNat false
def markB(P:List Bool)(l:List Int):List Bool:=l.foldl (fun a p=>a.set p.toNat true) P
theorem zrx(P:List Bool)(l:List Int):(markB P l).length=P.length:=by
 unfold markB
 induction l generalizing P with
 | nil=>rfl
 | cons p l ih=>rw[List.foldl_cons,ih];simp
theorem zry{P:List Bool}{l:List Int}{k:Nat}(hk:k<l.length):markB P (l.take (k+1))=(markB P (l.take k)).set (l[k].toNat) true:=by
 unfold markB;rw[zgy _ _ hk]
def sideI(bk:Bool)(t:Tr):List Int:=if bk then t.out else t.inn
def sideO(bk:Bool)(t:Tr):List Int:=if bk then t.inn else t.out
def trN(n:Net)(k:Nat):Tr:=n.tr.getD k ⟨[],[],[]⟩
theorem z1f3{n:Net}{k:Nat}(hk:k<n.tr.length):trN n k=n.tr[k]:=by
 unfold trN;rw[List.getD_eq_getElem?_getD,List.getElem?_eq_getElem hk];rfl
def z9t(n:Net)(bk:Bool)(s:Cl)(k:Nat):Cl:=if s.tr.getD k false||!hitB s.pl (sideI bk (trN n k)) then s else⟨markB s.pl (sideO bk (trN n k)),s.tr.set k true,true⟩
def clK(n:Net)(bk:Bool)(s:Cl)(k:Nat):Cl:=(List.range k).foldl (z9t n bk) ⟨s.pl,s.tr,false⟩
def z9n(n:Net)(bk:Bool)(s:Cl):Cl:=clK n bk s n.tr.length
def clRun(n:Net)(bk:Bool):Nat→Cl→Cl
 | 0,s=>s
 | f+1,s=>if (z9n n bk s).ch then clRun n bk f (z9n n bk s) else z9n n bk s
theorem z9m(n:Net)(bk:Bool)(s:Cl)(k:Nat):clK n bk s (k+1)=z9t n bk (clK n bk s k) k:=by
 simp [clK,List.range_succ,List.foldl_append]
theorem z9w{n:Net}{bk:Bool}{s:Cl}{k:Nat}(h:s.tr.getD k false=true∨hitB s.pl (sideI bk (trN n k))=false):z9t n bk s k=s:=by
 unfold z9t
 rcases h with h | h
 ·rw[h];rfl
 ·rw[h];simp
theorem z9x{n:Net}{bk:Bool}{s:Cl}{k:Nat}(h:s.tr.getD k false=false)(h2:hitB s.pl (sideI bk (trN n k))=true):z9t n bk s k=⟨markB s.pl (sideO bk (trN n k)),s.tr.set k true,true⟩:=by
 unfold z9t
 rw[h,h2];rfl
theorem z9v(n:Net)(bk:Bool)(s:Cl)(k:Nat):(z9t n bk s k).pl.length=s.pl.length∧(z9t n bk s k).tr.length=s.tr.length:=by
 unfold z9t
 split
 ·exact⟨rfl,rfl⟩
 ·exact⟨zrx ..,by simp⟩
theorem z9k(n:Net)(bk:Bool)(s:Cl)(k:Nat):(clK n bk s k).pl.length=s.pl.length∧(clK n bk s k).tr.length=s.tr.length:=by
  induction k with
  | zero=>exact⟨rfl,rfl⟩
  | succ k ih =>
    rw[z9m]
    have:=z9v n bk (clK n bk s k) k
    omega
theorem z9r(n:Net)(bk:Bool)(f:Nat) : ∀ (s:Cl),(clRun n bk f s).pl.length=s.pl.length∧(clRun n bk f s).tr.length=s.tr.length:=by
  induction f with
  | zero=>intro s;exact⟨rfl,rfl⟩
  | succ f ih =>
    intro s
    have h:=z9k n bk s n.tr.length
    have h2:=ih (z9n n bk s)
    unfold clRun
    unfold z9n at h2 ⊢
    split<;>omega
def cntF(l:List Bool):Nat:=l.countP (!·)
theorem zan{l:List Bool}{k:Nat}(hk:k<l.length)(h:l.getD k false=false):cntF (l.set k true)<cntF l:=by
  induction l generalizing k with
  | nil=>simp at hk
  | cons x l ih =>
    cases k with
    | zero=>simp at h;subst h;simp [cntF]
    | succ k =>
      have:=ih (k:=k) (by simpa using hk) (by simpa using h)
      simp only[cntF,List.set_cons_succ,List.countP_cons] at this ⊢
      omega
theorem z9u{n:Net}{bk:Bool}{s:Cl}{k:Nat}(hk:k<s.tr.length):cntF (z9t n bk s k).tr≤cntF s.tr∧((z9t n bk s k).ch=true→s.ch=true∨cntF (z9t n bk s k).tr<cntF s.tr):=by
 unfold z9t
 split
 ·exact⟨Nat.le_refl _,fun h=>.inl h⟩
 ·rename_i h
  have h1:s.tr.getD k false=false:=by
   cases e:s.tr.getD k false
   ·rfl
   ·rw[e] at h;simp at h
  have:=zan hk h1
  exact⟨by simp only;omega,fun _=>.inr this⟩
theorem z9j{n:Net}{bk:Bool}{s:Cl}{k:Nat}(hk:k≤s.tr.length):cntF (clK n bk s k).tr≤cntF s.tr∧((clK n bk s k).ch=true→cntF (clK n bk s k).tr<cntF s.tr):=by
  induction k with
  | zero=>exact⟨Nat.le_refl _,fun h=>by simp [clK] at h⟩
  | succ k ih =>
    have h1:=ih (by omega)
    rw[z9m]
    have h2:=z9u (n:=n) (bk:=bk) (s:=clK n bk s k) (k:=k) (by rw[(z9k ..).2];omega)
    refine⟨by omega,fun h=>?_⟩
    rcases h2.2 h with h3 | h3
    · have:=h1.2 h3;omega
    · omega
theorem zal(l:List Bool):cntF l≤l.length:=List.countP_le_length
theorem z9p{n:Net}{bk:Bool} : ∀ {f:Nat} {s:Cl},s.tr.length=n.tr.length→cntF s.tr<f→clRun n bk f s=clRun n bk (f+1) s
  | 0,_,_,h=>by omega
  | f + 1, s, hl, h => by
    show(if (z9n n bk s).ch then clRun n bk f (z9n n bk s) else z9n n bk s)=(if (z9n n bk s).ch then clRun n bk (f+1) (z9n n bk s) else z9n n bk s)
    cases e:(z9n n bk s).ch with
    | false=>rfl
    | true =>
      simp only[if_true]
      have h1:=(z9j (n:=n) (bk:=bk) (s:=s) (k:=n.tr.length) (by omega)).2 e
      exact z9p (by rw[z9n,(z9k ..).2,hl]) (by unfold z9n;omega)
theorem z9q{n:Net}{bk:Bool}{s:Cl}(hl:s.tr.length=n.tr.length) : ∀ {d f:Nat},cntF s.tr<f→clRun n bk f s=clRun n bk (f+d) s
 | 0,_,_=>rfl
 | d+1,f,h=>by rw[z9q (d:=d) hl h,z9p hl (by omega)];rfl
theorem z9s{n:Net}{bk:Bool}{s:Cl}(hl:s.tr.length=n.tr.length):clRun n bk (cntF s.tr+1) s=if (z9n n bk s).ch then clRun n bk (cntF (z9n n bk s).tr+1) (z9n n bk s) else z9n n bk s:=by
  show(if (z9n n bk s).ch then clRun n bk (cntF s.tr) (z9n n bk s) else z9n n bk s)=_
  cases e:(z9n n bk s).ch with
  | false=>rfl
  | true =>
    simp only[if_true]
    have h1:=(z9j (n:=n) (bk:=bk) (s:=s) (k:=n.tr.length) (by omega)).2 e
    have h2:(z9n n bk s).tr.length=n.tr.length:=by rw[z9n,(z9k ..).2,hl]
    have h3:=z9q (n:=n) (bk:=bk) h2 (d:=cntF s.tr-(cntF (z9n n bk s).tr+1)) (f:=cntF (z9n n bk s).tr+1) (by omega)
    rw[h3]
    congr 1
    unfold z9n;omega
theorem zam(k:Nat):cntF (List.replicate k false)=k:=by
 unfold cntF;rw[List.countP_replicate];simp
def z132(n:Net)(bk:Bool)(p:Int):Cl:=clRun n bk (n.tr.length+1) ⟨(List.replicate n.pl.toNat false).set p.toNat true,List.replicate n.tr.length false,true⟩
theorem z135(n:Net)(bk:Bool)(p:Int):(z132 n bk p).pl.length=n.pl.toNat∧(z132 n bk p).tr.length=n.tr.length:=by
 have:=z9r n bk (n.tr.length+1) ⟨(List.replicate n.pl.toNat false).set p.toNat true,List.replicate n.tr.length false,true⟩
 simpa [z132] using this
theorem z133(n:Net)(bk:Bool)(p:Int):z132 n bk p=clRun n bk (cntF (List.replicate n.tr.length false)+1) ⟨(List.replicate n.pl.toNat false).set p.toNat true,List.replicate n.tr.length false,true⟩:=by
 rw[zam];rfl
theorem zig{l:List Bool}{k:Nat}(hk:k<l.length):l[k]=l.getD k false:=by
 rw[List.getD_eq_getElem?_getD,List.getElem?_eq_getElem hk];rfl
def bothK(a b:List Bool)(k:Nat):List Int:=((List.range k).filter fun i=>a.getD i false&&b.getD i false).map Int.ofNat
def bothL(a b:List Bool):List Int:=bothK a b a.length
theorem z72(a b:List Bool)(k:Nat):(bothK a b k).length≤k:=by
 have:=List.length_filter_le (fun i=>a.getD i false&&b.getD i false) (List.range k)
 simp only[bothK,List.length_map];simp at this ⊢;omega
theorem z73{a b:List Bool}{k:Nat}(h:a.getD k false=true)(h2:b.getD k false=true):bothK a b (k+1)=bothK a b k++[(k:Int)]:=by
 simp only[bothK,List.range_succ,List.filter_append,List.filter_cons,h,h2,Bool.and_self,if_true,List.filter_nil,List.map_append];rfl
theorem z71{a b:List Bool}{k:Nat}(h:(a.getD k false&&b.getD k false)=false):bothK a b (k+1)=bothK a b k:=by
 simp only[bothK,List.range_succ,List.filter_append,List.filter_cons,h,Bool.false_eq_true,if_false,List.filter_nil,List.append_nil]
def wayP(n:Net)(a b:Int):List Int:=bothL (z132 n false a).pl (z132 n true b).pl
def wayT(n:Net)(a b:Int):List Int:=bothL (z132 n false a).tr (z132 n true b).tr
def okWay(n:Net)(a b:Int):Bool:=goodN n&&inB 0 (n.pl-1) a&&inB 0 (n.pl-1) b
/-! Flows. -/
structure Fl where
 net:Net
 src:Int
 dst:Int
abbrev encF(f:Fl):PV:=.agg [I f.net.pl,trs f.net.tr,I f.src,I f.dst]
def z1bp(f:Fl)(t:Tr):Bool:=hasB t.out f.src||hasB t.inn f.dst||hasB t.rst f.src||hasB t.rst f.dst
def ziu(f:Fl):Bool:=okWay f.net f.src f.dst&&!decide (f.src=f.dst)&&f.net.tr.all (fun t=>!z1bp f t)&&decide (((wayP f.net f.src f.dst).length:Int)=f.net.pl)&&decide ((wayT f.net f.src f.dst).length=f.net.tr.length)
theorem ziy{f:Fl}(h:ziu f=true):goodN f.net=true∧(0≤f.src∧f.src<f.net.pl)∧(0≤f.dst∧f.dst<f.net.pl)∧f.src≠f.dst∧(∀ t∈f.net.tr,z1bp f t=false)∧((wayP f.net f.src f.dst).length:Int)=f.net.pl∧(wayT f.net f.src f.dst).length=f.net.tr.length:=by
 simp only[ziu,okWay,inB,Bool.and_eq_true,decide_eq_true_eq,Bool.not_eq_true',decide_eq_false_iff_not,List.all_eq_true] at h
 obtain⟨⟨⟨⟨⟨⟨h1,h2⟩,h3⟩,h4⟩,h5⟩,h6⟩,h7⟩:=h
 exact⟨h1,by omega,by omega,h4,h5,h6,h7⟩
/-! Drawn flows: how much grows. -/
def growT:Nat→Nat
 | 0=>1
 | d+1=>2+2*growT d
def growC:Nat→Nat
 | 0=>0
 | d+1=>2+2*growC d
theorem zjq(d:Nat):d<growT d:=by
 induction d with
 | zero=>decide
 | succ d ih=>have:growT (d+1)=2+2*growT d:=rfl;omega
theorem zjr{d:Nat}(h:d≤3):growT d≤22∧growC d≤14:=by
 rcases d with _ | _ | _ | _ | d<;>first | omega | decide
def smq(q:Nat)(tr:List Tr):Prop:=∀ t∈tr,t.inn.length≤q∧t.out.length≤q∧t.rst.length≤q
theorem z1b6{q q':Nat}{tr:List Tr}(hq:q≤q')(h:smq q tr):smq q' tr:=fun t ht=>by have:=h t ht;omega
theorem z1b9{q:Nat}{tr:List Tr}{t:Tr}(h:smq q tr)(ht:t.inn.length≤q∧t.out.length≤q∧t.rst.length≤q):smq q (tr++[t]):=by
 intro u hu
 rcases List.mem_append.1 hu with hu | hu
 ·exact h u hu
 ·simp only[List.mem_singleton] at hu;subst hu;exact ht
theorem z1b8{q:Nat}{tr:List Tr}{t:Tr}{k:Nat}(h:smq q tr)(ht:t.inn.length≤q∧t.out.length≤q∧t.rst.length≤q):smq q (tr.set k t):=by
 intro u hu
 rcases List.mem_or_eq_of_mem_set hu with hu | rfl
 ·exact h u hu
 ·exact ht
theorem z1b7{q:Nat}:smq q []:=fun t ht=>by simp at ht
def oneM(n:Nat)(p:Int):List Int:=(List.replicate n 0).set p.toNat 1
end Go.Proofs.YtbaclnecajkknaaGreat.Pi
namespace Go.Proofs.YtbaclnecajkknaaGreat.Pi
open Go
set_option linter.all false

@[go_sem] theorem z69{bl:Bool}{k:IntKind}{x y:Int}:binV bl .andNot (.int k x) (.int k y)=some (.int k (bits .andNot k x y)):=by simp [binV,binI]
end Go.Proofs.YtbaclnecajkknaaGreat.Pi
namespace Go.Proofs.YtbaclnecajkknaaGreat.Pi
open Go
set_option linter.all false

structure Tk where
 join:Int
 split:Int
 inn:List Int
 out:List Int
 cut:List Int
 stop:List Int
 role:Int
 deriving DecidableEq
structure Spc where
 conds:Int
 tasks:List Tk
 deriving DecidableEq
/-! ### Sizes -/
/-! ### Copies, in part done -/
/-! ### Equality, by steps -/
/-! ### Marks -/
/-! ### What a specification lays out -/
structure Mv where
 task:Int
 begin_:Bool
 pick:Int
 deriving DecidableEq
/-! ### A specification's fields, zs4 -/
/-! ### Cases -/
structure Cs where
 state:Int
 mark:List Int
 deriving DecidableEq
end Go.Proofs.YtbaclnecajkknaaGreat.Pi
namespace Go.Proofs.YtbaclnecajkknaaGreat.Pi
open Go
set_option linter.all false

instance decTr:DecidableEq Tr:=fun a b=>decidable_of_iff (a.inn=b.inn∧a.out=b.out∧a.rst=b.rst) (by cases a;cases b;simp)
instance decNet:DecidableEq Net:=fun a b=>decidable_of_iff (a.pl=b.pl∧a.tr=b.tr) (by cases a;cases b;simp)
/-! ### Sizes of nets -/
/-! ### Copies, in part done -/
/-! ### A net's fields, zs4 -/
/-! ### Trees -/
structure Br where
 op:Int
 n:Int
 deriving DecidableEq
abbrev encB(b:Br):PV:=.agg [I b.op,I b.n]
abbrev brs(l:List Br):PV:=.sl true 2 (l.map encB)
def pileB:List Br→Nat→Option Nat
 | [],p=>some p
 | b :: t,p=>if b.op=1∧1≤b.n∧b.n≤9 then pileB t (p+1) else if 2≤b.op∧b.op≤5∧b.n=0∧2≤p then pileB t (p-1) else none
def zjn(l:List Br):Bool:=decide (l.length≤15)&&(pileB l 0 == some 1)
/-! ### Letters and words -/
def zj0(n:Net)(l:List Int):Bool:=goodN n&&decide (l.length=n.tr.length)&&l.all (inB 0 9)
def wordP(l q:List Int):List Int:=(q.map (at_ l)).filter fun x=>decide (0<x)
def wordV(n:Net)(l q:List Int):List Int:=if (zj0 n l&&areTr n q)=true then wordP l q else []
theorem z1gr{l q:List Int}{k:Nat}(h:k<q.length):wordP l (q.take (k+1))=if 0<at_ l q[k] then wordP l (q.take k)++[at_ l q[k]] else wordP l (q.take k):=by
 unfold wordP
 rw[List.take_succ_eq_append_getElem h,List.map_append,List.filter_append]
 split
 ·rename_i h;simp [h]
 ·rename_i h;simp [h]
theorem z1gq(l q:List Int):(wordP l q).length≤q.length:=by
 unfold wordP
 exact Nat.le_trans (List.length_filter_le _ _) (by simp)
end Go.Proofs.YtbaclnecajkknaaGreat.Pi
namespace Go.Proofs.YtbaclnecajkknaaGreat.Pi
open Go
set_option linter.all false

inductive PT where
 | leaf (n:Int)
 | node (o:Int) (a b:PT)
def PT.post:PT→List Br
 | .leaf n=>[⟨1,n⟩]
 | .node o a b=>a.post++b.post++[⟨o,0⟩]
def PT.wf:PT→Prop
 | .leaf n=>1≤n∧n≤9
 | .node o a b=>(2≤o∧o≤5)∧a.wf∧b.wf
theorem PT.post_pos : ∀ T:PT,1≤T.post.length
 | .leaf _=>by simp [PT.post]
 | .node _ _ _=>by simp [PT.post];omega
def pT:List Br→List PT→Option (List PT)
  | [],Ts=>some Ts
  | b :: t, Ts => if b.op = 1 ∧ 1 ≤ b.n ∧ b.n ≤ 9 then pT t (.leaf b.n :: Ts) else
    if 2≤b.op∧b.op≤5∧b.n=0 then(match Ts with | y :: x :: R=>pT t (.node b.op x y :: R) | _=>none) else none
theorem zzh : ∀ (l:List Br) (p r:Nat) (Ts:List PT),pileB l p=some r→Ts.length=p→∃ Us,pT l Ts=some Us∧Us.length=r
  | [],p,r,Ts,h,hl=>by simp [pileB] at h;exact⟨Ts,rfl,by omega⟩
  | b :: t, p, r, Ts, h, hl => by
    unfold pileB at h
    unfold pT
    split at h
    · rename_i hc
      rw[if_pos hc]
      exact zzh t (p+1) r _ h (by simp [hl])
    · rename_i hc
      rw[if_neg hc]
      split at h
      · rename_i hd
        rw[if_pos ⟨hd.1,hd.2.1,hd.2.2.1⟩]
        match Ts,hl with
        | y :: x :: R, hl =>
          exact zzh t (p-1) r _ h (by simp at hl ⊢;omega)
        | [_],hl=>simp at hl;omega
        | [],hl=>simp at hl;omega
      · cases h
def flatP(Ts:List PT):List Br:=Ts.reverse.flatMap PT.post
theorem zgm(T:PT)(Ts:List PT):flatP (T :: Ts)=flatP Ts++T.post:=by simp [flatP,List.flatMap_append]
theorem zzg : ∀ (l:List Br) (Ts Us:List PT),pT l Ts=some Us→(∀ T∈Ts,T.wf)→flatP Us=flatP Ts++l∧∀ T∈Us,T.wf
  | [],Ts,Us,h,hw=>by simp [pT] at h;subst h;exact⟨by simp,hw⟩
  | b :: t, Ts, Us, h, hw => by
    unfold pT at h
    split at h
    · rename_i hc
      obtain⟨h1,h2⟩:=zzg t _ Us h (by
        intro T hT
        rcases List.mem_cons.1 hT with rfl | hT
        · exact⟨hc.2.1,hc.2.2⟩
        · exact hw T hT)
      refine⟨?_,h2⟩
      obtain⟨o,n⟩:=b
      simp only at hc
      rw[h1,zgm,PT.post,hc.1];simp
    · split at h
      · rename_i hd
        split at h
        · rename_i y x R
          obtain⟨h1,h2⟩:=zzg t _ Us h (by
            intro T hT
            rcases List.mem_cons.1 hT with rfl | hT
            · exact⟨⟨hd.1,hd.2.1⟩,hw x (by simp),hw y (by simp)⟩
            · exact hw T (by simp [hT]))
          refine⟨?_,h2⟩
          obtain⟨o,n⟩:=b
          simp only at hd
          rw[h1,zgm,zgm,zgm,PT.post,hd.2.2];simp
        · cases h
      · cases h
theorem zjo{l:List Br}(h:zjn l=true):l.length≤15∧∃ T:PT,T.wf∧T.post=l∧pT l []=some [T]:=by
 simp only[zjn,Bool.and_eq_true,decide_eq_true_eq,beq_iff_eq] at h
 refine⟨h.1,?_⟩
 obtain⟨Us,h1,h2⟩:=zzh l 0 1 [] h.2 rfl
 obtain⟨T,rfl⟩:=List.length_eq_one_iff.1 h2
 obtain⟨h3,h4⟩:=zzg l [] [T] h1 (by simp)
 refine⟨T,h4 T (by simp),?_,h1⟩
 simpa [flatP] using h3
theorem z10y{l:List Br}{k p:Nat}(hk:k<l.length):pileB (l.drop k) p=if l[k].op=1∧1≤l[k].n∧l[k].n≤9 then pileB (l.drop (k+1)) (p+1) else if 2≤l[k].op∧l[k].op≤5∧l[k].n=0∧2≤p then pileB (l.drop (k+1)) (p-1) else none:=by
 rw[List.drop_eq_getElem_cons hk,pileB]
/-! ### The root of the first part, read backwards -/
def wB(b:Br):Int:=if b.op=1 then -1 else 1
def needB(l:List Br)(j:Nat):Int:=1+((l.reverse.take j).map wB).sum
theorem z1e0(a b:List Int):(a++b).sum=a.sum+b.sum:=by induction a with
 | nil=>simp
 | cons x a ih=>simp [ih];omega
theorem PT.weight : ∀ (T:PT),T.wf→(T.post.map wB).sum = -1∧∀ j,j<T.post.length→0≤((T.post.reverse.take j).map wB).sum
  | .leaf n, _ => by
    refine⟨by simp [PT.post,wB],fun j hj=>?_⟩
    simp [PT.post] at hj;subst hj;simp
  | .node o a b, h => by
    obtain⟨ho,ha,hb⟩:=h
    obtain⟨a1,a2⟩:=PT.weight a ha
    obtain⟨b1,b2⟩:=PT.weight b hb
    have ho1:wB ⟨o,0⟩=1:=by unfold wB;simp only;rw[if_neg (by omega)]
    refine⟨?_,fun j hj=>?_⟩
    · simp only[PT.post,List.map_append,z1e0,a1,b1,List.map_cons,List.map_nil,ho1];rfl
    · cases j with
      | zero=>simp
      | succ i =>
        simp only[PT.post,List.length_append,List.length_cons,List.length_nil] at hj
        have e:(PT.post (.node o a b)).reverse=⟨o,0⟩ :: (b.post.reverse++a.post.reverse):=by simp [PT.post]
        rw[e,List.take_succ_cons,List.map_cons,List.sum_cons,ho1,List.take_append,List.map_append,z1e0,List.length_reverse]
        by_cases hi:i<b.post.length
        · have:=b2 i hi
          rw[show i-b.post.length=0 by omega,List.take_zero,List.map_nil,List.sum_nil]
          omega
        · have h1:(b.post.reverse.take i).map wB=(b.post.map wB).reverse:=by
            rw[List.take_of_length_le (by simp;omega),List.map_reverse]
          have h2:=a2 (i-b.post.length) (by omega)
          rw[h1,List.sum_reverse,b1];omega
theorem zuq{T:PT}(h:T.wf){j:Nat}(hj:j<T.post.length):1≤needB T.post j:=by
 have:=(T.weight h).2 j hj;unfold needB;omega
theorem zuo{T:PT}(h:T.wf):needB T.post T.post.length=0:=by
 have:=(T.weight h).1
 unfold needB
 rw[List.take_of_length_le (by simp),List.map_reverse,List.sum_reverse,this];rfl
theorem zus(l:List Br):needB l 0=1:=by simp [needB]
theorem zur{l:List Br}{j:Nat}(hj:j<l.length):needB l (j+1)=needB l j+wB (l[l.length-1-j]'(by omega)):=by
 unfold needB
 rw[List.take_succ_eq_append_getElem (by simp;exact hj),List.map_append,z1e0,List.getElem_reverse]
 simp;omega
theorem zup(l:List Br) : ∀ j,j≤l.length→needB l j≤1+j
  | 0,_=>by simp [needB]
  | j + 1, h => by
    have:=zup l j (by omega)
    rw[zur (by omega)]
    unfold wB;split<;>omega

/-! ### Least words -/
end Go.Proofs.YtbaclnecajkknaaGreat.Pi
namespace Go.Proofs.YtbaclnecajkknaaGreat.Pi
open Go
set_option linter.all false

/-! ### Texts -/
/-! ### Branches with their operands -/
structure Nd where
 op:Int
 n:Int
 fst:Int
 snd:Int
/-! ### Strings in the interpreter -/
theorem zxc{o:Int}(h:2≤o∧o≤5):o=2∨o=3∨o=4∨o=5:=by omega
end Go.Proofs.YtbaclnecajkknaaGreat.Pi
namespace Go.Proofs.YtbaclnecajkknaaGreat.Pi
open Go
set_option linter.all false

structure TB where
 pl:Int
 tr:List Tr
 lt:List Int
def addB(b:TB)(l:Int)(x y:List Int):TB:=⟨b.pl,b.tr++[⟨x,y,[]⟩],b.lt++[l]⟩
def upB(b:TB)(n:Int):TB:=⟨b.pl+n,b.tr,b.lt⟩
def PT.bld:PT→Int→Int→TB→TB
  | .leaf n,x,y,b=>addB b n [x] [y]
  | .node o p q, x, y, b =>
    if o=2 then q.bld b.pl y (p.bld x b.pl (upB b 1))
    else if o=3 then q.bld x y (p.bld x y b)
    else if o=4 then q.bld (b.pl+1) (b.pl+3) (p.bld b.pl (b.pl+2) (addB (addB (upB b 4) 0 [x] [b.pl,b.pl+1]) 0 [b.pl+2,b.pl+3] [y]))
    else q.bld (b.pl+1) b.pl (p.bld b.pl (b.pl+1) (addB (addB (upB b 2) 0 [x] [b.pl]) 0 [b.pl+1] [y]))
structure TBOk(b b':TB)(k:Nat):Prop where
 lo:b.pl≤b'.pl
 hi:b'.pl≤b.pl+4*k
 len:b'.tr.length=b'.lt.length
 more:b.tr.length<b'.tr.length
 most:b'.tr.length≤b.tr.length+3*k
theorem PT.bld_ok : ∀ (T:PT) (x y:Int) (b:TB),b.tr.length=b.lt.length→TBOk b (T.bld x y b) T.post.length
  | .leaf n, x, y, b, h => by
    constructor<;>simp [PT.bld,addB,PT.post]<;>omega
  | .node o p q, x, y, b, h => by
    have key : ∀ (x1 y1 x2 y2:Int) (c:TB),c.tr.length=c.lt.length→b.pl≤c.pl→c.pl≤b.pl+4→b.tr.length≤c.tr.length→c.tr.length≤b.tr.length+2→TBOk b (q.bld x2 y2 (p.bld x1 y1 c)) (PT.node o p q).post.length:=by
      intro x1 y1 x2 y2 c h1 h2 h3 h4 h5
      have a1:=PT.bld_ok p x1 y1 c h1
      have a2:=PT.bld_ok q x2 y2 _ a1.len
      have b1:=a1.lo;have b2:=a1.hi;have b3:=a1.more;have b4:=a1.most
      have c1:=a2.lo;have c2:=a2.hi;have c3:=a2.more;have c4:=a2.most
      constructor
      · omega
      · simp only[PT.post,List.length_append,List.length_cons,List.length_nil];omega
      · exact a2.len
      · omega
      · simp only[PT.post,List.length_append,List.length_cons,List.length_nil];omega
    unfold PT.bld
    split
    · exact key _ _ _ _ _ (by simpa [upB] using h) (by simp [upB]<;>omega) (by simp [upB]<;>omega) (by simp [upB]<;>omega) (by simp [upB]<;>omega)
    · split
      · exact key _ _ _ _ _ h (by omega) (by omega) (by omega) (by omega)
      · split
        · exact key _ _ _ _ _ (by simp [upB,addB]<;>omega) (by simp [upB,addB]<;>omega) (by simp [upB,addB]<;>omega) (by simp [upB,addB]<;>omega) (by simp [upB,addB]<;>omega)
        · exact key _ _ _ _ _ (by simp [upB,addB]<;>omega) (by simp [upB,addB]<;>omega) (by simp [upB,addB]<;>omega) (by simp [upB,addB]<;>omega) (by simp [upB,addB]<;>omega)
theorem PT.bld_small : ∀ (T:PT) (x y:Int) (b:TB),(∀ t∈b.tr,t.inn.length≤2∧t.out.length≤2∧t.rst.length≤2)→∀ t∈(T.bld x y b).tr,t.inn.length≤2∧t.out.length≤2∧t.rst.length≤2
  | .leaf n, x, y, b, h, t, ht => by
    simp only[PT.bld,addB,List.mem_append,List.mem_singleton] at ht
    rcases ht with ht | rfl
    · exact h t ht
    · simp
  | .node o p q, x, y, b, h, t, ht => by
    have add : ∀ (c:TB) (l:Int) (x y:List Int),x.length≤2→y.length≤2→(∀ t∈c.tr,t.inn.length≤2∧t.out.length≤2∧t.rst.length≤2)→∀ t∈(addB c l x y).tr,t.inn.length≤2∧t.out.length≤2∧t.rst.length≤2:=by
      intro c l x y hx hy hc t ht
      simp only[addB,List.mem_append,List.mem_singleton] at ht
      rcases ht with ht | rfl
      · exact hc t ht
      · exact⟨hx,hy,by simp⟩
    have up : ∀ n,∀ t∈(upB b n).tr,t.inn.length≤2∧t.out.length≤2∧t.rst.length≤2:=fun n=>h
    unfold PT.bld at ht
    split at ht
    · exact PT.bld_small q _ _ _ (PT.bld_small p _ _ _ (up 1)) t ht
    · split at ht
      · exact PT.bld_small q _ _ _ (PT.bld_small p _ _ _ h) t ht
      · split at ht
        · exact PT.bld_small q _ _ _ (PT.bld_small p _ _ _ (add _ _ _ _ (by simp) (by simp) (add _ _ _ _ (by simp) (by simp) (up 4)))) t ht
        · exact PT.bld_small q _ _ _ (PT.bld_small p _ _ _ (add _ _ _ _ (by simp) (by simp) (add _ _ _ _ (by simp) (by simp) (up 2)))) t ht
def PT.all(T:PT):TB:=T.bld 0 1 ⟨2,[],[]⟩
def PT.flow(T:PT):Fl:=⟨⟨T.all.pl,T.all.tr⟩,0,1⟩
def tfV(l:List Br):Option (Fl×List Int):=match pT l [] with
 | some [T]=>if zjn l=true∧ziu T.flow=true then some (T.flow,T.all.lt) else none
 | _=>none
theorem z1ep{l:List Br}(h:zjn l=false):tfV l=none:=by
 unfold tfV;split
 ·rw[if_neg (by simp [h])]
 ·rfl
theorem z1eq{l:List Br}{T:PT}(h:zjn l=true)(hT:pT l []=some [T]):tfV l=if ziu T.flow=true then some (T.flow,T.all.lt) else none:=by
 unfold tfV;rw[hT];simp [h]
theorem PT.all_ok(T:PT):2≤T.all.pl∧T.all.pl≤2+4*T.post.length∧T.all.tr.length=T.all.lt.length∧0<T.all.tr.length∧T.all.tr.length≤3*T.post.length:=by
 have h:=T.bld_ok 0 1 ⟨2,[],[]⟩ rfl
 refine⟨h.lo,h.hi,h.len,?_,?_⟩
 ·have:=h.more;simp at this;exact this
 ·have:=h.most;simp at this;exact this
theorem PT.all_small(T:PT) : ∀ t∈T.all.tr,t.inn.length≤2∧t.out.length≤2∧t.rst.length≤2:=T.bld_small 0 1 ⟨2,[],[]⟩ (by simp)
theorem PT.flow_sm(T:PT)(h:T.post.length≤15):smN T.flow.net:=by
 have h1:=T.all_ok
 have h2:=T.all_small
 refine⟨?_,fun t ht=>?_⟩
 ·show T.all.tr.length<_;omega
 ·have:=h2 t ht;exact⟨by omega,by omega,by omega⟩
end Go.Proofs.YtbaclnecajkknaaGreat.Pi
namespace Go.Proofs.YtbaclnecajkknaaGreat.Pi
open Go
set_option linter.all false

structure Arc3 where
 src:Int
 by_:Int
 dst:Int
structure Sp where
 ms:List (List Int)
 ar:List Arc3
structure Ex where
 sp:Sp
 code:Int
def findM(l:List (List Int))(m:List Int):Int:=idxI l (fun x=>decide (x=m))
def ze7(n:Net)(b:Int)(k:Nat)(s:Ex)(t:Int):Ex:=
 if s.code≠0 then s else
 let m:=zgc (trAt n t) (s.sp.ms.getD k [])
 if m.all (inB 0 50)=false then⟨s.sp,3⟩
 else if 0≤findM s.sp.ms m then⟨⟨s.sp.ms,s.sp.ar++[⟨k,t,findM s.sp.ms m⟩]⟩,0⟩
 else if b≤s.sp.ms.length then⟨s.sp,2⟩
 else⟨⟨s.sp.ms++[m],s.sp.ar++[⟨k,t,s.sp.ms.length⟩]⟩,0⟩
def exL(n:Net)(b:Int)(k:Nat)(s:Ex)(l:List Int):Ex:=l.foldl (ze7 n b k) s
def exRun(n:Net)(b:Int):Nat→Nat→Ex→Ex
 | 0,_,s=>s
 | f+1,k,s=>if s.code≠0 then s else if k<s.sp.ms.length then exRun n b f (k+1) (exL n b k s (enabL n (s.sp.ms.getD k []))) else s
def exAll(n:Net)(start:List Int)(b:Int):Ex:=exRun n b (b.toNat+2) 0 ⟨⟨[start],[]⟩,0⟩
theorem zei{n:Net}{b:Int}{k:Nat}{s:Ex}{t:Int}(h:s.code≠0):ze7 n b k s t=s:=by
 unfold ze7;rw[if_pos h]
theorem zdy{n:Net}{b:Int}{k:Nat}{l:List Int}{s:Ex}(h:s.code≠0):exL n b k s l=s:=by
 unfold exL
 induction l with
 | nil=>rfl
 | cons t l ih=>rw[List.foldl_cons,zei h];exact ih
theorem ze5{n:Net}{b:Int}{f k:Nat}{s:Ex}(h:s.code≠0):exRun n b f k s=s:=by
 cases f with
 | zero=>rfl
 | succ f=>show(if s.code≠0 then s else _)=s;rw[if_pos h]
theorem zdw{n:Net}{b:Int}{k:Nat}{s:Ex}{l:List Int}{j:Nat}(hj:j<l.length):exL n b k s (l.drop j)=exL n b k (ze7 n b k s l[j]) (l.drop (j+1)):=by
 rw[List.drop_eq_getElem_cons hj];rfl
theorem zek{n:Net}{b:Int}{k:Nat}{s:Ex}{t:Int}(h0:s.code=0)(h:(zgc (trAt n t) (s.sp.ms.getD k [])).all (inB 0 50)=false):ze7 n b k s t=⟨s.sp,3⟩:=by
 unfold ze7;rw[if_neg (by omega)];simp only[h,if_true]
theorem zeg{n:Net}{b:Int}{k:Nat}{s:Ex}{t:Int}(h0:s.code=0)(h:(zgc (trAt n t) (s.sp.ms.getD k [])).all (inB 0 50)=true)(h2:0≤findM s.sp.ms (zgc (trAt n t) (s.sp.ms.getD k []))):ze7 n b k s t=⟨⟨s.sp.ms,s.sp.ar++[⟨k,t,findM s.sp.ms (zgc (trAt n t) (s.sp.ms.getD k []))⟩]⟩,0⟩:=by
 unfold ze7;rw[if_neg (by omega)];simp only[h];rw[if_neg (by simp),if_pos h2]
theorem zec{n:Net}{b:Int}{k:Nat}{s:Ex}{t:Int}(h0:s.code=0)(h:(zgc (trAt n t) (s.sp.ms.getD k [])).all (inB 0 50)=true)(h2:¬0≤findM s.sp.ms (zgc (trAt n t) (s.sp.ms.getD k [])))(h3:b≤s.sp.ms.length):ze7 n b k s t=⟨s.sp,2⟩:=by
 unfold ze7;rw[if_neg (by omega)];simp only[h];rw[if_neg (by simp),if_neg h2,if_pos h3]
theorem zee{n:Net}{b:Int}{k:Nat}{s:Ex}{t:Int}(h0:s.code=0)(h:(zgc (trAt n t) (s.sp.ms.getD k [])).all (inB 0 50)=true)(h2:¬0≤findM s.sp.ms (zgc (trAt n t) (s.sp.ms.getD k [])))(h3:¬b≤s.sp.ms.length):ze7 n b k s t=⟨⟨s.sp.ms++[zgc (trAt n t) (s.sp.ms.getD k [])],s.sp.ar++[⟨k,t,s.sp.ms.length⟩]⟩,0⟩:=by
 unfold ze7;rw[if_neg (by omega)];simp only[h];rw[if_neg (by simp),if_neg h2,if_neg h3]
theorem zg2{l:List (List Int)}{m:List Int}:0≤findM l m↔m∈l:=by
 have:=zkc l (fun x=>decide (x=m))
 unfold findM
 constructor
 ·intro h
  rw[decide_eq_true h] at this
  rw[List.any_eq_true] at this
  obtain⟨x,hx,hy⟩:=this
  have:x=m:=by simpa using hy
  exact this▸hx
 ·intro h
  have h2:(l.any fun x=>decide (x=m))=true:=by rw[List.any_eq_true];exact⟨m,h,by simp⟩
  rw[h2] at this
  exact of_decide_eq_true this.symm
theorem zg1{l:List (List Int)}{m:List Int}(h:0≤findM l m):(findM l m).toNat<l.length∧l[(findM l m).toNat]? = some m:=by
  unfold findM idxI at h ⊢
  cases e:l.findIdx? (fun x=>decide (x=m)) with
  | none=>rw[e] at h;simp at h
  | some k =>
    rw[List.findIdx?_eq_some_iff_getElem] at e
    obtain⟨h1,h2,_⟩:=e
    refine⟨by simpa using h1,?_⟩
    have:l[k]=m:=by simpa using h2
    simp [List.getElem?_eq_getElem h1,this]
structure ExOk(n:Net)(start:List Int)(b:Int)(s:Ex):Prop where
 first:s.sp.ms[0]? = some start
 good : ∀ m∈s.sp.ms,zs4 n m=true
 lenb:s.sp.ms.length≤b.toNat
 nodup:s.sp.ms.Nodup
 arcs : ∀ a∈s.sp.ar,0≤a.src∧a.src.toNat<s.sp.ms.length∧0≤a.dst∧a.dst.toNat<s.sp.ms.length∧zvy n (s.sp.ms.getD a.src.toNat []) a.by_=true∧s.sp.ms.getD a.dst.toNat []=zgc (trAt n a.by_) (s.sp.ms.getD a.src.toNat [])
 back : ∀ j:Nat,0<j→j<s.sp.ms.length→∃ i,∃ h:i<s.sp.ar.length,s.sp.ar[i].dst=j∧s.sp.ar[i].src<j∧∀ i',(h':i'<i)→(s.sp.ar[i']'(by omega)).dst≠j
theorem ExOk.sp{n:Net}{start:List Int}{b:Int}{s:Ex}(h:ExOk n start b s)(c:Int):ExOk n start b ⟨s.sp,c⟩:=⟨h.first,h.good,h.lenb,h.nodup,h.arcs,h.back⟩
theorem zij{l:List (List Int)}{k:Nat}(hk:k<l.length):l.getD k []∈l:=by
 rw[List.getD_eq_getElem?_getD,List.getElem?_eq_getElem hk];exact List.getElem_mem hk
theorem zik{l:List (List Int)}{k:Nat}(hk:k<l.length):l[k]=l.getD k []:=by
 rw[List.getD_eq_getElem?_getD,List.getElem?_eq_getElem hk];rfl
theorem zif{l:List (List Int)}{m:List Int}{k:Nat}(hk:k<l.length):(l++[m]).getD k []=l.getD k []:=by
 rw[List.getD_eq_getElem?_getD,List.getD_eq_getElem?_getD,List.getElem?_append_left hk]
theorem zii{l:List (List Int)}{m:List Int}:(l++[m]).getD l.length []=m:=by
 rw[List.getD_eq_getElem?_getD,List.getElem?_append_right (Nat.le_refl _)];simp
theorem zd6{n:Net}{m:List Int}{t:Int}(hm:zs4 n m=true)(ht:t∈enabL n m)(ha:(zgc (trAt n t) m).all (inB 0 50)=true):zvy n m t=true:=by
 obtain⟨h1,h2,h3⟩:=zd4.1 ht
 have h4:inB 0 (n.tr.length-1) t=true:=by simp [inB];omega
 simp only[zvy,canN,hm,h3,h4,ha,Bool.and_self]
theorem zef{n:Net}{start:List Int}{b:Int}{k:Nat}{s:Ex}{t:Int}(h:ExOk n start b s)(hk:k<s.sp.ms.length)(ht:t∈enabL n (s.sp.ms.getD k [])):ExOk n start b (ze7 n b k s t):=by
  by_cases h0:s.code=0
  case neg=>rw[zei h0];exact h
  cases ha:(zgc (trAt n t) (s.sp.ms.getD k [])).all (inB 0 50) with
  | false=>rw[zek h0 ha];exact h.sp 3
  | true =>
    have hf:=zd6 (h.good _ (zij hk)) ht ha
    by_cases h2:0≤findM s.sp.ms (zgc (trAt n t) (s.sp.ms.getD k []))
    · rw[zeg h0 ha h2]
      obtain⟨g1,g2⟩:=zg1 h2
      refine⟨h.first,h.good,h.lenb,h.nodup,fun a hm=>?_,fun j hj hl=>?_⟩
      · rcases List.mem_append.1 hm with hm | hm
        · exact h.arcs a hm
        · simp only[List.mem_singleton] at hm
          subst hm
          refine⟨by simp,by simpa using hk,h2,g1,by simpa using hf,?_⟩
          simp only[Int.toNat_natCast]
          rw[List.getD_eq_getElem?_getD,g2];rfl
      · obtain⟨i,hi,e1,e2,e3⟩:=h.back j hj hl
        refine⟨i,by simp;omega,by simp only;rw[List.getElem_append_left hi];exact e1,by simp only;rw[List.getElem_append_left hi];exact e2,fun i' h'=>?_⟩
        simp only
        rw[List.getElem_append_left (by omega)];exact e3 i' h'
    · by_cases h3:b≤s.sp.ms.length
      · rw[zec h0 ha h2 h3];exact h.sp 2
      · rw[zee h0 ha h2 h3]
        have hnm:zgc (trAt n t) (s.sp.ms.getD k [])∉s.sp.ms:=fun hm=>h2 (zg2.2 hm)
        generalize hM:zgc (trAt n t) (s.sp.ms.getD k [])=M at *
        refine⟨?_,fun m hm=>?_,by simp;omega,?_,fun a hm=>?_,fun j hj hl=>?_⟩
        · simp only
          rw[List.getElem?_append_left (by omega)];exact h.first
        · rcases List.mem_append.1 hm with hm | hm
          · exact h.good m hm
          · simp only[List.mem_singleton] at hm
            subst hm;rw[←hM];exact zw1 hf
        · simp only
          rw[List.nodup_append]
          refine⟨h.nodup,by simp,fun x hx y hy=>?_⟩
          simp only[List.mem_singleton] at hy
          subst hy
          intro e;subst e;exact hnm hx
        · rcases List.mem_append.1 hm with hm | hm
          · obtain⟨a1,a2,a3,a4,a5,a6⟩:=h.arcs a hm
            refine⟨a1,by simp;omega,a3,by simp;omega,?_,?_⟩
            · simp only;rw[zif a2];exact a5
            · simp only;rw[zif a2,zif a4];exact a6
          · simp only[List.mem_singleton] at hm
            subst hm
            refine⟨by simp,by simp;omega,by simp,by simp,?_,?_⟩
            · simp only[Int.toNat_natCast];rw[zif hk];exact hf
            · simp only[Int.toNat_natCast];rw[zif hk,zii];exact hM.symm
        · simp only[List.length_append,List.length_cons,List.length_nil] at hl
          by_cases hj2:j<s.sp.ms.length
          · obtain⟨i,hi,e1,e2,e3⟩:=h.back j hj hj2
            refine⟨i,by simp;omega,by simp only;rw[List.getElem_append_left hi];exact e1,by simp only;rw[List.getElem_append_left hi];exact e2,fun i' h'=>?_⟩
            simp only
            rw[List.getElem_append_left (by omega)];exact e3 i' h'
          · have:j=s.sp.ms.length:=by omega
            subst this
            refine⟨s.sp.ar.length,by simp,by simp,by simp;omega,fun i' h'=>?_⟩
            simp only
            rw[List.getElem_append_left h']
            have:=h.arcs _ (List.getElem_mem h')
            omega
theorem zeh{n:Net}{b:Int}{k:Nat}{s:Ex}{t:Int} : ∃ l,(ze7 n b k s t).sp.ms=s.sp.ms++l:=by
  by_cases h0:s.code=0
  case neg=>rw[zei h0];exact⟨[],by simp⟩
  cases ha:(zgc (trAt n t) (s.sp.ms.getD k [])).all (inB 0 50) with
  | false=>rw[zek h0 ha];exact⟨[],by simp⟩
  | true =>
    by_cases h2:0≤findM s.sp.ms (zgc (trAt n t) (s.sp.ms.getD k []))
    · rw[zeg h0 ha h2];exact⟨[],by simp⟩
    · by_cases h3:b≤s.sp.ms.length
      · rw[zec h0 ha h2 h3];exact⟨[],by simp⟩
      · rw[zee h0 ha h2 h3];exact⟨_,rfl⟩
theorem zed{n:Net}{b:Int}{k:Nat}{s:Ex}{t:Int}(h0:s.code=0)(h:(ze7 n b k s t).code=0):(zgc (trAt n t) (s.sp.ms.getD k [])).all (inB 0 50)=true∧zgc (trAt n t) (s.sp.ms.getD k [])∈(ze7 n b k s t).sp.ms:=by
  cases ha:(zgc (trAt n t) (s.sp.ms.getD k [])).all (inB 0 50) with
  | false=>rw[zek h0 ha] at h;simp at h
  | true =>
    refine⟨rfl,?_⟩
    by_cases h2:0≤findM s.sp.ms (zgc (trAt n t) (s.sp.ms.getD k []))
    · rw[zeg h0 ha h2];exact zg2.1 h2
    · by_cases h3:b≤s.sp.ms.length
      · rw[zec h0 ha h2 h3] at h;simp at h
      · rw[zee h0 ha h2 h3];simp
theorem zin{l l':List (List Int)}{k:Nat}(hk:k<l.length):(l++l').getD k []=l.getD k []:=by
 rw[List.getD_eq_getElem?_getD,List.getD_eq_getElem?_getD,List.getElem?_append_left hk]
theorem zdx{n:Net}{start:List Int}{b:Int}{k:Nat} : ∀ (l:List Int) (s:Ex),ExOk n start b s→k<s.sp.ms.length→(∀ t∈l,t∈enabL n (s.sp.ms.getD k [])) →
    ExOk n start b (exL n b k s l)∧(∃ l',(exL n b k s l).sp.ms=s.sp.ms++l')∧((exL n b k s l).code=0→s.code=0∧∀ t∈l,(zgc (trAt n t) (s.sp.ms.getD k [])).all (inB 0 50)=true∧zgc (trAt n t) (s.sp.ms.getD k [])∈(exL n b k s l).sp.ms)
  | [],s,h,hk,_=>⟨h,⟨[],by simp [exL]⟩,fun hc=>⟨hc,by simp⟩⟩
  | t :: l, s, h, hk, hl => by
    have h1:=zef h hk (hl t (by simp))
    obtain⟨p,hp⟩:=zeh (n:=n) (b:=b) (k:=k) (s:=s) (t:=t)
    have e:(ze7 n b k s t).sp.ms.getD k []=s.sp.ms.getD k []:=by rw[hp,zin hk]
    obtain⟨f1,⟨p2,f2⟩,f3⟩:=zdx (k:=k) l (ze7 n b k s t) h1 (by rw[hp];simp;omega) (fun u hu=>by rw[e];exact hl u (by simp [hu]))
    refine⟨f1,⟨p++p2,by show(exL n b k (ze7 n b k s t) l).sp.ms=_;rw[f2,hp,List.append_assoc]⟩,fun hc=>?_⟩
    obtain⟨c1,c2⟩:=f3 hc
    have h0:s.code=0:=by
      by_cases h0:s.code=0
      · exact h0
      · rw[zei h0] at c1;exact c1
    refine⟨h0,fun u hu=>?_⟩
    rcases List.mem_cons.1 hu with rfl | hu
    · obtain⟨d1,d2⟩:=zed h0 c1
      refine⟨d1,?_⟩
      show _∈(exL n b k (ze7 n b k s u) l).sp.ms
      rw[f2];exact List.mem_append_left _ d2
    · have:=c2 u hu
      rw[e] at this;exact this
def za4(n:Net)(s:Ex)(k:Nat):Prop:=∀ i,i<k→i<s.sp.ms.length→∀ t∈enabL n (s.sp.ms.getD i []),(zgc (trAt n t) (s.sp.ms.getD i [])).all (inB 0 50)=true∧zgc (trAt n t) (s.sp.ms.getD i [])∈s.sp.ms
theorem ze4{n:Net}{start:List Int}{b:Int} : ∀ (f k:Nat) (s:Ex),ExOk n start b s→za4 n s k→b.toNat<k+f→k≤s.sp.ms.length →
    ExOk n start b (exRun n b f k s)∧((exRun n b f k s).code=0→za4 n (exRun n b f k s) (exRun n b f k s).sp.ms.length)
  | 0,k,s,h,hc,hb,hk=>by have:=h.lenb;omega
  | f + 1, k, s, h, hc, hb, hk => by
    by_cases h0:s.code≠0
    · rw[ze5 h0];exact⟨h,fun e=>absurd e h0⟩
    · show ExOk n start b (if s.code≠0 then s else if k<s.sp.ms.length then exRun n b f (k+1) (exL n b k s (enabL n (s.sp.ms.getD k []))) else s)∧_
      have er:exRun n b (f+1) k s=if s.code≠0 then s else if k<s.sp.ms.length then exRun n b f (k+1) (exL n b k s (enabL n (s.sp.ms.getD k []))) else s:=rfl
      rw[er,if_neg h0]
      by_cases hl:k<s.sp.ms.length
      · rw[if_pos hl]
        obtain⟨f1,⟨p,f2⟩,f3⟩:=zdx (start:=start) (k:=k) (enabL n (s.sp.ms.getD k [])) s h hl (fun t ht=>ht)
        by_cases hc0:(exL n b k s (enabL n (s.sp.ms.getD k []))).code=0
        · refine ze4 f (k+1) (exL n b k s (enabL n (s.sp.ms.getD k []))) f1 (fun i hi hl2 t ht=>?_) (by omega) (by rw[f2,List.length_append];omega)
          by_cases hik:i<k
          · have e:(exL n b k s (enabL n (s.sp.ms.getD k []))).sp.ms.getD i []=s.sp.ms.getD i []:=by rw[f2,zin (l:=s.sp.ms) (by omega)]
            rw[e] at ht ⊢
            obtain⟨d1,d2⟩:=hc i hik (by omega) t ht
            exact⟨d1,by rw[f2];exact List.mem_append_left _ d2⟩
          · have:i=k:=by omega
            subst this
            have e:(exL n b i s (enabL n (s.sp.ms.getD i []))).sp.ms.getD i []=s.sp.ms.getD i []:=by rw[f2,zin hl]
            rw[e] at ht ⊢
            exact(f3 hc0).2 t ht
        · rw[ze5 hc0];exact⟨f1,fun e=>absurd e hc0⟩
      · rw[if_neg hl]
        refine⟨h,fun _ i hi hl2 t ht=>hc i (by omega) hl2 t ht⟩
theorem zdq{n:Net}{start:List Int}{b:Int}(hm:zs4 n start=true)(hb:1≤b):ExOk n start b (exAll n start b)∧((exAll n start b).code=0→za4 n (exAll n start b) (exAll n start b).sp.ms.length):=by
 unfold exAll
 refine ze4 _ 0 _ ⟨rfl,fun m hm2=>?_,by simp;omega,by simp,fun a ha=>by simp at ha,fun j hj hl=>?_⟩ (fun i hi=>by omega) (by omega) (by omega)
 ·simp only[List.mem_singleton] at hm2;subst hm2;exact hm
 ·simp only[List.length_cons,List.length_nil] at hl;omega
end Go.Proofs.YtbaclnecajkknaaGreat.Pi
namespace Go.Proofs.YtbaclnecajkknaaGreat.Pi
open Go
set_option linter.all false

def okEx(n:Net)(start:List Int)(b:Int):Bool:=zs4 n start&&inB 1 400 b
theorem zvp{n:Net}{start:List Int}{b:Int}(h:okEx n start b=true):zs4 n start=true∧1≤b∧b≤400:=by
 simp only[okEx,inB,Bool.and_eq_true,decide_eq_true_eq] at h
 exact⟨h.1,by omega,by omega⟩
def arcTo(ar:List Arc3)(p:Int):Int:=idxI ar (fun a=>decide (a.dst=p))
theorem zg0{l:List (List Int)}(hn:l.Nodup){k:Nat}(hk:k<l.length):findM l (l.getD k [])=k:=by
 unfold findM
 refine zkg hk ?_ (by rw[zik hk];simp)
 rw[List.any_eq_false]
 intro x hx
 obtain⟨i,h1,rfl⟩:=List.mem_iff_getElem.1 hx
 have h2:i<k:=by simp at h1;omega
 have h3:=List.pairwise_iff_getElem.1 hn i k (by omega) hk h2
 rw[List.getElem_take,←zik hk]
 simpa using h3
theorem ze9(n:Net)(b:Int)(k:Nat)(s:Ex)(t:Int):(ze7 n b k s t).sp.ar.length≤s.sp.ar.length+1:=by
  by_cases h0:s.code=0
  case neg=>rw[zei h0];omega
  cases ha:(zgc (trAt n t) (s.sp.ms.getD k [])).all (inB 0 50) with
  | false=>rw[zek h0 ha];simp only;omega
  | true =>
    by_cases h2:0≤findM s.sp.ms (zgc (trAt n t) (s.sp.ms.getD k []))
    · rw[zeg h0 ha h2];simp
    · by_cases h3:b≤s.sp.ms.length
      · rw[zec h0 ha h2 h3];simp only;omega
      · rw[zee h0 ha h2 h3];simp
theorem zdt(n:Net)(b:Int)(k:Nat) : ∀ (l:List Int) (s:Ex),(exL n b k s l).sp.ar.length≤s.sp.ar.length+l.length
  | [],s=>by simp [exL]
  | t :: l, s => by
    have h1:=ze9 n b k s t
    have h2:=zdt n b k l (ze7 n b k s t)
    show(exL n b k (ze7 n b k s t) l).sp.ar.length≤_
    simp only[List.length_cons];omega
theorem ze1{n:Net}{b:Int}(hn:n.tr.length≤24) : ∀ (f k:Nat) (s:Ex),(exRun n b f k s).sp.ar.length≤s.sp.ar.length+24*f
  | 0,k,s=>by simp [exRun]
  | f + 1, k, s => by
    show(if s.code≠0 then s else if k<s.sp.ms.length then exRun n b f (k+1) (exL n b k s (enabL n (s.sp.ms.getD k []))) else s).sp.ar.length≤_
    split
    · omega
    · split
      · have h1:=zdt n b k (enabL n (s.sp.ms.getD k [])) s
        have h2:(enabL n (s.sp.ms.getD k [])).length≤n.tr.length:=zd2 ..
        have h3:=ze1 (b:=b) hn f (k+1) (exL n b k s (enabL n (s.sp.ms.getD k [])))
        omega
      · omega
theorem zdn{n:Net}{start:List Int}{b:Int}(hn:n.tr.length≤24)(hb:b≤400):(exAll n start b).sp.ar.length≤20000:=by
 have:=ze1 (b:=b) hn (b.toNat+2) 0 ⟨⟨[start],[]⟩,0⟩
 unfold exAll
 simp only[List.length_nil] at this
 omega
theorem zeb(n:Net)(b:Int)(k:Nat)(s:Ex)(t:Int)(h:s.code=0∨s.code=2∨s.code=3):(ze7 n b k s t).code=0∨(ze7 n b k s t).code=2∨(ze7 n b k s t).code=3:=by
  by_cases h0:s.code=0
  case neg=>rw[zei h0];exact h
  cases ha:(zgc (trAt n t) (s.sp.ms.getD k [])).all (inB 0 50) with
  | false=>rw[zek h0 ha];simp
  | true =>
    by_cases h2:0≤findM s.sp.ms (zgc (trAt n t) (s.sp.ms.getD k []))
    · rw[zeg h0 ha h2];simp
    · by_cases h3:b≤s.sp.ms.length
      · rw[zec h0 ha h2 h3];simp
      · rw[zee h0 ha h2 h3];simp
theorem zdv(n:Net)(b:Int)(k:Nat) : ∀ (l:List Int) (s:Ex),(s.code=0∨s.code=2∨s.code=3)→(exL n b k s l).code=0∨(exL n b k s l).code=2∨(exL n b k s l).code=3
 | [],s,h=>h
 | t :: l,s,h=>zdv n b k l (ze7 n b k s t) (zeb n b k s t h)
theorem ze3{n:Net}{b:Int} : ∀ (f k:Nat) (s:Ex),(s.code=0∨s.code=2∨s.code=3)→(exRun n b f k s).code=0∨(exRun n b f k s).code=2∨(exRun n b f k s).code=3
  | 0,k,s,h=>h
  | f + 1, k, s, h => by
    have er:exRun n b (f+1) k s=if s.code≠0 then s else if k<s.sp.ms.length then exRun n b f (k+1) (exL n b k s (enabL n (s.sp.ms.getD k []))) else s:=rfl
    rw[er]
    split
    · exact h
    · split
      · exact ze3 f (k+1) _ (zdv n b k _ s h)
      · exact h
theorem zdp(n:Net)(start:List Int)(b:Int):(exAll n start b).code=0∨(exAll n start b).code=2∨(exAll n start b).code=3:=ze3 _ _ _ (.inl rfl)
end Go.Proofs.YtbaclnecajkknaaGreat.Pi
namespace Go.Proofs.YtbaclnecajkknaaGreat.Pi
open Go
set_option linter.all false

def cmpI(a b:Int):Int:=if a<b then -1 else if b<a then 1 else 0
def cmpL:List Int→List Int→Int
 | [],[]=>0
 | [],_ :: _=>-1
 | _ :: _,[]=>1
 | a :: as,b :: bs=>if a<b then -1 else if b<a then 1 else cmpL as bs
theorem zad : ∀ {a b:List Int},cmpL a b=0↔a=b
  | [],[]=>by simp [cmpL]
  | [],_ :: _=>by simp [cmpL]
  | _ :: _,[]=>by simp [cmpL]
  | a :: as, b :: bs => by
    unfold cmpL
    split
    · simp;omega
    · split
      · simp;omega
      · rw[zad,List.cons.injEq]
        exact⟨fun h=>⟨by omega,h⟩,fun h=>h.2⟩
theorem zaf : ∀ (a b:List Int),cmpL b a = - cmpL a b
  | [],[]=>by simp [cmpL]
  | [],_ :: _=>by simp [cmpL]
  | _ :: _,[]=>by simp [cmpL]
  | a :: as, b :: bs => by
    unfold cmpL
    by_cases h1:a<b
    · have h2:¬b<a:=by omega
      simp [h1,h2]
    · by_cases h2:b<a
      · simp [h1,h2]
      · simp only[h1,h2,if_false]
        exact zaf as bs
theorem zah : ∀ {a b c:List Int},cmpL a b<0→cmpL b c<0→cmpL a c<0
  | [],[],_,h,_=>by simp [cmpL] at h
  | _ :: _,[],_,h,_=>by simp [cmpL] at h
  | [],_ :: _,[],_,h=>by simp [cmpL] at h
  | _ :: _,_ :: _,[],_,h=>by simp [cmpL] at h
  | [],_ :: _,_ :: _,_,_=>by simp [cmpL]
  | a :: as, b :: bs, c :: cs, h1, h2 => by
    unfold cmpL at h1 h2 ⊢
    split at h1
    · split at h2
      · rw[if_pos (by omega)];omega
      · split at h2
        · omega
        · rw[if_pos (by omega)];omega
    · split at h1
      · omega
      · split at h2
        · rw[if_pos (by omega)];omega
        · split at h2
          · omega
          · rw[if_neg (by omega),if_neg (by omega)]
            exact zah h1 h2
def leL(a b:List Int):Prop:=cmpL a b≤0
theorem zp6{a b:List Int}(h:¬cmpL a b<0):leL b a:=by
 unfold leL;rw[zaf];omega
theorem zp7{a b c:List Int}(h1:leL a b)(h2:leL b c):leL a c:=by
 unfold leL at *
 by_cases e1:cmpL a b=0
 ·rw[zad.1 e1];exact h2
 ·by_cases e2:cmpL b c=0
  ·rw[←zad.1 e2];exact h1
  ·have:=zah (a:=a) (b:=b) (c:=c) (by omega) (by omega);omega
/-! ### Sorting by insertion -/
section
variable {α : Type} [Inhabited α] (le : α → α → Prop)
end

/-! ### Strictly sorted lists -/
def ltL(a b:List Int):Prop:=cmpL a b<0
theorem zrg{a:List Int}:¬ltL a a:=by unfold ltL;rw[zad.2 rfl];omega
theorem z1bk : ∀ {A B:List (List Int)},A.Pairwise ltL→B.Pairwise ltL→(∀ x,x∈A↔x∈B)→A=B
  | [],[],_,_,_=>rfl
  | [],b :: B,_,_,h=>by have:=(h b).2 (by simp);simp at this
  | a :: A,[],_,_,h=>by have:=(h a).1 (by simp);simp at this
  | a :: A, b :: B, hA, hB, h => by
    rw[List.pairwise_cons] at hA hB
    have hab:a=b:=by
      have h1:=(h a).1 (by simp)
      have h2:=(h b).2 (by simp)
      rw[List.mem_cons] at h1 h2
      rcases h1 with h1 | h1
      · exact h1
      · rcases h2 with h2 | h2
        · exact h2.symm
        · exact absurd (zah (hB.1 a h1) (hA.1 b h2)) zrg
    subst hab
    rw[z1bk hA.2 hB.2 fun x=>?_]
    have hx:=h x
    rw[List.mem_cons,List.mem_cons] at hx
    constructor
    · intro hm
      rcases hx.1 (.inr hm) with rfl | h'
      · exact absurd (hA.1 _ hm) zrg
      · exact h'
    · intro hm
      rcases hx.2 (.inr hm) with rfl | h'
      · exact absurd (hB.1 _ hm) zrg
      · exact h'
def inOrd:List (List Int)→List Int→List (List Int)
 | [],m=>[m]
 | x :: xs,m=>if cmpL m x=0 then x :: xs else if cmpL m x<0 then m :: x :: xs else x :: inOrd xs m
theorem zmb : ∀ (l:List (List Int)) (m x:List Int),x∈inOrd l m↔x=m∨x∈l
  | [],m,x=>by simp [inOrd]
  | y :: ys, m, x => by
    unfold inOrd
    split
    · rename_i h
      have:=zad.1 h;subst this
      rw[List.mem_cons]
      constructor
      · exact .inr
      · rintro(h | h)
        · exact .inl h
        · exact h
    · split
      · rw[List.mem_cons]
      · rw[List.mem_cons,zmb ys m x,List.mem_cons]
        constructor
        · rintro(h | h | h)
          · exact .inr (.inl h)
          · exact .inl h
          · exact .inr (.inr h)
        · rintro(h | h | h)
          · exact .inr (.inl h)
          · exact .inl h
          · exact .inr (.inr h)
theorem zmc : ∀ {l:List (List Int)} (m:List Int),l.Pairwise ltL→(inOrd l m).Pairwise ltL
  | [],m,_=>by simp [inOrd]
  | y :: ys, m, h => by
    have hh:=List.pairwise_cons.1 h
    unfold inOrd
    split
    · exact h
    · rename_i h0
      split
      · rename_i h1
        rw[List.pairwise_cons]
        refine⟨fun x hx=>?_,h⟩
        rw[List.mem_cons] at hx
        rcases hx with rfl | hx
        · exact h1
        · exact zah h1 (hh.1 x hx)
      · rename_i h1
        rw[List.pairwise_cons]
        refine⟨fun x hx=>?_,zmc m hh.2⟩
        rw[zmb] at hx
        rcases hx with rfl | hx
        · unfold ltL;rw[zaf];omega
        · exact hh.1 x hx
theorem zma : ∀ (l:List (List Int)) (m:List Int),(inOrd l m).length≤l.length+1
  | [],m=>by simp [inOrd]
  | y :: ys, m => by
    have:=zma ys m
    unfold inOrd
    split
    · simp
    · split
      · simp
      · simp;omega
theorem zm8{l:List (List Int)}{m:List Int}{j:Nat}(h1 : ∀ x∈l.take j,0<cmpL m x)(h2 : ∀ x,l[j]? = some x→cmpL m x<0):inOrd l m=l.take j++m :: l.drop j:=by
  induction l generalizing j with
  | nil=>simp [inOrd]
  | cons y ys ih =>
    cases j with
    | zero =>
      have:=h2 y (by simp)
      simp only[List.take_zero,List.nil_append,List.drop_zero,inOrd]
      rw[if_neg (by omega),if_pos this]
    | succ j =>
      have:=h1 y (by simp)
      simp only[List.take_succ_cons,List.drop_succ_cons,List.cons_append,inOrd]
      have hi:=ih (j:=j) (fun x hx=>h1 x (by rw[List.take_succ_cons];exact List.mem_cons_of_mem _ hx)) (fun x hx=>h2 x (by simpa using hx))
      rw[if_neg (by omega),if_neg (by omega),hi]
theorem zm9{l:List (List Int)}{m:List Int}(hs:l.Pairwise ltL)(h:m∈l):inOrd l m=l:=by
  induction l with
  | nil=>simp at h
  | cons y ys ih =>
    rw[List.pairwise_cons] at hs
    unfold inOrd
    by_cases e:cmpL m y=0
    · rw[if_pos e]
    · rw[if_neg e]
      rw[List.mem_cons] at h
      have hm:m∈ys:=h.resolve_left fun e'=>e (zad.2 e')
      have:=hs.1 m hm
      unfold ltL at this
      have h3:=zaf y m
      rw[if_neg (by omega),ih hs.2 hm]
/-! ### Least marks -/
theorem zab : ∀ {k:Nat} {a b:List Int},a.take k=b.take k→k≤a.length→k≤b.length→cmpL a b=cmpL (a.drop k) (b.drop k)
  | 0,a,b,_,_,_=>rfl
  | k+1,[],b,_,h,_=>by simp at h
  | k+1,x :: a,[],_,_,h=>by simp at h
  | k + 1, x :: a, y :: b, h, h1, h2 => by
    simp only[List.take_succ_cons,List.cons.injEq] at h
    obtain⟨rfl,h⟩:=h
    rw[List.drop_succ_cons,List.drop_succ_cons,←zab h (by simpa using h1) (by simpa using h2)]
    show(if x<x then _ else if x<x then _ else cmpL a b)=_
    rw[if_neg (by omega),if_neg (by omega)]
theorem zaa{k:Nat}{a b:List Int}(h:a.take k=b.take k)(h1:k<a.length)(h2:k<b.length)(hn:cmpI a[k] b[k]≠0):cmpL a b=cmpI a[k] b[k]:=by
 rw[zab h (by omega) (by omega),List.drop_eq_getElem_cons h1,List.drop_eq_getElem_cons h2]
 unfold cmpI at hn ⊢
 unfold cmpL
 by_cases h3:a[k]<b[k]
 ·simp [h3]
 ·by_cases h4:b[k]<a[k]
  ·simp [h3,h4]
  ·simp [h3,h4] at hn
theorem za9{a b:Int}(h:cmpI a b=0):a=b:=by
 unfold cmpI at h
 split at h
 ·cases h
 ·split at h
  ·cases h
  ·omega
theorem zae{k:Nat}{a b:List Int}(h:a.take k=b.take k)(h1:k<a.length)(h2:k=b.length):cmpL a b=1:=by
 have e:b.drop k=[]:=List.drop_eq_nil_of_le (by omega)
 rw[zab h (by omega) (by omega),List.drop_eq_getElem_cons h1,e];rfl
theorem zac{a b:List Int}(h:a.take a.length=b.take a.length)(h2:a.length≤b.length):cmpL a b=if a.length<b.length then -1 else 0:=by
 rw[zab h (by omega) h2,List.drop_eq_nil_of_le (Nat.le_refl _)]
 split
 ·rename_i h3
  rw[List.drop_eq_getElem_cons h3];rfl
 ·rw[List.drop_eq_nil_of_le (by omega)];rfl
/-! ### What stands next to its like, element by element -/
end Go.Proofs.YtbaclnecajkknaaGreat.Pi
namespace Go.Proofs.YtbaclnecajkknaaGreat.Pi
open Go
set_option linter.all false

section
variable {α β : Type} [Inhabited α] (e : α → β)
abbrev rwA(d:Array α):List β:=d.toList.map e
theorem z17r(d:Array α){i:Nat}(h:i<d.size):(rwA e d)[i]? = some (e d[i]!):=by
 simp [h]
theorem z17q(d:Array α){i:Nat}(h:i<d.size):d.toList[i]? = some d[i]!:=by
 simp [h]
theorem z17u(d:Array α)(i j:Nat):(Sort.swp d i j).toList.map e=((d.toList.map e).set i (e d[j]!)).set j (e d[i]!):=by
 simp [Sort.swp,List.map_set]
end
abbrev ltC{α:Type}(cm:α→α→Int)(x y:α):Bool:=decide (cm x y<0)
theorem z1e2{α:Type}{cm:α→α→Int}{g:α→List Int}(h : ∀ x y,cm x y=cmpL (g x) (g y)):Sort.SWO (ltC cm):=by
 refine⟨fun x=>?_,fun x y z=>?_,fun x y z=>?_⟩
 ·simp only[ltC,h,decide_eq_false_iff_not]
  rw[zad.2 rfl];omega
 ·simp only[ltC,h,decide_eq_true_eq]
  exact zah
 ·simp only[ltC,h,decide_eq_false_iff_not]
  intro h1 h2 h3
  have h4:=zaf (g x) (g y)
  have h5:=zaf (g y) (g z)
  have h6:leL (g y) (g x):=zp6 h1
  have h7:leL (g z) (g y):=zp6 h2
  have h8:=zp7 h7 h6
  unfold leL at h8
  have:=zaf (g x) (g z)
  omega
theorem z10w{α:Type}[Inhabited α]{a b:Nat}{d d':Array α}(h:Sort.PermIn a b d d'):d'.size=d.size:=h.1
theorem zmy{α:Type}[Inhabited α](lt:α→α→Bool){a b i:Nat}(d:Array α)(h:i<b):Sort.insOuter lt a b i d=Sort.insOuter lt a b (i+1) (Sort.insInner lt a i d):=by rw[Sort.insOuter,if_pos h]
theorem zmx{α:Type}[Inhabited α](lt:α→α→Bool){a b i:Nat}(d:Array α)(h:¬i<b):Sort.insOuter lt a b i d=d:=by rw[Sort.insOuter,if_neg h]
theorem zmt{α:Type}[Inhabited α](lt:α→α→Bool){a j:Nat}(d:Array α)(h:a<j)(hl:lt d[j]! d[j-1]! = true):Sort.insInner lt a j d=Sort.insInner lt a (j-1) (Sort.swp d j (j-1)):=by
 obtain⟨k,rfl⟩ : ∃ k,j=k+1:=⟨j-1,by omega⟩
 rw[Sort.insInner]
 simp only[Nat.add_sub_cancel] at hl ⊢
 rw[hl]
 simp
 intro h2;omega
theorem zms{α:Type}[Inhabited α](lt:α→α→Bool){a j:Nat}(d:Array α)(h:j≤a∨lt d[j]! d[j-1]! = false):Sort.insInner lt a j d=d:=by
  cases j with
  | zero=>rfl
  | succ k =>
    rw[Sort.insInner]
    simp only[Nat.add_sub_cancel] at h
    rcases h with h | h
    · rw[if_neg];simp;omega
    · rw[h];simp
theorem z17t{α β:Type}[Inhabited α](e:α→β)(d:Array α){i j:Nat}(y:α)(hi:i<d.size)(hj:j<d.size):((d.toList.map e).set i (e y))[j]? = some (e (if i=j then y else d[j]!)):=by
 rw[List.getElem?_set]
 by_cases h:i=j
 ·rw[if_pos h,if_pos h];simp [hi]
 ·rw[if_neg h,if_neg h]
  exact z17r e d hj
theorem z19n{α:Type}[Inhabited α](lt:α→α→Bool){hi f r:Nat}(d:Array α)(h:hi≤2*r+1):Sort.siftDown lt hi f r d=d:=by
 rw[Sort.siftDown,dif_pos h]
theorem z19q{α:Type}[Inhabited α](lt:α→α→Bool){hi f r c:Nat}(d:Array α)(h:2*r+1<hi)(hc:(c=2*r+2∧2*r+2<hi∧lt d[f+(2*r+1)]! d[f+(2*r+2)]! = true)∨(c=2*r+1∧¬(2*r+2<hi∧lt d[f+(2*r+1)]! d[f+(2*r+2)]! = true)))(hs:lt d[f+r]! d[f+c]! = false):Sort.siftDown lt hi f r d=d:=by
 rw[Sort.siftDown,dif_neg (by omega)]
 rcases hc with⟨rfl,h1,h2⟩ | ⟨rfl,h1⟩
 ·rw[if_pos (by simp only[Bool.and_eq_true,decide_eq_true_eq];exact⟨h1,h2⟩),if_pos (by simp [hs])]
 ·rw[if_neg (by simp only[Bool.and_eq_true,decide_eq_true_eq];exact h1),if_pos (by simp [hs])]
theorem z19o{α:Type}[Inhabited α](lt:α→α→Bool){hi f r c:Nat}(d:Array α)(h:2*r+1<hi)(hc:(c=2*r+2∧2*r+2<hi∧lt d[f+(2*r+1)]! d[f+(2*r+2)]! = true)∨(c=2*r+1∧¬(2*r+2<hi∧lt d[f+(2*r+1)]! d[f+(2*r+2)]! = true)))(hs:lt d[f+r]! d[f+c]! = true):Sort.siftDown lt hi f r d=Sort.siftDown lt hi f c (Sort.swp d (f+r) (f+c)):=by
 rw[Sort.siftDown,dif_neg (by omega)]
 rcases hc with⟨rfl,h1,h2⟩ | ⟨rfl,h1⟩
 ·rw[if_pos (by simp only[Bool.and_eq_true,decide_eq_true_eq];exact⟨h1,h2⟩),if_neg (by simp [hs]),dif_pos h1]
 ·rw[if_neg (by simp only[Bool.and_eq_true,decide_eq_true_eq];exact h1),if_neg (by simp [hs])]
theorem z19p{α:Type}[Inhabited α](lt:α→α→Bool)(hi f:Nat) : ∀ (n r:Nat) (d:Array α),hi-r≤n→(Sort.siftDown lt hi f r d).size=d.size
  | 0,r,d,hn=>by rw[z19n lt d (by omega)]
  | n + 1, r, d, hn => by
    by_cases h:hi≤2*r+1
    · rw[z19n lt d h]
    · obtain⟨c,hc⟩ : ∃ c,(c=2*r+2∧2*r+2<hi∧lt d[f+(2*r+1)]! d[f+(2*r+2)]! = true)∨(c=2*r+1∧¬(2*r+2<hi∧lt d[f+(2*r+1)]! d[f+(2*r+2)]! = true)):=by
        by_cases hh:2*r+2<hi∧lt d[f+(2*r+1)]! d[f+(2*r+2)]! = true
        · exact⟨_,.inl ⟨rfl,hh⟩⟩
        · exact⟨_,.inr ⟨rfl,hh⟩⟩
      cases hs:lt d[f+r]! d[f+c]! with
      | false=>rw[z19q lt d (by omega) hc hs]
      | true =>
        rw[z19o lt d (by omega) hc hs,z19p lt hi f n c _ (by rcases hc with⟨rfl,_⟩ | ⟨rfl,_⟩<;>omega),Sort.size_swp]
@[go_sem] theorem z6o{bl:Bool}{k:IntKind}{x y:Int}:binV bl .xor (.int k x) (.int k y)=some (.int k (bits .xor k x y)):=by simp [binV,binI]
theorem z1h5{x y:Int}(hx:0≤x∧x<18446744073709551616)(hy:0≤y∧y<18446744073709551616):0≤bits .xor .u64 x y∧bits .xor .u64 x y<18446744073709551616:=by
 have h:=bits_xor_u64_nat x.toNat y.toNat (by omega) (by omega)
 rw[show((x.toNat:Nat):Int)=x by omega,show((y.toNat:Nat):Int)=y by omega] at h
 have h2:x.toNat ^^^ y.toNat<2 ^ 64:=Nat.xor_lt_two_pow (by omega) (by omega)
 have h3:bits .xor .u64 x y=((x.toNat ^^^ y.toNat:Nat):Int):=h
 omega
theorem z37{x y:Int}(hx:0≤x∧x<18446744073709551616)(hy:0≤y∧y<18446744073709551616):0≤bits .and .u64 x y∧bits .and .u64 x y≤y:=by
 have h:=bits_and_u64_nat x.toNat y.toNat (by omega) (by omega)
 rw[show((x.toNat:Nat):Int)=x by omega,show((y.toNat:Nat):Int)=y by omega] at h
 have h2:x.toNat &&& y.toNat≤y.toNat:=Nat.and_le_right
 have h3:bits .and .u64 x y=((x.toNat &&& y.toNat:Nat):Int):=h
 omega
theorem z19g{x:Int}(k:Nat)(hx:0≤x∧x<18446744073709551616):0≤x / 2 ^ k∧x / 2 ^ k<18446744073709551616:=by
 have h1:(0:Int)<2 ^ k:=Int.pow_pos (by decide)
 exact⟨Int.ediv_nonneg hx.1 (by omega),Int.lt_of_le_of_lt (Int.ediv_le_self _ hx.1) hx.2⟩
theorem z6r{n:Nat}(h:256≤n):Sort.bitsLen n=8+Sort.bitsLen (n / 256):=by
 have h1:=Sort.bitsLen_le_iff n (8+Sort.bitsLen (n / 256))
 have h2:=Sort.lt_two_pow_bitsLen (n / 256)
 have h3:n<2 ^ (8+Sort.bitsLen (n / 256)):=by
  rw[Nat.pow_add]
  have:n<256*2 ^ Sort.bitsLen (n / 256):=by
   have:=Nat.div_add_mod n 256
   have:=Nat.mod_lt n (show 256>0 by decide)
   have:256*(n / 256+1)≤256*2 ^ Sort.bitsLen (n / 256):=Nat.mul_le_mul_left _ h2
   omega
  exact this
 have h4:=h1.2 h3
 have h5:1≤n / 256:=by omega
 have h6:=Sort.two_pow_bitsLen_le (n:=n / 256) h5
 have h7:8+Sort.bitsLen (n / 256)≤Sort.bitsLen n:=by
  have h8:=Sort.lt_two_pow_bitsLen n
  apply Decidable.byContradiction
  intro hn
  have h9:Sort.bitsLen n+1≤8+Sort.bitsLen (n / 256):=by omega
  have h10:2 ^ (Sort.bitsLen n+1)≤2 ^ (8+Sort.bitsLen (n / 256)):=Nat.pow_le_pow_right (by decide) h9
  rw[Nat.pow_add,Nat.pow_add] at h10
  have h11:256*2 ^ Sort.bitsLen (n / 256)≤256*(2*(n / 256)):=Nat.mul_le_mul_left _ h6
  have:=Nat.div_mul_le_self n 256
  have h12:(2:Nat) ^ 8=256:=rfl
  rw[h12] at h10
  omega
 omega
section
variable {α : Type} [Inhabited α] (lt : α → α → Bool)
theorem z186(d:Array α){b i:Nat}(h:i<b)(hl:lt d[i]! d[i-1]! = false):Sort.scanSorted lt d b i=Sort.scanSorted lt d b (i+1):=by
 rw[Sort.scanSorted,if_pos (by simp [h,hl])]
theorem z185(d:Array α){b i:Nat}(h:b≤i∨lt d[i]! d[i-1]! = true):Sort.scanSorted lt d b i=i:=by
 rw[Sort.scanSorted]
 rcases h with h | h
 ·rw[if_neg (by simp;omega)]
 ·rw[if_neg (by simp [h])]
theorem z193(d:Array α){j:Nat}(h:0<j)(hl:lt d[j]! d[j-1]! = true):Sort.shiftDown lt j d=Sort.shiftDown lt (j-1) (Sort.swp d j (j-1)):=by
 obtain⟨k,rfl⟩ : ∃ k,j=k+1:=⟨j-1,by omega⟩
 simp only[Nat.add_sub_cancel] at hl ⊢
 rw[Sort.shiftDown,hl];simp
theorem z192(d:Array α){j:Nat}(h:j=0∨lt d[j]! d[j-1]! = false):Sort.shiftDown lt j d=d:=by
  cases j with
  | zero=>rfl
  | succ k =>
    rcases h with h | h
    · omega
    · simp only[Nat.add_sub_cancel] at h
      rw[Sort.shiftDown,h];simp
theorem z19k(d:Array α){b j:Nat}(h:j<b)(hl:lt d[j]! d[j-1]! = true):Sort.shiftUp lt b j d=Sort.shiftUp lt b (j+1) (Sort.swp d j (j-1)):=by
 rw[Sort.shiftUp,if_pos h,hl];simp
theorem z19j(d:Array α){b j:Nat}(h:b≤j∨lt d[j]! d[j-1]! = false):Sort.shiftUp lt b j d=d:=by
 rw[Sort.shiftUp]
 rcases h with h | h
 ·rw[if_neg (by omega)]
 ·split
  ·rw[h];simp
  ·rfl
end
section
variable {α : Type} [Inhabited α]
theorem up_go(p:α→Bool)(d:Array α){i j:Nat}(h:i≤j)(hp:p d[i]! = true):Sort.scanUp p d j i=Sort.scanUp p d j (i+1):=by
 rw[Sort.scanUp,if_pos (by simp only[Bool.and_eq_true,decide_eq_true_eq];exact⟨h,hp⟩)]
theorem z1fx(p:α→Bool)(d:Array α){i j:Nat}(h:j<i∨p d[i]! = false):Sort.scanUp p d j i=i:=by
 rw[Sort.scanUp,if_neg]
 simp only[Bool.and_eq_true,decide_eq_true_eq]
 rintro⟨h1,h2⟩
 rcases h with h | h
 ·omega
 ·rw[h] at h2;cases h2
theorem zcf(p:α→Bool)(d:Array α){i j:Nat}(h:i≤j)(h0:0<j)(hp:p d[j]! = true):Sort.scanDown p d i j=Sort.scanDown p d i (j-1):=by
 obtain⟨k,rfl⟩ : ∃ k,j=k+1:=⟨j-1,by omega⟩
 rw[Sort.scanDown,if_pos (by simp only[Bool.and_eq_true,decide_eq_true_eq];exact⟨h,hp⟩)];rfl
theorem zce(p:α→Bool)(d:Array α){i j:Nat}(h:j<i∨p d[j]! = false):Sort.scanDown p d i j=j:=by
  cases j with
  | zero=>rfl
  | succ k =>
    rw[Sort.scanDown,if_neg]
    simp only[Bool.and_eq_true,decide_eq_true_eq]
    rintro⟨h1,h2⟩
    rcases h with h | h
    · omega
    · rw[h] at h2;cases h2
end
theorem z10x{α:Type}[Inhabited α]{d E:Array α}(h:Sort.PermIn 0 d.size d E):E.toList.Perm d.toList:=by
 have h1:=h.2.2
 have h2:=h.1
 simpa [h2,Array.extract_eq_self_of_le] using h1
theorem z10e{α:Type}[Inhabited α]{lt:α→α→Bool}{E:Array α}(h:Sort.SortedIn lt 0 E.size E):E.toList.Pairwise fun x y=>lt y x=false:=by
 rw[List.pairwise_iff_getElem]
 intro i j hi hj hij
 have:=h i j (by omega) hij (by simpa using hj)
 simp only[Array.length_toList] at hi hj
 rw[getElem!_pos E i hi,getElem!_pos E j hj] at this
 simpa using this
end Go.Proofs.YtbaclnecajkknaaGreat.Pi
namespace Go.Proofs.YtbaclnecajkknaaGreat.Pi
open Go
set_option linter.all false

inductive Rk (ar:List Arc3) (S:List Int):Int→Prop
 | base {k:Int} (h:k∈S):Rk ar S k
 | step {a:Arc3} (h:a∈ar) (r:Rk ar S a.dst):Rk ar S a.src
def z44(ar:List Arc3)(n:Nat):Prop:=∀ a∈ar,0≤a.src∧a.src<n∧0≤a.dst∧a.dst<n
open Classical in
noncomputable def toL(ar:List Arc3)(n:Nat)(S:List Int):List Bool:=(List.range n).map fun(k:Nat)=>decide (Rk ar S (k:Int))
theorem z1eu(ar:List Arc3)(n:Nat)(S:List Int):(toL ar n S).length=n:=by simp [toL]
theorem z1es{ar:List Arc3}{n:Nat}{S:List Int}{k:Nat}(hk:k<n):(toL ar n S)[k]'(by rw[z1eu];exact hk)=true↔Rk ar S k:=by simp [toL]
def sndB(ar:List Arc3)(S:List Int)(c:List Bool):Prop:=∀ k:Nat,c[k]? = some true→Rk ar S k
def hasS(S:List Int)(c:List Bool):Prop:=∀ k∈S,c[k.toNat]? = some true
def clsB(ar:List Arc3)(c:List Bool):Prop:=∀ a∈ar,c[a.dst.toNat]? = some true→c[a.src.toNat]? = some true
theorem z1ev{ar:List Arc3}{n:Nat}{S:List Int}{c:List Bool}(hl:c.length=n)(hS : ∀ k∈S,0≤k∧k<n)(hs:sndB ar S c)(hb:hasS S c)(hc:clsB ar c):c=toL ar n S:=by
  have h : ∀ k,Rk ar S k→c[k.toNat]? = some true:=by
    intro k hk
    induction hk with
    | base h=>exact hb _ h
    | step h _ ih=>exact hc _ h ih
  apply List.ext_getElem?
  intro k
  by_cases hk:k<n
  · rw[List.getElem?_eq_getElem (by omega),List.getElem?_eq_getElem (by rw[z1eu];exact hk)]
    congr 1
    cases e:c[k]'(by omega) with
    | true=>exact((z1es hk).2 (hs k (by rw[List.getElem?_eq_getElem (by omega),e]))).symm
    | false =>
      cases e2:(toL ar n S)[k]'(by rw[z1eu];exact hk) with
      | false=>rfl
      | true =>
        have:=h _ ((z1es hk).1 e2)
        rw[Int.toNat_natCast,List.getElem?_eq_getElem (by omega),e] at this
        cases this
  · rw[List.getElem?_eq_none (by omega),List.getElem?_eq_none (by rw[z1eu];omega)]
theorem z1ba{ar:List Arc3}{S:List Int}{c:List Bool}{k:Int}(h:sndB ar S c)(h0:0≤k)(hk:Rk ar S k):sndB ar S (c.set k.toNat true):=by
 intro j hj
 rw[List.getElem?_set] at hj
 split at hj
 ·rename_i e
  rw[←e,Int.toNat_of_nonneg h0];exact hk
 ·exact h j hj
theorem z18s{c:List Bool}{k j:Nat}(h:c[j]? = some true):(c.set k true)[j]? = some true:=by
 rw[List.getElem?_set]
 split
 ·rename_i e;subst e
  rw[if_pos (List.getElem?_eq_some_iff.1 h).1]
 ·exact h
theorem zk4{S:List Int}{c:List Bool}{k:Nat}(h:hasS S c):hasS S (c.set k true):=fun x hx=>z18s (h x hx)
theorem z1be{ar:List Arc3}{S:List Int}{n:Nat}:sndB ar S (List.replicate n false):=by
 intro k hk
 rw[List.getElem?_replicate] at hk
 split at hk<;>cases hk
def passK(ar:List Arc3)(c:List Bool):Nat→List Bool×Bool
  | 0=>(c,false)
  | k + 1 => let p := passK ar c k
    match ar[k]? with
    | some a=>if p.1[a.dst.toNat]? = some true∧p.1[a.src.toNat]? = some false then(p.1.set a.src.toNat true,true) else p
    | none=>p
theorem z10k{ar:List Arc3}{c:List Bool} : ∀ k,(passK ar c k).1.length=c.length
  | 0=>rfl
  | k + 1 => by
    unfold passK
    simp only
    split
    · split
      · simp [z10k k]
      · exact z10k k
    · exact z10k k
theorem z10n{ar:List Arc3}{c:List Bool}{k:Nat}(hk:k<ar.length)(h1:(passK ar c k).1[ar[k].dst.toNat]? = some true)(h2:(passK ar c k).1[ar[k].src.toNat]? = some false):passK ar c (k+1)=((passK ar c k).1.set ar[k].src.toNat true,true):=by
 rw[passK];simp only[List.getElem?_eq_getElem hk,h1,h2];simp
theorem z10l{ar:List Arc3}{c:List Bool}{k:Nat}(hk:k<ar.length)(h:¬((passK ar c k).1[ar[k].dst.toNat]? = some true∧(passK ar c k).1[ar[k].src.toNat]? = some false)):passK ar c (k+1)=passK ar c k:=by
 rw[passK];simp only[List.getElem?_eq_getElem hk,h];simp
theorem z10i{ar:List Arc3}{c:List Bool}{k:Nat}(hk:ar.length≤k):passK ar c (k+1)=passK ar c k:=by
 rw[passK];simp only[List.getElem?_eq_none hk]
theorem z10m{ar:List Arc3}{S:List Int}{c:List Bool}{n:Nat}(ha:z44 ar n)(h:sndB ar S c) : ∀ k,sndB ar S (passK ar c k).1
  | 0=>h
  | k + 1 => by
    have ih:=z10m ha h k
    by_cases hk:k<ar.length
    · by_cases hc:(passK ar c k).1[ar[k].dst.toNat]? = some true∧(passK ar c k).1[ar[k].src.toNat]? = some false
      · rw[z10n hk hc.1 hc.2]
        have hm:=List.getElem_mem hk
        have hr:=ih _ hc.1
        rw[Int.toNat_of_nonneg (ha _ hm).2.2.1] at hr
        exact z1ba ih (ha _ hm).1 (.step hm hr)
      · rw[z10l hk hc];exact ih
    · rw[z10i (by omega)];exact ih
theorem z10j{ar:List Arc3}{S:List Int}{c:List Bool}(h:hasS S c) : ∀ k,hasS S (passK ar c k).1
  | 0=>h
  | k + 1 => by
    have ih:=z10j (ar:=ar) h k
    unfold passK
    simp only
    split
    · split
      · exact zk4 ih
      · exact ih
    · exact ih
theorem z10h{ar:List Arc3}{c:List Bool} : ∀ k,(cntF (passK ar c k).1≤cntF c)∧((passK ar c k).2=true→cntF (passK ar c k).1<cntF c)∧((passK ar c k).2=false→(passK ar c k).1=c)
  | 0=>⟨Nat.le_refl _,fun h=>(by cases h),fun _=>rfl⟩
  | k + 1 => by
    have ih:=z10h (ar:=ar) (c:=c) k
    by_cases hk:k<ar.length
    · by_cases hc:(passK ar c k).1[ar[k].dst.toNat]? = some true∧(passK ar c k).1[ar[k].src.toNat]? = some false
      · rw[z10n hk hc.1 hc.2]
        have hl:=(List.getElem?_eq_some_iff.1 hc.2).1
        have:=zan hl (by rw[List.getD_eq_getElem?_getD,hc.2];rfl)
        refine⟨by simp only;omega,fun _=>by simp only;omega,fun h=>by cases h⟩
      · rw[z10l hk hc];exact ih
    · rw[z10i (by omega)];exact ih
theorem z10g{ar:List Arc3}{c:List Bool}{n:Nat}(hl:c.length=n)(ha:z44 ar n)(h:(passK ar c ar.length).2=false):clsB ar c:=by
  have key : ∀ k,k≤ar.length→(passK ar c k).2=false→∀ i,(hi:i<k)→∀ hi2:i<ar.length,c[ar[i].dst.toNat]? = some true→c[ar[i].src.toNat]? = some true:=by
    intro k
    induction k with
    | zero=>intro _ _ i hi;omega
    | succ k ih =>
      intro hk h2 i hi hi2 hd
      have hkl:k<ar.length:=by omega
      by_cases hc:(passK ar c k).1[ar[k].dst.toNat]? = some true∧(passK ar c k).1[ar[k].src.toNat]? = some false
      · rw[z10n hkl hc.1 hc.2] at h2;cases h2
      · rw[z10l hkl hc] at h2
        have he:=(z10h k).2.2 h2
        by_cases e:i=k
        · subst e
          rw[he] at hc
          have hm:=ha _ (List.getElem_mem hi2)
          cases e2:c[ar[i].src.toNat]? with
          | none=>rw[List.getElem?_eq_none_iff] at e2;omega
          | some b =>
            cases b with
            | true=>rfl
            | false=>exact(hc ⟨hd,e2⟩).elim
        · exact ih (by omega) h2 i (by omega) hi2 hd
  intro a hm hd
  obtain⟨i,hi,rfl⟩:=List.mem_iff_getElem.1 hm
  exact key ar.length (Nat.le_refl _) h i hi hi hd

/-! ### From where arcs come to a marking -/
def befs(ar:List Arc3)(j:Int):List Int:=(ar.filter fun a=>decide (a.dst=j)).map (·.src)
theorem z5d{ar:List Arc3}{j x:Int}:x∈befs ar j↔∃ a∈ar,a.dst=j∧a.src=x:=by
 simp only[befs,List.mem_map,List.mem_filter,decide_eq_true_eq]
 constructor
 ·rintro⟨a,⟨h1,h2⟩,h3⟩;exact⟨a,h1,h2,h3⟩
 ·rintro⟨a,h1,h2,h3⟩;exact⟨a,⟨h1,h2⟩,h3⟩
structure BF(ar:List Arc3)(n:Nat)(S:List Int)(c:List Bool)(q:List Int)(i:Nat):Prop where
 len:c.length=n
 snd:sndB ar S c
 has:hasS S c
 inn : ∀ x∈q,0≤x∧x<n
 mkd : ∀ x∈q,c[x.toNat]? = some true
 all : ∀ k:Nat,c[k]? = some true→(k:Int)∈q
 cnt:q.length+cntF c≤n
 le:i≤q.length
 done : ∀ j,(hj:j<i)→∀ a∈ar,a.dst=q[j]'(by omega)→c[a.src.toNat]? = some true
theorem BF.end_{ar:List Arc3}{n:Nat}{S:List Int}{c:List Bool}{q:List Int}(h:BF ar n S c q q.length)(ha:z44 ar n)(hS : ∀ k∈S,0≤k∧k<n):c=toL ar n S:=by
 refine z1ev h.len hS h.snd h.has fun a hm hd=>?_
 have:=h.all _ hd
 rw[Int.toNat_of_nonneg (ha a hm).2.2.1] at this
 obtain⟨j,hj,e⟩:=List.mem_iff_getElem.1 this
 exact h.done j hj a hm e.symm
structure BG(ar:List Arc3)(n:Nat)(S:List Int)(i:Nat)(L:List Int)(m:Nat)(x:Int)(c:List Bool)(q:List Int):Prop extends BF ar n S c q i where
 lt:i<q.length
 at_:q[i]? = some x
 up : ∀ j,j<m→∀ y,L[j]? = some y→c[y.toNat]? = some true
theorem BG.next{ar:List Arc3}{n:Nat}{S:List Int}{i:Nat}{x:Int}{c:List Bool}{q:List Int}(h:BG ar n S i (befs ar x) (befs ar x).length x c q):BF ar n S c q (i+1):=by
 refine⟨h.len,h.snd,h.has,h.inn,h.mkd,h.all,h.cnt,h.lt,fun j hj a hm e=>?_⟩
 by_cases hji:j=i
 ·subst hji
  have hx:=h.at_
  rw[List.getElem?_eq_getElem h.lt] at hx
  rw[Option.some.inj hx] at e
  obtain⟨k,hk,he⟩:=List.mem_iff_getElem.1 (z5d.2 ⟨a,hm,e,rfl⟩)
  exact h.up k hk _ (by rw[List.getElem?_eq_getElem hk,he])
 ·exact h.done j (by omega) a hm e
theorem BG.old{ar:List Arc3}{n:Nat}{S:List Int}{i:Nat}{L:List Int}{m:Nat}{x:Int}{c:List Bool}{q:List Int}(h:BG ar n S i L m x c q)(hm:m<L.length)(hc:c[L[m].toNat]? = some true):BG ar n S i L (m+1) x c q:=by
 refine⟨h.toBF,h.lt,h.at_,fun j hj y hy=>?_⟩
 by_cases e:j=m
 ·subst e
  rw[List.getElem?_eq_getElem hm] at hy
  cases hy;exact hc
 ·exact h.up j (by omega) y hy
theorem BG.new{ar:List Arc3}{n:Nat}{S:List Int}{i:Nat}{m:Nat}{x:Int}{c:List Bool}{q:List Int}(h:BG ar n S i (befs ar x) m x c q)(ha:z44 ar n)(hm:m<(befs ar x).length)(hc:c[(befs ar x)[m].toNat]? = some false) :
  BG ar n S i (befs ar x) (m+1) x (c.set (befs ar x)[m].toNat true) (q++[(befs ar x)[m]]):=by
 obtain⟨a,h1,h2,h3⟩:=z5d.1 (List.getElem_mem hm)
 obtain⟨a1,a2,a3,a4⟩:=ha a h1
 have hl:=h.len
 have hx:=h.at_
 have hi:=h.lt
 rw[List.getElem?_eq_getElem hi] at hx
 have hq:x∈q:=by rw[←Option.some.inj hx];exact List.getElem_mem hi
 generalize hy:(befs ar x)[m]=y at *
 subst h3
 have hcy:a.src.toNat<c.length:=by omega
 have hRk:Rk ar S a.src:=by
  refine .step h1 ?_
  have hr:=h.snd _ (h.mkd x hq)
  rw[Int.toNat_of_nonneg (h.inn x hq).1] at hr
  rw[h2];exact hr
 have hcnt:=zan hcy (by rw[List.getD_eq_getElem?_getD,hc];rfl)
 have hcn:=h.cnt
 refine⟨⟨by simpa using hl,z1ba h.snd a1 hRk,zk4 h.has,fun z hz=>?_,fun z hz=>?_,fun k hk=>?_,by rw[List.length_append];simp only[List.length_cons,List.length_nil];omega,by rw[List.length_append];have:=h.le;omega,fun j hj a' hm' e=>?_⟩,by rw[List.length_append];omega,?_,fun j hj z hz=>?_⟩
 ·rcases List.mem_append.1 hz with hz | hz
  ·exact h.inn z hz
  ·rw[List.mem_singleton] at hz;subst hz;exact⟨a1,a2⟩
 ·rcases List.mem_append.1 hz with hz | hz
  ·exact z18s (h.mkd z hz)
  ·rw[List.mem_singleton] at hz;subst hz;rw[List.getElem?_set_self hcy]
 ·rw[List.getElem?_set] at hk
  split at hk
  ·rename_i e
   refine List.mem_append.2 (.inr ?_)
   rw[List.mem_singleton];omega
  ·exact List.mem_append.2 (.inl (h.all k hk))
 ·have hjq:j<q.length:=by omega
  rw[List.getElem_append_left hjq] at e
  exact z18s (h.done j hj a' hm' e)
 ·rw[List.getElem?_append_left hi,List.getElem?_eq_getElem hi];exact hx
 ·by_cases e:j=m
  ·subst e
   rw[List.getElem?_eq_getElem hm,hy] at hz
   cases hz
   rw[List.getElem?_set_self hcy]
  ·exact z18s (h.up j (by omega) z hz)
theorem BF.look{ar:List Arc3}{n:Nat}{S:List Int}{c:List Bool}{q:List Int}{i:Nat}(h:BF ar n S c q i)(hi:i<q.length):BG ar n S i (befs ar q[i]) 0 q[i] c q:=⟨h,hi,List.getElem?_eq_getElem hi,fun j hj=>by omega⟩
theorem BF.start{ar:List Arc3}{n:Nat}{p:Int}(h0:0≤p)(h:p<n):BF ar n [p] ((List.replicate n false).set p.toNat true) [p] 0:=by
 have hp:p.toNat<(List.replicate n false).length:=by simp;omega
 have hc:=zan (l:=List.replicate n false) (k:=p.toNat) hp (by rw[List.getD_eq_getElem?_getD,List.getElem?_replicate];split<;>rfl)
 have hl:=zal (List.replicate n false)
 rw[List.length_replicate] at hl
 refine⟨by simp,z1ba z1be h0 (.base (by simp)),fun k hk=>?_,fun x hx=>?_,fun x hx=>?_,fun k hk=>?_,by simp only[List.length_cons,List.length_nil];omega,Nat.zero_le _,fun j hj=>by omega⟩
 ·rw[List.mem_singleton] at hk;subst hk;rw[List.getElem?_set_self hp]
 ·rw[List.mem_singleton] at hx;subst hx;exact⟨h0,h⟩
 ·rw[List.mem_singleton] at hx;subst hx;rw[List.getElem?_set_self hp]
 ·rw[List.getElem?_set] at hk
  split at hk
  ·rename_i e;rw[List.mem_singleton];omega
  ·rw[List.getElem?_replicate] at hk;split at hk<;>cases hk
end Go.Proofs.YtbaclnecajkknaaGreat.Pi
namespace Go.Proofs.YtbaclnecajkknaaGreat.Pi
open Go
set_option linter.all false

/-! ### How a space is laid out -/
structure Bfs(ar:List Arc3)(n:Nat):Prop where
 inn:z44 ar n
 srt : ∀ i j,i≤j→∀ (hi:i<ar.length) (hj:j<ar.length),ar[i].src≤ar[j].src
 pre : ∀ i,(hi:i<ar.length)→∀ q:Nat,1≤q→(q:Int)<ar[i].dst→∃ j,∃ hj:j<i,(ar[j]'(by omega)).dst=q
 back : ∀ q:Nat,0<q→q<n→∃ i,∃ h:i<ar.length,ar[i].dst=q∧ar[i].src<q∧∀ i',(h':i'<i)→(ar[i']'(by omega)).dst≠q
structure ExB(s:Ex)(k:Nat):Prop where
 le : ∀ a∈s.sp.ar,a.src≤k
 srt : ∀ i j,i≤j→∀ (hi:i<s.sp.ar.length) (hj:j<s.sp.ar.length),s.sp.ar[i].src≤s.sp.ar[j].src
 pre : ∀ i,(hi:i<s.sp.ar.length)→∀ q:Nat,1≤q→(q:Int)<s.sp.ar[i].dst→∃ j,∃ hj:j<i,(s.sp.ar[j]'(by omega)).dst=q
theorem ExB.add{s:Ex}{k:Nat}{ms:List (List Int)}{t d c:Int}(h:ExB s k)(hd : ∀ q:Nat,1≤q→(q:Int)<d→∃ j,∃ hj:j<s.sp.ar.length,s.sp.ar[j].dst=q):ExB ⟨⟨ms,s.sp.ar++[⟨k,t,d⟩]⟩,c⟩ k:=by
 refine⟨fun a ha=>?_,fun i j hij hi hj=>?_,fun i hi q h1 h2=>?_⟩
 ·rcases List.mem_append.1 ha with ha | ha
  ·exact h.le a ha
  ·rw[List.mem_singleton] at ha;subst ha;exact Int.le_refl _
 ·simp only[List.length_append,List.length_cons,List.length_nil] at hi hj
  simp only[List.getElem_append]
  by_cases hj2:j<s.sp.ar.length
  ·rw[dif_pos (show i<s.sp.ar.length by omega),dif_pos hj2];exact h.srt i j hij _ _
  ·rw[dif_neg hj2]
   by_cases hi2:i<s.sp.ar.length
   ·rw[dif_pos hi2]
    simp only[List.getElem_singleton]
    exact h.le _ (List.getElem_mem hi2)
   ·rw[dif_neg hi2];simp
 ·simp only[List.length_append,List.length_cons,List.length_nil] at hi
  by_cases hi2:i<s.sp.ar.length
  ·simp only[List.getElem_append,dif_pos hi2] at h2
   obtain⟨j,hj,e⟩:=h.pre i hi2 q h1 h2
   exact⟨j,hj,by simp only[List.getElem_append,dif_pos (show j<s.sp.ar.length by omega)];exact e⟩
  ·have:i=s.sp.ar.length:=by omega
   subst this
   simp only[List.getElem_append,dif_neg hi2,List.getElem_singleton] at h2
   obtain⟨j,hj,e⟩:=hd q h1 h2
   exact⟨j,hj,by simp only[List.getElem_append,dif_pos hj];exact e⟩
theorem ExB.stop{s:Ex}{k:Nat}(h:ExB s k)(c:Int):ExB ⟨s.sp,c⟩ k:=⟨h.le,h.srt,h.pre⟩
theorem zea{n:Net}{start:List Int}{b:Int}{k:Nat}{s:Ex}{t:Int}(ho:ExOk n start b s)(h:ExB s k):ExB (ze7 n b k s t) k:=by
  have all : ∀ q:Nat,1≤q→q<s.sp.ms.length→∃ j,∃ hj:j<s.sp.ar.length,s.sp.ar[j].dst=q:=fun q h1 h2=>by
    obtain⟨i,hi,e,_⟩:=ho.back q (by omega) h2
    exact⟨i,hi,e⟩
  by_cases h0:s.code=0
  case neg=>rw[zei h0];exact h
  cases ha:(zgc (trAt n t) (s.sp.ms.getD k [])).all (inB 0 50) with
  | false=>rw[zek h0 ha];exact h.stop 3
  | true =>
    by_cases h2:0≤findM s.sp.ms (zgc (trAt n t) (s.sp.ms.getD k []))
    · rw[zeg h0 ha h2]
      have:=(zg1 h2).1
      exact h.add fun q h3 h4=>all q h3 (by omega)
    · by_cases h3:b≤s.sp.ms.length
      · rw[zec h0 ha h2 h3];exact h.stop 2
      · rw[zee h0 ha h2 h3]
        exact h.add fun q h3 h4=>all q h3 (by omega)
theorem zdu{n:Net}{start:List Int}{b:Int}{k:Nat} : ∀ (l:List Int) (s:Ex),ExOk n start b s→ExB s k→k<s.sp.ms.length→(∀ t∈l,t∈enabL n (s.sp.ms.getD k []))→ExB (exL n b k s l) k
  | [],s,_,h,_,_=>h
  | t :: l, s, ho, h, hk, hl => by
    have h1:=zef ho hk (hl t (by simp))
    obtain⟨p,hp⟩:=zeh (n:=n) (b:=b) (k:=k) (s:=s) (t:=t)
    have e:(ze7 n b k s t).sp.ms.getD k []=s.sp.ms.getD k []:=by rw[hp,zin hk]
    exact zdu l (ze7 n b k s t) h1 (zea ho h) (by rw[hp];simp;omega) (fun u hu=>by rw[e];exact hl u (by simp [hu]))
theorem ExB.up{s:Ex}{k k':Nat}(h:ExB s k)(hk:k≤k'):ExB s k':=⟨fun a ha=>by have:=h.le a ha;omega,h.srt,h.pre⟩
theorem ze2{n:Net}{start:List Int}{b:Int} : ∀ (f k:Nat) (s:Ex),ExOk n start b s→ExB s k→∃ k',ExB (exRun n b f k s) k'
  | 0,k,s,_,h=>⟨k,h⟩
  | f + 1, k, s, ho, h => by
    have er:exRun n b (f+1) k s=if s.code≠0 then s else if k<s.sp.ms.length then exRun n b f (k+1) (exL n b k s (enabL n (s.sp.ms.getD k []))) else s:=rfl
    rw[er]
    split
    · exact⟨k,h⟩
    · split
      · rename_i hl
        exact ze2 f (k+1) _ (zdx (start:=start) (k:=k) _ s ho hl (fun t ht=>ht)).1 ((zdu _ s ho h hl (fun t ht=>ht)).up (by omega))
      · exact⟨k,h⟩
theorem zdo{n:Net}{start:List Int}{b:Int}(hm:zs4 n start=true)(hb:1≤b):Bfs (exAll n start b).sp.ar (exAll n start b).sp.ms.length:=by
 have ho:=(zdq hm hb).1
 obtain⟨k,h⟩ : ∃ k,ExB (exAll n start b) k:=by
  unfold exAll
  refine ze2 (start:=start) _ 0 _ ⟨rfl,fun m hm2=>?_,by simp;omega,by simp,fun a ha=>by simp at ha,fun j hj hl=>?_⟩ ⟨fun a ha=>by simp at ha,fun i j _ hi=>by simp at hi,fun i hi=>by simp at hi⟩
  ·simp only[List.mem_singleton] at hm2;subst hm2;exact hm
  ·simp only[List.length_cons,List.length_nil] at hl;omega
 refine⟨fun a ha=>?_,h.srt,h.pre,ho.back⟩
 have:=ho.arcs a ha
 omega
/-! ### Ways of some arcs -/
def Dk(ar:List Arc3)(p:Int):Nat→Int→Prop
 | 0,k=>k=p
 | d+1,k=>∃ a∈ar,a.src=k∧Dk ar p d a.dst
structure isFar(ar:List Arc3)(p:Int)(n:Nat)(F:List Int):Prop where
 len:F.length=n
 val : ∀ k:Nat,k<n→(F[k]? = some (-1)∧∀ e,¬Dk ar p e k)∨∃ d:Nat,F[k]? = some (d:Int)∧Dk ar p d k∧∀ e,e<d→¬Dk ar p e k
def treeW(ar:List Arc3):Nat→Nat→List Int
  | 0,_=>[]
  | f + 1, k => if k = 0 then [] else match ar[(arcTo ar k).toNat]? with
    | some a=>treeW ar f a.src.toNat++[a.by_]
    | none=>[]
def tw(ar:List Arc3)(k:Nat):List Int:=treeW ar (k+1) k
section
variable {ar : List Arc3} {n : Nat}
theorem Bfs.arc(h:Bfs ar n){q:Nat}(h0:0<q)(hq:q<n) : ∃ i,∃ hi:i<ar.length,arcTo ar q=i∧ar[i].dst=q∧0≤ar[i].src∧ar[i].src<q∧∀ i',(h':i'<i)→(ar[i']'(by omega)).dst≠q:=by
 obtain⟨i,hi,e1,e2,e3⟩:=h.back q h0 hq
 refine⟨i,hi,?_,e1,(h.inn _ (List.getElem_mem hi)).1,e2,e3⟩
 unfold arcTo
 refine zkg hi ?_ (decide_eq_true e1)
 rw[List.any_eq_false]
 intro x hx
 obtain⟨i',h1,rfl⟩:=List.mem_iff_getElem.1 hx
 have h2:i'<i:=by simp at h1;omega
 have:=e3 i' h2
 simpa using this
theorem z1ff(h:Bfs ar n) : ∀ (f g k:Nat),k<n→k<f→k<g→treeW ar f k=treeW ar g k
  | 0,_,k,_,hf,_=>by omega
  | f+1,0,k,_,_,hg=>by omega
  | f + 1, g + 1, k, hn, hf, hg => by
    unfold treeW
    split
    · rfl
    · rename_i h0
      obtain⟨i,hi,e,_,e2,e3,_⟩:=h.arc (by omega) hn
      rw[e,Int.toNat_natCast,List.getElem?_eq_getElem hi]
      simp only
      rw[z1ff h f g _ (by omega) (by omega) (by omega)]
theorem z1fn:tw ar 0=[]:=rfl
theorem z1fl(h:Bfs ar n){k i:Nat}(h0:0<k)(hk:k<n)(hi:i<ar.length)(e:arcTo ar k=i):tw ar k=tw ar ar[i].src.toNat++[ar[i].by_]:=by
 obtain⟨j,hj,e1,_,e2,e3,_⟩:=h.arc h0 hk
 have hij:j=i:=by rw[e] at e1;omega
 subst hij
 show(if k=0 then [] else match ar[(arcTo ar k).toNat]? with | some a=>treeW ar k a.src.toNat++[a.by_] | none=>[])=_
 rw[if_neg (by omega),e,Int.toNat_natCast,List.getElem?_eq_getElem hj]
 simp only
 rw[z1ff h k (ar[j].src.toNat+1) _ (by omega) (by omega) (by omega)];rfl
inductive Tp (ar:List Arc3) (p:Nat):Nat→List Int→Prop
 | refl:Tp ar p p []
 | step {c i:Nat} {U:List Int} (hi:i<ar.length) (e:arcTo ar c=i) (h0:0<c) (t:Tp ar p c U):Tp ar p ar[i].src.toNat (ar[i].by_ :: U)
theorem Tp.path(h:Bfs ar n){p t:Nat}{U:List Int}(hp:p<n)(ht:Tp ar p t U):t<n∧Dk ar p U.length t:=by
  induction ht with
  | refl=>exact⟨hp,rfl⟩
  | step hi e h0 t ih =>
    rename_i c i U
    obtain⟨j,hj,e1,e2,e3,e4,_⟩:=h.arc h0 ih.1
    have:j=i:=by rw[e] at e1;omega
    subst this
    refine⟨by omega,_,List.getElem_mem hi,(Int.toNat_of_nonneg e3).symm,?_⟩
    rw[e2];exact ih.2
theorem tw_tp(h:Bfs ar n){p:Nat}(hp:p<n) : ∀ (k:Nat) (U:List Int),k<n→Tp ar p k U→Tp ar p 0 (tw ar k++U)
  | 0,U,_,ht=>by rw[z1fn];exact ht
  | k + 1, U, hk, ht => by
    obtain⟨i,hi,e1,e2,e3,e4,_⟩:=h.arc (q:=k+1) (by omega) hk
    rw[z1fl h (by omega) hk hi e1,List.append_assoc]
    exact tw_tp h hp ar[i].src.toNat _ (by omega) (.step hi e1 (by omega) ht)
termination_by k => k
decreasing_by all_goals omega
inductive Gd (ar:List Arc3) (F:List Int) (p:Nat):Nat→List Int→Prop
 | refl:Gd ar F p p []
 | step {t i:Nat} {W:List Int} (hne:t≠p) (hi:i<ar.length) (hs:ar[i].src=t) (hf : ∀ u v,F[ar[i].dst.toNat]? = some u→F[t]? = some v→u=v-1) (hm : ∀ j,(hj:j<i)→(ar[j]'(by omega)).src=t→∀ u v,F[(ar[j]'(by omega)).dst.toNat]? = some u→F[t]? = some v→u≠v-1)
   (g:Gd ar F p ar[i].dst.toNat W):Gd ar F p t (ar[i].by_ :: W)
theorem isFar.at_{p:Nat}{F:List Int}(hF:isFar ar p n F){k d:Nat}(hk:k<n)(hd:Dk ar p d k)(hm : ∀ e,e<d→¬Dk ar p e k):F[k]? = some (d:Int):=by
 rcases hF.val k hk with⟨_,h⟩ | ⟨d',h1,h2,h3⟩
 ·exact(h d hd).elim
 ·have:d'=d:=by
   rcases Nat.lt_trichotomy d d' with h | h | h
   ·exact(h3 d h hd).elim
   ·exact h.symm
   ·exact(hm d' h h2).elim
  rw[h1,this]
end
end Go.Proofs.YtbaclnecajkknaaGreat.Pi
namespace Go.Proofs.YtbaclnecajkknaaGreat.Pi
open Go
set_option linter.all false

structure FQ(ar:List Arc3)(p:Int)(n:Nat)(F q:List Int)(w:Int→Prop):Prop where
 len:F.length=n
 val : ∀ k:Nat,∀ u,F[k]? = some u→u = -1∨∃ d:Nat,u=d∧Dk ar p d k
 zero:F[p.toNat]? = some 0
 inn : ∀ x∈q,0≤x∧∃ d:Nat,F[x.toNat]? = some (d:Int)
 srt:q.Pairwise fun x y=>∀ u v,F[x.toNat]? = some u→F[y.toNat]? = some v→u≤v
 bnd : ∀ k:Nat,∀ u,F[k]? = some u→∀ x∈q,∀ v,F[x.toNat]? = some v→u≤v+1
 cls : ∀ a∈ar,∀ u,F[a.dst.toNat]? = some u→0≤u→a.dst∉q→¬w a.dst→∃ v,F[a.src.toNat]? = some v∧0≤v∧v≤u+1
section
variable {ar : List Arc3} {p : Int} {n : Nat} {F q : List Int}
theorem FQ.end_(h:FQ ar p n F [] fun _=>False)(ha:z44 ar n)(hp:0≤p∧p<n):isFar ar p n F:=by
  have key : ∀ (e k:Nat),k<n→Dk ar p e k→∃ u,F[k]? = some u∧0≤u∧u≤e:=by
    intro e
    induction e with
    | zero =>
      intro k hk hd
      simp only[Dk] at hd
      refine⟨0,?_,by omega,by omega⟩
      have:=h.zero
      rwa [←hd,Int.toNat_natCast] at this
    | succ e ih =>
      rintro k hk ⟨a,hm,e1,hd⟩
      obtain⟨a1,a2,a3,a4⟩:=ha a hm
      obtain⟨u,h1,h2,h3⟩:=ih a.dst.toNat (by omega) (by rw[Int.toNat_of_nonneg a3];exact hd)
      obtain⟨v,h4,h5,h6⟩:=h.cls a hm u h1 h2 (by simp) (by simp)
      rw[e1,Int.toNat_natCast] at h4
      exact⟨v,h4,h5,by omega⟩
  refine⟨h.len,fun k hk=>?_⟩
  have hkl:k<F.length:=by rw[h.len];exact hk
  rcases h.val k _ (List.getElem?_eq_getElem hkl) with h1 | ⟨d,h1,h2⟩
  · refine .inl ⟨by rw[List.getElem?_eq_getElem hkl,h1],fun e hd=>?_⟩
    obtain⟨u,g1,g2,_⟩:=key e k hk hd
    rw[List.getElem?_eq_getElem hkl,h1] at g1
    have:=Option.some.inj g1
    omega
  · refine .inr ⟨d,by rw[List.getElem?_eq_getElem hkl,h1],h2,fun e he hd=>?_⟩
    obtain⟨u,g1,_,g3⟩:=key e k hk hd
    rw[List.getElem?_eq_getElem hkl,h1] at g1
    have:=Option.some.inj g1
    omega
theorem FQ.start(ha:z44 ar n)(hp:0≤p∧p<n):FQ ar p n ((List.replicate n (-1)).set p.toNat 0) [p] fun _=>False:=by
 have hl:p.toNat<(List.replicate n (-1:Int)).length:=by simp;omega
 have hz:((List.replicate n (-1:Int)).set p.toNat 0)[p.toNat]? = some 0:=by rw[List.getElem?_set_self hl]
 have hall : ∀ (k:Nat) (u:Int),((List.replicate n (-1:Int)).set p.toNat 0)[k]? = some u→(k=p.toNat∧u=0)∨u = -1:=by
  intro k u h
  rw[List.getElem?_set] at h
  split at h
  ·rename_i e
   exact .inl ⟨e.symm,(Option.some.inj h).symm⟩
  ·rw[List.getElem?_replicate] at h
   split at h
   ·exact .inr (Option.some.inj h).symm
   ·cases h
 refine⟨by simp,fun k u h=>?_,hz,fun x hx=>?_,by simp,fun k u h x hx v hv=>?_,fun a hm u h h0 hq _=>?_⟩
 ·rcases hall k u h with⟨h1,h2⟩ | h1
  ·exact .inr ⟨0,h2,by simp only[Dk];omega⟩
  ·exact .inl h1
 ·rw[List.mem_singleton] at hx;subst hx;exact⟨hp.1,0,hz⟩
 ·rw[List.mem_singleton] at hx;subst hx
  rw[hz] at hv
  have:=Option.some.inj hv
  rcases hall k u h with⟨_,h2⟩ | h1<;>omega
 ·rcases hall _ u h with⟨h1,_⟩ | h1
  ·refine(hq ?_).elim
   rw[List.mem_singleton]
   have:=(ha a hm).2.2.1
   omega
  ·omega
structure FW(ar:List Arc3)(p:Int)(n:Nat)(x:Int)(d:Nat)(m:Nat)(F q:List Int):Prop extends FQ ar p n F q (fun y=>y=x) where
 at_:F[x.toNat]? = some (d:Int)
 pos:0≤x∧x<n
 dk:Dk ar p d x
 low : ∀ y∈q,∀ v,F[y.toNat]? = some v→(d:Int)≤v
 top : ∀ k:Nat,∀ u,F[k]? = some u→u≤d+1
 up : ∀ j,j<m→∀ a,ar[j]? = some a→a.dst=x→∃ v,F[a.src.toNat]? = some v∧0≤v∧v≤d+1
theorem FQ.look{x:Int}(h:FQ ar p n F (x :: q) fun _=>False) : ∃ d:Nat,FW ar p n x d 0 F q:=by
 obtain⟨h0,d,hd⟩:=h.inn x (by simp)
 have hlt:=(List.getElem?_eq_some_iff.1 hd).1
 have hs:=List.pairwise_cons.1 h.srt
 refine⟨d,⟨h.len,h.val,h.zero,fun y hy=>h.inn y (by simp [hy]),hs.2,fun k u hu y hy=>h.bnd k u hu y (by simp [hy]),fun a hm u hu h1 hq hw=>h.cls a hm u hu h1 (by simp;exact⟨hw,hq⟩) (by simp)⟩,hd,⟨h0,by have:=h.len;omega⟩,?_,fun y hy v hv=>hs.1 y hy _ v hd hv,fun k u hu=>by have:=h.bnd k u hu x (by simp) _ hd;omega,fun j hj=>by omega⟩
 rcases h.val _ _ hd with h1 | ⟨d',h1,h2⟩
 ·omega
 ·have:d'=d:=by omega
  rw[←this,←Int.toNat_of_nonneg h0];exact h2
theorem FW.next{x:Int}{d:Nat}(h:FW ar p n x d ar.length F q):FQ ar p n F q fun _=>False:=by
 refine⟨h.len,h.val,h.zero,h.inn,h.srt,h.bnd,fun a hm u hu h1 hq _=>?_⟩
 by_cases e:a.dst=x
 ·obtain⟨j,hj,he⟩:=List.mem_iff_getElem.1 hm
  obtain⟨v,g1,g2,g3⟩:=h.up j hj a (by rw[List.getElem?_eq_getElem hj,he]) e
  rw[e,h.at_] at hu
  have:=Option.some.inj hu
  exact⟨v,g1,g2,by omega⟩
 ·exact h.cls a hm u hu h1 hq e
theorem FW.old{x:Int}{d m:Nat}(h:FW ar p n x d m F q)(hm:m<ar.length)(hc:ar[m].dst=x→∃ v,F[ar[m].src.toNat]? = some v∧0≤v):FW ar p n x d (m+1) F q:=by
 refine⟨h.toFQ,h.at_,h.pos,h.dk,h.low,h.top,fun j hj a ha e=>?_⟩
 by_cases ej:j=m
 ·subst ej
  rw[List.getElem?_eq_getElem hm] at ha
  cases ha
  obtain⟨v,g1,g2⟩:=hc e
  exact⟨v,g1,g2,h.top _ v g1⟩
 ·exact h.up j (by omega) a ha e
theorem FW.new{x:Int}{d m:Nat}(h:FW ar p n x d m F q)(ha:z44 ar n)(hm:m<ar.length)(hd:ar[m].dst=x)(hc:F[ar[m].src.toNat]? = some (-1)):FW ar p n x d (m+1) (F.set ar[m].src.toNat (d+1)) (q++[ar[m].src]):=by
 have hmm:=List.getElem_mem hm
 obtain⟨a1,a2,a3,a4⟩:=ha _ hmm
 have hup:=h.up
 have hdk:Dk ar p (d+1) ar[m].src:=⟨ar[m],hmm,rfl,by rw[hd];exact h.dk⟩
 generalize hy:ar[m].src=y at *
 have hyl:y.toNat<F.length:=(List.getElem?_eq_some_iff.1 hc).1
 have hself:(F.set y.toNat ((d:Int)+1))[y.toNat]? = some ((d:Int)+1):=by rw[List.getElem?_set_self hyl]
 have get : ∀ (k:Nat) (u:Int),(F.set y.toNat ((d:Int)+1))[k]? = some u→(k=y.toNat∧u=d+1)∨(k≠y.toNat∧F[k]? = some u):=by
  intro k u hu
  rw[List.getElem?_set] at hu
  split at hu
  ·rename_i e
   exact .inl ⟨e.symm,(Option.some.inj hu).symm⟩
  ·rename_i e;exact .inr ⟨fun h=>e h.symm,hu⟩
 have keep : ∀ (k:Nat) (u:Int),F[k]? = some u→0≤u→(F.set y.toNat ((d:Int)+1))[k]? = some u:=by
  intro k u hu h0
  rw[List.getElem?_set_ne];exact hu
  rintro rfl
  rw[hc] at hu
  have:=Option.some.inj hu
  omega
 have hqy : ∀ z∈q,z.toNat≠y.toNat:=by
  intro z hz e
  obtain⟨_,d',h1⟩:=h.inn z hz
  rw[e,hc] at h1
  have:=Option.some.inj h1
  omega
 refine⟨⟨by simp [h.len],fun k u hu=>?_,keep _ _ h.zero (by omega),fun z hz=>?_,?_,fun k u hu z hz v hv=>?_,fun a hma u hu h1 hq hw=>?_⟩,keep _ _ h.at_ (by omega),h.pos,h.dk,fun z hz v hv=>?_,fun k u hu=>?_,fun j hj a hja e=>?_⟩
 ·rcases get k u hu with⟨rfl,rfl⟩ | ⟨_,h1⟩
  ·exact .inr ⟨d+1,by omega,by rw[Int.toNat_of_nonneg a1];exact hdk⟩
  ·exact h.val k u h1
 ·rcases List.mem_append.1 hz with hz | hz
  ·obtain⟨h0,d',h1⟩:=h.inn z hz
   exact⟨h0,d',keep _ _ h1 (by omega)⟩
  ·rw[List.mem_singleton] at hz;subst hz
   exact⟨a1,d+1,by rw[hself];congr 1⟩
 ·rw[List.pairwise_append]
  refine⟨h.srt.imp_of_mem fun {z z'} hz hz' hp u v hu hv=>?_,by simp,fun z hz z' hz' u v hu hv=>?_⟩
  ·rcases get _ u hu with⟨e,_⟩ | ⟨_,g1⟩
   ·exact(hqy z hz e).elim
   rcases get _ v hv with⟨e,_⟩ | ⟨_,g2⟩
   ·exact(hqy z' hz' e).elim
   exact hp u v g1 g2
  ·rw[List.mem_singleton] at hz';subst hz'
   rcases get _ u hu with⟨e,_⟩ | ⟨_,g1⟩
   ·exact(hqy z hz e).elim
   rw[hself] at hv
   have:=Option.some.inj hv
   have:=h.top _ u g1
   omega
 ·have hku:u≤d+1:=by
   rcases get k u hu with⟨_,rfl⟩ | ⟨_,g1⟩
   ·omega
   ·exact h.top k u g1
  have hvd:(d:Int)≤v:=by
   rcases get _ v hv with⟨_,rfl⟩ | ⟨e,g1⟩
   ·omega
   ·rcases List.mem_append.1 hz with hz | hz
    ·exact h.low z hz v g1
    ·rw[List.mem_singleton] at hz;subst hz;exact(e rfl).elim
  omega
 ·rcases get _ u hu with⟨e,_⟩ | ⟨_,g1⟩
  ·refine(hq (List.mem_append.2 (.inr ?_))).elim
   rw[List.mem_singleton]
   have:=(ha a hma).2.2.1
   omega
  ·obtain⟨v,g2,g3,g4⟩:=h.cls a hma u g1 h1 (fun hz=>hq (List.mem_append.2 (.inl hz))) hw
   exact⟨v,keep _ _ g2 g3,g3,g4⟩
 ·rcases List.mem_append.1 hz with hz | hz
  ·rcases get _ v hv with⟨_,rfl⟩ | ⟨_,g1⟩
   ·omega
   ·exact h.low z hz v g1
  ·rw[List.mem_singleton] at hz;subst hz
   rw[hself] at hv
   have:=Option.some.inj hv
   omega
 ·rcases get k u hu with⟨_,rfl⟩ | ⟨_,g1⟩
  ·omega
  ·exact h.top k u g1
 ·by_cases ej:j=m
  ·subst ej
   rw[List.getElem?_eq_getElem hm] at hja
   cases hja
   rw[hy]
   exact⟨d+1,hself,by omega,by omega⟩
  ·obtain⟨v,g1,g2,g3⟩:=hup j (by omega) a hja e
   exact⟨v,keep _ _ g1 g2,g2,g3⟩
theorem z1fi(h:Bfs ar n) : ∀ k:Nat,k<n→(tw ar k).length≤k
  | 0,_=>by simp [z1fn]
  | k + 1, hk => by
    obtain⟨i,hi,e1,e2,e3,e4,_⟩:=h.arc (q:=k+1) (by omega) hk
    rw[z1fl h (by omega) hk hi e1,List.length_append,List.length_cons,List.length_nil]
    have:=z1fi h ar[i].src.toNat (by omega)
    omega
termination_by k => k
decreasing_by all_goals omega
theorem isFar.begin_(h:Bfs ar n){p:Nat}(hp:p<n){F:List Int}(hF:isFar ar p n F) : ∃ d:Nat,F[0]? = some (d:Int)∧d<n:=by
 have hd:=(Tp.path h hp (tw_tp h hp p [] hp .refl)).2
 rw[List.append_nil] at hd
 rcases hF.val 0 (by omega) with⟨_,h1⟩ | ⟨d,h1,_,h3⟩
 ·exact(h1 _ hd).elim
 ·refine⟨d,h1,?_⟩
  have:=z1fi h p hp
  apply Decidable.byContradiction
  intro hn
  exact h3 _ (by omega) hd
theorem isFar.pos{p:Nat}{F:List Int}(hF:isFar ar p n F){t j:Nat}(ht:t<n)(htp:t≠p)(hFt:F[t]? = some (j:Int)):0<j:=by
 rcases hF.val t ht with⟨h1,_⟩ | ⟨d,h1,h2,_⟩
 ·rw[hFt] at h1;have:=Option.some.inj h1;omega
 ·rw[hFt] at h1
  have e:=Option.some.inj h1
  cases d with
  | zero=>simp only[Dk] at h2;omega
  | succ d=>omega
end
end Go.Proofs.YtbaclnecajkknaaGreat.Pi
namespace Go.Proofs.YtbaclnecajkknaaGreat.Pi
open Go
set_option linter.all false

structure Vd where
 ok:Int
 kind:Int
 way:List Int
 dead:Int
def overB(a b:List Int):Bool:=zbh a b&&!decide (a=b)
end Go.Proofs.YtbaclnecajkknaaGreat.Pi
namespace Go.Proofs.YtbaclnecajkknaaGreat.Pi
open Go
set_option linter.all false

end Go.Proofs.YtbaclnecajkknaaGreat.Pi
namespace Go.Proofs.YtbaclnecajkknaaGreat.Pi
open Go
set_option linter.all false

end Go.Proofs.YtbaclnecajkknaaGreat.Pi
namespace Go.Proofs.YtbaclnecajkknaaGreat.Pi
open Go
set_option linter.all false

end Go.Proofs.YtbaclnecajkknaaGreat.Pi
namespace Go.Proofs.YtbaclnecajkknaaGreat.Pi
open Go
set_option linter.all false

end Go.Proofs.YtbaclnecajkknaaGreat.Pi
namespace Go.Proofs.YtbaclnecajkknaaGreat.Pi
open Go
set_option linter.all false

/-! ### Level by level -/
structure Lvl(ar:List Arc3)(p:Int)(n d:Nat)(F:List Int):Prop where
 len:F.length=n
 val : ∀ k:Nat,k<n→(F[k]? = some (-1)∧∀ e,e≤d→¬Dk ar p e k)∨∃ e:Nat,e≤d∧F[k]? = some (e:Int)∧Dk ar p e k∧∀ e',e'<e→¬Dk ar p e' k
structure Lvm(ar:List Arc3)(p:Int)(n d j:Nat)(f:Bool)(F:List Int):Prop where
 len:F.length=n
 val : ∀ k:Nat,k<n→(F[k]? = some (-1)∧(∀ e,e≤d→¬Dk ar p e k)∧∀ i,(hi:i<j)→∀ a,ar[i]? = some a→a.src=k→F[a.dst.toNat]?≠some (d:Int))∨(∃ e:Nat,e≤d∧F[k]? = some (e:Int)∧Dk ar p e k∧∀ e',e'<e→¬Dk ar p e' k)∨(f=true∧F[k]? = some ((d+1:Nat):Int)∧Dk ar p (d+1) k∧∀ e',e'<d+1→¬Dk ar p e' k)
section
variable {ar : List Arc3} {p : Int} {n d : Nat} {F : List Int}
theorem Lvl.start(hp:0≤p∧p<n):Lvl ar p n 0 ((List.replicate n (-1)).set p.toNat 0):=by
 refine⟨by simp,fun k hk=>?_⟩
 by_cases e:k=p.toNat
 ·subst e
  refine .inr ⟨0,Nat.le_refl _,?_,by simp only[Dk];omega,fun e' h=>by omega⟩
  rw[List.getElem?_set_self (by simpa using hk)];rfl
 ·refine .inl ⟨?_,fun e' he hd=>?_⟩
  ·rw[List.getElem?_set_ne (fun h=>e h.symm),List.getElem?_replicate,if_pos hk]
  ·obtain rfl:e'=0:=by omega
   simp only[Dk] at hd
   omega
theorem Lvl.mid(h:Lvl ar p n d F):Lvm ar p n d 0 false F:=⟨h.len,fun k hk=>by
 rcases h.val k hk with⟨h1,h2⟩ | h1
 ·exact .inl ⟨h1,h2,fun i hi=>by omega⟩
 ·exact .inr (.inl h1)⟩
theorem Lvm.up{j:Nat}{f:Bool}(h:Lvm ar p n d j f F):Lvm ar p n d j true F:=⟨h.len,fun k hk=>by
 rcases h.val k hk with h1 | h1 | h1
 ·exact .inl h1
 ·exact .inr (.inl h1)
 ·exact .inr (.inr ⟨rfl,h1.2⟩)⟩
theorem Lvm.two{j:Nat}{f:Bool}(h:Lvm ar p n d j f F){k:Nat}(hk:k<n){v:Int}(hv:F[k]? = some v):v = -1∨0≤v:=by
 rcases h.val k hk with⟨h1,_⟩ | ⟨e,_,h1,_⟩ | ⟨_,h1,_⟩
 ·rw[h1] at hv;exact .inl (Option.some.inj hv).symm
 ·rw[h1] at hv;have:=Option.some.inj hv;exact .inr (by omega)
 ·rw[h1] at hv;have:=Option.some.inj hv;exact .inr (by omega)
theorem Lvm.old{j:Nat}{f:Bool}(h:Lvm ar p n d j f F)(hj:j<ar.length)(hin:z44 ar n)(hc:¬(F[ar[j].dst.toNat]? = some (d:Int)∧F[ar[j].src.toNat]? = some (-1))):Lvm ar p n d (j+1) f F:=⟨h.len,fun k hk=>by
 rcases h.val k hk with⟨h1,h2,h3⟩ | h1 | h1
 ·refine .inl ⟨h1,h2,fun i hi a ha hs=>?_⟩
  by_cases e:i=j
  ·subst e
   rw[List.getElem?_eq_getElem hj] at ha
   cases ha
   intro hd
   refine hc ⟨hd,?_⟩
   rw[hs,Int.toNat_natCast];exact h1
  ·exact h3 i (by omega) a ha hs
 ·exact .inr (.inl h1)
 ·exact .inr (.inr h1)⟩
theorem Lvm.dk{j:Nat}{f:Bool}(h:Lvm ar p n d j f F){k:Nat}(hk:k<n)(he:F[k]? = some (d:Int)):Dk ar p d k:=by
 rcases h.val k hk with⟨h1,_⟩ | ⟨e,_,h2,h3,_⟩ | ⟨_,h2,_⟩
 ·rw[h1] at he;have:=Option.some.inj he;omega
 ·rw[h2] at he
  have:e=d:=by have:=Option.some.inj he;omega
  rwa [←this]
 ·rw[h2] at he;have:=Option.some.inj he;omega
theorem Lvm.new{j:Nat}{f:Bool}(h:Lvm ar p n d j f F)(hj:j<ar.length)(hin:z44 ar n)(h1:F[ar[j].dst.toNat]? = some (d:Int))(h2:F[ar[j].src.toNat]? = some (-1)):Lvm ar p n d (j+1) true (F.set ar[j].src.toNat ((d+1:Nat):Int)):=by
 obtain⟨a1,a2,a3,a4⟩:=hin _ (List.getElem_mem hj)
 have hx:ar[j].src.toNat<F.length:=by rw[h.len];omega
 have hdk:Dk ar p (d+1) (ar[j].src.toNat:Nat):=⟨ar[j],List.getElem_mem hj,(Int.toNat_of_nonneg a1).symm,by
  have:=h.dk (k:=ar[j].dst.toNat) (by omega) h1
  rwa [Int.toNat_of_nonneg a3] at this⟩
 refine⟨by simpa using h.len,fun k hk=>?_⟩
 by_cases e:k=ar[j].src.toNat
 ·subst e
  refine .inr (.inr ⟨rfl,by rw[List.getElem?_set_self hx],hdk,?_⟩)
  rcases h.val _ hk with⟨_,g2,_⟩ | ⟨e,_,g2,_⟩ | ⟨_,g2,_⟩
  ·exact fun e' he=>g2 e' (by omega)
  ·rw[g2] at h2;have:=Option.some.inj h2;omega
  ·rw[g2] at h2;have:=Option.some.inj h2;omega
 ·have hs:(F.set ar[j].src.toNat ((d+1:Nat):Int))[k]? = F[k]?:=List.getElem?_set_ne (fun h=>e h.symm)
  rw[hs]
  rcases h.val k hk with⟨g1,g2,g3⟩ | g1 | g1
  ·refine .inl ⟨g1,g2,fun i hi a ha hsr=>?_⟩
   by_cases ei:i=j
   ·subst ei
    rw[List.getElem?_eq_getElem hj] at ha
    cases ha
    exact absurd (by omega) e
   ·by_cases hh:ar[j].src.toNat=a.dst.toNat
    ·rw[←hh,List.getElem?_set_self hx]
     intro hc;have:=Option.some.inj hc;omega
    ·rw[List.getElem?_set_ne hh]
     exact g3 i (by omega) a ha hsr
  ·exact .inr (.inl g1)
  ·exact .inr (.inr ⟨rfl,g1.2⟩)
theorem Lvm.end_{f:Bool}(h:Lvm ar p n d ar.length f F)(hin:z44 ar n):Lvl ar p n (d+1) F:=⟨h.len,fun k hk=>by
 rcases h.val k hk with⟨h1,h2,h3⟩ | ⟨e,he,h1⟩ | ⟨_,h1⟩
 ·refine .inl ⟨h1,fun e he hd=>?_⟩
  by_cases e1:e≤d
  ·exact h2 e e1 hd
  ·obtain rfl:e=d+1:=by omega
   obtain⟨a,ha,hs,hd2⟩:=hd
   obtain⟨i,hi,rfl⟩:=List.mem_iff_getElem.1 ha
   obtain⟨a1,a2,a3,a4⟩:=hin _ ha
   have hd3:Dk ar p d (ar[i].dst.toNat:Nat):=by rw[Int.toNat_of_nonneg a3];exact hd2
   rcases h.val ar[i].dst.toNat (by omega) with⟨_,g2,_⟩ | ⟨e,g0,g1,g2,g3⟩ | ⟨_,_,_,g3⟩
   ·exact g2 d (Nat.le_refl _) hd3
   ·by_cases ed:e=d
    ·subst ed
     exact h3 i hi _ (List.getElem?_eq_getElem hi) hs g1
    ·rw[Int.toNat_of_nonneg a3] at g2
     exact h2 (e+1) (by omega) ⟨ar[i],ha,hs,g2⟩
   ·exact g3 d (by omega) hd3
 ·exact .inr ⟨e,by omega,h1⟩
 ·exact .inr ⟨d+1,Nat.le_refl _,h1⟩⟩
theorem Lvm.done(h:Lvm ar p n d ar.length false F)(hin:z44 ar n)(hp:0≤p∧p<n):isFar ar p n F:=by
  have hl:=h.end_ hin
  have key : ∀ (e k:Nat),k<n→Dk ar p e k→∃ e':Nat,e'≤d∧F[k]? = some (e':Int)∧Dk ar p e' k:=by
    intro e
    induction e with
    | zero =>
      intro k hk hd
      rcases h.val k hk with⟨_,g2,_⟩ | ⟨e,g0,g1,g2,_⟩ | ⟨g,_⟩
      · exact absurd hd (g2 0 (by omega))
      · exact⟨e,g0,g1,g2⟩
      · cases g
    | succ e ih =>
      rintro k hk ⟨a,ha,hs,hd⟩
      obtain⟨a1,a2,a3,a4⟩:=hin a ha
      obtain⟨e',e1,_,e3⟩:=ih a.dst.toNat (by omega) (by rw[Int.toNat_of_nonneg a3];exact hd)
      rw[Int.toNat_of_nonneg a3] at e3
      have hd2:Dk ar p (e'+1) k:=⟨a,ha,hs,e3⟩
      rcases h.val k hk with⟨g1,_,_⟩ | ⟨e,g0,g1,g2,_⟩ | ⟨g,_⟩
      · rcases hl.val k hk with⟨_,q2⟩ | ⟨q,_,q1,_⟩
        · exact absurd hd2 (q2 _ (by omega))
        · rw[g1] at q1;have:=Option.some.inj q1;omega
      · exact⟨e,g0,g1,g2⟩
      · cases g
  refine⟨h.len,fun k hk=>?_⟩
  rcases h.val k hk with⟨h1,h2,_⟩ | ⟨e,_,h1,h2,h3⟩ | ⟨g,_⟩
  · refine .inl ⟨h1,fun e hd=>?_⟩
    obtain⟨e',_,g1,_⟩:=key e k hk hd
    rw[h1] at g1;have:=Option.some.inj g1;omega
  · exact .inr ⟨e,h1,h2,h3⟩
  · cases g
end
/-! ### Certificates -/
structure Crt where
 mks:List (List Int)
 stp:List Int
 rnk:List Int
def sortT(ms:List (List Int)):List (List Int):=ms.foldl inOrd []
theorem z1bg : ∀ (k:List (List Int)) {out:List (List Int)},out.Pairwise ltL→(k.foldl inOrd out).Pairwise ltL∧(∀ x,x∈k.foldl inOrd out↔x∈out∨x∈k)∧(k.foldl inOrd out).length≤out.length+k.length
  | [],out,h=>⟨h,by simp,by simp⟩
  | m :: k, out, h => by
    obtain⟨f1,f2,f3⟩:=z1bg k (out:=inOrd out m) (zmc m h)
    rw[List.foldl_cons]
    refine⟨f1,fun x=>?_,by have:=zma out m;simp;omega⟩
    rw[f2,zmb,List.mem_cons]
    constructor
    · rintro((rfl | h) | h)
      · exact .inr (.inl rfl)
      · exact .inl h
      · exact .inr (.inr h)
    · rintro(h | rfl | h)
      · exact .inl (.inr h)
      · exact .inl (.inl rfl)
      · exact .inr h
theorem z1bh(ms:List (List Int)):(sortT ms).Pairwise ltL∧(∀ x,x∈sortT ms↔x∈ms)∧(sortT ms).length≤ms.length:=by
 obtain⟨f1,f2,f3⟩:=z1bg ms (out:=[]) .nil
 exact⟨f1,fun x=>by rw[sortT,f2];simp,by simpa [sortT] using f3⟩
def vals(ms:List (List Int))(S:List Int):List Int:=(sortT ms).map fun m=>S.getD (findM ms m).toNat 0
end Go.Proofs.YtbaclnecajkknaaGreat.Pi
namespace Go.Proofs.YtbaclnecajkknaaGreat.Pi
open Go
set_option linter.all false

def negB(l:List Int):Bool:=l.any fun x=>decide (x<0)
def okAt(p:Int)(M:List (List Int))(i:Nat):Bool:=goodM p (M.getD i [])&&(decide (i=0)||decide (cmpL (M.getD (i-1) []) (M.getD i [])<0))
def formB(p:Int)(c:Crt):Bool:=inB 1 400 c.mks.length&&decide (c.stp.length=c.mks.length)&&decide (c.rnk.length=c.mks.length)&&!negB c.stp&&!negB c.rnk&&(List.range c.mks.length).all (okAt p c.mks)
/-! ### What arcs say of each place of a row -/
end Go.Proofs.YtbaclnecajkknaaGreat.Pi
namespace Go.Proofs.YtbaclnecajkknaaGreat.Pi
open Go
set_option linter.all false

def svC(c:Crt)(m:List Int):Int:=c.stp.getD (findM c.mks m).toNat 0
def rvC(c:Crt)(m:List Int):Int:=c.rnk.getD (findM c.mks m).toNat 0
structure Tkn(f:Fl)(c:Crt):Prop where
 form:formB f.net.pl c=true
 start:oneM f.net.pl.toNat f.src∈c.mks
 step : ∀ m∈c.mks,∀ t∈enabL f.net m,zgc (trAt f.net t) m∈c.mks
 sv0:svC c (oneM f.net.pl.toNat f.src)=0
 reach : ∀ m∈c.mks,m≠oneM f.net.pl.toNat f.src→∃ m'∈c.mks,∃ t∈enabL f.net m',zgc (trAt f.net t) m'=m∧svC c m'<svC c m
 sink : ∀ m∈c.mks,m≠oneM f.net.pl.toNat f.dst→∃ t∈enabL f.net m,rvC c (zgc (trAt f.net t) m)<rvC c m
 over : ∀ m∈c.mks,overB m (oneM f.net.pl.toNat f.dst)=false
 fin:oneM f.net.pl.toNat f.dst∈c.mks
 rv0:rvC c (oneM f.net.pl.toNat f.dst)=0
 used : ∀ t:Nat,t<f.net.tr.length→∃ m∈c.mks,(t:Int)∈enabL f.net m
section
variable {n : Net} {c : Crt}
end
end Go.Proofs.YtbaclnecajkknaaGreat.Pi
namespace Go.Proofs.YtbaclnecajkknaaGreat.Pi
open Go
set_option linter.all false

/-! ### The own verdict shows that a flow is unsound -/
section
variable {n : Net} {Z : List (List Int)} {start : List Int} {b : Int}
theorem ze8{k:Nat}{s:Ex}{t:Int}(h:(ze7 n b k s t).code=0):(∀ a∈s.sp.ar,a∈(ze7 n b k s t).sp.ar)∧∃ a∈(ze7 n b k s t).sp.ar,a.src=k∧a.by_=t:=by
  by_cases h0:s.code=0
  case neg=>rw[zei h0] at h;exact absurd h h0
  cases ha:(zgc (trAt n t) (s.sp.ms.getD k [])).all (inB 0 50) with
  | false=>rw[zek h0 ha] at h;simp at h
  | true =>
    by_cases h2:0≤findM s.sp.ms (zgc (trAt n t) (s.sp.ms.getD k []))
    · rw[zeg h0 ha h2]
      exact⟨fun a h=>List.mem_append_left _ h,_,List.mem_append_right _ (List.mem_singleton.2 rfl),rfl,rfl⟩
    · by_cases h3:b≤s.sp.ms.length
      · rw[zec h0 ha h2 h3] at h;simp at h
      · rw[zee h0 ha h2 h3]
        exact⟨fun a h=>List.mem_append_left _ h,_,List.mem_append_right _ (List.mem_singleton.2 rfl),rfl,rfl⟩
theorem zds{k:Nat} : ∀ (l:List Int) (s:Ex),(exL n b k s l).code=0→s.code=0∧(∀ a∈s.sp.ar,a∈(exL n b k s l).sp.ar)∧∀ t∈l,∃ a∈(exL n b k s l).sp.ar,a.src=k∧a.by_=t
  | [],s,h=>⟨h,fun a h=>h,by simp⟩
  | t :: l, s, h => by
    obtain⟨c0,c1,c2⟩:=zds l (ze7 n b k s t) h
    obtain⟨d1,a,d2,d3⟩:=ze8 c0
    refine⟨?_,fun a ha=>c1 a (d1 a ha),fun u hu=>?_⟩
    · by_cases h0:s.code=0
      · exact h0
      · rw[zei h0] at c0;exact c0
    · rcases List.mem_cons.1 hu with rfl | hu
      · exact⟨a,c1 a d2,d3⟩
      · exact c2 u hu
def toldA(n:Net)(s:Ex)(k:Nat):Prop:=∀ i:Nat,i<k→i<s.sp.ms.length→∀ t∈enabL n (s.sp.ms.getD i []),∃ a∈s.sp.ar,a.src=i∧a.by_=t
theorem ze0 : ∀ (f k:Nat) (s:Ex),ExOk n start b s→toldA n s k→b.toNat<k+f→(exRun n b f k s).code=0→toldA n (exRun n b f k s) (exRun n b f k s).sp.ms.length
  | 0, k, s, ho, h, hb, hc => by
    have:=ho.lenb
    show toldA n s s.sp.ms.length
    exact fun i hi=>h i (by omega)
  | f + 1, k, s, ho, h, hb, hc => by
    have er:exRun n b (f+1) k s=if s.code≠0 then s else if k<s.sp.ms.length then exRun n b f (k+1) (exL n b k s (enabL n (s.sp.ms.getD k []))) else s:=rfl
    by_cases h0:s.code≠0
    · rw[ze5 h0] at hc;exact absurd hc h0
    rw[er,if_neg h0] at hc ⊢
    by_cases hl:k<s.sp.ms.length
    · rw[if_pos hl] at hc ⊢
      obtain⟨f1,⟨p,f2⟩,f3⟩:=zdx (start:=start) (k:=k) (enabL n (s.sp.ms.getD k [])) s ho hl (fun t ht=>ht)
      have hc0:(exL n b k s (enabL n (s.sp.ms.getD k []))).code=0:=by
        by_cases e:(exL n b k s (enabL n (s.sp.ms.getD k []))).code=0
        · exact e
        · rw[ze5 e] at hc;exact absurd hc e
      obtain⟨_,g1,g2⟩:=zds _ s hc0
      refine ze0 f (k+1) _ f1 (fun i hi hl2 t ht=>?_) (by omega) hc
      by_cases hik:i<k
      · have e:(exL n b k s (enabL n (s.sp.ms.getD k []))).sp.ms.getD i []=s.sp.ms.getD i []:=by rw[f2,zin (l:=s.sp.ms) (by omega)]
        rw[e] at ht
        obtain⟨a,ha,h1⟩:=h i hik (by omega) t ht
        exact⟨a,g1 a ha,h1⟩
      · have:i=k:=by omega
        subst this
        have e:(exL n b i s (enabL n (s.sp.ms.getD i []))).sp.ms.getD i []=s.sp.ms.getD i []:=by rw[f2,zin hl]
        rw[e] at ht
        exact g2 t ht
    · rw[if_neg hl]
      exact fun i hi hl2=>h i (by omega) hl2
theorem zdm(hm:zs4 n start=true)(hb:1≤b)(hc:(exAll n start b).code=0):toldA n (exAll n start b) (exAll n start b).sp.ms.length:=by
 unfold exAll at hc ⊢
 refine ze0 (start:=start) _ 0 _ ⟨rfl,fun m hm2=>?_,by simp;omega,by simp,fun a ha=>by simp at ha,fun j hj hl=>?_⟩ (fun i hi=>by omega) (by omega) hc
 ·simp only[List.mem_singleton] at hm2;subst hm2;exact hm
 ·simp only[List.length_cons,List.length_nil] at hl;omega
end
end Go.Proofs.YtbaclnecajkknaaGreat.Pi
namespace Go.Proofs.YtbaclnecajkknaaGreat.Pi
open Go
set_option linter.all false

inductive Rch (n:Net) (s:List Int):List Int→Prop
 | base:Rch n s s
 | step {m:List Int} {t:Int} (h:Rch n s m) (ht:t∈enabL n m):Rch n s (zgc (trAt n t) m)
theorem Rch.trans{n:Net}{a b c:List Int}(h:Rch n a b)(h':Rch n b c):Rch n a c:=by
 induction h' with
 | base=>exact h
 | step _ ht ih=>exact ih.step ht
structure Snd(f:Fl):Prop where
 ends : ∀ m,Rch f.net (oneM f.net.pl.toNat f.src) m→Rch f.net m (oneM f.net.pl.toNat f.dst)
 over : ∀ m,Rch f.net (oneM f.net.pl.toNat f.src) m→overB m (oneM f.net.pl.toNat f.dst)=false
 used : ∀ t:Nat,t<f.net.tr.length→∃ m,Rch f.net (oneM f.net.pl.toNat f.src) m∧(t:Int)∈enabL f.net m
section
variable {n : Net} {start : List Int} {b : Int}
end
/-! ### Two flows, marking by marking -/
structure Sim(f g:Fl)(R:List Int→List Int→Prop):Prop where
 start:R (oneM f.net.pl.toNat f.src) (oneM g.net.pl.toNat g.src)
 step : ∀ m m' t,Rch f.net (oneM f.net.pl.toNat f.src) m→Rch g.net (oneM g.net.pl.toNat g.src) m'→R m m'→t∈enabL f.net m→∃ m₂,Rch g.net m' m₂∧R (zgc (trAt f.net t) m) m₂
theorem Sim.rch{f g:Fl}{R:List Int→List Int→Prop}(h:Sim f g R){m:List Int}(hm:Rch f.net (oneM f.net.pl.toNat f.src) m) : ∃ m',Rch g.net (oneM g.net.pl.toNat g.src) m'∧R m m':=by
  induction hm with
  | base=>exact⟨_,.base,h.start⟩
  | step hm ht ih =>
    obtain⟨m',h1,h2⟩:=ih
    obtain⟨m₂,h3,h4⟩:=h.step _ m' _ hm h1 h2 ht
    exact⟨m₂,h1.trans h3,h4⟩
theorem Sim.from{f g:Fl}{R:List Int→List Int→Prop}(h:Sim f g R){a a' m:List Int}(ha:Rch f.net (oneM f.net.pl.toNat f.src) a)(ha':Rch g.net (oneM g.net.pl.toNat g.src) a')(hr:R a a')(hm:Rch f.net a m) : ∃ m',Rch g.net a' m'∧R m m':=by
  induction hm with
  | base=>exact⟨_,.base,hr⟩
  | step hm ht ih =>
    obtain⟨m',h1,h2⟩:=ih
    obtain⟨m₂,h3,h4⟩:=h.step _ m' _ (ha.trans hm) (ha'.trans h1) h2 ht
    exact⟨m₂,h1.trans h3,h4⟩
end Go.Proofs.YtbaclnecajkknaaGreat.Pi
namespace Go.Proofs.YtbaclnecajkknaaGreat.Pi
open Go
set_option linter.all false

def silA(ls:List Int)(ar:List Arc3):List Arc3:=(ar.filter fun a=>decide (at_ ls a.by_=0)).map fun a=>⟨a.dst,a.by_,a.src⟩
theorem z19u{ls:List Int}{ar:List Arc3}{x:Arc3}:x∈silA ls ar↔∃ a∈ar,at_ ls a.by_=0∧x=⟨a.dst,a.by_,a.src⟩:=by
 unfold silA
 rw[List.mem_map]
 constructor
 ·rintro⟨a,h,rfl⟩
  rw[List.mem_filter,decide_eq_true_eq] at h
  exact⟨a,h.1,h.2,rfl⟩
 ·rintro⟨a,h1,h2,rfl⟩
  exact⟨a,by rw[List.mem_filter,decide_eq_true_eq];exact⟨h1,h2⟩,rfl⟩
theorem z19s{ls:List Int}{ar:List Arc3}{n:Nat}(h:z44 ar n):z44 (silA ls ar) n:=by
 intro x hx
 obtain⟨a,h1,_,rfl⟩:=z19u.1 hx
 obtain⟨a1,a2,a3,a4⟩:=h a h1
 exact⟨a3,a4,a1,a2⟩
theorem z19x{ls:List Int}{ar:List Arc3}{k:Nat}(hk:k<ar.length)(h:at_ ls ar[k].by_=0):silA ls (ar.take (k+1))=silA ls (ar.take k)++[⟨ar[k].dst,ar[k].by_,ar[k].src⟩]:=by
 unfold silA
 rw[List.take_succ_eq_append_getElem hk,List.filter_append,List.map_append]
 simp [h]
theorem z19v{ls:List Int}{ar:List Arc3}{k:Nat}(hk:k<ar.length)(h:at_ ls ar[k].by_≠0):silA ls (ar.take (k+1))=silA ls (ar.take k):=by
 unfold silA
 rw[List.take_succ_eq_append_getElem hk,List.filter_append]
 simp [h]
theorem z19w(ls:List Int)(ar:List Arc3)(k:Nat) : ∃ r,silA ls ar=silA ls (ar.take k)++r:=by
 refine⟨silA ls (ar.drop k),?_⟩
 unfold silA
 rw[←List.map_append,←List.filter_append,List.take_append_drop]
def passS(ls:List Int)(ar:List Arc3)(c:List Bool)(k:Nat):List Bool×Bool:=passK (silA ls ar) c (silA ls (ar.take k)).length
theorem z10o(ls:List Int)(ar:List Arc3)(c:List Bool):passS ls ar c ar.length=passK (silA ls ar) c (silA ls ar).length:=by
 unfold passS;rw[List.take_length]
theorem z10q{ls:List Int}{ar:List Arc3}{c:List Bool}{k:Nat}(hk:k<ar.length)(h:at_ ls ar[k].by_≠0):passS ls ar c (k+1)=passS ls ar c k:=by
 unfold passS;rw[z19v hk h]
theorem z19r{ls:List Int}{ar:List Arc3}{k:Nat}(hk:k<ar.length)(h:at_ ls ar[k].by_=0) : ∃ hl:(silA ls (ar.take k)).length<(silA ls ar).length,(silA ls ar)[(silA ls (ar.take k)).length]=⟨ar[k].dst,ar[k].by_,ar[k].src⟩:=by
 obtain⟨r,hr⟩:=z19w ls ar (k+1)
 rw[z19x hk h] at hr
 have hl:(silA ls (ar.take k)).length<(silA ls ar).length:=by rw[hr];simp only[List.length_append,List.length_cons];omega
 refine⟨hl,?_⟩
 simp only[hr,List.append_assoc]
 rw[List.getElem_append_right (Nat.le_refl _)]
 simp
theorem z10r{ls:List Int}{ar:List Arc3}{c:List Bool}{k:Nat}(hk:k<ar.length)(h:at_ ls ar[k].by_=0)(h1:(passS ls ar c k).1[ar[k].src.toNat]? = some true)(h2:(passS ls ar c k).1[ar[k].dst.toNat]? = some false):passS ls ar c (k+1)=((passS ls ar c k).1.set ar[k].dst.toNat true,true):=by
 obtain⟨hl,he⟩:=z19r hk h
 have e:(silA ls (ar.take (k+1))).length=(silA ls (ar.take k)).length+1:=by rw[z19x hk h];simp
 unfold passS at h1 h2 ⊢
 rw[e,z10n hl (by rw[he];exact h1) (by rw[he];exact h2),he]
theorem z10p{ls:List Int}{ar:List Arc3}{c:List Bool}{k:Nat}(hk:k<ar.length)(h:at_ ls ar[k].by_=0)(h1:¬((passS ls ar c k).1[ar[k].src.toNat]? = some true∧(passS ls ar c k).1[ar[k].dst.toNat]? = some false)):passS ls ar c (k+1)=passS ls ar c k:=by
 obtain⟨hl,he⟩:=z19r hk h
 have e:(silA ls (ar.take (k+1))).length=(silA ls (ar.take k)).length+1:=by rw[z19x hk h];simp
 unfold passS at h1 ⊢
 rw[e,z10l hl (by rw[he];exact h1)]
/-! ### The same by a list that grows -/
structure SB(A:List Arc3)(n:Nat)(q:List Int)(i:Nat):Prop where
 nd:q.Nodup
 inn : ∀ x∈q,0≤x∧x<n
 rch : ∀ x∈q,Rk A [0] x
 zero:(0:Int)∈q
 cls : ∀ j,(hj:j<q.length)→j<i→∀ a∈A,a.dst=q[j]→a.src∈q
 le:i≤q.length
structure SC(A B:List Arc3)(n:Nat)(q:List Int)(i:Nat)(x:Int):Prop extends SB A n q i where
 lt:i<q.length
 at_:q[i]? = some x
 upto : ∀ a∈B,a.dst=x→a.src∈q
theorem zv5 : ∀ (s:List Int) (n:Nat),s.Nodup→(∀ x∈s,0≤x∧x<n)→s.length≤n:=by
  have key : ∀ (s Z:List Int),s.Nodup→(∀ x∈s,x∈Z)→s.length≤Z.length:=by
    intro s
    induction s with
    | nil=>intro Z _ _;simp
    | cons x s ih =>
      intro Z hn hs
      obtain⟨h1,h2⟩:=List.nodup_cons.1 hn
      have hx:=hs x (by simp)
      have:=ih (Z.erase x) h2 fun y hy=>(List.mem_erase_of_ne (fun e=>h1 (by rw[←e];exact hy))).2 (hs y (by simp [hy]))
      rw[List.length_erase_of_mem hx] at this
      have:=List.length_pos_of_mem hx
      simp only[List.length_cons];omega
  intro s n hn hs
  have:=key s ((List.range n).map fun(i:Nat)=>(i:Int)) hn fun x hx=>by
    rw[List.mem_map]
    exact⟨x.toNat,by have:=hs x hx;simp;omega,by have:=hs x hx;omega⟩
  simpa using this
theorem SB.first{A:List Arc3}{n:Nat}(hn:0<n):SB A n [0] 0:=⟨by simp,by simp;omega,by simpa using Rk.base (by simp),by simp,fun j _ h=>by omega,by simp⟩
theorem SB.len{A:List Arc3}{n:Nat}{q:List Int}{i:Nat}(h:SB A n q i):q.length≤n:=zv5 q n h.nd h.inn
theorem SB.look{A:List Arc3}{n:Nat}{q:List Int}{i:Nat}(h:SB A n q i)(hi:i<q.length):SC A [] n q i q[i]:=⟨h,hi,List.getElem?_eq_getElem hi,fun a ha=>by cases ha⟩
theorem SC.skip{A B:List Arc3}{n:Nat}{q:List Int}{i:Nat}{x:Int}{a:Arc3}(h:SC A B n q i x)(ha:a.dst=x→a.src∈q):SC A (B++[a]) n q i x:=
 ⟨h.toSB,h.lt,h.at_,fun b hb e=>by
  rcases List.mem_append.1 hb with hb | hb
  ·exact h.upto b hb e
  ·simp only[List.mem_singleton] at hb;subst hb;exact ha e⟩
theorem SC.add{A B:List Arc3}{n:Nat}{q:List Int}{i:Nat}{x:Int}{a:Arc3}(h:SC A B n q i x)(hin:z44 A n)(haA:a∈A)(hx:a.dst=x)(hn:a.src∉q):SC A (B++[a]) n (q++[a.src]) i x:=by
 have hxq:x∈q:=List.mem_iff_getElem?.2 ⟨i,h.at_⟩
 refine⟨⟨?_,?_,?_,?_,?_,?_⟩,?_,?_,?_⟩
 ·rw[List.nodup_append]
  refine⟨h.nd,by simp,fun y hy z hz e=>?_⟩
  simp only[List.mem_singleton] at hz
  subst hz;subst e;exact hn hy
 ·intro y hy
  rcases List.mem_append.1 hy with hy | hy
  ·exact h.inn y hy
  ·simp only[List.mem_singleton] at hy;subst hy
   exact⟨(hin a haA).1,(hin a haA).2.1⟩
 ·intro y hy
  rcases List.mem_append.1 hy with hy | hy
  ·exact h.rch y hy
  ·simp only[List.mem_singleton] at hy;subst hy
   exact .step haA (by rw[hx];exact h.rch x hxq)
 ·exact List.mem_append.2 (.inl h.zero)
 ·intro j hj hji b hb e
  have hjq:j<q.length:=by have:=h.le;omega
  rw[List.getElem_append_left hjq] at e
  exact List.mem_append.2 (.inl (h.cls j hjq hji b hb e))
 ·have:=h.le;simp;omega
 ·have:=h.lt;simp;omega
 ·rw[List.getElem?_append_left h.lt];exact h.at_
 ·intro b hb e
  rcases List.mem_append.1 hb with hb | hb
  ·exact List.mem_append.2 (.inl (h.upto b hb e))
  ·simp only[List.mem_singleton] at hb;subst hb
   exact List.mem_append.2 (.inr (by simp))
theorem SC.next{A:List Arc3}{n:Nat}{q:List Int}{i:Nat}{x:Int}(h:SC A A n q i x):SB A n q (i+1):=by
 refine⟨h.nd,h.inn,h.rch,h.zero,fun j hj hji a ha e=>?_,h.lt⟩
 by_cases e2:j=i
 ·subst e2
  have:=h.at_
  rw[List.getElem?_eq_getElem hj] at this
  exact h.upto a ha (by rw[e];exact Option.some.inj this)
 ·exact h.cls j hj (by omega) a ha e
theorem SB.all{A:List Arc3}{n:Nat}{q:List Int}(h:SB A n q q.length){x:Int}:x∈q↔Rk A [0] x:=by
  refine⟨h.rch x,fun hr=>?_⟩
  induction hr with
  | base hk=>simp only[List.mem_singleton] at hk;subst hk;exact h.zero
  | @step a ha _ ih =>
    obtain⟨j,hj,e⟩:=List.mem_iff_getElem.1 ih
    exact h.cls j hj hj a ha e.symm
/-! ### What comes out: the markings, in order -/
def reK(ms:List (List Int))(c:List Bool)(k:Nat):List (List Int):=((List.range k).filter fun i=>c.getD i false).map fun i=>ms.getD i []
theorem z12x{ms:List (List Int)}{c:List Bool}{k:Nat}(h:c.getD k false=true):reK ms c (k+1)=reK ms c k++[ms.getD k []]:=by
 unfold reK;rw[List.range_succ,List.filter_append,List.map_append]
 congr 1
 rw[List.filter_cons,h];rfl
theorem z12w{ms:List (List Int)}{c:List Bool}{k:Nat}(h:c.getD k false=false):reK ms c (k+1)=reK ms c k:=by
 unfold reK;rw[List.range_succ,List.filter_append,List.map_append]
 have:[k].filter (fun i=>c.getD i false)=[]:=by rw[List.filter_cons,h];rfl
 rw[this];simp
theorem z12t(ms:List (List Int))(c:List Bool)(k:Nat):(reK ms c k).length≤k:=by
 unfold reK;rw[List.length_map]
 exact Nat.le_trans (List.length_filter_le _ _) (by simp)
theorem z12u{ms:List (List Int)}{c:List Bool}{k:Nat}{x:List Int}:x∈reK ms c k↔∃ i,i<k∧c.getD i false=true∧ms.getD i []=x:=by
 unfold reK;rw[List.mem_map]
 constructor
 ·rintro⟨i,h,rfl⟩;rw[List.mem_filter,List.mem_range] at h;exact⟨i,h.1,h.2,rfl⟩
 ·rintro⟨i,h1,h2,rfl⟩;exact⟨i,by rw[List.mem_filter,List.mem_range];exact⟨h1,h2⟩,rfl⟩
theorem z1bi(l:List (List Int))(m:List Int):sortT (l++[m])=inOrd (sortT l) m:=by
 unfold sortT;rw[List.foldl_append];rfl
theorem zum{ms:List (List Int)}(hn:ms.Nodup){i j:Nat}(hi:i<ms.length)(hj:j<ms.length)(h:ms.getD i []=ms.getD j []):i=j:=by
 have h1:=zg0 hn hi
 have h2:=zg0 hn hj
 rw[h] at h1;omega
theorem z12v{ms:List (List Int)}{c:List Bool}{k:Nat}(hn:ms.Nodup)(hk:k<ms.length):ms.getD k []∉sortT (reK ms c k):=by
 rw[(z1bh _).2.1,z12u]
 rintro⟨i,h1,_,h2⟩
 have:=zum hn (by omega) hk h2
 omega
open Classical in
noncomputable def silV(ls:List Int)(ms:List (List Int))(ar:List Arc3):List (List Int):=sortT (reK ms (toL (silA ls ar) ms.length [0]) ms.length)
theorem z1et{ar:List Arc3}{n:Nat}{S:List Int}{k:Nat}(hk:k<n):(toL ar n S).getD k false=true↔Rk ar S k:=by
 rw[List.getD_eq_getElem?_getD,List.getElem?_eq_getElem (by rw[z1eu];exact hk)]
 exact z1es hk
theorem z19z{ls:List Int}{ms:List (List Int)}{ar:List Arc3}{x:List Int}:x∈silV ls ms ar↔∃ i,i<ms.length∧Rk (silA ls ar) [0] (i:Nat)∧ms.getD i []=x:=by
 unfold silV
 rw[(z1bh _).2.1,z12u]
 constructor
 ·rintro⟨i,h1,h2,h3⟩;exact⟨i,h1,(z1et h1).1 h2,h3⟩
 ·rintro⟨i,h1,h2,h3⟩;exact⟨i,h1,(z1et h1).2 h2,h3⟩
theorem z19y(ls:List Int)(ms:List (List Int))(ar:List Arc3):(silV ls ms ar).length≤ms.length:=by
 unfold silV
 exact Nat.le_trans (z1bh _).2.2 (z12t ..)
theorem z1a0{ls:List Int}{ms:List (List Int)}{ar:List Arc3}{q:List Int}{R:List (List Int)}(hn:ms.Nodup)(h:SB (silA ls ar) ms.length q q.length)(hp:R.Perm (q.map fun x=>ms.getD x.toNat []))(hs:R.Pairwise leL):R=silV ls ms ar:=by
 have hnd:(q.map fun x=>ms.getD x.toNat []).Nodup:=by
  unfold List.Nodup
  rw[List.pairwise_map]
  refine List.Pairwise.imp_of_mem (fun {a b} ha hb hne e=>hne ?_) h.nd
  have h1:=h.inn a ha
  have h2:=h.inn b hb
  have:=zum hn (by omega) (by omega) e
  omega
 have hstrict:R.Pairwise ltL:=by
  have h1:R.Nodup:=hp.nodup_iff.2 hnd
  have:=List.Pairwise.and hs h1
  refine this.imp fun {a b} h=>?_
  obtain⟨h2,h3⟩:=h
  unfold leL at h2
  unfold ltL
  have:cmpL a b≠0:=fun e=>h3 (zad.1 e)
  omega
 refine z1bk hstrict (z1bh _).1 fun x=>?_
 rw[hp.mem_iff,List.mem_map]
 have:=z19z (ls:=ls) (ms:=ms) (ar:=ar) (x:=x)
 rw[this]
 constructor
 ·rintro⟨y,hy,rfl⟩
  have h1:=h.inn y hy
  exact⟨y.toNat,by omega,by rw[Int.toNat_of_nonneg h1.1];exact h.all.1 hy,rfl⟩
 ·rintro⟨i,h1,h2,rfl⟩
  exact⟨(i:Int),h.all.2 h2,by simp⟩
theorem z1a2{n:Net}{start:List Int}{b:Int}{ls:List Int}(hm:zs4 n start=true)(hb:1≤b)(hc:(exAll n start b).code=0){x:List Int}{t:Int}(hx:x∈silV ls (exAll n start b).sp.ms (exAll n start b).sp.ar)(hf:zvy n x t=true)(ht:at_ ls t=0):zgc (trAt n t) x∈silV ls (exAll n start b).sp.ms (exAll n start b).sp.ar:=by
 obtain⟨i,h1,h2,rfl⟩:=z19z.1 hx
 have ho:=(zdq hm hb).1
 obtain⟨a,ha,s1,s2⟩:=zdm hm hb hc i h1 h1 t (zw0 hf)
 obtain⟨b1,b2,b3,b4,b5,b6⟩:=ho.arcs a ha
 rw[s1,Int.toNat_natCast,s2] at b6
 refine z19z.2 ⟨a.dst.toNat,b4,?_,b6⟩
 rw[Int.toNat_of_nonneg b3]
 exact Rk.step (a:=⟨a.dst,a.by_,a.src⟩) (z19u.2 ⟨a,ha,by rw[s2];exact ht,rfl⟩) (by rw[show(⟨a.dst,a.by_,a.src⟩:Arc3).dst=a.src from rfl,s1];exact h2)
theorem z1a1{n:Net}{start:List Int}{b:Int}{ls:List Int}(hm:zs4 n start=true)(hb:1≤b):start∈silV ls (exAll n start b).sp.ms (exAll n start b).sp.ar:=by
 have ho:=(zdq hm hb).1
 refine z19z.2 ⟨0,?_,.base (by simp),by rw[List.getD_eq_getElem?_getD,ho.first];rfl⟩
 have:=ho.first
 exact(List.getElem?_eq_some_iff.1 this).1
end Go.Proofs.YtbaclnecajkknaaGreat.Pi

