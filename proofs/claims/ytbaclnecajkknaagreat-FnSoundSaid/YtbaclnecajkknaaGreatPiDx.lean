/- Pi: drawn regions: what the static check tells. -/
import Derived.Test.YtbaclnecajkknaaGreatPiDw
open Bool renaming not_true->N'p,false_or->N'q,and_eq_true->L'c,or_eq_true->N'r
open List renaming all_eq_true->L'h,mem_range->N's,any_eq_true->N't,getElem?_eq_some_iff->L'b
namespace Go.Proofs.YtbaclnecajkknaaGreat.Pi
open Go
set_option linter.all false

structure DrC(ops:Array Oper)(ord:List Nat)(ios:List IOper)(chk:List (Nat×Nat))(b:Array Nat):Prop where
ordN:ord.Nodup
ordL:ord.length=ops.toList.length
ordLt:∀k∈ord,k<ops.toList.length
ordS:∀k,k<ops.toList.length->k∈ord
iosL:ios.length=ops.toList.length
clos:∀k j,k<ops.toList.length->j<ops.toList.length->(b.getD k 0).testBit j=true->∃o,ops.toList[k]?=some o/\∃e∈o.after.toList,Region.binds .any e=true/\(e.on=j\/(b.getD e.on 0).testBit j=true)
reads:∀y io x,ios[y]?=some io->x∈rsOf io->(b.getD (ord.getD y 0) 0).testBit (ord.getD x 0)=true
lin:∀x y,x<ops.toList.length->y<ops.toList.length->x<=y->(b.getD (ord.getD x 0) 0).testBit (ord.getD y 0)=false
edges:∀k o,ops.toList[k]?=some o->∀e∈o.after.toList,Region.binds .any e=true->(b.getD k 0).testBit e.on=true/\e.on<ops.toList.length
asap:∀p y,p<ops.toList.length->y<ops.toList.length->isF (ios.getD p default).op=true->p<y->isF (ios.getD y default).op=true\/∃x,x<ops.toList.length/\p<=x/\x<y/\(b.getD (ord.getD y 0) 0).testBit (ord.getD x 0)=true
cmpF:∀p y,p<ops.toList.length->y<ops.toList.length->isF (ios.getD p default).op=true->(isF (ios.getD y default).op=true\/isQ (ios.getD y default).op=true)->cmp b (ord.getD p 0) (ord.getD y 0)=true\/(znr (ios.getD y default).op=true/\(p,y)∈chk)
slotsC:∀p y i,p<ops.toList.length->y<ops.toList.length->(ios.getD p default).dst=some i->i∈vsOf (ios.getD y default)->cmp b (ord.getD p 0) (ord.getD y 0)=true
theorem zcx{N:Nat}{ops:Array Oper}{ord:List Nat}{ios:List IOper}{chk:List (Nat×Nat)}(h:regOk true N ops ord ios chk=true):DrC ops ord ios chk (Region.before ops):=by
 simp only[regOk,if_true,L'c,N'p,N'q]at h
 obtain⟨_,⟨⟨⟨⟨⟨⟨⟨⟨⟨⟨⟨h1,h2⟩,h3⟩,h3'⟩,h4⟩,h5⟩,h6⟩,h7⟩,h8⟩,h9⟩,h10⟩,h11⟩⟩:=h
 generalize Region.before ops=b at *
 have rng:∀{n k:Nat}{f:Nat->Bool},(List.range n).all f=true->k<n->f k=true:=by
  intro n k f hf hk
  exact L'h.1 hf k (N's.2 hk)
 have iosL:ios.length=ops.toList.length:=by simpa using h4
 refine⟨zvr h1,by simpa using h2,?_,fun k hk=>by simpa using rng h3' hk,iosL,?_,?_,?_,?_,?_,?_,?_⟩
 ·intro k hk
  have:=L'h.1 h3 k hk
  simpa using this
 ·intro k j hk hj hb
  have:=rng (rng h5 hk) hj
  rw[hb]at this
  simp only[N'p,N'q]at this
  split at this
  ·rename_i o ho
   obtain⟨e,he,h⟩:=N't.1 this
   simp only[L'c,N'r,beq_iff_eq]at h
   exact⟨o,ho,e,he,h.1,h.2⟩
  ·cases this
 ·intro y io x hy hx
  have hyl:y<ops.toList.length:=by rw[<-iosL];exact(L'b.1 hy).1
  have:=rng h6 hyl
  rw[List.getD_eq_getElem?_getD,hy,Option.getD_some]at this
  exact L'h.1 this x hx
 ·intro x y hx hy hxy
  have:=rng (rng h7 hx) hy
  simpa [hxy]using this
 ·intro k o ho e he hb
  have hkl:=(L'b.1 ho).1
  have:=rng h8 hkl
  simp only[ho]at this
  have:=L'h.1 this e he
  rw[hb]at this
  simpa using this
 ·intro p y hp hy hF hpy
  have:=rng h9 hp
  rw[hF]at this
  simp only[N'p,N'q]at this
  have:=rng this hy
  simp only[hpy,decide_true,N'p,N'q,N'r]at this
  rcases this with h|h
  ·exact .inl h
  ·right
   obtain⟨x,hx,h⟩:=N't.1 h
   simp only[L'c,decide_eq_true_eq]at h
   exact⟨x,N's.1 hx,h.1.1,h.1.2,h.2⟩
 ·intro p y hp hy hF hq
  have:=rng h10 hp
  rw[hF]at this
  simp only[N'p,N'q]at this
  have:=rng this hy
  have hq':(isF (ios.getD y default).op||isQ (ios.getD y default).op)=true:=by simpa using hq
  rw[hq']at this
  simp only[N'p,N'q,N'r,L'c]at this
  rcases this with h|h
  ·exact .inl h
  ·exact .inr ⟨h.1,by simpa using h.2⟩
 ·intro p y i hp hy hd hi
  have:=rng h11 hp
  simp only[hd]at this
  have:=rng this hy
  have hc:(vsOf (ios.getD y default)).contains i=true:=by simpa using hi
  rw[hc]at this
  simpa only[N'p,N'q]using this
end Go.Proofs.YtbaclnecajkknaaGreat.Pi

