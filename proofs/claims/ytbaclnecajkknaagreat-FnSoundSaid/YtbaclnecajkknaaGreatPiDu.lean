/- Pi: drawn regions: a part of the blocks hidden for a while. -/
import Derived.Test.YtbaclnecajkknaaGreatPiDs
namespace Go.Proofs.YtbaclnecajkknaaGreat.Pi
open Go
set_option linter.all false

structure Mask(full mm:List Blk):Prop where
len:mm.length=full.length
eq:∀(b:Nat)(k:Blk),mm[b]?=some k->k=.dead\/full[b]?=some k
def Gh.seen(G:Gh)(mm:List Blk)(d:Nat):Prop:=∃(b:Nat)(k:Blk)(cp:Nat),mm[b]?=some k/\k.own=true/\G.ids b=some (d,cp)
def Gh.hidM(G:Gh)(mm:List Blk)(x:Nat):Prop:=∃d,G.X x=some d/\¬G.seen mm d
open Classical in
noncomputable def Gh.mX(G:Gh)(mm:List Blk):Gh:={G with X:=fun x=>if G.hidM mm x then none else G.X x}
section
variable {G G1:Gh}{w w1:World}{full mm:List Blk}
theorem mX_X{x d:Nat}(h:(G.mX mm).X x=some d):¬G.hidM mm x/\G.X x=some d:=by
 simp only[Gh.mX]at h
 split at h
 ·cases h
 ·rename_i hn;exact⟨hn,h⟩
theorem mX_le(hST:∀c,G.S c->G.T c):Le G w (G.mX mm) w:=⟨fun _ h=>h,fun _ h=>h,hST,fun _ _=>rfl,fun _ _ h=>h⟩
theorem Mask.top(h:Mask full mm){c:Nat}(ho:Top G mm c):Top G full c:=by
 obtain⟨b,k,cp,h1,h2,h3⟩:=ho
 rcases h.eq b k h1 with rfl| h4
 ·simp[Blk.own]at h2
 ·exact⟨b,k,cp,h4,h2,h3⟩
theorem Mask.own(h:Mask full mm){c:Nat}(ho:Own (G.mX mm) mm c):Own G full c:=by
 rcases ho with ho|⟨d,hd⟩
 ·exact .inl (h.top (G:=G) ho)
 ·exact .inr ⟨d,(mX_X hd).2⟩
theorem Good.mask(hG:Good G w full)(h:Mask full mm):Good (G.mX mm) w mm:=by
 refine⟨fun b p hp=>by rw[h.len];exact hG.bnd b p hp,fun b k c cp h1 h2=>?_,hG.ST,hG.lt,fun c ho=>hG.apart c (h.own ho),fun b b' k k' c cp cp' h1 h2 h3 h4 h5 h6=>?_,fun c d hd=>hG.xlt c d (mX_X hd).2,fun c d hd ht=>hG.xap c d (mX_X hd).2 (h.top (G:=G) ht)⟩
 ·rcases h.eq b k h1 with rfl| h4
  ·trivial
  ·refine(hG.blk b k c cp h4 h2).monoX (mX_le hG.ST) (fun _=>rfl) (fun _ hko x hx=>⟨?_,rfl⟩)
   have hn:¬G.hidM mm x:=fun⟨d,hd,hn⟩=>hn (by rw[hx]at hd;cases hd;exact⟨b,k,cp,h1,hko,h2⟩)
   simp only[Gh.mX]
   rw[if_neg hn];exact hx
 ·rcases h.eq b k h1 with rfl| h1'
  ·simp[Blk.own]at h3
  ·rcases h.eq b' k' h2 with rfl| h2'
   ·simp[Blk.own]at h4
   ·exact hG.inj b b' k k' c cp cp' h1' h2' h3 h4 h5 h6
theorem Good.unmask(hG:Good G w full)(h:Mask full mm)(g1:Good G1 w1 mm)(x:Ext (G.mX mm) w mm G1 w1 mm):∃G2,Good G2 w1 full/\Ext G w full G2 w1 full/\Le G1 w1 G2 w1:=by
 classical
 let G2:Gh:={G1 with X:=fun y=>if G.hidM mm y then G.X y else G1.X y}
 have hX2:∀y d,G2.X y=some d->(G.hidM mm y/\G.X y=some d)\/(¬G.hidM mm y/\G1.X y=some d):=by
  intro y d hy
  have hy:(if G.hidM mm y then G.X y else G1.X y)=some d:=hy
  split at hy
  ·rename_i hh;exact .inl ⟨hh,hy⟩
  ·rename_i hh;exact .inr ⟨hh,hy⟩
 have hids:∀b,b<full.length->G1.ids b=G.ids b:=fun b hb=>x.ids b (by rw[h.len];exact hb)
 have hid:∀b p,G1.ids b=some p->G.ids b=some p:=fun b p hp=>by rw[<-hids b (by rw[<-h.len];exact g1.bnd b p hp)];exact hp
 have hl0:=x.le (hG.mask h)
 have hl:Le G w G2 w1:=⟨hl0.S,hl0.T,hG.ST,hl0.same,hl0.ids⟩
 have hl2:Le G1 w1 G2 w1:=⟨fun _ h=>h,fun _ h=>h,g1.ST,fun _ _=>rfl,fun _ _ h=>h⟩
 have hidO:∀y,G.hidM mm y->¬Own (G.mX mm) mm y:=by
  rintro y ⟨d,hd,hn⟩ (ht|⟨d',hd'⟩)
  ·exact hG.xap y d hd (h.top (G:=G) ht)
  ·exact(mX_X hd').1 ⟨d,hd,hn⟩
 have hidlt:∀y,G.hidM mm y->y<w.heap.size:=fun y ⟨d,hd,_⟩=>hG.xlt y d hd
 have hidN:∀y,G.hidM mm y->¬Own G1 mm y:=by
  intro y hy ho
  rcases x.own y ho with ho|ho
  ·exact hidO y hy ho
  ·have:=hidlt y hy;omega
 have top1:∀c,Top G2 full c->Top G full c:=fun c ⟨b,k,cp,e1,e2,e3⟩=>⟨b,k,cp,e1,e2,hid _ _ e3⟩
 have own1:∀c,Own G2 full c->Own G full c\/w.heap.size<=c:=by
  rintro c (hc|⟨d,hd⟩)
  ·exact .inl (.inl (top1 c hc))
  ·rcases hX2 c d hd with⟨_,hx⟩|⟨_,hx⟩
   ·exact .inl (.inr ⟨d,hx⟩)
   ·exact(x.own c (.inr ⟨d,hx⟩)).imp (fun ho=>h.own ho) id
 have hidden:∀(b:Nat) (k:Blk) (c cp:Nat),full[b]?=some k->k.own=true->G.ids b=some (c,cp)->mm[b]?≠some k->¬Own (G.mX mm) mm c:=by
  rintro b k c cp h1 h2 h3 hne (⟨b',k',cp',e1,e2,e3⟩|⟨d,hd⟩)
  ·rcases h.eq b' k' e1 with rfl| e4
   ·simp[Blk.own]at e2
   ·have:=hG.inj b b' k k' c cp cp' h1 e4 h2 e2 h3 e3
    subst this
    rw[h1]at e4;cases e4
    exact hne e1
  ·exact hG.xap c d (mX_X hd).2 ⟨b,k,cp,h1,h2,h3⟩
 refine⟨G2,⟨fun b p hp=>by rw[<-h.len];exact g1.bnd b p hp,fun b k c cp h1 h2=>?_,g1.ST,g1.lt,fun c ho hT=>?_,fun b b' k k' c cp cp' h1 h2 h3 h4 h5 h6=>hG.inj b b' k k' c cp cp' h1 h2 h3 h4 (hid _ _ h5) (hid _ _ h6),fun c d hd=>?_,fun c d hd ht=>?_⟩,
  ⟨⟨x.os,x.tape,x.output,x.size,fun c hc hn=>x.same c hc (fun ho=>hn (h.own ho)),fun c hc=>own1 c hc,x.S,x.T,fun c hc=>(x.newT c hc).imp id (Or.imp (fun ho=>h.own ho) id),fun c hc=>(x.newS c hc).imp id (Or.imp (fun ho=>h.own ho) id)⟩,Nat.le_refl _,hids,fun _ _ _=>rfl⟩,hl2⟩
 ·by_cases hm:mm[b]?=some k
  ·refine(g1.blk b k c cp hm h2).monoX hl2 (fun _=>rfl) (fun _ _ y hy=>⟨?_,rfl⟩)
   show(if G.hidM mm y then G.X y else G1.X y)=some c
   rw[if_neg fun hh=>hidN y hh (.inr ⟨c,hy⟩)];exact hy
  ·have hb:=hG.blk b k c cp h1 (hid _ _ h2)
   refine hb.monoX hl (fun hk=>x.same c (hb.lt hk) (hidden b k c cp h1 hk (hid _ _ h2) hm)) (fun _ hko y hy=>?_)
   have hh:G.hidM mm y:=⟨c,hy,fun⟨b',k',cp',q1,q2,q3⟩=>by
    rcases h.eq b' k' q1 with rfl| q4
    ·simp[Blk.own]at q2
    ·have:=hG.inj b b' k k' c cp cp' h1 q4 hko q2 (hid _ _ h2) q3
     subst this
     rw[h1]at q4;cases q4
     exact hm q1⟩
   refine⟨?_,x.same y (hidlt y hh) (hidO y hh)⟩
   show(if G.hidM mm y then G.X y else G1.X y)=some c
   rw[if_pos hh];exact hy
 ·rcases ho with⟨b,k,cp,e1,e2,e3⟩|⟨d,hd⟩
  ·have e3':=hid _ _ e3
   by_cases hm:mm[b]?=some k
   ·exact g1.apart c (.inl ⟨b,k,cp,hm,e2,e3⟩) hT
   ·rcases x.newT c hT with hT|hT|hT
    ·exact hG.apart c (.inl ⟨b,k,cp,e1,e2,e3'⟩) hT
    ·exact hidden b k c cp e1 e2 e3' hm hT
    ·have:=hG.ownLt (.inl ⟨b,k,cp,e1,e2,e3'⟩);omega
  ·rcases hX2 c d hd with⟨hh,hx⟩|⟨_,hx⟩
   ·rcases x.newT c hT with hT|hT|hT
    ·exact hG.apart c (.inr ⟨d,hx⟩) hT
    ·exact hidO c hh hT
    ·have:=hidlt c hh;omega
   ·exact g1.apart c (.inr ⟨d,hx⟩) hT
 ·rcases hX2 c d hd with⟨hh,hx⟩|⟨_,hx⟩
  ·exact Nat.lt_of_lt_of_le (hidlt c hh) x.size
  ·exact g1.xlt c d hx
 ·have ht':=top1 c ht
  rcases hX2 c d hd with⟨hh,hx⟩|⟨_,hx⟩
  ·exact hG.xap c d hx ht'
  ·rcases x.own c (.inr ⟨d,hx⟩)with(hc|⟨d',hd'⟩)|hc
   ·refine g1.xap c d hx ?_
    obtain⟨b,k,cp,e1,e2,e3⟩:=hc
    exact⟨b,k,cp,e1,e2,(x.ids b (List.getElem?_eq_some_iff.1 e1).1).trans e3⟩
   ·exact hG.xap c d' (mX_X hd').2 ht'
   ·have:=hG.ownLt (.inl ht');omega
end
end Go.Proofs.YtbaclnecajkknaaGreat.Pi

