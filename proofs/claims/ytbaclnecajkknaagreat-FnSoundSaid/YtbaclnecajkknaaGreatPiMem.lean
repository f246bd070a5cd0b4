/- Pi: the state after a block is written, frozen, made, handed over. -/
import Derived.Test.YtbaclnecajkknaaGreatPiInv
open List renaming getElem?_set->L'k,getElem?_append_left->L'm,getElem?_set_ne->L'n,getElem?_take->L'o
open Nat renaming le_refl->L'l,lt_of_lt_of_le->L'i
open Option renaming none->L'p
namespace Go.Proofs.YtbaclnecajkknaaGreat.Pi
open Go
set_option linter.all false

def Gh.bind(G:Gh)(b:Nat)(p:Nat×Nat):Gh:={G with ids:=fun x=>if x=b then some p else G.ids x}
def Gh.frz(G:Gh)(c:Nat):Gh:={G with S:=fun x=>G.S x\/x=c,T:=fun x=>G.T x\/x=c}
def Gh.frzL(G:Gh)(c:Nat):Gh:={G with S:=fun x=>G.S x\/x=c\/G.X x=some c,T:=fun x=>G.T x\/x=c\/G.X x=some c,X:=fun x=>if G.X x=some c then none else G.X x}
def Gh.give(G:Gh)(c:Nat)(f:List Nat):Gh:={G with X:=fun x=>if x∈f then some c else G.X x}
def Gh.take(G:Gh)(c:Nat):Gh:={G with X:=fun x=>if G.X x=some c then none else G.X x}
structure Grew(w w':World):Prop where
os:w'.os=w.os
tape:w'.tape=w.tape
output:w'.output=w.output
size:w.heap.size<=w'.heap.size
same:∀c,c<w.heap.size->w'.heap[c]?=w.heap[c]?
structure Wrote(w w':World)(b:Nat):Prop where
os:w'.os=w.os
tape:w'.tape=w.tape
output:w'.output=w.output
size:w.heap.size<=w'.heap.size
same:∀c,c<w.heap.size->c≠b->w'.heap[c]?=w.heap[c]?
theorem Grew.refl(w:World):Grew w w:=⟨rfl,rfl,rfl,L'l _,fun _ _=>rfl⟩
theorem Grew.trans{w w₁ w₂:World}(h:Grew w w₁)(h':Grew w₁ w₂):Grew w w₂:=
⟨h'.os.trans h.os,h'.tape.trans h.tape,h'.output.trans h.output,Nat.le_trans h.size h'.size,fun c hc=>(h'.same c (L'i hc h.size)).trans (h.same c hc)⟩
theorem Grew.drew(w:World):Grew w w.drew:=⟨rfl,rfl,rfl,L'l _,fun _ _=>rfl⟩
theorem Grew.alloc(w:World)(o:Obj):Grew w (w.alloc o):=⟨rfl,rfl,rfl,by simp,fun c hc=>heap_alloc_old w o hc⟩
theorem Grew.wrote{w w':World}(h:Grew w w')(b:Nat):Wrote w w' b:=⟨h.os,h.tape,h.output,h.size,fun c hc _=>h.same c hc⟩
theorem Wrote.setRow(w:World)(g:Nat)(cs:Array Value):Wrote w (w.setRow g cs) g:=⟨rfl,rfl,rfl,by simp,fun c _ hn=>setRow_other w g c cs hn⟩
section
variable {G:Gh}{w w':World}{mem:List Blk}
theorem Top.set{b c:Nat}{k k':Blk}(hb:mem[b]?=some k)(hk:k'.own=true->k.own=true)(h:Top G (mem.set b k') c):Top G mem c:=by
 obtain⟨i,ki,cp,h1,h2,h3⟩:=h
 rw[L'k]at h1
 split at h1
 ·rename_i hi;subst hi
  split at h1
  ·cases h1;exact⟨_,k,cp,hb,hk h2,h3⟩
  ·cases h1
 ·exact⟨i,ki,cp,h1,h2,h3⟩
theorem Own.set{b c:Nat}{k k':Blk}(hb:mem[b]?=some k)(hk:k'.own=true->k.own=true)(h:Own G (mem.set b k') c):Own G mem c:=h.imp (Top.set hb hk) id
theorem Top.unset{b c cp:Nat}{k k':Blk}(hG:Good G w mem)(hb:mem[b]?=some k)(hk:k.own=true)(hi:G.ids b=some (c,cp))(hd:k'.own=false):¬Top G (mem.set b k') c:=by
 rintro⟨i,ki,cp',h1,h2,h3⟩
 rw[L'k]at h1
 split at h1
 ·split at h1
  ·cases h1;simp[hd]at h2
  ·cases h1
 ·rename_i hne
  exact hne (hG.inj b i k ki c cp cp' hb h1 hk h2 hi h3)
theorem Own.unset{b c cp:Nat}{k k':Blk}(hG:Good G w mem)(hb:mem[b]?=some k)(hk:k.own=true)(hi:G.ids b=some (c,cp))(hd:k'.own=false):¬Own G (mem.set b k') c:=by
 rintro(h|⟨d,h⟩)
 ·exact Top.unset hG hb hk hi hd h
 ·exact hG.xap c d h ⟨b,k,cp,hb,hk,hi⟩
theorem Good.grew(h:Good G w mem)(hw:Grew w w'):Good G w' mem/\Ext G w mem G w' mem:=by
 have hx:Ext G w mem G w' mem:=⟨⟨hw.os,hw.tape,hw.output,hw.size,fun c hc _=>hw.same c hc,fun _ ho=>.inl ho,fun _ ho=>ho,fun _ ho=>ho,fun _ ho=>.inl ho,fun _ ho=>.inl ho⟩,L'l _,fun _ _=>rfl,fun _ _ _=>rfl⟩
 have hl:=hx.le h
 refine⟨⟨h.bnd,fun b k c cp hb hi=>(h.blk b k c cp hb hi).monoX hl (fun ho=>hw.same c ((h.blk b k c cp hb hi).lt ho)) (fun _ _ c' hc'=>⟨hc',hw.same c' (h.xlt c' _ hc')⟩),h.ST,fun c hc=>L'i (h.lt c hc) hw.size,h.apart,h.inj,fun c d hc=>L'i (h.xlt c d hc) hw.size,h.xap⟩,hx⟩
theorem Good.write(h:Good G w mem){b c cp:Nat}{k k':Blk}(hb:mem[b]?=some k)(hk:k.own=true)(hi:G.ids b=some (c,cp))(hw:Wrote w w' c)
  (hok:∀(G':Gh),Le G w G' w'->G'.X=G.X->G'.ids=G.ids->BlkOk G' w' c cp k'):Good G w' (mem.set b k')/\Ext G w mem G w' (mem.set b k'):=by
 have htop:Top G mem c:=⟨b,k,cp,hb,hk,hi⟩
 have hown:Own G mem c:=.inl htop
 have hx:Ext G w mem G w' (mem.set b k'):=by
  refine⟨⟨hw.os,hw.tape,hw.output,hw.size,fun c' hc hn=>hw.same c' hc (fun e=>hn (e▸hown)),fun c' ho=>.inl (Own.set hb (fun _=>hk) ho),fun _ ho=>ho,fun _ ho=>ho,fun _ ho=>.inl ho,fun _ ho=>.inl ho⟩,by simp,fun _ _=>rfl,?_⟩
  intro i hi' hn
  rw[L'n]
  rintro rfl
  rw[hi]at hn;cases hn
 have hl:=hx.le h
 refine⟨⟨fun b' p hp=>by simpa using h.bnd b' p hp,?_,h.ST,fun c' hc=>L'i (h.lt c' hc) hw.size,fun c' ho=>h.apart c' (Own.set hb (fun _=>hk) ho),?_,fun c' d hc=>L'i (h.xlt c' d hc) hw.size,fun c' d hc ht=>h.xap c' d hc (Top.set hb (fun _=>hk) ht)⟩,hx⟩
 ·intro i ki c' cp' h1 h2
  rw[L'k]at h1
  split at h1
  ·rename_i he;subst he
   split at h1
   ·cases h1
    rw[hi]at h2;cases h2
    exact hok G hl rfl rfl
   ·cases h1
  ·rename_i hne
   have ho:=h.blk i ki c' cp' h1 h2
   refine ho.monoX hl (fun hko=>hw.same c' (ho.lt hko) ?_) (fun _ _ x hx=>⟨hx,hw.same x (h.xlt x _ hx) ?_⟩)
   ·rintro rfl
    exact hne (h.inj b i k ki _ cp cp' hb h1 hk hko hi h2)
   ·rintro rfl
    exact h.xap _ _ hx htop
 ·intro i j ki kj c' cp1 cp2 h1 h2 h3 h4 h5 h6
  have conv:∀(i:Nat) (ki:Blk),(mem.set b k')[i]?=some ki->ki.own=true->∃k0,mem[i]?=some k0/\k0.own=true:=by
   intro i ki h1 h3
   rw[L'k]at h1
   split at h1
   ·rename_i he;subst he;exact⟨k,hb,hk⟩
   ·exact⟨ki,h1,h3⟩
  obtain⟨k1,e1,o1⟩:=conv i ki h1 h3
  obtain⟨k2,e2,o2⟩:=conv j kj h2 h4
  exact h.inj i j k1 k2 c' cp1 cp2 e1 e2 o1 o2 h5 h6
theorem Good.bury'(h:Good G w mem){b c cp:Nat}{k:Blk}(k':Blk)(hi:G.ids b=some (c,cp))(hk':k'.own=false)(hok:BlkOk G w c cp k'):Good G w (mem.set b k')/\Ext G w mem G w (mem.set b k'):=by
 have get:∀(i:Nat) (ki:Blk),(mem.set b k')[i]?=some ki->ki.own=true->mem[i]?=some ki:=by
  intro i ki h1 h2
  rw[L'k]at h1
  split at h1
  ·split at h1
   ·cases h1;rw[hk']at h2;cases h2
   ·cases h1
  ·exact h1
 have top:∀c,Top G (mem.set b k') c->Top G mem c:=fun c⟨i,ki,cp,h1,h2,h3⟩=>⟨i,ki,cp,get i ki h1 h2,h2,h3⟩
 have own:∀c,Own G (mem.set b k') c->Own G mem c:=fun c hc=>hc.imp (top c) id
 refine⟨⟨fun b' p hp=>by simpa using h.bnd b' p hp,fun i ki c' cp' h1 h2=>?_,h.ST,h.lt,fun c ho=>h.apart c (own c ho),fun i j ki kj c' cp1 cp2 h1 h2 h3 h4 h5 h6=>h.inj i j ki kj c' cp1 cp2 (get i ki h1 h3) (get j kj h2 h4) h3 h4 h5 h6,h.xlt,fun c' d hc ht=>h.xap c' d hc (top c' ht)⟩,
  ⟨⟨rfl,rfl,rfl,L'l _,fun _ _ _=>rfl,fun c ho=>.inl (own c ho),fun _ h=>h,fun _ h=>h,fun _ h=>.inl h,fun _ h=>.inl h⟩,by simp,fun _ _=>rfl,fun b' _ hn=>?_⟩⟩
 ·rw[L'k]at h1
  split at h1
  ·split at h1
   ·cases h1
    rename_i hib _
    subst hib
    rw[hi]at h2;cases h2
    exact hok
   ·cases h1
  ·exact h.blk i ki c' cp' h1 h2
 ·rw[L'n]
  rintro rfl;rw[hi]at hn;cases hn
theorem Good.bury(h:Good G w mem){b c cp:Nat}{k:Blk}(_hb:mem[b]?=some k)(_hk:k.own=false)(hi:G.ids b=some (c,cp)):Good G w (mem.set b .dead)/\Ext G w mem G w (mem.set b .dead):=
h.bury' (k:=k) .dead hi rfl trivial
theorem Good.extend(h:Good G w mem)(ks:List Blk):Good G w (mem++ks)/\Ext G w mem G w (mem++ks):=by
 have old:∀(b:Nat) (p:Nat×Nat),G.ids b=some p->(mem++ks)[b]?=mem[b]?:=fun b p hp=>L'm (h.bnd b p hp)
 have ht:∀c,Top G (mem++ks) c->Top G mem c:=by
  rintro c⟨b,k,cp,h1,h2,h3⟩
  exact⟨b,k,cp,(old b _ h3)▸h1,h2,h3⟩
 have ho:∀c,Own G (mem++ks) c->Own G mem c:=fun c hc=>hc.imp (ht c) id
 refine⟨⟨fun b p hp=>by have:=h.bnd b p hp;simp;omega,fun b k c cp h1 h2=>h.blk b k c cp ((old b _ h2)▸h1) h2,h.ST,h.lt,fun c hc=>h.apart c (ho c hc),?_,h.xlt,fun c d hc hT=>h.xap c d hc (ht c hT)⟩,⟨rfl,rfl,rfl,L'l _,fun _ _ _=>rfl,fun c hc=>.inl (ho c hc),fun _ ho=>ho,fun _ ho=>ho,fun _ ho=>.inl ho,fun _ ho=>.inl ho⟩,by simp,fun _ _=>rfl,?_⟩
 ·intro i j ki kj c cp1 cp2 h1 h2 h3 h4 h5 h6
  exact h.inj i j ki kj c cp1 cp2 ((old i _ h5)▸h1) ((old j _ h6)▸h2) h3 h4 h5 h6
 ·intro b hb _;exact L'm hb
theorem Gh.bind_same{b:Nat}{p:Nat×Nat}:(G.bind b p).ids b=some p:=by simp[Gh.bind]
theorem Gh.bind_ne{b b':Nat}{p:Nat×Nat}(h:b'≠b):(G.bind b p).ids b'=G.ids b':=by simp[Gh.bind,h]
theorem Good.name'(h:Good G w mem){b c cp:Nat}{k:Blk}(hb:mem[b]?=some k)(hn:G.ids b=none)(hw:Grew w w')(hT:¬G.T c)(hO:¬Own G mem c)
  (hok:Le G w (G.bind b (c,cp)) w'->BlkOk (G.bind b (c,cp)) w' c cp k):Good (G.bind b (c,cp)) w' mem/\(∀c',Own (G.bind b (c,cp)) mem c'->Own G mem c'\/c'=c)/\Le G w (G.bind b (c,cp)) w':=by
 have hl:Le G w (G.bind b (c,cp)) w':=⟨fun _ h=>h,fun _ h=>h,h.ST,fun c' hc'=>hw.same c' (h.lt c' hc'),fun b' p hp=>by
  rw[Gh.bind_ne];exact hp
  rintro rfl;rw[hn]at hp;cases hp⟩
 have ht:∀c',Top (G.bind b (c,cp)) mem c'->Top G mem c'\/c'=c:=by
  rintro c' ⟨i,ki,cp',h1,h2,h3⟩
  by_cases hib:i=b
  ·subst hib;rw[Gh.bind_same]at h3;cases h3;exact .inr rfl
  ·rw[Gh.bind_ne hib]at h3;exact .inl ⟨i,ki,cp',h1,h2,h3⟩
 have ho:∀c',Own (G.bind b (c,cp)) mem c'->Own G mem c'\/c'=c:=by
  rintro c' (hc|hc)
  ·exact(ht c' hc).imp .inl id
  ·exact .inl (.inr hc)
 refine⟨⟨?_,?_,h.ST,fun c' hc'=>L'i (h.lt c' hc') hw.size,?_,?_,fun c' d hc'=>L'i (h.xlt c' d hc') hw.size,fun c' d hc' hT=>?_⟩,ho,hl⟩
 ·intro b' p hp
  by_cases hib:b'=b
  ·subst hib;exact(List.getElem?_eq_some_iff.1 hb).1
  ·rw[Gh.bind_ne hib]at hp;exact h.bnd b' p hp
 ·intro i ki c' cp' h1 h2
  by_cases hib:i=b
  ·subst hib;rw[Gh.bind_same]at h2;cases h2;rw[hb]at h1;cases h1;exact hok hl
  ·rw[Gh.bind_ne hib]at h2
   have:=h.blk i ki c' cp' h1 h2
   exact this.monoX hl (fun hko=>hw.same c' (this.lt hko)) (fun _ _ x hx=>⟨hx,hw.same x (h.xlt x _ hx)⟩)
 ·intro c' hc' hT'
  rcases ho c' hc' with hc'|rfl
  ·exact h.apart c' hc' hT'
  ·exact hT hT'
 ·intro i j ki kj c' cp1 cp2 h1 h2 h3 h4 h5 h6
  by_cases hib:i=b<;>by_cases hjb:j=b
  ·rw[hib,hjb]
  ·subst hib;rw[Gh.bind_same]at h5;rw[Gh.bind_ne hjb]at h6;cases h5
   exact(hO (.inl ⟨j,kj,cp2,h2,h4,h6⟩)).elim
  ·subst hjb;rw[Gh.bind_same]at h6;rw[Gh.bind_ne hib]at h5;cases h6
   exact(hO (.inl ⟨i,ki,cp1,h1,h3,h5⟩)).elim
  ·rw[Gh.bind_ne hib]at h5;rw[Gh.bind_ne hjb]at h6
   exact h.inj i j ki kj c' cp1 cp2 h1 h2 h3 h4 h5 h6
 ·rcases ht c' hT with hT|rfl
  ·exact h.xap c' d hc' hT
  ·exact hO (.inr ⟨d,hc'⟩)
theorem Good.name(h:Good G w mem){b c cp:Nat}{k:Blk}(hb:mem[b]?=some k)(hn:G.ids b=none)(hw:Grew w w')(hc:w.heap.size<=c)
  (hok:Le G w (G.bind b (c,cp)) w'->BlkOk (G.bind b (c,cp)) w' c cp k):Good (G.bind b (c,cp)) w' mem/\Wx G w mem (G.bind b (c,cp)) w' mem/\Le G w (G.bind b (c,cp)) w':=by
 obtain⟨h1,h2,h3⟩:=h.name' hb hn hw (fun hT=>by have:=h.lt _ hT;omega) (fun hO=>by have:=h.ownLt hO;omega) hok
 refine⟨h1,⟨hw.os,hw.tape,hw.output,hw.size,fun c' hc' _=>hw.same c' hc',?_,fun _ ho=>ho,fun _ ho=>ho,fun _ ho=>.inl ho,fun _ ho=>.inl ho⟩,h3⟩
 intro c' hc'
 rcases h2 c' hc' with hc'|rfl
 ·exact .inl hc'
 ·exact .inr hc
theorem Good.none(h:Good G w mem){b:Nat}(hb:mem.length<=b):G.ids b=none:=by
 cases hi:G.ids b with
 |none=>rfl
 |some p=>have:=h.bnd b p hi;omega
theorem Good.push(h:Good G w mem){c cp:Nat}{k:Blk}(hw:Grew w w')(hc:w.heap.size<=c)
  (hok:Le G w (G.bind mem.length (c,cp)) w'->BlkOk (G.bind mem.length (c,cp)) w' c cp k) :
  Good (G.bind mem.length (c,cp)) w' (mem++[k])/\Ext G w mem (G.bind mem.length (c,cp)) w' (mem++[k]):=by
 obtain⟨h1,h2⟩:=h.extend [k]
 obtain⟨h3,h4,h5⟩:=h1.name (b:=mem.length) (k:=k) (by simp) (h.none (L'l _)) hw hc hok
 exact⟨h3,h2.toWx.trans h4,h2.len,fun b hb=>Gh.bind_ne (by omega),fun b hb hn=>h2.un b hb hn⟩
theorem Good.rename2(h:Good G w mem){b c cp:Nat}(cq:Nat){k k':Blk}(hb:mem[b]?=some k)(hk:k.own=true)(hi:G.ids b=some (c,cp))(hw:Wrote w w' c)
  (hok:∀(G':Gh),Le G w G' w'->G'.X=G.X->BlkOk G' w' c cq k') (hk':k'.own=true) :
  Good (G.bind mem.length (c,cq)) w' (mem.set b .dead++[k'])/\Ext G w mem (G.bind mem.length (c,cq)) w' (mem.set b .dead++[k']):=by
 obtain⟨h1,h2⟩:=h.write hb hk hi hw (k':=.dead) (fun _ _ _ _=>trivial)
 have hno:=Own.unset h hb hk hi (k':=.dead) rfl
 obtain⟨h3,h4⟩:=h1.extend [k']
 have hlen:(mem.set b .dead).length=mem.length:=by simp
 have hnone:=h.none (L'l mem.length)
 have htop:Top G mem c:=⟨b,k,cp,hb,hk,hi⟩
 have hown:Own G mem c:=.inl htop
 have hl:Le G w' (G.bind mem.length (c,cq)) w':=⟨fun _ h=>h,fun _ h=>h,h.ST,fun _ _=>rfl,fun b' p hp=>by
  rw[Gh.bind_ne];exact hp
  rintro rfl;rw[hnone]at hp;cases hp⟩
 have hl0:=h2.le h
 have hlx:Le G w (G.bind mem.length (c,cq)) w':=⟨fun _ h=>h,fun _ h=>h,h.ST,hl0.same,hl.ids⟩
 have hto:∀c',Top (G.bind mem.length (c,cq)) (mem.set b .dead++[k']) c'->Top G (mem.set b .dead) c'\/c'=c:=by
  rintro c' ⟨i,ki,cp',e1,e2,e3⟩
  by_cases hib:i=mem.length
  ·subst hib;rw[Gh.bind_same]at e3;cases e3;exact .inr rfl
  ·rw[Gh.bind_ne hib]at e3
   have:=h.bnd i _ e3
   rw[L'm (by simpa using this)]at e1
   exact .inl ⟨i,ki,cp',e1,e2,e3⟩
 have ho:∀c',Own (G.bind mem.length (c,cq)) (mem.set b .dead++[k']) c'->Own G (mem.set b .dead) c'\/c'=c:=by
  rintro c' (hc|hc)
  ·exact(hto c' hc).imp .inl id
  ·exact .inl (.inr hc)
 refine⟨⟨?_,?_,h.ST,h1.lt,?_,?_,h1.xlt,fun c' d hc' hT=>?_⟩,⟨hw.os,hw.tape,hw.output,hw.size,h2.same,?_,fun _ ho=>ho,fun _ ho=>ho,fun _ ho=>.inl ho,fun _ ho=>.inl ho⟩,by simp,fun b hb=>Gh.bind_ne (by omega),?_⟩
 ·intro b' p hp
  by_cases hib:b'=mem.length
  ·subst hib;simp
  ·rw[Gh.bind_ne hib]at hp;have:=h.bnd b' p hp;simp;omega
 ·intro i ki c' cp' e1 e2
  by_cases hib:i=mem.length
  ·subst hib;rw[Gh.bind_same]at e2;cases e2
   have:ki=k':=by simpa using e1.symm
   subst this;exact hok _ hlx rfl
  ·rw[Gh.bind_ne hib]at e2
   have hlt:=h.bnd i _ e2
   rw[L'm (by simpa using hlt)]at e1
   exact(h1.blk i ki c' cp' e1 e2).monoX hl (fun _=>rfl) (fun _ _ x hx=>⟨hx,rfl⟩)
 ·intro c' hc' hT
  rcases ho c' hc' with hc'|rfl
  ·exact h1.apart c' hc' hT
  ·exact h.apart _ hown hT
 ·intro i j ki kj c' cp1 cp2 e1 e2 e3 e4 e5 e6
  by_cases hib:i=mem.length<;>by_cases hjb:j=mem.length
  ·rw[hib,hjb]
  ·subst hib;rw[Gh.bind_same]at e5;rw[Gh.bind_ne hjb]at e6;cases e5
   have hlt:=h.bnd j _ e6
   rw[L'm (by simpa using hlt)]at e2
   exact(hno (.inl ⟨j,kj,cp2,e2,e4,e6⟩)).elim
  ·subst hjb;rw[Gh.bind_same]at e6;rw[Gh.bind_ne hib]at e5;cases e6
   have hlt:=h.bnd i _ e5
   rw[L'm (by simpa using hlt)]at e1
   exact(hno (.inl ⟨i,ki,cp1,e1,e3,e5⟩)).elim
  ·rw[Gh.bind_ne hib]at e5;rw[Gh.bind_ne hjb]at e6
   have hlt:=h.bnd i _ e5
   have hlt':=h.bnd j _ e6
   rw[L'm (by simpa using hlt)]at e1
   rw[L'm (by simpa using hlt')]at e2
   exact h1.inj i j ki kj c' cp1 cp2 e1 e2 e3 e4 e5 e6
 ·rcases hto c' hT with hT|rfl
  ·exact h1.xap c' d hc' hT
  ·exact h.xap _ d hc' htop
 ·intro c' hc'
  rcases ho c' hc' with hc'|rfl
  ·exact .inl (Own.set hb (fun _=>hk) hc')
  ·exact .inl hown
 ·intro b' hb' hn
  rw[L'm (by simpa using hb'),L'n]
  rintro rfl;rw[hi]at hn;cases hn
theorem Good.rename(h:Good G w mem){b c cp:Nat}{k k':Blk}(hb:mem[b]?=some k)(hk:k.own=true)(hi:G.ids b=some (c,cp))(hw:Wrote w w' c)
 (hok:∀(G':Gh),Le G w G' w'->G'.X=G.X->BlkOk G' w' c cp k')(hk':k'.own=true) :
 Good (G.bind mem.length (c,cp)) w' (mem.set b .dead++[k'])/\Ext G w mem (G.bind mem.length (c,cp)) w' (mem.set b .dead++[k']):=h.rename2 cp hb hk hi hw hok hk'
theorem Good.freeze(h:Good G w mem){b c cp:Nat}{t:TypeId}{fl:Bool}{sz:Nat}{es:List PV}(hb:mem[b]?=some (.row t fl sz es))(he:es≠[])(hi:G.ids b=some (c,cp)) :
  Good (G.frz c) w (mem.set b (.fro fl sz es))/\Ext G w mem (G.frz c) w (mem.set b (.fro fl sz es)):=by
 have htop:Top G mem c:=⟨b,_,cp,hb,z101 he,hi⟩
 have hown:Own G mem c:=.inl htop
 have hno:=Own.unset (k':=.fro fl sz es) h hb (z101 he) hi rfl
 have hl:Le G w (G.frz c) w:=⟨fun _ h=>.inl h,fun _ h=>.inl h,h.ST,fun _ _=>rfl,fun _ _ h=>h⟩
 obtain⟨tt,cs,vs,e1,e2,e3,e4,e5⟩:=z176 (h.blk b _ c cp hb hi) he
 refine⟨⟨fun b' p hp=>by simpa using h.bnd b' p hp,?_,?_,?_,?_,?_,h.xlt,fun c' d hc' ht=>h.xap c' d hc' (Top.set (G:=G) hb (fun _=>z101 he) ht)⟩,⟨rfl,rfl,rfl,L'l _,fun _ _ _=>rfl,fun c' ho=>.inl (Own.set (G:=G) hb (fun _=>z101 he) ho),fun _ h=>.inl h,fun _ h=>.inl h,?_,?_⟩,by simp,fun _ _=>rfl,?_⟩
 ·intro i ki c' cp' f1 f2
  rw[L'k]at f1
  split at f1
  ·rename_i he;subst he
   split at f1
   ·cases f1
    have:(c',cp')=(c,cp):=by
     have:G.ids b=some (c',cp'):=f2
     rw[hi]at this;cases this;rfl
    cases this
    refine .inr ⟨.inr rfl,e3,vs,RpEs.mono hl.I fl sz es vs e4,fun j v hv=>?_⟩
    rw[Nat.zero_add,cell_of_row w c j cs tt (0,0) e1]
    rw[<-e5,L'o]at hv
    split at hv
    ·simpa using hv
    ·cases hv
   ·cases f1
  ·exact(h.blk i ki c' cp' f1 f2).monoX hl (fun _=>rfl) (fun _ _ x hx=>⟨hx,rfl⟩)
 ·rintro c' (hc|rfl)
  ·exact .inl (h.ST c' hc)
  ·exact .inr rfl
 ·rintro c' (hc|rfl)
  ·exact h.lt c' hc
  ·exact h.ownLt hown
 ·rintro c' ho (hc|rfl)
  ·exact h.apart c' (Own.set (G:=G) hb (fun _=>z101 he) ho) hc
  ·exact hno ho
 ·intro i j ki kj c' cp1 cp2 h1 h2 h3 h4 h5 h6
  have conv:∀(i:Nat) (ki:Blk),(mem.set b (.fro fl sz es))[i]?=some ki->ki.own=true->mem[i]?=some ki:=by
   intro i ki h1 h3
   rw[L'k]at h1
   split at h1
   ·split at h1
    ·cases h1;simp[Blk.own]at h3
    ·cases h1
   ·exact h1
  exact h.inj i j ki kj c' cp1 cp2 (conv i ki h1 h3) (conv j kj h2 h4) h3 h4 h5 h6
 ·rintro c' (hc|rfl)
  ·exact .inl hc
  ·exact .inr (.inl hown)
 ·rintro c' (hc|rfl)
  ·exact .inl hc
  ·exact .inr (.inl hown)
 ·intro b' hb' hn
  rw[L'n]
  rintro rfl;rw[hi]at hn;cases hn
theorem At.row0{c:Nat}{cs:Array Value}{t:TypeId}{n:Nat}{vs:List Value}(h:w.heap[c]?=some (.cells cs t (0,0)))(hv:cs.toList.take n=vs):At w c 0 vs:=by
 intro j v hj
 rw[Nat.zero_add,cell_of_row w c j cs t (0,0) h]
 rw[<-hv,L'o]at hj
 split at hj
 ·simpa using hj
 ·cases hj
theorem Good.freezeL(h:Good G w mem){b c cp:Nat}{t:TypeId}{sz:Nat}{es:List PV}(hb:mem[b]?=some (.lin t sz es))(he:es≠[])(hi:G.ids b=some (c,cp)) :
  Good (G.frzL c) w (mem.set b (.fro false sz es))/\Ext G w mem (G.frzL c) w (mem.set b (.fro false sz es)):=by
 obtain⟨cs,vs,f,e1,e2,e3,e4,e5,e6,e7,e8⟩:=zr3 (h.blk b _ c cp hb hi) he
 have htop:Top G mem c:=⟨b,_,cp,hb,z100 he,hi⟩
 have hno:¬Top G (mem.set b (.fro false sz es)) c:=Top.unset h hb (z100 he) hi rfl
 have hl:Le G w (G.frzL c) w:=⟨fun _ h=>.inl h,fun _ h=>.inl h,h.ST,fun _ _=>rfl,fun _ _ h=>h⟩
 have top:∀c',Top (G.frzL c) (mem.set b (.fro false sz es)) c'->Top G mem c':=fun c' hc'=>Top.set (G:=G) (k':=.fro false sz es) hb (fun h=>by cases h) hc'
 have hX:∀x d,(G.frzL c).X x=some d->G.X x≠some c/\G.X x=some d:=by
  intro x d hx
  simp only[Gh.frzL]at hx
  split at hx
  ·cases hx
  ·rename_i hn;exact⟨hn,hx⟩
 have own:∀c',Own (G.frzL c) (mem.set b (.fro false sz es)) c'->Own G mem c':=fun c' hc'=>hc'.imp (top c') fun⟨d,hd⟩=>⟨d,(hX c' d hd).2⟩
 have hcf:∀c',c'=c\/G.X c'=some c->Own G mem c':=by
  rintro c' (rfl| hc')
  ·exact .inl htop
  ·exact .inr ⟨c,hc'⟩
 refine⟨⟨fun b' p hp=>by simpa using h.bnd b' p hp,?_,?_,?_,?_,?_,fun c' d hd=>h.xlt c' d (hX c' d hd).2,fun c' d hd ht=>h.xap c' d (hX c' d hd).2 (top c' ht)⟩,⟨rfl,rfl,rfl,L'l _,fun _ _ _=>rfl,fun c' ho=>.inl (own c' ho),fun _ h=>.inl h,fun _ h=>.inl h,?_,?_⟩,by simp,fun _ _=>rfl,?_⟩
 ·intro i ki c' cp' f1 f2
  rw[L'k]at f1
  split at f1
  ·rename_i hib;subst hib
   split at f1
   ·cases f1
    have:(c',cp')=(c,cp):=by
     have:G.ids b=some (c',cp'):=f2
     rw[hi]at this;cases this;rfl
    cases this
    exact .inr ⟨.inr (.inl rfl),e3,vs,(e5.toI fun x hx=>.inr (.inr (e8 x hx))).elems e4,At.row0 e1 e6⟩
   ·cases f1
  ·rename_i hne
   refine(h.blk i ki c' cp' f1 f2).monoX hl (fun _=>rfl) (fun _ hko x hx=>⟨?_,rfl⟩)
   have hxf:G.X x≠some c:=fun hxf=>by
    rw[hx]at hxf;cases hxf
    exact hne (h.inj i b ki _ _ cp' cp f1 hb hko (z100 he) f2 hi).symm
   show(if G.X x=some c then L'p else G.X x)=some c'
   rw[if_neg hxf];exact hx
 ·rintro c' (hc|hc)
  ·exact .inl (h.ST c' hc)
  ·exact .inr hc
 ·rintro c' (hc|hc)
  ·exact h.lt c' hc
  ·exact h.ownLt (hcf c' hc)
 ·rintro c' ho (hc|hc)
  ·exact h.apart c' (own c' ho) hc
  ·rcases ho with ho|⟨d,hd⟩
   ·rcases hc with rfl| hc
    ·exact hno ho
    ·exact h.xap c' c hc (top c' ho)
   ·obtain⟨k1,k2⟩:=hX c' d hd
    rcases hc with rfl| hc
    ·exact h.xap _ d k2 htop
    ·exact k1 hc
 ·intro i j ki kj c' cp1 cp2 h1 h2 h3 h4 h5 h6
  have conv:∀(i:Nat) (ki:Blk),(mem.set b (.fro false sz es))[i]?=some ki->ki.own=true->mem[i]?=some ki:=by
   intro i ki h1 h3
   rw[L'k]at h1
   split at h1
   ·split at h1
    ·cases h1;simp[Blk.own]at h3
    ·cases h1
   ·exact h1
  exact h.inj i j ki kj c' cp1 cp2 (conv i ki h1 h3) (conv j kj h2 h4) h3 h4 h5 h6
 ·rintro c' (hc|hc)
  ·exact .inl hc
  ·exact .inr (.inl (hcf c' hc))
 ·rintro c' (hc|hc)
  ·exact .inl hc
  ·exact .inr (.inl (hcf c' hc))
 ·intro b' hb' hn
  rw[L'n]
  rintro rfl;rw[hi]at hn;cases hn
theorem Good.handL(h:Good G w mem){b c cp:Nat}{t:TypeId}{sz:Nat}{es:List PV}(hb:mem[b]?=some (.lin t sz es))(he:es≠[])(hi:G.ids b=some (c,cp)) :
  Good (G.take c) w (mem.set b .dead)/\(∀c',Own (G.take c) (mem.set b .dead) c'->Own G mem c'/\c'≠c/\G.X c'≠some c):=by
 have htop:Top G mem c:=⟨b,_,cp,hb,z100 he,hi⟩
 have hno:¬Top G (mem.set b .dead) c:=Top.unset h hb (z100 he) hi rfl
 have hl:Le G w (G.take c) w:=⟨fun _ h=>h,fun _ h=>h,h.ST,fun _ _=>rfl,fun _ _ h=>h⟩
 have top':∀c',Top G (mem.set b .dead) c'->Top G mem c':=fun c' hc'=>Top.set (G:=G) (k':=.dead) hb (fun h=>by cases h) hc'
 have hX:∀x d,(G.take c).X x=some d->G.X x≠some c/\G.X x=some d:=by
  intro x d hx
  simp only[Gh.take]at hx
  split at hx
  ·cases hx
  ·rename_i hn;exact⟨hn,hx⟩
 have own:∀c',Own (G.take c) (mem.set b .dead) c'->Own G mem c'/\c'≠c/\G.X c'≠some c:=by
  rintro c' (hc'|⟨d,hd⟩)
  ·refine⟨.inl (top' c' hc'),?_,fun hf=>h.xap c' c hf (top' c' hc')⟩
   rintro rfl;exact hno hc'
  ·obtain⟨k1,k2⟩:=hX c' d hd
   refine⟨.inr ⟨d,k2⟩,?_,k1⟩
   rintro rfl;exact h.xap _ d k2 htop
 refine⟨⟨fun b' p hp=>by simpa using h.bnd b' p hp,?_,h.ST,h.lt,fun c' ho=>h.apart c' (own c' ho).1,?_,fun c' d hd=>h.xlt c' d (hX c' d hd).2,fun c' d hd ht=>h.xap c' d (hX c' d hd).2 (top' c' ht)⟩,own⟩
 ·intro i ki c' cp' f1 f2
  rw[L'k]at f1
  split at f1
  ·split at f1
   ·cases f1;trivial
   ·cases f1
  ·rename_i hne
   refine(h.blk i ki c' cp' f1 f2).monoX hl (fun _=>rfl) (fun _ hko x hx=>⟨?_,rfl⟩)
   have hxf:G.X x≠some c:=fun hxf=>by
    rw[hx]at hxf;cases hxf
    exact hne (h.inj i b ki _ _ cp' cp f1 hb hko (z100 he) f2 hi).symm
   show(if G.X x=some c then L'p else G.X x)=some c'
   rw[if_neg hxf];exact hx
 ·intro i j ki kj c' cp1 cp2 h1 h2 h3 h4 h5 h6
  have conv:∀(i:Nat) (ki:Blk),(mem.set b .dead)[i]?=some ki->ki.own=true->mem[i]?=some ki:=by
   intro i ki h1 h3
   rw[L'k]at h1
   split at h1
   ·split at h1
    ·cases h1;simp[Blk.own]at h3
    ·cases h1
   ·exact h1
  exact h.inj i j ki kj c' cp1 cp2 (conv i ki h1 h3) (conv j kj h2 h4) h3 h4 h5 h6
theorem Good.giveL(h:Good G w mem){c:Nat}{f:List Nat}(hf:∀x∈f,x<w.heap.size/\¬G.T x/\¬Own G mem x):Good (G.give c f) w mem/\(∀c',Own (G.give c f) mem c'->Own G mem c'\/c'∈f):=by
 have hl:Le G w (G.give c f) w:=⟨fun _ h=>h,fun _ h=>h,h.ST,fun _ _=>rfl,fun _ _ h=>h⟩
 have hX:∀x d,(G.give c f).X x=some d->(x∈f/\d=c)\/(x∉f/\G.X x=some d):=by
  intro x d hx
  simp only[Gh.give]at hx
  split at hx
  ·rename_i hm;cases hx;exact .inl ⟨hm,rfl⟩
  ·rename_i hn;exact .inr ⟨hn,hx⟩
 have own:∀c',Own (G.give c f) mem c'->Own G mem c'\/c'∈f:=by
  rintro c' (hc'|⟨d,hd⟩)
  ·exact .inl (.inl hc')
  ·rcases hX c' d hd with⟨k,_⟩|⟨_,k⟩
   ·exact .inr k
   ·exact .inl (.inr ⟨d,k⟩)
 refine⟨⟨h.bnd,fun i ki c' cp' f1 f2=>?_,h.ST,h.lt,fun c' ho hT=>?_,h.inj,fun c' d hd=>?_,fun c' d hd ht=>?_⟩,own⟩
 ·refine(h.blk i ki c' cp' f1 f2).monoX hl (fun _=>rfl) (fun _ hko x hx=>⟨?_,rfl⟩)
  have hxf:x∉f:=fun hxf=>(hf x hxf).2.2 (.inr ⟨_,hx⟩)
  show(if x∈f then some c else G.X x)=some c'
  rw[if_neg hxf];exact hx
 ·rcases own c' ho with ho|hm
  ·exact h.apart c' ho hT
  ·exact(hf c' hm).2.1 hT
 ·rcases hX c' d hd with⟨k,_⟩|⟨_,k⟩
  ·exact(hf c' k).1
  ·exact h.xlt c' d k
 ·rcases hX c' d hd with⟨k,_⟩|⟨_,k⟩
  ·exact(hf c' k).2.2 (.inl ht)
  ·exact h.xap c' d k ht
end
end Go.Proofs.YtbaclnecajkknaaGreat.Pi

