/- Pi: rows of rows that are their own: made, put into, added to. -/
import Derived.Test.YtbaclnecajkknaaGreatPiFin
open Nat renaming add_mul->L'2,le_refl->L'l,one_mul->L'3,zero_add->M'6,zero_mul->N'4,mul_le_mul_right->M'1,add_sub_cancel->N'5
open List renaming flatMap_cons->N'3,mem_append->L'j,nodup_append->M't,take_of_length_le->L'e,drop_of_length_le->L'a,length_append->L'x,length_pos_iff->M'5,nil_append->M'3,size_toArray->M'4,getElem?_set_ne->L'n,mem_singleton->N'2,take_zero->M'd,append_assoc->M'c,take_append_of_le_length->M'g,length_take->L'w,length_drop->L'y,drop_append->L'9,getElem?_eq_some_iff->L'b,mem_cons->M'z,replicate->L'0,mem_replicate->N'6,range->L'1,append_nil->M'e,getElem?_set->L'k,flatMap_append->N'7,toList_toArray->M'9,eq_nil_of_length_eq_zero->N'8,drop_zero->M'a,getElem?_eq_none->L'r,drop_drop->M'l
open Option renaming bind_eq_some_iff->L's,map_eq_some_iff->M'0
open Bool renaming and_eq_true->L'c
namespace Go.Proofs.YtbaclnecajkknaaGreat.Pi
open Go
set_option linter.all false

section
variable {P:Program}{G:Gh}{w:World}{mem:List Blk}
theorem RpEs.flatI{S:Nat->Prop}{fl:Bool}{sz:Nat}:∀{es:List PV}{vs:List Value},RpEs S w fl sz es vs->RpIL S w (es.flatMap PV.cells) vs
 |[],_,h=>h
 |x::xs,vs,h=>by
  obtain⟨v,rest,rfl,h2,h3,h4⟩:=h
  rw[N'3]
  exact h2.cells.append h4.flatI
structure Into(G:Gh)(w:World)(mem:List Blk)(G':Gh)(mem':List Blk)(d:Nat)(f:List Nat):Prop where
good:Good G' w mem'
ext:Ext G w mem G' w mem'
nodup:f.Nodup
mine:∀c∈f,G'.X c=some d/\G.X c=none
old:∀c e,G.X c=some e->G'.X c=some e
lin:∀(b:Nat)(k:Blk),k.isLin=true->mem[b]?=some k->mem'[b]?=some k
theorem Into.refl(hG:Good G w mem)(d:Nat):Into G w mem G mem d []:=⟨hG,.refl G w mem,.nil,by simp,fun _ _ h=>h,fun _ _ _ h=>h⟩
theorem Into.trans{G1 G2:Gh}{m1 m2:List Blk}{d:Nat}{f1 f2:List Nat}(h:Into G w mem G1 m1 d f1)(h':Into G1 w m1 G2 m2 d f2):Into G w mem G2 m2 d (f1++f2):=by
 refine⟨h'.good,h.ext.trans h'.ext,?_,fun c hc=>?_,fun c e hc=>h'.old c e (h.old c e hc),fun b k hk hb=>h'.lin b k hk (h.lin b k hk hb)⟩
 ·rw[M't]
  refine⟨h.nodup,h'.nodup,fun a ha b hb=>?_⟩
  rintro rfl
  have e1:=(h.mine a ha).1
  have e2:=(h'.mine a hb).2
  rw[e1]at e2;cases e2
 ·rcases L'j.1 hc with hc|hc
  ·exact⟨h'.old c d (h.mine c hc).1,(h.mine c hc).2⟩
  ·refine⟨(h'.mine c hc).1,?_⟩
   cases e:G.X c with
   |none=>rfl
   |some x=>have:=h.old c x e;rw[(h'.mine c hc).2]at this;cases this
theorem zr9(hG:Good G w mem)(d:Nat){x y:PV}{v:Value}{mem':List Blk}(hx:Rp G w x v)(h:linP mem x=some (y,mem')):∃G' f,Into G w mem G' mem' d f/\RpC w y v f:=by
 cases x<;>simp only[linP]at h<;>try(cases h;done)
 case int=>cases h;exact⟨G,[],.refl hG d,.inl ⟨rfl,.inl ⟨rfl,hx⟩⟩⟩
 case bool=>cases h;exact⟨G,[],.refl hG d,.inl ⟨rfl,.inl ⟨rfl,hx⟩⟩⟩
 case str=>cases h;exact⟨G,[],.refl hG d,.inl ⟨rfl,.inl ⟨rfl,hx⟩⟩⟩
 case nil fl sz=>
  cases h
  simp only[Rp]at hx;subst hx
  exact⟨G,[],.refl hG d,.inl ⟨rfl,.inr (.inr ⟨fl,sz,none,0,rfl,rfl,fun _=>rfl⟩)⟩⟩
 case sl fl sz es=>
  split at h
  case isFalse=>cases h
  rename_i h0
  have h0:es=[]:=by simpa using h0
  subst h0
  cases h
  obtain⟨A,cap,vs,rfl,_,_,hz,_⟩:=hx
  exact⟨G,[],.refl hG d,.inl ⟨rfl,.inr (.inr ⟨fl,sz,A,cap,rfl,rfl,hz⟩)⟩⟩
 case ref j sz off len=>
  split at h
  case h_2=>cases h
  rename_i t fl sz' es hb
  split at h
  case isFalse=>cases h
  rename_i hq
  obtain⟨rfl,rfl,rfl,rfl⟩:=hq
  cases h
  obtain⟨c,cap,cp,h1,h2,h3,A,rfl,hA⟩:=hx
  have hcap:cp=cap:=by omega
  subst hcap
  have keepl:∀(b:Nat) (k:Blk),k.isLin=true->mem[b]?=some k->(mem.set j .dead)[b]?=some k:=by
   intro b k hk hb'
   rw[L'n];exact hb'
   rintro rfl;rw[hb]at hb';cases hb';cases hk
  by_cases h0:es=[]
  ·subst h0
   have hz:cp=0:=by
    rcases hG.blk j _ c cp hb h1 with h|⟨h,_⟩
    ·exact h.2
    ·exact(h rfl).elim
   obtain⟨g1,g2⟩:=hG.bury hb rfl h1
   exact⟨G,[],⟨g1,g2,.nil,by simp,fun _ _ h=>h,keepl⟩,.inl ⟨rfl,.inr (.inr ⟨true,sz',A,cp,rfl,rfl,fun _=>hz⟩)⟩⟩
  obtain⟨tt,cs,vs,m1,m2,m3,m4,m5⟩:=z176 (hG.blk j _ c cp hb h1) h0
  obtain rfl:=hA.resolve_left (by have:=M'5.2 h0;omega)
  have htop:Top G mem c:=⟨j,_,cp,hb,z101 h0,h1⟩
  have hown:Own G mem c:=.inl htop
  obtain⟨g1,g2⟩:=hG.write hb (z101 h0) h1 ((Grew.refl w).wrote c) (k':=.dead) (fun _ _ _ _=>trivial)
  have hno:=Own.unset (k':=.dead) hG hb (z101 h0) h1 rfl
  obtain⟨q1,q2⟩:=g1.giveL (c:=d) (f:=[c]) (fun x hx=>by
   rw[N'2]at hx;subst hx
   exact⟨hG.ownLt hown,hG.apart _ hown,hno⟩)
  have hXn:G.X c=none:=by
   cases e:G.X c with
   |none=>rfl
   |some x=>exact(hG.xap c x e htop).elim
  refine⟨G.give d [c],[c],⟨q1,⟨⟨rfl,rfl,rfl,L'l _,fun _ _ _=>rfl,fun c' hc'=>.inl ?_,fun _ h=>h,fun _ h=>h,fun _ h=>.inl h,fun _ h=>.inl h⟩,by simp,fun _ _=>rfl,fun b hb' hn=>g2.un b hb' hn⟩,by simp,fun x hx=>?_,fun x e he=>?_,keepl⟩,?_⟩
  ·rcases q2 c' hc' with hc'|hc'
   ·exact Own.set hb (fun h=>by cases h) hc'
   ·rw[N'2]at hc';subst hc';exact hown
  ·rw[N'2]at hx;subst hx
   exact⟨by simp[Gh.give],hXn⟩
  ·have:x≠c:=by rintro rfl;rw[hXn]at he;cases he
   simp[Gh.give,this,he]
  ·refine .inr ⟨c,cp,tt,sz',es,rfl,rfl,h0,by simp,m3,cs,vs,m1,m2,m4.flat,m5⟩
theorem zr2(d:Nat):∀{xs ys:List PV}{vs:List Value}{G:Gh}{mem mem':List Blk},Good G w mem->RpL G w xs vs->linL mem xs=some (ys,mem')->∃G' f,Into G w mem G' mem' d f/\RpD w ys vs f
 |[],ys,vs,G,mem,mem',hG,hx,h=>by
  simp only[linL,Option.some.injEq,Prod.mk.injEq]at h
  obtain⟨rfl,rfl⟩:=h
  exact⟨G,[],.refl hG d,hx,rfl⟩
 |x::xs,ys,vs,G,mem,mem',hG,hx,h=>by
  obtain⟨v,rest,rfl,h1,h2⟩:=hx
  simp only[linL,L's,M'0]at h
  obtain⟨⟨y,m1⟩,h3,⟨⟨ys',m2⟩,h4,h5⟩⟩:=h
  simp only[Prod.mk.injEq]at h5
  obtain⟨rfl,rfl⟩:=h5
  obtain⟨G1,f1,i1,r1⟩:=zr9 hG d h1 h3
  obtain⟨G2,f2,i2,r2⟩:=zr2 d i1.good (RpL.mono (i1.ext.le hG) h2) h4
  exact⟨G2,f1++f2,i1.trans i2,v,rest,f1,f2,rfl,rfl,r1,r2⟩
theorem zr6{x y:PV}{mem':List Blk}(h:linP mem x=some (y,mem')):y.imm1=true:=by
  cases x<;>simp only[linP]at h
  case ref => repeat' split at h
              all_goals first
                |(cases h;done)
                |(cases h;rfl)
  all_goals first
    |(cases h;done)
    |(cases h;rfl)
    |(split at h<;>first| (cases h;done)|(cases h;rfl))
theorem zqu(hG:Good G w mem)(d:Nat){x y:PV}{v:Value}{mem':List Blk}(hx:Rp G w x v)(h:linE mem x=some (y,mem')):∃G' f,Into G w mem G' mem' d f/\RpD w y.cells v.cells.toList f:=by
 by_cases hq:∃cs,x=.agg cs
 ·obtain⟨cs,rfl⟩:=hq
  simp only[linE,M'0]at h
  obtain⟨⟨ys,m⟩,h1,h2⟩:=h
  simp only[Prod.mk.injEq]at h2
  obtain⟨rfl,rfl⟩:=h2
  obtain⟨vs,rfl,h3⟩:=hx
  obtain⟨G',f,i,r⟩:=zr2 d hG h3 h1
  exact⟨G',f,i,by simpa [PV.cells,Value.cells]using r⟩
 ·have he:linE mem x=linP mem x:=by cases x<;>first| rfl| exact absurd ⟨_,rfl⟩ hq
  rw[he]at h
  obtain⟨G',f,i,r⟩:=zr9 hG d hx h
  have hc:=RpI.one (r.toI (S:=fun _=>True) fun _ _=>trivial) (zr6 h)
  exact⟨G',f,i,by rw[hc.2.2,hc.2.1];exact⟨v,[],f,[],rfl,by simp,r,rfl,rfl⟩⟩
theorem RpD.one{xs:List PV}{vs:List Value}{f:List Nat}(h:RpD w xs vs f)(hx:∀x∈xs,x.imm1=true):∀u∈vs,u.oneCell'=true:=by
 have hi:=h.toI (S:=fun _=>True) fun _ _=>trivial
 intro u hu
 obtain⟨i,hi'⟩:=List.mem_iff_getElem?.1 hu
 have hlt:i<xs.length:=by rw[<-hi.length];exact(L'b.1 hi').1
 obtain⟨u',h1,h2⟩:=RpIL.get i hi (List.getElem?_eq_getElem hlt)
 rw[hi']at h1;cases h1
 exact(RpI.one h2 (hx _ (List.getElem_mem hlt))).1
theorem zrf(d:Nat){sz:Nat}:∀{xs ys:List PV} {vs:List Value} {G:Gh} {mem mem':List Blk},Good G w mem->RpL G w xs vs->linR sz mem xs=some (ys,mem') ->
  ∃G' f,Into G w mem G' mem' d f/\ys.length=xs.length/\(∀v∈vs,v.cells.size=sz)/\(∀e∈ys,okE false sz e=true)/\RpD w (ys.flatMap PV.cells) (vs.flatMap fun v=>v.cells.toList) f
 |[],ys,vs,G,mem,mem',hG,hx,h=>by
  simp only[linR,Option.some.injEq,Prod.mk.injEq]at h
  obtain⟨rfl,rfl⟩:=h
  simp only[RpL]at hx;subst hx
  exact⟨G,[],.refl hG d,rfl,by simp,by simp,rfl,rfl⟩
 |x::xs,ys,vs,G,mem,mem',hG,hx,h=>by
  obtain⟨v,rest,rfl,h1,h2⟩:=hx
  simp only[linR,L's]at h
  obtain⟨⟨y,m1⟩,h3,h4⟩:=h
  split at h4
  case isFalse=>cases h4
  rename_i hok
  simp only[M'0]at h4
  obtain⟨⟨ys',m2⟩,h5,h6⟩:=h4
  simp only[Prod.mk.injEq]at h6
  obtain⟨rfl,rfl⟩:=h6
  obtain⟨G1,f1,i1,r1⟩:=zqu hG d h1 h3
  obtain⟨G2,f2,i2,k1,k2,k3,r2⟩:=zrf d i1.good (RpL.mono (i1.ext.le hG) h2) h5
  have hsz:v.cells.size=sz:=by
   have:=r1.length
   have h7:y.cells.length=sz:=by
    have:=hok
    simp only[okE,L'c,beq_iff_eq]at this
    exact this.1
   rw[h7]at this;simpa using this
  refine⟨G2,f1++f2,i1.trans i2,by simp[k1],?_,?_,?_⟩
  ·intro u hu
   rcases M'z.1 hu with rfl| hu
   ·exact hsz
   ·exact k2 u hu
  ·intro e he
   rcases M'z.1 he with rfl| he
   ·exact hok
   ·exact k3 e he
  ·rw[N'3,N'3]
   exact r1.append r2
theorem zvl{e:TypeId}{sz:Nat}(A:Option Addr):Made G w w (.lin e sz []) (fun b=>.ref b sz 0 0) (.slice A 0 0):=
⟨.refl w,w.heap.size,0,L'l _,fun b _=>⟨.inl ⟨rfl,rfl⟩,_,0,0,Gh.bind_same,rfl,L'l _,A,rfl,.inl rfl⟩⟩
theorem zub{t e:TypeId}{z:PV}{kd kd':IntKind}{n:Int}{sz:Nat}(ht:P.underlying t=some (.slice e))(hz:z1i6 P e=some z)(ho:okE false sz z=true)(hzl:z.cells.all linZ=true)(hsz:P.cellsOf e=sz)
  (hb:P.bytesOf e<=4096) (h0:0<=n) (hn:n<=zt4) :
  ∃v w',(Instr.makeSlice t (.int kd n) (.int kd' n)).run P w=.ok v w'/\Made G w w' (.lin e sz (L'0 n.toNat z)) (fun b=>.ref b sz 0 n.toNat) v:=by
 obtain⟨i,zv,h1,h2,h3⟩:=z1i7 hz
 have hb':i.bytes<=4096:=by simpa [Program.bytesOf,h1]using hb
 have hs':i.size=sz:=by simpa [Program.cellsOf,h1]using hsz
 have hn':n<=68719476736:=hn
 have hbn:(i.bytes:Int)*n<=281474976710656:=by
  have e1:(i.bytes:Int)*n<=4096*n:=Int.mul_le_mul_of_nonneg_right (by omega) h0
  omega
 have hr:=run_make (P:=P) w t e i zv ht h1 h2 kd kd' n n h0 (Int.le_refl _) hbn (by omega)
 refine⟨_,_,hr,.alloc w _,w.heap.size,n.toNat,L'l _,fun b hl=>?_⟩
 have hzi:RpI (fun _=>False) (w.alloc (.cells (madeCells zv.cells (n.toNat*i.size)) e)) z zv:=(RpI.up (G:=⟨fun _=>False,fun _=>False,fun _=>none,fun _=>none⟩) ho).1 (h3 _ _)
 have hzs:=zwa hzi ho
 have hzs':zv.cells.size=i.size:=by simp at hzs;omega
 refine⟨?_,⟨_,n.toNat,n.toNat,Gh.bind_same,by omega,L'l _,_,rfl,.inr (by simp)⟩⟩
 by_cases hn0:L'0 n.toNat z=[]
 ·exact .inl ⟨hn0,by simpa using hn0⟩
 refine .inr ⟨hn0,_,_,[],heap_alloc_new w _,by rw[size_madeCells,hs'],by simp,fun e he=>by rw[(N'6.1 he).2];exact ho,RpD.scalars (fun x hx=>?_) (RpEs.replicate hzi ho n.toNat).flatI,?_,.nil,by simp⟩
 ·obtain⟨e,he,hx⟩:=List.mem_flatMap.1 hx
  rw[(N'6.1 he).2]at hx
  refine⟨zw4 ho x hx,?_⟩
  have:=List.all_eq_true.1 hzl x hx
  simp only[linZ,Bool.or_eq_true]at this
  rcases this with h|h
  ·exact .inl h
  ·cases x<;>simp at h
   exact .inr ⟨_,_,rfl⟩
 ·rw[<-hzs',zs6,L'e]
  have:=(RpEs.replicate hzi ho n.toNat).length
  simp only[List.length_replicate]at this ⊢
  omega
theorem z7i{t e:TypeId}{z:PV}{sz:Nat}{xs ys:List PV}{vs:List Value}{mem':List Blk}(hG:Good G w mem)(ht:P.underlying t=some (.slice e))(hz:z1i6 P e=some z)
  (hsz:P.cellsOf e=sz) (hbig:xs.length*sz<=2^24) (hx:RpL G w xs vs) (h:linR sz mem xs=some (ys,mem')) :
  ∃v w' G',(Instr.buildSlice t xs.length ((L'1 xs.length).zip vs).toArray).run P w=.ok v w'/\Good G' w mem'/\Ext G w mem G' w mem'/\Made G' w w' (.lin e sz ys) (fun b=>.ref b sz 0 ys.length) v:=by
 obtain⟨i,zv,h1,h2,h3⟩:=z1i7 hz
 have hs':i.size=sz:=by simpa [Program.cellsOf,h1]using hsz
 obtain⟨G',f,hi,g3,g4,g5,g6⟩:=zrf w.heap.size hG hx h
 have hvl:=hx.length
 have hsize:(sizeOf e).run P w=.ok sz w:=by simp[sizeOf,typeInfo,h1,hs']
 have key:∀zs:Array Value,zs.size=xs.length*sz->Instr.fill (fun i=>some (i*sz,sz)) zs ((L'1 xs.length).zip vs)=some (vs.flatMap fun v=>v.cells.toList).toArray:=by
  intro zs hzl
  obtain⟨out,e1,e2,e3⟩:=zgc sz vs 0 zs g4 (by rw[M'6,hvl];omega)
  rw[<-hvl,List.range_eq_range',e1]
  congr 1
  apply Array.ext'
  rw[e3]
  simp only[N'4,M'd,M'3,M'6]
  rw[L'a (by simp[hzl,hvl]),M'e]
 have hfl:(vs.flatMap fun v=>v.cells.toList).length=ys.length*sz:=by
  have:=(g6.toI (S:=fun _=>True) fun _ _=>trivial).elems g5
  exact this.length
 refine⟨.slice (some ⟨w.heap.size,0,none⟩) xs.length xs.length,w.alloc (.cells (vs.flatMap fun v=>v.cells.toList).toArray e),G',?_,hi.good,hi.ext,.alloc w _,w.heap.size,xs.length,L'l _,fun b hl=>⟨?_,⟨_,xs.length,xs.length,Gh.bind_same,by omega,by omega,_,by rw[g3],.inr (by simp)⟩⟩⟩
 ·have hnot:¬(2^24<xs.length*sz):=by omega
  by_cases h0:xs.length*sz=0
  ·unfold Instr.buildSlice
   simp only[Sem.run_bind,z18i ht,Result.andThen_ok,hsize,Sem.run_ite]
   rw[if_neg (by simpa using hnot),if_pos h0]
   simp only[Sem.run_bind,Sem.run_pure,Result.andThen_ok]
   rw[key _ (by simp)]
   simp[newRow]
  ·unfold Instr.buildSlice
   simp only[Sem.run_bind,z18i ht,Result.andThen_ok,hsize,Sem.run_ite]
   rw[if_neg (by simpa using hnot),if_neg h0]
   simp only[Sem.run_bind,Sem.run_pure,Result.andThen_ok,z18j h1 h2]
   rw[key _ (by simp)]
   simp[newRow]
 ·by_cases hy:ys=[]
  ·exact .inl ⟨hy,by rw[<-g3,hy];rfl⟩
  refine .inr ⟨hy,_,_,f,heap_alloc_new w _,by rw[M'4,hfl,g3],by omega,g5,g6.mono fun c hc=>heap_alloc_old w _ (hi.good.xlt c _ (hi.mine c hc).1),?_,hi.nodup,fun c hc=>(hi.mine c hc).1⟩
  rw[<-hfl];exact List.take_length
theorem Good.regive(h:Good G w mem){b c cp:Nat}{t:TypeId}{sz:Nat}{es:List PV}(hb:mem[b]?=some (.lin t sz es))(he:es≠[])(hi:G.ids b=some (c,cp))(d:Nat){f:List Nat}(hf:∀x∈f,G.X x=some c) :
  Good (G.give d f) w (mem.set b .dead)/\Ext G w mem (G.give d f) w (mem.set b .dead):=by
 have hl:Le G w (G.give d f) w:=⟨fun _ h=>h,fun _ h=>h,h.ST,fun _ _=>rfl,fun _ _ h=>h⟩
 have top':∀c',Top G (mem.set b .dead) c'->Top G mem c':=fun c' hc'=>Top.set (G:=G) (k':=.dead) hb (fun h=>by cases h) hc'
 have hX:∀x e,(G.give d f).X x=some e->∃e',G.X x=some e':=by
  intro x e hx
  simp only[Gh.give]at hx
  split at hx
  ·rename_i hm;exact⟨c,hf x hm⟩
  ·exact⟨e,hx⟩
 have own:∀c',Own (G.give d f) (mem.set b .dead) c'->Own G mem c':=by
  rintro c' (hc'|⟨e,he'⟩)
  ·exact .inl (top' c' hc')
  ·exact .inr (hX c' e he')
 refine⟨⟨fun b' p hp=>by simpa using h.bnd b' p hp,?_,h.ST,h.lt,fun c' ho=>h.apart c' (own c' ho),?_,fun c' e he'=>?_,fun c' e he' ht=>?_⟩,⟨⟨rfl,rfl,rfl,L'l _,fun _ _ _=>rfl,fun c' hc'=>.inl (own c' hc'),fun _ h=>h,fun _ h=>h,fun _ h=>.inl h,fun _ h=>.inl h⟩,by simp,fun _ _=>rfl,fun b' _ hn=>?_⟩⟩
 ·intro i ki c' cp' f1 f2
  rw[L'k]at f1
  split at f1
  ·split at f1
   ·cases f1;trivial
   ·cases f1
  ·rename_i hne
   refine(h.blk i ki c' cp' f1 f2).monoX hl (fun _=>rfl) (fun _ hko x hx=>⟨?_,rfl⟩)
   have hxf:x∉f:=fun hxf=>by
    have:=hf x hxf
    rw[hx]at this;cases this
    exact hne (h.inj i b ki _ _ cp' cp f1 hb hko (z100 he) f2 hi).symm
   show(if x∈f then some d else G.X x)=some c'
   rw[if_neg hxf];exact hx
 ·intro i j ki kj c' cp1 cp2 h1 h2 h3 h4 h5 h6
  have conv:∀(i:Nat) (ki:Blk),(mem.set b .dead)[i]?=some ki->ki.own=true->mem[i]?=some ki:=by
   intro i ki h1 h3
   rw[L'k]at h1
   split at h1
   ·split at h1
    ·cases h1;simp[Blk.own]at h3
    ·cases h1
   ·exact h1
  exact h.inj i j ki kj c' cp1 cp2 (conv i ki h1 h3) (conv j kj h2 h4) h3 h4 h5 h6
 ·obtain⟨e',hx⟩:=hX c' e he';exact h.xlt c' e' hx
 ·obtain⟨e',hx⟩:=hX c' e he';exact h.xap c' e' hx (top' c' ht)
 ·rw[L'n]
  rintro rfl;rw[hi]at hn;cases hn
theorem zrk(hG:Good G w mem){b c cp:Nat}{t:TypeId}{sz:Nat}{es:List PV}(hb:mem[b]?=some (.lin t sz es))(hi:G.ids b=some (c,cp)){A:Option Addr}(hA:es=[]\/A=some ⟨c,0,none⟩) :
  ∃vs f,Shows (fun _=>True) w false sz es vs (.slice A es.length cp)/\RpD w (es.flatMap PV.cells) vs f/\(∀e∈es,okE false sz e=true)/\f.Nodup/\∀x∈f,G.X x=some c:=by
 by_cases h0:es=[]
 ·subst h0
  exact⟨[],[],⟨A,cp,rfl,rfl,.inl rfl⟩,⟨rfl,rfl⟩,by simp,.nil,by simp⟩
 obtain⟨cs,vs,f,e1,e2,e3,e4,e5,e6,e7,e8⟩:=zr3 (hG.blk b _ c cp hb hi) h0
 obtain rfl:=hA.resolve_left h0
 exact⟨vs,f,⟨_,cp,rfl,(e5.toI fun _ _=>trivial).elems e4,.inr ⟨c,0,rfl,At.row0 e1 e6⟩⟩,e5,e4,e7,e8⟩
theorem zqy(hG:Good G w mem){b c cp:Nat}{t:TypeId}{sz:Nat}{es:List PV}(hb:mem[b]?=some (.lin t sz es))(hi:G.ids b=some (c,cp))(d:Nat){f:List Nat}(hf:∀x∈f,G.X x=some c)(hf0:es=[]->f=[]) :
  ∃G1,Good G1 w (mem.set b .dead)/\Ext G w mem G1 w (mem.set b .dead)/\(∀x∈f,G1.X x=some d)/\(∀x e,x∉f->G.X x=some e->G1.X x=some e)/\G1.ids=G.ids:=by
 by_cases h0:es=[]
 ·subst h0
  obtain rfl:=hf0 rfl
  obtain⟨g1,g2⟩:=hG.bury hb rfl hi
  exact⟨G,g1,g2,by simp,fun _ _ _ h=>h,rfl⟩
 obtain⟨g1,g2⟩:=hG.regive hb h0 hi d hf
 exact⟨G.give d f,g1,g2,fun x hx=>by simp[Gh.give,hx],fun x e hx he=>by simp[Gh.give,hx,he],rfl⟩
theorem z3r (hG : Good G w mem) {x y r : PV} {a b : Value} (hx : Rp G w x a) (hy : Rp G w y b) {t e : TypeId} {fl : Bool} {sz : Nat} {z : PV} (ht : P.underlying t = some (.slice e)) (hz : z1i6 P e = some z) (hzo : okE fl sz z = true)
    (hsz : P.cellsOf e = sz) (hby : P.bytesOf e <= 1024) (ty : TypeId) {mem' : List Blk} (h : applV mem e fl sz x y = some (r, mem')) :
    ∃ v' w' G', (Builtin.append_ #[t, t] ty #[a, b]).run P w = .ok v' w' /\ Good G' w' mem' /\ Ext G w mem G' w' mem' /\ Rp G' w' r v' := by
  unfold applV at h
  split at h
  case h_2 => exact z3n hG hx hy ht hz hzo hsz hby ty h
  rename_i b2 s2 o2 l2
  split at h
  case h_2 => exact z3n hG hx hy ht hz hzo hsz hby ty h
  rename_i t2 sz2 es2 hb2
  split at h
  case isFalse => cases h
  rename_i hq
  obtain ⟨rfl, hsz2, hs2, rfl, rfl, hl2, rfl⟩ := hq
  subst hsz2
  have hs2 := hs2.symm
  subst hs2
  obtain ⟨i, zv, h1, h2, h3⟩ := z1i7 hz
  have hb' : i.bytes <= 1024 := by simpa [Program.bytesOf, h1] using hby
  have hs' : i.size = sz2 := by simpa [Program.cellsOf, h1] using hsz
  have hzi : RpI G.S w z zv := (RpI.up hzo).1 (h3 _ _)
  have hzs : zv.cells.size = sz2 := by have := zwa hzi hzo; simpa using this
  subst hs'
  obtain ⟨c2, cap2, cp2, i2, q1, q2, A2, rfl, hA2⟩ := hy
  obtain rfl : cap2 = cp2 := by omega
  have hz2 : es2 = [] -> cap2 = 0 := fun h0 => by
    subst h0
    rcases hG.blk b2 _ c2 cap2 hb2 i2 with h | ⟨h, _⟩
    · exact h.2
    · exact (h rfl).elim
  have hA2' : es2 = [] \/ A2 = some ⟨c2, 0, none⟩ := by
    by_cases h0 : es2 = []
    · exact .inl h0
    · exact .inr (by simpa using hA2.resolve_left (by have := M'5.2 h0; omega))
  obtain ⟨vs2, f2, sh2, d2, ok2, nd2, x2⟩ := zrk hG hb2 i2 hA2'
  have hf20 : es2 = [] -> f2 = [] := by rintro rfl; exact d2.2
  have hvl2 : vs2.length = es2.length * i.size := by obtain ⟨_, _, _, k, _⟩ := sh2; exact k.length
  have grow : ∀ (G1 : Gh) (mem1 : List Blk) (xs : List PV) (us : List Value) (A : Option Addr) (sCap : Nat) (f : List Nat), Good G1 w mem1 -> Ext G w mem G1 w mem1 -> Shows (fun _ => True) w false i.size xs us (.slice A xs.length sCap) -> a = .slice A xs.length sCap -> sCap < xs.length + es2.length -> xs.length <= zt4 ->
      RpD w ((xs ++ es2).flatMap PV.cells) (us ++ vs2) f -> (∀ e ∈ xs ++ es2, okE false i.size e = true) -> f.Nodup -> (∀ x ∈ f, G1.X x = some w.heap.size) ->
      ∃ v' w' G', (Builtin.append_ #[t, t] ty #[a, .slice A2 es2.length cap2]).run P w = .ok v' w' /\ Good G' w' (mem1 ++ [.lin t2 i.size (xs ++ es2)]) /\ Ext G w mem G' w' (mem1 ++ [.lin t2 i.size (xs ++ es2)]) /\ Rp G' w' (.ref mem1.length i.size 0 (xs.length + es2.length)) v' := by
    intro G1 mem1 xs us A sCap f g1 x1 ha hA hlt hmax hd hok hnd hX
    have hr := z3k ht h1 h2 ty ha sh2 hlt (by simp only [zt4] at *; omega) hb'
    have hgrew : Grew w (w.drew.alloc (.cells (us.toArray ++ vs2.toArray ++ Builtin.zeroCells zv.cells (grownCap w (xs.length + es2.length) sCap t2 - (xs.length + es2.length))) t2)) := (Grew.drew w).trans (.alloc w.drew _)
    have hge := grownCap_ge w (xs.length + es2.length) sCap t2
    have hul : us.length = xs.length * i.size := by obtain ⟨A, cap, _, h2, _⟩ := ha; exact h2.length
    obtain ⟨k1, k2⟩ := g1.push (c := w.heap.size) (cp := grownCap w (xs.length + es2.length) sCap t2) (k := .lin t2 i.size (xs ++ es2)) hgrew (L'l _) (fun hl => by
      refine .inr ⟨fun h => by rw [List.append_eq_nil_iff] at h; obtain ⟨rfl, rfl⟩ := h; simp at hlt, _, us ++ vs2, f, heap_alloc_new w.drew _, ?_, by simpa using hge, hok, hd.mono fun c hc => hgrew.same c (g1.xlt c _ (hX c hc)), ?_, hnd, hX⟩
      · simp only [Array.size_append, M'4, size_zeroCells, hzs, hul, hvl2, <- L'2]
        congr 1; omega
      · simp only [Array.toList_append, M'c]
        rw [<- M'c, M'g (by simp [hul, hvl2, L'2]), L'e (by simp [hul, hvl2, L'2])])
    exact ⟨_, _, _, hA ▸ hr, k1, x1.trans k2, w.heap.size, _, _, Gh.bind_same, by omega, hge, _, rfl, .inr (by simp)⟩
  have hlen2 : (mem.set b2 .dead).length = mem.length := by simp
  split at h
  · -- nil
    simp only [Rp] at hx
    cases h
    by_cases hne : es2 = []
    · subst hne
      obtain ⟨g1, g2⟩ := hG.bury hb2 rfl i2
      obtain ⟨G', k1, k2, k3⟩ := (zvl (G := G) (w := w) (e := t2) (sz := i.size) none).push g1
      exact ⟨_, w, G', by rw [hx]; exact z3m ht h1 ty sh2, k1, g2.trans k2, by simpa using k3⟩
    · have hpos : 0 < es2.length := M'5.2 hne
      obtain ⟨G1, g1, g2, g3, g4, g5⟩ := zqy hG hb2 i2 w.heap.size x2 hf20
      have := grow G1 _ [] [] none 0 f2 g1 g2 ⟨none, 0, rfl, rfl, .inl rfl⟩ hx (by simpa using hpos) (by simp) (by simpa using d2) (by simpa using ok2) nd2 g3
      simpa using this
  · -- a row of rows
    rename_i b1 sx off len
    split at h
    case h_2 => cases h
    rename_i t1 sz1 es1 hb1
    split at h
    case isFalse => cases h
    rename_i hq
    obtain ⟨rfl, rfl, rfl, rfl, rfl, hl1, hb12⟩ := hq
    cases h
    obtain ⟨c1, cap1, cp1, i1, p1, p2, A1, rfl, hA1⟩ := hx
    obtain rfl : cap1 = cp1 := by omega
    have hz1 : es1 = [] -> cap1 = 0 := fun h0 => by
      subst h0
      rcases hG.blk b1 _ c1 cap1 hb1 i1 with h | ⟨h, _⟩
      · exact h.2
      · exact (h rfl).elim
    have hA1' : es1 = [] \/ A1 = some ⟨c1, 0, none⟩ := by
      by_cases h0 : es1 = []
      · exact .inl h0
      · exact .inr (by simpa using hA1.resolve_left (by have := M'5.2 h0; omega))
    obtain ⟨vs1, f1, sh1, d1, ok1, nd1, x1⟩ := zrk hG hb1 i1 hA1'
    have hf10 : es1 = [] -> f1 = [] := by rintro rfl; exact d1.2
    have hdis : ∀ x ∈ f1, x ∉ f2 := by
      intro x hx1 hx2
      have e1 := x1 x hx1
      rw [x2 x hx2] at e1
      have e1 : c2 = c1 := Option.some.inj e1
      subst e1
      have n1 : es1 ≠ [] := fun h0 => by rw [hf10 h0] at hx1; cases hx1
      have n2 : es2 ≠ [] := fun h0 => by rw [hf20 h0] at hx2; cases hx2
      exact hb12 (hG.inj b1 b2 _ _ _ _ _ hb1 hb2 (z100 n1) (z100 n2) i1 i2)
    have hd12 : RpD w ((es1 ++ es2).flatMap PV.cells) (vs1 ++ vs2) (f1 ++ f2) := by rw [N'7]; exact d1.append d2
    have hok12 : ∀ e ∈ es1 ++ es2, okE false i.size e = true := fun e he => (L'j.1 he).elim (ok1 e) (ok2 e)
    have hnd12 : (f1 ++ f2).Nodup := M't.2 ⟨nd1, nd2, fun a ha b hb => by rintro rfl; exact hdis a ha hb⟩
    have hb1' : (mem.set b2 .dead)[b1]? = some (.lin t1 i.size es1) := by rw [L'n (fun e => hb12 e.symm)]; exact hb1
    have hlen1 : ((mem.set b2 .dead).set b1 .dead).length = mem.length := by simp
    by_cases hroom : es1.length + es2.length <= cap1 /\ es1 ≠ []
    · -- the room suffices
      obtain ⟨hroom, h0⟩ := hroom
      obtain ⟨arr, us, fx, m1, m2, m3, m4, m5, m6, m7, m8⟩ := zr3 (hG.blk b1 _ c1 cap1 hb1 i1) h0
      obtain rfl := hA1'.resolve_left h0
      have hul : us.length = es1.length * i.size := by have := (m5.toI (S := fun _ => True) fun _ _ => trivial).elems m4; exact this.length
      have hmul : (es1.length + es2.length) * i.size <= cap1 * i.size := M'1 _ hroom
      rw [L'2] at hmul
      have hr := z3l ht h1 ty (o := 0) (sLen := es1.length) (sCap := cap1) m1 sh2 hroom (by omega)
      simp only [M'6] at hr
      obtain ⟨G1, g1, g2, g3, g4, g5⟩ := zqy hG hb2 i2 c1 x2 hf20
      have hfd : ∀ x ∈ fx, x ∉ f2 := by
        intro x hx1 hx2
        have e1 := m8 x hx1
        rw [x2 x hx2] at e1
        have e1 : c2 = c1 := Option.some.inj e1
        subst e1
        have n2 : es2 ≠ [] := fun h0 => by rw [hf20 h0] at hx2; cases hx2
        exact hb12 (hG.inj b1 b2 _ _ _ _ _ hb1 hb2 (z100 h0) (z100 n2) i1 i2)
      have htop : Top G mem c1 := ⟨b1, _, cap1, hb1, z100 h0, i1⟩
      have hold : ∀ x, (x ∈ fx \/ x ∈ f2) -> x ≠ c1 := by
        rintro x (hx | hx) rfl
        · exact hG.xap _ _ (m8 _ hx) htop
        · exact hG.xap _ _ (x2 _ hx) htop
      obtain ⟨k1, k2⟩ := g1.rename (k' := .lin t1 i.size (es1 ++ es2)) hb1' (z100 h0) (by rw [g5]; exact i1) (Wrote.setRow w c1 (arr.toList.take (es1.length * i.size) ++ vs2 ++ arr.toList.drop (es1.length * i.size + vs2.length)).toArray) (fun G' hl hX => by
        refine .inr ⟨by simp [h0], _, us ++ vs2, fx ++ f2, setRow_heap w c1 arr _ t1 (0, 0) m1, ?_, by simpa using hroom, hok12, ?_, ?_, M't.2 ⟨m7, nd2, fun a ha b hb => by rintro rfl; exact hfd a ha hb⟩, fun x hx => ?_⟩
        · simp only [M'4, L'x, L'w, L'y, Array.length_toList]; omega
        · rw [N'7]
          exact (m5.append d2).mono fun x hx => setRow_other w c1 _ _ (hold x (L'j.1 hx))
        · rw [L'x, M'9, M'g (by simp; rw [L'2]; omega), L'e (by simp; rw [L'2]; omega), m6]
        · rw [hX]
          rcases L'j.1 hx with hx | hx
          · exact g4 x _ (hfd x hx) (m8 x hx)
          · exact g3 x hx) (z100 (by simp [h0]))
      rw [hlen2] at k1 k2
      exact ⟨_, _, _, hr, k1, g2.trans k2, c1, cap1, cap1, Gh.bind_same, by omega, hroom, _, rfl, .inr (by simp)⟩
    · by_cases h00 : es1.length + es2.length = 0
      · -- nothing and nothing
        obtain ⟨rfl, rfl⟩ : es1 = [] /\ es2 = [] := ⟨N'8 (by omega), N'8 (by omega)⟩
        obtain rfl := hz1 rfl
        obtain rfl := hz2 rfl
        obtain ⟨g1, g2⟩ := hG.bury hb2 rfl i2
        obtain ⟨g3, g4⟩ := g1.bury hb1' rfl i1
        obtain ⟨G', k1, k2, k3⟩ := (zvl (G := G) (w := w) (e := t1) (sz := i.size) A1).push g3
        refine ⟨_, w, G', ?_, k1, (g2.trans g4).trans k2, by simpa using k3⟩
        have e1 := sh2.len (P := P)
        have e2 := sh2.cells (P := P)
        simp only [List.length_nil] at e1 e2
        have hvs : vs2 = [] := by obtain ⟨_, _, _, h, _⟩ := sh2; exact h
        subst hvs
        cases A1 <;> simp [Builtin.append_, z18i ht, sizeOf, typeInfo, storeCells, *]
      · have hgt : cap1 < es1.length + es2.length := by
          by_cases h0 : es1 = []
          · rw [hz1 h0]; omega
          · have : ¬ (es1.length + es2.length <= cap1) := fun h => hroom ⟨h, h0⟩
            omega
        obtain ⟨G1, g1, g2, g3, g4, g5⟩ := zqy hG hb2 i2 w.heap.size x2 hf20
        obtain ⟨G2, k1, k2, k3, k4, k5⟩ := zqy g1 hb1' (by rw [g5]; exact i1) w.heap.size (f := f1) (fun x hx => g4 x c1 (hdis x hx) (x1 x hx)) hf10
        have := grow G2 _ es1 vs1 A1 cap1 (f1 ++ f2) k1 (g2.trans k2) sh1 rfl hgt hl1 hd12 hok12 hnd12 (fun x hx => by
          rcases L'j.1 hx with hx | hx
          · exact k3 x hx
          · exact k4 x _ (fun h => hdis x h hx) (g3 x hx))
        rw [hlen1] at this
        exact this
  · cases h
theorem zh9{sz:Nat}:∀{es:List PV} {i:Nat} {e:PV},(∀x∈es,okE false sz x=true)->es[i]?=some e->((es.flatMap PV.cells).drop (i*sz)).take sz=e.cells
 |[],_,_,_,h=>by simp at h
 |x::xs,0,e,ho,h=>by
  have hl:x.cells.length=sz:=by have:=ho x (by simp);simp only[okE,L'c,beq_iff_eq]at this;exact this.1
  simp at h;subst h
  rw[N'4,M'a,N'3,M'g (by omega),L'e (by omega)]
 |x::xs,i+1,e,ho,h=>by
  have hl:x.cells.length=sz:=by have:=ho x (by simp);simp only[okE,L'c,beq_iff_eq]at this;exact this.1
  rw[N'3,L'2,L'3,L'9,L'a (by omega),M'3,hl,N'5]
  exact zh9 (fun y hy=>ho y (by simp[hy])) (by simpa using h)
theorem zhb{sz:Nat}:∀{es:List PV} {i:Nat} {e':PV},(∀x∈es,okE false sz x=true)->i<es.length->(es.set i e').flatMap PV.cells=(es.flatMap PV.cells).take (i*sz)++e'.cells++(es.flatMap PV.cells).drop ((i+1)*sz)
 |[],_,_,_,h=>by simp at h
 |x::xs,0,e',ho,h=>by
  have hl:x.cells.length=sz:=by have:=ho x (by simp);simp only[okE,L'c,beq_iff_eq]at this;exact this.1
  rw[List.set_cons_zero,N'3,N'3,N'4,M'd,M'3,M'6,L'3,L'9,L'a (by omega),hl]
  simp
 |x::xs,i+1,e',ho,h=>by
  have hl:x.cells.length=sz:=by have:=ho x (by simp);simp only[okE,L'c,beq_iff_eq]at this;exact this.1
  rw[List.set_cons_succ,N'3,N'3,zhb (fun y hy=>ho y (by simp[hy])) (by simpa using h)]
  have e1:(x.cells++xs.flatMap PV.cells).take ((i+1)*sz)=x.cells++(xs.flatMap PV.cells).take (i*sz):=by
   rw[List.take_append,L'e (by rw[hl,L'2];omega),hl,L'2,L'3,N'5]
  have e2:(x.cells++xs.flatMap PV.cells).drop ((i+1+1)*sz)=(xs.flatMap PV.cells).drop ((i+1)*sz):=by
   rw[L'9,L'a (by rw[hl,L'2,L'3];omega),hl,L'2 (i+1),L'3,N'5]
   simp
  rw[e1,e2]
  simp[M'c]
theorem zw7{sz:Nat}{fl:Bool}{x:PV}(h:okE fl sz x=true):x.cells.length=sz:=by simp only[okE,L'c,beq_iff_eq]at h;exact h.1
theorem zha{sz:Nat}:∀{es:List PV},(∀x∈es,okE false sz x=true)->(es.flatMap PV.cells).length=es.length*sz
 |[],_=>by simp
 |x::xs,ho=>by
  rw[N'3,L'x,zw7 (ho x (by simp)),zha (fun y hy=>ho y (by simp[hy])),List.length_cons,L'2,L'3,Nat.add_comm]
theorem ztw{ag:Bool}{cs:List PV}{e:PV}(h:ztv ag cs=some e):e.cells=cs:=by
 unfold ztv at h
 split at h
 ·cases h;rfl
 ·rename_i c
  split at h
  ·rename_i hc;cases h;cases e<;>simp[PV.imm1]at hc<;>rfl
  ·cases h
 ·cases h
theorem z13c{m1:List Blk}(hG1:Good G w m1){b0 c cp:Nat}{k:Blk}(hko:k.own=true)(hb1:m1[b0]?=some k)(h1':G.ids b0=some (c,cp)){t0:TypeId}{sz' i off:Nat}{es0:List PV}{e e' y':PV}{b:Value}{f g:List Nat}{arr:Array Value}{arr0 vs:List Value}{t:TypeId}
  (ht:(P.underlying t).isSome=true) (k1:w.heap[c]?=some (.cells arr t0 (0,0))) (hal:arr0.length=arr.size) (ha1:arr0.take (i*sz'+off)=arr.toList.take (i*sz'+off)) (ha2:arr0.drop (i*sz'+off+b.cells.toList.length)=arr.toList.drop (i*sz'+off+b.cells.toList.length))
  (k2:arr.size=cp*sz') (k3:es0.length<=cp) (k4:∀e∈es0,okE false sz' e=true) (k5:RpD w (es0.flatMap PV.cells) vs f) (k6:arr0.take (es0.length*sz')=vs) (k7:f.Nodup) (k8:∀z∈f,G.X z=some c)
  (hgn:g.Nodup) (hgm:∀z∈g,G.X z=some c/\z∉f) (r1:RpD w y'.cells b.cells.toList g) (he:es0[i]?=some e) (hc1:off+P.cellsOf t<=sz') (hc2:y'.cells.length=P.cellsOf t) (h4:ztv (isAgg e) (splice e.cells off y'.cells)=some e') (hok:okE false sz' e'=true) :
  ∃w',(Instr.storeAt t (.pointer (some ⟨c,i*sz'+off,none⟩)) b).run P w=.ok () w'/\Good G w' (m1.set b0 (.lin t0 sz' (es0.set i e')))/\Ext G w m1 G w' (m1.set b0 (.lin t0 sz' (es0.set i e'))):=by
 have h0:es0≠[]:=by rintro rfl;simp at he
 have hil:i<es0.length:=(L'b.1 he).1
 have hLl:=zha k4
 have hvl:=k5.length
 rw[hLl]at hvl
 have hmul:(i+1)*sz'<=es0.length*sz':=M'1 _ hil
 have hmul':es0.length*sz'<=cp*sz':=M'1 _ k3
 rw[L'2,L'3]at hmul
 have hbl:=r1.length
 have hsz:b.cells.size=P.cellsOf t:=by simp at hbl;omega
 have hbl':b.cells.toList.length=b.cells.size:=by simp
 have hel:=zw7 (k4 e (List.mem_of_getElem? he))
 have hget:=zh9 k4 he
 have hcells:(es0.set i e').flatMap PV.cells=(es0.flatMap PV.cells).take (i*sz'+off)++y'.cells++(es0.flatMap PV.cells).drop (i*sz'+off+y'.cells.length):=by
  rw[zhb k4 hil,ztw h4,splice,<-hget]
  apply List.ext_getElem?
  intro j
  simp only[List.getElem?_append,List.getElem?_take,List.getElem?_drop,L'x,L'w,L'y,L'2,L'3]
  repeat' split
  all_goals first
   |rfl
   |omega
   |(congr 1;omega)
   |(rw[L'r (by omega)])
   |(rw[eq_comm,L'r (by omega)])
 obtain⟨f1,f23,rfl,d1,d23⟩:=k5.split (i*sz'+off)
 obtain⟨f2,f3,rfl,d2,d3⟩:=d23.split y'.cells.length
 rw[M'l,M'l]at d3
 have hX:∀z∈f1++g++f3,G.X z=some c:=by
  intro z hz
  simp only[L'j]at hz
  rcases hz with(hz|hz)|hz
  ·exact k8 z (by simp[hz])
  ·exact(hgm z hz).1
  ·exact k8 z (by simp[hz])
 have hnd:(f1++g++f3).Nodup:=by
  have hgf:∀z∈g,z∉f1/\z∉f3:=fun z hz=>by
   have e1:=(hgm z hz).2
   simp only[L'j,not_or]at e1
   exact⟨e1.1,e1.2.2⟩
  rw[M't]at k7
  obtain⟨n1,n2,n3⟩:=k7
  rw[M't]at n2
  refine M't.2 ⟨M't.2 ⟨n1,hgn,fun a ha b hb=>?_⟩,n2.2.1,fun a ha b hb=>?_⟩
  ·rintro rfl;exact(hgf a hb).1 ha
  ·rintro rfl
   rcases L'j.1 ha with ha|ha
   ·exact n3 a ha a (by simp[hb]) rfl
   ·exact(hgf a ha).2 hb
 have hst:=z18h (P:=P) (off:=i*sz'+off) (v:=b) ht k1 hsz (by omega) (r1.one fun u hu=>by
  have:u∈e'.cells:=by rw[ztw h4,splice];simp[hu]
  exact zw4 hok u this)
 have hrow:=setRow_heap w c arr (arr.toList.take (i*sz'+off)++b.cells.toList++arr.toList.drop (i*sz'+off+b.cells.toList.length)).toArray t0 (0,0) k1
 have htop:Top G m1 c:=⟨b0,_,cp,hb1,hko,h1'⟩
 obtain⟨q1,q2⟩:=hG1.write (k':=.lin t0 sz' (es0.set i e')) hb1 hko h1' (Wrote.setRow w c (arr.toList.take (i*sz'+off)++b.cells.toList++arr.toList.drop (i*sz'+off+b.cells.toList.length)).toArray) (fun G' hl hX' _=>by
  refine .inr ⟨by simpa using h0,_,vs.take (i*sz'+off)++b.cells.toList++vs.drop (i*sz'+off+y'.cells.length),f1++g++f3,hrow,?_,by simpa using k3,fun z hz=>?_,?_,?_,hnd,fun z hz=>by rw[hX'];exact hX z hz⟩
  ·simp only[M'4,L'x,L'w,L'y,Array.length_toList];omega
  ·rcases List.mem_or_eq_of_mem_set hz with hz|rfl
   ·exact k4 z hz
   ·exact hok
  ·rw[hcells]
   refine((d1.append r1).append d3).mono fun z hz=>setRow_other w c _ _ ?_
   rintro rfl
   exact hG1.xap _ _ (hX _ hz) htop
  ·rw[List.length_set,M'9,<-ha1,<-ha2]
   have:=zro arr0 b.cells.toList 0 (es0.length*sz') (es0.length*sz') (i*sz'+off) (by omega) (by omega) (by omega)
   simp only[M'6,M'd,M'3,M'a]at this
   have htk:vs.take (es0.length*sz')=vs:=L'e (by omega)
   rw[this,k6,htk,L'a (l:=vs) (i:=es0.length*sz') (by omega),M'e,hbl',hsz,hc2])
 exact⟨_,by simp[Instr.storeAt,Instr.sureAddr,hst],q1,q2⟩
theorem z1da(hG:Good G w mem){x y:PV}{a b:Value}(hx:Rp G w x a)(hy:Rp G w y b){t:TypeId}(ht:(P.underlying t).isSome=true){mem':List Blk}
  (h:stlV mem (P.cellsOf t) x y=some mem'):∃G' w',(Instr.storeAt t a b).run P w=.ok () w'/\Good G' w' mem'/\Ext G w mem G' w' mem':=by
 unfold stlV at h
 split at h
 case h_2=>exact z1du hG hx hy ht h
 rename_i b0 sz' i off
 split at h
 case h_3=>exact z1du hG hx hy ht h
 ·rename_i t0 sz0 es0 hb0
  obtain⟨c,cp,h1,rfl⟩:=hx
  simp only[L's]at h
  obtain⟨⟨y',m1⟩,h2,h3⟩:=h
  obtain⟨G1,g,i1,r1⟩:=zqu hG c hy h2
  have hb1:=i1.lin b0 _ rfl hb0
  simp only[hb1]at h3
  have h1':=(i1.ext.le hG).ids _ _ h1
  split at h3
  case h_2=>cases h3
  rename_i e he
  split at h3
  case isFalse=>cases h3
  rename_i hc
  obtain⟨rfl,hc1,hc2⟩:=hc
  simp only[L's]at h3
  obtain⟨e',h4,h5⟩:=h3
  split at h5
  case isFalse=>cases h5
  rename_i hok
  cases h5
  have h0:es0≠[]:=by rintro rfl;simp at he
  obtain⟨arr,vs,f,k1,k2,k3,k4,k5,k6,k7,k8⟩:=zr3 (hG.blk b0 _ c cp hb0 h1) h0
  obtain⟨w',q1,q2,q3⟩:=z13c (arr0:=arr.toList) i1.good (z100 h0) hb1 h1' ht k1 (by simp) rfl rfl k2 k3 k4 k5 k6 k7 (fun z hz=>i1.old z c (k8 z hz)) i1.nodup (fun z hz=>⟨(i1.mine z hz).1,fun hf=>by have:=(i1.mine z hz).2;rw[k8 z hf]at this;cases this⟩) r1 he hc1 hc2 h4 hok
  exact⟨G1,w',q1,q2,i1.ext.trans q3⟩
 ·rename_i tl szl esl i0 off0 hb0
  obtain⟨c,cp,h1,rfl⟩:=hx
  simp only[L's]at h
  obtain⟨⟨y',m1⟩,h2,h3⟩:=h
  obtain⟨G1,g,i1,r1⟩:=zqu hG c hy h2
  have hb1:=i1.lin b0 _ rfl hb0
  simp only[hb1]at h3
  have h1':=(i1.ext.le hG).ids _ _ h1
  split at h3
  case h_2=>cases h3
  rename_i e he
  split at h3
  case isFalse=>cases h3
  rename_i hc
  obtain⟨rfl,rfl,rfl,hn,hc2⟩:=hc
  simp only[L's]at h3
  obtain⟨e',h4,h5⟩:=h3
  split at h5
  case isFalse=>cases h5
  rename_i hok
  cases h5
  obtain⟨q1,q2,arr,v0,vs,f,k1,k2,k3,k4,k5,k6,k7,k8⟩:=hG.blk b0 _ c cp hb0 h1
  have hbl:b.cells.toList.length=1:=by rw[r1.length];exact hc2
  obtain⟨w',p1,p2,p3⟩:=z13c (arr0:=arr.toList.set (i*sz'+off) v0) i1.good rfl hb1 h1' ht k1 (by simp) (by rw[List.take_set_of_le (L'l _)]) (by rw[hbl,List.drop_set_of_lt (by omega)]) k2 k3 k4 k5 k6 k7 (fun z hz=>i1.old z c (k8 z hz)) i1.nodup (fun z hz=>⟨(i1.mine z hz).1,fun hf=>by have:=(i1.mine z hz).2;rw[k8 z hf]at this;cases this⟩) r1 he (by omega) (by omega) h4 hok
  exact⟨G1,w',p1,p2,i1.ext.trans p3⟩
end
end Go.Proofs.YtbaclnecajkknaaGreat.Pi

