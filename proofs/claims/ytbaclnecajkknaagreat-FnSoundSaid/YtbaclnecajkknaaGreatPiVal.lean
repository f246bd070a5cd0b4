/- Pi: reading and writing memory. -/
import Derived.Test.YtbaclnecajkknaaGreatPiMem
import Derived.Test.YtbaclnecajkknaaGreatPiComp
open List renaming getElem?_take->L'o,getElem?_drop->L'q,getElem?_eq_none->L'r,getElem?_eq_some_iff->L'b,ext_getElem?->L'u,getElem?_eq_getElem->L'v,length_take->L'w,length_append->L'x,length_drop->L'y,all_eq_true->L'h
open Nat renaming add_mul->L'2,mul_le_mul_right->M'1,one_mul->L'3
open Option renaming bind_eq_some_iff->L's,bind_some->L't,map_some->L'z,map_eq_some_iff->M'0
namespace Go.Proofs.YtbaclnecajkknaaGreat.Pi
open Go
set_option linter.all false

theorem z23(c o j:Nat):(⟨c,o,none⟩:Addr).add j=⟨c,o+j,none⟩:=by unfold Addr.add;split<;>simp_all
theorem znd{P:Program}{t:TypeId}(h:(P.underlying t).isSome=true):∃i,P.info? t=some i/\P.cellsOf t=i.size:=by
 unfold Program.underlying at h
 cases hi:P.info? t with
 |none=>simp[hi]at h
 |some i=>exact⟨i,rfl,by simp[Program.cellsOf,hi]⟩
theorem z18i{P:Program}{t:TypeId}{d:TypeDesc}(h:P.underlying t=some d)(w:World):(underlying t).run P w=.ok d w:=by simp[underlying,h]
theorem z18g{P:Program}{t:TypeId}(h:(P.underlying t).isSome=true)(w:World):(sizeOf t).run P w=.ok (P.cellsOf t) w:=by
 obtain⟨i,h1,h2⟩:=znd h
 simp[sizeOf,typeInfo,h1,h2]
theorem z18c{P:Program}{t:TypeId}(h:(P.underlying t).isSome=true)(w:World):(Go.isAgg t).run P w=.ok (aggT P t) w:=by
 obtain⟨d,hd⟩:=Option.isSome_iff_exists.1 h
 cases d<;>simp[Go.isAgg,z18i hd,aggT,hd]
section
variable {P:Program}{G:Gh}{w:World}{mem:List Blk}
theorem z18e{t:TypeId}(ht:(P.underlying t).isSome=true){cs:List PV}{vs:List Value}{c o off:Nat}(hr:RpL G w cs vs)(ha:At w c o vs){v:PV}
  (hc:cut (aggT P t) off (P.cellsOf t) cs=some v):∃v',(loadVar t ⟨c,o+off,none⟩).run P w=.ok v' w/\Rp G w v v':=by
 have hl:=hr.length
 unfold cut at hc
 split at hc
 ·rename_i hle
  cases hag:aggT P t
  ·simp only[hag]at hc
   obtain⟨v',h1,h2⟩:=hr.get off hc
   refine⟨v',?_,h2⟩
   have hcell:=ha off v' h1
   simp[loadVar,z18c ht,hag,hcell]
  ·simp only[hag,if_true]at hc
   cases hc
   have hcells:(loadCells ⟨c,o+off,none⟩ (P.cellsOf t)).run P w=.ok ((vs.drop off).take (P.cellsOf t)).toArray w:=by
    have hlen:((vs.drop off).take (P.cellsOf t)).length=P.cellsOf t:=by simp;omega
    have:=run_loadCells_list (P:=P) w ⟨c,o+off,none⟩ ((vs.drop off).take (P.cellsOf t)) (fun j u hu=>by
     rw[z23]
     rw[L'o]at hu
     split at hu
     ·rw[L'q]at hu
      have:=ha (off+j) u hu
      rwa [<-Nat.add_assoc]at this
     ·cases hu)
    rwa [hlen]at this
   refine⟨.agg ((vs.drop off).take (P.cellsOf t)).toArray,?_,?_⟩
   ·simp[loadVar,z18c ht,hag,z18g ht,hcells]
   ·exact⟨_,rfl,(hr.drop off).take _⟩
 ·cases hc
theorem At.of_row{c:Nat}{cs:Array Value}{t:TypeId}{vs:List Value}(h:w.heap[c]?=some (.cells cs t (0,0)))(off n:Nat)(hv:(cs.toList.drop off).take n=vs):At w c off vs:=by
 intro i v hi
 rw[cell_of_row w c (off+i) cs t (0,0) h]
 subst hv
 rw[L'o]at hi
 split at hi
 ·rw[L'q]at hi;simpa using hi
 ·cases hi
theorem At.sub{c off:Nat}{vs us:List Value}(h:At w c off vs)(k:Nat)(hu:∀j u,us[j]?=some u->vs[k+j]?=some u):At w c (off+k) us:=by
 intro i v hi
 have:=h (k+i) v (hu i v hi)
 rwa [<-Nat.add_assoc]at this
theorem zrx(hG:Good G w mem){x:PV}{a:Value}(hx:Rp G w x a){ag:Bool}{n:Nat}{v:PV}(h:loadV mem ag n x=some v) :
  ∃cs vs c o off,a=.pointer (some ⟨c,o+off,none⟩)/\RpL G w cs vs/\At w c o vs/\cut ag off n cs=some v:=by
 cases x<;>simp only[loadV]at h<;>try(cases h;done)
 case ptr b off=>
  obtain⟨c,cp,h1,rfl⟩:=hx
  split at h
  ·rename_i t cs hb
   obtain⟨arr,h2,h3,h4⟩:=hG.blk b _ c cp hb h1
   exact⟨cs,arr.toList,c,0,off,by simp,h3,.of_row h2 0 arr.size (by rw[List.drop_zero];exact List.take_of_length_le (by simp)),h⟩
  ·cases h
 case ep b sz i off=>
  obtain⟨c,cp,h1,rfl⟩:=hx
  have key:∀(fl:Bool)(es:List PV)(vs:List Value),RpEs G.S w fl sz es vs->At w c 0 vs->((es[i]?).bind fun e=>cut ag off n e.cells)=some v ->
    ∃cs vs c' o off',Value.pointer (some ⟨c,i*sz+off,none⟩)=.pointer (some ⟨c',o+off',none⟩)/\RpL G w cs vs/\At w c' o vs/\cut ag off' n cs=some v:=by
   intro fl es vs h3 h4 h
   cases he:es[i]? with
   |none=>simp[he]at h
   |some e=>
    simp only[he,L't]at h
    obtain⟨u,h5,h6,h7⟩:=RpEs.get i h3 he
    refine⟨e.cells,u.cells.toList,c,i*sz,off,rfl,(RpL.of_imm (zw4 h6)).2 h5.cells,?_,h⟩
    have:=h4.sub (i*sz) h7
    simpa using this
  split at h
  ·rename_i t fl sz' es hb
   split at h
   ·rename_i hsz;subst hsz
    by_cases h0:es=[]
    ·subst h0;simp at h
    obtain⟨tt,arr,vs,h2,h3,h4,h5,h6⟩:=z176 (hG.blk b _ c cp hb h1) h0
    exact key fl es vs h5 (.of_row h2 0 _ (by simpa using h6)) h
   ·cases h
  ·rename_i fl sz' es hb
   split at h
   ·rename_i hsz;subst hsz
    by_cases h0:es=[]
    ·subst h0;simp at h
    obtain⟨h2,h3,vs,h4,h5⟩:=zi1 (hG.blk b _ c cp hb h1) h0
    exact key fl es vs h4 h5 h
   ·cases h
  ·cases h
 case qep b sz i off=>
  obtain⟨c,o,n',h1,rfl⟩:=hx
  split at h
  ·rename_i t sz' es hb
   split at h
   ·rename_i hsz;subst hsz
    obtain⟨h0,o2,n2,tt,arr,vs,he,h2,h3,h4,h5,h6⟩:=hG.blk b _ c _ hb h1
    obtain⟨rfl,rfl⟩:=zdq he
    cases he:es[i]? with
    |none=>simp[he]at h
    |some e=>
     simp only[he,L't]at h
     obtain⟨u,h7,h8,h9⟩:=RpEs.get i h5 he
     refine⟨e.cells,u.cells.toList,c,(o+i)*sz',off,rfl,(RpL.of_imm (zw4 h8)).2 h7.cells,?_,h⟩
     have hat:At w c (o*sz') vs:=.of_row h2 (o*sz') _ h6
     have:=hat.sub (i*sz') h9
     rwa [<-L'2]at this
   ·cases h
  ·cases h
 case pv x off=>
  obtain⟨c,o,vx,h1,h2,h3,h4,h5⟩:=hx
  exact⟨x.cells,vx.cells.toList,c,o,off,h1,h3.cells h4,h5,h⟩
theorem zrz(hG:Good G w mem){x:PV}{a:Value}(hx:Rp G w x a){t:TypeId}(ht:(P.underlying t).isSome=true){v:PV}(h:loadV mem (aggT P t) (P.cellsOf t) x=some v) :
  ∃v',(Instr.loadAt t a).run P w=.ok v' w/\Rp G w v v':=by
 obtain⟨cs,vs,c,o,off,rfl,h1,h2,h3⟩:=zrx hG hx h
 obtain⟨v',h4,h5⟩:=z18e ht h1 h2 h3
 exact⟨v',by simp[Instr.loadAt,Instr.sureAddr,h4],h5⟩
theorem z18h{t:TypeId}(ht:(P.underlying t).isSome=true){c off:Nat}{cs:Array Value}{e:TypeId}{v:Value}(hh:w.heap[c]?=some (.cells cs e (0,0)))
  (hv:v.cells.size=P.cellsOf t) (hle:off+P.cellsOf t<=cs.size) (h1:∀u∈v.cells.toList,u.oneCell'=true) :
  (storeVar t ⟨c,off,none⟩ v).run P w=.ok () (w.setRow c (cs.toList.take off++v.cells.toList++cs.toList.drop (off+v.cells.toList.length)).toArray):=by
 have:=run_storeCells_at P c off e v.cells.toList 0 cs w hh (by simpa [hv]using hle) h1
 simp only[Nat.add_zero]at this
 simp[storeVar,z18g ht,hv,this]
theorem zrp{α:Type}{vs ve:List α}{k sz:Nat}(h:∀(j:Nat)(u:α),ve[j]?=some u->vs[k+j]?=some u)(hl:ve.length=sz):ve=(vs.drop k).take sz:=by
 apply L'u
 intro j
 rw[L'o,L'q]
 by_cases hj:j<sz
 ·have hv:ve[j]?=some ve[j]:=L'v (by omega)
  rw[if_pos hj,h j _ hv,hv]
 ·rw[if_neg hj,L'r (by omega)]
theorem zro{α:Type}(L u:List α)(k sz m off:Nat)(h1:k+sz<=m)(h2:m<=L.length)(h3:off+u.length<=sz) :
  (L.take (k+off)++u++L.drop (k+off+u.length)).take m =
   (L.take m).take k++((((L.take m).drop k).take sz).take off++u++(((L.take m).drop k).take sz).drop (off+u.length))++(L.take m).drop (k+sz):=by
 apply L'u
 intro j
 simp only[L'o,List.getElem?_append,L'w,L'x,L'q,L'y]
 repeat' split
 all_goals first
  |rfl
  |omega
  |(congr 1;omega)
  |(rw[L'r (by omega)])
  |(rw[eq_comm,L'r (by omega)])
theorem z12q(hG:Good G w mem){x y:PV}{v:Value}{mem':List Blk}(hx:Rp G w x v)(h:pub mem x=some (y,mem')) :
  ∃G',Good G' w mem'/\Ext G w mem G' w mem'/\RpI G'.S w y v:=by
 cases x<;>simp only[pub]at h<;>try(cases h;done)
 case int=>cases h;exact⟨G,hG,.refl G w mem,hx⟩
 case bool=>cases h;exact⟨G,hG,.refl G w mem,hx⟩
 case str=>cases h;exact⟨G,hG,.refl G w mem,hx⟩
 case sl=>cases h;exact⟨G,hG,.refl G w mem,hx⟩
 case nil=>cases h;exact⟨G,hG,.refl G w mem,none,0,[],hx,by simp,rfl,fun _=>rfl,.inl rfl⟩
 case ref b sz off len=>
  obtain⟨c,cap,cp,h1,h2,h3,A,rfl,hA⟩:=hx
  unfold rowAt at h
  have key:∀(S:Nat->Prop) (fl:Bool) (es:List PV) (vs:List Value),RpEs S w fl sz es vs->At w c 0 vs->S c->off+len<=es.length->es.length<=cp ->
    RpI S w (.sl fl sz ((es.drop off).take len)) (.slice A len cap):=by
   intro S fl es vs e1 e2 e3 e4 e5
   have hlen:((es.drop off).take len).length=len:=by simp;omega
   rcases hA with hA|rfl
   ·have h0:(es.drop off).take len=[]:=List.eq_nil_of_length_eq_zero (by omega)
    refine⟨A,cap,[],by rw[hlen],by rw[hlen];exact h3,by rw[h0];rfl,fun _=>by omega,.inl h0⟩
   refine⟨_,cap,(vs.drop (off*sz)).take (len*sz),by rw[hlen],by rw[hlen];exact h3,(e1.drop off).take len,fun h=>(by cases h),.inr ⟨c,off*sz,rfl,e3,?_⟩⟩
   have:=e2.sub (us:=(vs.drop (off*sz)).take (len*sz)) (off*sz) (fun j u hu=>by
    rw[L'o]at hu
    split at hu
    ·rwa [L'q]at hu
    ·cases hu)
   simpa using this
  split at h
  ·rename_i t fl sz' es hb
   split at h
   ·rename_i hc
    obtain⟨hc1,rfl⟩:=hc
    simp only[L'z,Option.some.injEq,Prod.mk.injEq]at h
    obtain⟨rfl,rfl⟩:=h
    by_cases h0:es=[]
    ·subst h0
     have hfr:freeze mem b=mem.set b (.fro fl sz' []):=by simp [freeze,hb]
     rw[hfr]
     have:len=0:=by simp at hc1;omega
     subst this
     obtain⟨g1,g2⟩:=hG.bury' (k:=.dead) (.fro fl sz' []) h1 rfl (.inl rfl)
     exact⟨G,g1,g2,A,cap,[],by simp,by simp,by simp [RpEs],capz hA h2,.inl (by simp)⟩
    obtain⟨g1,g2⟩:=hG.freeze hb h0 h1
    have hfr:freeze mem b=mem.set b (.fro fl sz' es):=by simp [freeze,hb]
    rw[hfr]
    refine⟨_,g1,g2,?_⟩
    have hbl:b<mem.length:=(L'b.1 hb).1
    obtain⟨k1,k2,vs,k3,k4⟩:=zi1 (g1.blk b (.fro fl sz' es) c cp (by simp [hbl]) h1) h0
    exact key _ fl es vs k3 k4 k1 hc1 k2
   ·cases h
  ·rename_i fl sz' es hb
   split at h
   ·rename_i hc
    obtain⟨hc1,rfl⟩:=hc
    simp only[L'z,Option.some.injEq,Prod.mk.injEq]at h
    obtain⟨rfl,rfl⟩:=h
    have hfr:freeze mem b=mem:=by simp [freeze,hb]
    rw[hfr]
    by_cases h0:es=[]
    ·subst h0
     have:len=0:=by simp at hc1;omega
     subst this
     exact⟨G,hG,.refl G w mem,A,cap,[],by simp,by simp,by simp [RpEs],capz hA h2,.inl (by simp)⟩
    obtain⟨k1,k2,vs,k3,k4⟩:=zi1 (hG.blk b _ c cp hb h1) h0
    exact⟨G,hG,.refl G w mem,key _ fl es vs k3 k4 k1 hc1 k2⟩
   ·cases h
  ·cases h
theorem z12k:∀{xs ys:List PV}{vs:List Value}{G:Gh}{mem mem':List Blk},Good G w mem->RpL G w xs vs->pubL mem xs=some (ys,mem') ->
  ∃G',Good G' w mem'/\Ext G w mem G' w mem'/\RpIL G'.S w ys vs
 |[],ys,vs,G,mem,mem',hG,hx,h=>by
  simp only[pubL,Option.some.injEq,Prod.mk.injEq]at h
  obtain⟨rfl,rfl⟩:=h
  exact⟨G,hG,.refl G w mem,hx⟩
 |x::xs,ys,vs,G,mem,mem',hG,hx,h=>by
  obtain⟨v,rest,rfl,h1,h2⟩:=hx
  simp only[pubL,L's,M'0]at h
  obtain⟨⟨y,m1⟩,h3,⟨⟨ys',m2⟩,h4,h5⟩⟩:=h
  simp only[Prod.mk.injEq]at h5
  obtain⟨rfl,rfl⟩:=h5
  obtain⟨G1,g1,g2,g3⟩:=z12q hG h1 h3
  obtain⟨G2,k1,k2,k3⟩:=z12k g1 (RpL.mono (g2.le hG) h2) h4
  exact⟨G2,k1,g2.trans k2,v,rest,rfl,RpI.mono (k2.le g1).I _ _ g3,k3⟩
theorem z12c(hG:Good G w mem){x y:PV}{v:Value}{mem':List Blk}(hx:Rp G w x v)(h:pubE mem x=some (y,mem')) :
  ∃G',Good G' w mem'/\Ext G w mem G' w mem'/\RpI G'.S w y v:=by
 cases x
 case agg cs=>
  simp only[pubE,M'0]at h
  obtain⟨⟨ys,m⟩,h1,h2⟩:=h
  simp only[Prod.mk.injEq]at h2
  obtain⟨rfl,rfl⟩:=h2
  obtain⟨vs,rfl,h3⟩:=hx
  obtain⟨G',g1,g2,g3⟩:=z12k hG h3 h1
  exact⟨G',g1,g2,vs,rfl,g3⟩
 all_goals exact z12q hG hx (by simpa only[pubE]using h)
theorem RpIL.splice{S:Nat->Prop}{cs ys:List PV}{vs us:List Value}(off:Nat)(h:RpIL S w cs vs)(h':RpIL S w ys us) :
  RpIL S w (splice cs off ys) (vs.take off++us++vs.drop (off+us.length)):=by
 rw[h'.length]
 exact((h.take off).append h').append (h.drop _)
theorem ztx{S:Nat->Prop}{ag:Bool}{cs:List PV}{vs:List Value}{e:PV}(h:RpIL S w cs vs)(he:ztv ag cs=some e) :
  ∃v,RpI S w e v/\v.cells.toList=vs:=by
 unfold ztv at he
 split at he
 ·cases he
  exact⟨.agg vs.toArray,⟨vs,rfl,h⟩,by simp[Value.cells]⟩
 ·rename_i c
  split at he
  ·rename_i hc
   cases he
   obtain⟨v,rest,rfl,h2,h3⟩:=h
   simp[RpIL]at h3
   subst h3
   exact⟨v,h2,by rw[(RpI.one h2 hc).2.1]⟩
  ·cases he
 ·cases he
theorem RpL.one{cs:List PV}{vs:List Value}(h:RpL G w cs vs)(hk:zw0 cs=true):∀u∈vs,u.oneCell'=true:=by
 intro u hu
 obtain⟨i,hi⟩:=List.mem_iff_getElem?.1 hu
 have hlt:i<cs.length:=by rw[<-h.length];exact(L'b.1 hi).1
 obtain⟨u',h1,h2⟩:=h.get i (L'v hlt)
 rw[hi]at h1;cases h1
 simp only[zw0,L'h]at hk
 exact(Rp.one h2 (hk _ (List.getElem_mem hlt))).1
theorem zw2{cs vs:List PV}(off:Nat)(h:zw0 cs=true)(h':zw0 vs=true):zw0 (splice cs off vs)=true:=by
 simp only[zw0,splice,List.all_append,Bool.and_eq_true,L'h]at *
 exact⟨⟨fun x hx=>h x (List.mem_of_mem_take hx),h'⟩,fun x hx=>h x (List.mem_of_mem_drop hx)⟩
theorem z1du (hG:Good G w mem) {x y:PV} {a b:Value} (hx:Rp G w x a) (hy:Rp G w y b) {t:TypeId} (ht:(P.underlying t).isSome=true) {mem':List Blk}
  (h:storeV mem (P.cellsOf t) x y=some mem'):∃G' w',(Instr.storeAt t a b).run P w=.ok () w'/\Good G' w' mem'/\Ext G w mem G' w' mem':=by
 unfold storeV at h
 split at h
 ·rename_i b0 off
  obtain⟨c,cp,h1,rfl⟩:=hx
  split at h
  ·rename_i t' cs hb
   split at h
   ·rename_i hc
    obtain⟨hc1,hc2,hc3⟩:=hc
    cases h
    obtain⟨arr,k1,k2,k3⟩:=hG.blk b0 _ c cp hb h1
    have hlen:=k2.length
    have hcl:=hy.cells hc3
    have hsz:b.cells.size=P.cellsOf t:=by have:=hcl.length;simp at this;omega
    have hst:=z18h (P:=P) (off:=off) (v:=b) ht k1 hsz (by simp at hlen;omega) (hcl.one hc3)
    have hrow:(w.setRow c (arr.toList.take off++b.cells.toList++arr.toList.drop (off+b.cells.toList.length)).toArray).heap[c]?=some (.cells (arr.toList.take off++b.cells.toList++arr.toList.drop (off+b.cells.toList.length)).toArray t' (0,0)):=setRow_heap w c arr _ t' (0,0) k1
    obtain⟨g1,g2⟩:=hG.write (k':=.box t' (splice cs off y.cells)) hb rfl h1 (Wrote.setRow w c _) (fun G' hl _ _=>⟨_,hrow,by simpa using(RpL.mono hl k2).splice off (RpL.mono hl hcl),zw2 off k3 hc3⟩)
    exact⟨G,_,by simp[Instr.storeAt,Instr.sureAddr,hst],g1,g2⟩
   ·cases h
  ·cases h
 ·rename_i b0 sz' i off
  obtain⟨c,cp,h1,rfl⟩:=hx
  simp only[L's]at h
  obtain⟨⟨y',m1⟩,h2,h3⟩:=h
  obtain⟨G1,g1,g2,g3⟩:=z12c hG hy h2
  have h1':=(g2.le hG).ids _ _ h1
  split at h3
  ·rename_i t' fl sz es hb
   split at h3
   ·rename_i e he
    split at h3
    ·rename_i hc
     obtain⟨hq,hc1,hc2⟩:=hc
     cases hq
     have hc2:y'.cells.length=P.cellsOf t:=hc2
     simp only[L's]at h3
     obtain⟨e',h4,h5⟩:=h3
     split at h5
     ·rename_i hok
      cases h5
      have h0:es≠[]:=by rintro rfl;simp at he
      obtain⟨tt,arr,vs,k1,k2,k3,k4,k5⟩:=z176 (g1.blk b0 _ c cp hb h1') h0
      obtain⟨ve,e1,e2,e3⟩:=RpEs.get i k4 he
      have hcl:=g3.cells
      have hvl:=hcl.length
      have hel:=zwa e1 e2
      have hil:i<es.length:=(L'b.1 he).1
      have hvs:vs.length=es.length*sz':=k4.length
      obtain⟨v',f1,f2⟩:=ztx (e1.cells.splice off hcl) h4
      have hset:=k4.set i hil f1 hok
      have hmul:(i+1)*sz'<=es.length*sz':=M'1 _ hil
      have hmul':es.length*sz'<=cp*sz':=M'1 _ k3
      have hsz:b.cells.size=P.cellsOf t:=by simp at hvl;omega
      rw[L'2,L'3]at hmul
      have hbl:b.cells.toList.length=b.cells.size:=by simp
      have hst:=z18h (P:=P) (off:=i*sz'+off) (v:=b) ht k1 hsz (by omega) (fun u hu=>by
       have hu':u∈v'.cells.toList:=by rw[f2];simp[hu]
       exact zw8 f1 hok u hu')
      have hrow:(w.setRow c (arr.toList.take (i*sz'+off)++b.cells.toList++arr.toList.drop (i*sz'+off+b.cells.toList.length)).toArray).heap[c]?=some (.cells (arr.toList.take (i*sz'+off)++b.cells.toList++arr.toList.drop (i*sz'+off+b.cells.toList.length)).toArray tt (0,0)):=setRow_heap w c arr _ tt (0,0) k1
      obtain⟨q1,q2⟩:=g1.write (k':=.row t' fl sz' (es.set i e')) hb (z101 h0) h1' (Wrote.setRow w c _) (fun G' hl _ _=>by
       refine .inr ⟨by simpa using h0,_,_,_,hrow,?_,by simpa using k3,RpEs.mono hl.I _ _ _ _ hset,?_⟩
       ·simp only[List.size_toArray,L'x,L'w,L'y,Array.length_toList];omega
       ·rw[List.length_set,f2,List.toList_toArray]
        have hve:ve.cells.toList=(vs.drop (i*sz')).take sz':=zrp e3 hel
        rw[zro arr.toList b.cells.toList (i*sz') sz' (es.length*sz') off (by omega) (by simp;omega) (by omega),k5,<-hve,L'2,L'3])
      exact⟨G1,_,by simp[Instr.storeAt,Instr.sureAddr,hst],q1,g2.trans q2⟩
     ·cases h5
    ·cases h3
   ·cases h3
  ·cases h3
 ·cases h
end
end Go.Proofs.YtbaclnecajkknaaGreat.Pi

