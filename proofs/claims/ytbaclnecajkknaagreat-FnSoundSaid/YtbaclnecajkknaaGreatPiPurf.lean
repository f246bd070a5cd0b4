/- Pi: slices, structs built, bytes to strings. -/
import Derived.Test.YtbaclnecajkknaaGreatPiPure
open Option renaming bind_eq_some_iff->L's,pure_def->M'p,bind_eq_bind->M'q
open List renaming mapM_cons->M'm,map_cons->M'n,zip_cons_cons->M'o
namespace Go.Proofs.YtbaclnecajkknaaGreat.Pi
open Go
set_option linter.all false

section
variable {P:Program}{G:Gh}{w:World}{mem:List Blk}
def Bd(G:Gh)(w:World):Option PV->Option Value->Prop
|none,none=>True
|some x,some v=>Rp G w x v
|_,_=>False
theorem z7a{lo:Option PV}{v:Option Value}(hv:Bd G w lo v){d:Nat}{l:Int}(h:bound d lo=some l) :
  (lo=none/\v=none/\l=d)\/(∃k,v=some (.int k l)):=by
 cases lo with
 |none=>cases v with
  |none=>simp[bound]at h;exact .inl ⟨rfl,rfl,h.symm⟩
  |some v=>exact hv.elim
 |some x=>cases v with
  |none=>exact hv.elim
  |some v=>
   cases x<;>simp[bound]at h
   subst h
   exact .inr ⟨_,congrArg some hv⟩
theorem z1b0{sl:Bool}{len cap:Nat}{lo hi:Option PV}{vl vh:Option Value}(hl:Bd G w lo vl)(hh:Bd G w hi vh){l h:Int}(h1:bound 0 lo=some l)(h2:bound len hi=some h)
  (h0:0<=l)(hlh:l<=h)(hc:h<=cap):(Instr.sliceBounds sl len cap vl vh none).run P w=.ok (l.toNat,h.toNat,cap) w:=by
 have e1:=z7a hl h1
 have e2:=z7a hh h2
 have hh0:0<=h:=by omega
 rcases e1 with⟨_,rfl,rfl⟩|⟨k,rfl⟩<;>rcases e2 with⟨_,rfl,rfl⟩|⟨k',rfl⟩
 ·simp[Instr.sliceBounds]
 ·simp[Instr.sliceBounds,Instr.sliceBound,asIntOf,hh0,hc]
 ·have:l<=(len:Int):=hlh
  simp[Instr.sliceBounds,Instr.sliceBound,asIntOf,h0,this]
 ·have h4:l<=((h.toNat:Nat):Int):=by omega
  simp only[Instr.sliceBounds,Instr.sliceBound,asIntOf,Sem.run_bind,Sem.run_pure,Result.andThen_ok,Sem.run_ite]
  rw[if_pos ⟨hh0,hc⟩]
  simp only[Result.andThen_ok,Sem.run_pure]
  rw[if_pos ⟨h0,h4⟩]
  rfl
theorem z1e6{t:TypeId}(ht:P.underlying t=some .string){x v:PV}{a:Value}(hx:Rp G w x a){lo hi:Option PV}{vl vh:Option Value}(hl:Bd G w lo vl)(hh:Bd G w hi vh)
  (h:subV x lo hi=some v):∃v',(Instr.sliceAt t a vl vh none).run P w=.ok v' w/\Rp G w v v':=by
 unfold subV at h
 split at h
 ·rename_i s
  cases hx
  simp only[L's]at h
  obtain⟨l,h1,u,h2,h3⟩:=h
  split at h3
  ·rename_i hc;cases h3
   have:=z1b0 (P:=P) (sl:=false) hl hh h1 h2 hc.1 hc.2.1 hc.2.2
   exact⟨.string (s.extract l.toNat u.toNat),by simp[Instr.sliceAt,Instr.slice,z18i ht,this],rfl⟩
  ·cases h3
 ·cases h
theorem z9p{t e:TypeId}(ht:P.underlying t=some (.slice e))(he:(P.underlying e).isSome=true){x v:PV}{a:Value}(hx:Rp G w x a){k1 k2 k3:IntKind}{l h m:Int}
  (hc:chk3V l h m x=some v):∃v',(Instr.sliceAt t a (some (.int k1 l)) (some (.int k2 h)) (some (.int k3 m))).run P w=.ok v' w/\Rp G w v v':=by
 have key:∀(A:Option Addr) (len cap:Nat),0<=l->l<=h->h<=m->m<=cap->∃v',(Instr.sliceAt t (.slice A len cap) (some (.int k1 l)) (some (.int k2 h)) (some (.int k3 m))).run P w=.ok v' w:=by
  intro A len cap h0 h1 h2 h3
  have q1:0<=m:=by omega
  have q2:0<=h:=by omega
  have q3:h<=((m.toNat:Nat):Int):=by omega
  have q4:l<=((h.toNat:Nat):Int):=by omega
  have hb:(Instr.sliceBounds true len cap (some (.int k1 l)) (some (.int k2 h)) (some (.int k3 m))).run P w=.ok (l.toNat,h.toNat,m.toNat) w:=by
   simp only[Instr.sliceBounds,Instr.sliceBound,asIntOf,Sem.run_bind,Sem.run_pure,Result.andThen_ok,Sem.run_ite]
   rw[if_pos ⟨q1,h3⟩]
   simp only[Result.andThen_ok,Sem.run_pure]
   rw[if_pos ⟨q2,q3⟩]
   simp only[Result.andThen_ok,Sem.run_pure]
   rw[if_pos ⟨h0,q4⟩]
   rfl
  exact⟨.slice (if m.toNat=l.toNat then A else A.map (·.add (l.toNat*P.cellsOf e))) (h.toNat-l.toNat) (m.toNat-l.toNat),by simp[Instr.sliceAt,Instr.slice,z18i ht,hb,z18g he]⟩
 cases x<;>simp only[chk3V]at hc<;>try(cases hc;done)
 case sl fl sz es=>
  split at hc
  case isFalse=>cases hc
  rename_i hq;cases hc
  obtain⟨A,cap,vs,rfl,k2',_⟩:=hx
  obtain⟨v',h1⟩:=key A es.length cap hq.1 hq.2.1 hq.2.2.1 (by omega)
  exact⟨v',h1,trivial⟩
 case ref b sz off len=>
  split at hc
  case isFalse=>cases hc
  rename_i hq;cases hc
  obtain⟨c,cap,cp,_,_,k3',A,rfl,_⟩:=hx
  obtain⟨v',h1⟩:=key A len cap hq.1 hq.2.1 hq.2.2.1 (by omega)
  exact⟨v',h1,trivial⟩
theorem z1b6(hG:Good G w mem){t e:TypeId}(ht:P.underlying t=some (.slice e))(he:(P.underlying e).isSome=true){x v:PV}{a:Value}(hx:Rp G w x a){lo hi:Option PV}{vl vh:Option Value}
  (hl:Bd G w lo vl) (hh:Bd G w hi vh) (h:z1b4 mem (P.cellsOf e) x lo hi=some v):∃v',(Instr.sliceAt t a vl vh none).run P w=.ok v' w/\Rp G w v v':=by
 have key:∀(A:Option Addr) (len cap:Nat) (l u:Int),bound 0 lo=some l->bound len hi=some u->0<=l->l<=u->u<=cap ->
   (Instr.sliceAt t (.slice A len cap) vl vh none).run P w=.ok (.slice (if cap=l.toNat then A else A.map (·.add (l.toNat*P.cellsOf e))) (u.toNat-l.toNat) (cap-l.toNat)) w:=by
  intro A len cap l u h1 h2 h3 h4 h5
  have:=z1b0 (P:=P) (sl:=true) hl hh h1 h2 h3 h4 h5
  simp[Instr.sliceAt,Instr.slice,z18i ht,this,z18g he]
 cases x<;>simp only[z1b4]at h<;>try(cases h;done)
 case sl fl sz' es=>
  split at h
  case isFalse=>cases h
  rename_i hsz;subst hsz
  simp only[L's]at h
  obtain⟨l,h1,u,h2,h3⟩:=h
  split at h3
  case isFalse=>cases h3
  rename_i hc;cases h3
  obtain⟨c1,c2,c3⟩:=hc
  obtain⟨A,cap,vs,rfl,k2,k3,kz,k4⟩:=hx
  refine⟨_,key A _ cap l u h1 h2 c1 c2 (by omega),?_⟩
  have hlen:((es.take u.toNat).drop l.toNat).length=u.toNat-l.toNat:=by simp;omega
  refine⟨_,cap-l.toNat,(vs.take (u.toNat*P.cellsOf e)).drop (l.toNat*P.cellsOf e),by rw[hlen],by rw[hlen];omega,(k3.take _).drop _,?_,?_⟩
  ·intro e
   have:A=none:=by
    split at e
    ·exact e
    ·cases A<;>simp at e ⊢
   rw[kz this];omega
  rcases k4 with rfl| ⟨c,off,rfl,k5,k6⟩
  ·exact .inl (by simp)
  ·by_cases hcl:cap=l.toNat
   ·left
    rw[<-List.length_eq_zero_iff,hlen];omega
   ·right
    refine⟨c,off+l.toNat*P.cellsOf e,by simp[hcl,z23],k5,?_⟩
    exact k6.sub _ (fun j x hx=>by
     rw[List.getElem?_drop,List.getElem?_take]at hx
     split at hx
     ·exact hx
     ·cases hx)
 case nil fl sz'=>
  split at h
  case isFalse=>cases h
  simp only[L's]at h
  obtain⟨l,h1,u,h2,h3⟩:=h
  split at h3
  case isFalse=>cases h3
  rename_i hc;cases h3
  obtain⟨rfl,rfl⟩:=hc
  simp only[Rp]at hx;subst hx
  exact⟨_,key none 0 0 0 0 h1 h2 (by omega) (by omega) (by omega),by simp[Rp]⟩
 case ref b sz' off len=>
  split at h
  case h_2=>cases h
  rename_i fl n hq
  split at h
  case isFalse=>cases h
  rename_i hsz;subst hsz
  simp only[L's]at h
  obtain⟨l,h1,u,h2,h3⟩:=h
  split at h3
  case isFalse=>cases h3
  rename_i hc
  obtain⟨c1,c2,c3⟩:=hc
  obtain⟨c,cap,cp,k1,k2,k3,A,rfl,hA⟩:=hx
  have hn:n<=cp:=by
   split at hq
   ·rename_i t' fl' sz'' es hb
    cases hq
    exact z177 (hG.blk b _ c cp hb k1)
   ·rename_i fl' sz'' es hb
    cases hq
    exact zi2 (hG.blk b _ c cp hb k1)
   ·cases hq
  refine⟨_,key _ len cap l u h1 h2 c1 c2 (by omega),?_⟩
  split at h3
  ·rename_i hcl;cases h3
   have hne:¬cap=l.toNat:=by omega
   obtain rfl:=hA.resolve_left (by omega)
   refine⟨c,cap-l.toNat,cp,k1,by omega,by omega,_,rfl,.inr ?_⟩
   simp[hne,z23,Nat.add_mul]
  ·rename_i hcl;cases h3
   have hul:u.toNat-l.toNat=0:=by omega
   rw[hul]
   refine⟨_,cap-l.toNat,[],rfl,by simp,rfl,?_,.inl rfl⟩
   intro e
   have:A=none:=by
    split at e
    ·exact e
    ·cases A<;>simp at e ⊢
   rw[capz hA k2 this];omega
theorem zg8:∀(fs:List Field),(∀f∈fs,(P.underlying f.type).isSome=true) ->
  (fs.mapM (m:=Sem) fun f=>do pure (f.offset,<-sizeOf f.type)).run P w=.ok (fs.map fun f=>(f.offset,P.cellsOf f.type)) w
 |[],_=>rfl
 |f::fs,h=>by
  rw[M'm]
  simp only[Sem.run_bind,z18g (h f (by simp)),Result.andThen_ok,Sem.run_pure,zg8 fs (fun g hg=>h g (by simp[hg])),M'n]
theorem zga{fs:Array Field}:∀(ps:List (Nat×Nat×Nat)) (vs:List Value) (xs:List PV) (zs out:List PV) (cells:Array Value),RpL G w zs cells.toList->RpL G w xs vs ->
  (∀p∈ps,∃fd,fs[p.1]?=some fd/\fd.offset=p.2.1/\P.cellsOf fd.type=p.2.2)->ps.length=xs.length->(∀x∈xs,x.cells.all PV.one=true) ->
  z7l zs ((ps.zip xs).map fun p=>(p.1.2.1,p.1.2.2,p.2))=some out ->
  ∃cells',Instr.fill ((fs.map fun f=>(f.offset,P.cellsOf f.type))[·]?) cells ((ps.map (·.1)).zip vs)=some cells'/\RpL G w out cells'.toList
 |[],vs,xs,zs,out,cells,hz,hx,_,hl,_,h=>by
  cases xs<;>simp at hl
  simp[z7l]at h;subst h
  exact⟨cells,by simp[Instr.fill],hz⟩
 |p::ps,vs,[],zs,out,cells,hz,hx,hp,hl,_,h=>by simp at hl
 |p::ps,vs,x::xs,zs,out,cells,hz,hx,hp,hl,ho,h=>by
  obtain⟨v,rest,rfl,h1,h2⟩:=hx
  simp only[M'o,M'n,z7l]at h
  split at h
  case isFalse=>cases h
  rename_i hc
  obtain⟨c1,c2⟩:=hc
  obtain⟨fd,f1,f2,f3⟩:=hp p (by simp)
  have hcl:=h1.cells (ho x (by simp))
  have hvl:=hcl.length
  have hzl:=hz.length
  have hvs:v.cells.size=p.2.2:=by simp at hvl;omega
  have hle:p.2.1+v.cells.size<=cells.size:=by simp at hzl;omega
  have hone:=zgb cells p.2.1 v hle
  have hz':RpL G w (splice zs p.2.1 x.cells) (v.cells.zipIdx.foldl (fun cs (c,j)=>cs.setIfInBounds (p.2.1+j) c) cells).toList:=by
   rw[hone];exact hz.splice _ hcl
  obtain⟨out',g1,g2⟩:=zga ps rest xs _ out _ hz' h2 (fun q hq=>hp q (by simp[hq])) (by simpa using hl) (fun y hy=>ho y (by simp[hy])) h
  refine⟨out',?_,g2⟩
  rw[M'n,M'o,Instr.fill]
  have hplace:(fs.map fun f=>(f.offset,P.cellsOf f.type))[p.1]?=some (p.2.1,p.2.2):=by simp[f1,f2,f3]
  simp only[hplace]
  have hcond:¬(v.cells.size≠p.2.2||decide (p.2.1+v.cells.size>cells.size))=true:=by
   simp[hvs];omega
  rw[if_neg hcond]
  exact g1
theorem z1e1(hG:Good G w mem){src dst e:TypeId}(hs:P.underlying src=some (.slice e))(he:P.underlying e=some (.int .u8))(hd:P.underlying dst=some .string){x:PV}{a:Value}(hx:Rp G w x a)
  {fl:Bool}{sz:Nat}{es:List PV}(h:shown mem x=some (fl,sz,es)){bs:List UInt8}(hb:es.mapM z7s=some bs) :
  (convert src dst a).run P w=.ok (.string ⟨bs.toArray⟩) w:=by
 obtain⟨vs,A,cap,rfl,h2,h3⟩:=z1a5 hG hx h
 have hone:∀(es:List PV)(vs:List Value)(bs:List UInt8),RpEs G.S w fl sz es vs->es.mapM z7s=some bs->vs=bs.map fun b=>.int .u8 b.toNat:=by
  intro es
  induction es with
  |nil=>intro vs bs h hb;simp at hb;subst hb;simpa [RpEs]using h
  |cons x xs ih=>
   intro vs bs h hb
   obtain⟨v,rest,rfl,h1,h2,h3⟩:=h
   rw[M'm]at hb
   simp only[M'p,M'q,L's]at hb
   obtain⟨b,h4,bs',h5,h6⟩:=hb
   cases h6
   rw[ih rest bs' h3 h5]
   unfold z7s at h4
   split at h4
   ·split at h4
    ·rename_i n hc;cases h4
     cases h1
     have:n.toNat<256:=by omega
     simp[Value.cells,Nat.toUInt8,Nat.mod_eq_of_lt this]
     omega
    ·cases h4
   ·cases h4
 have hv:=hone es vs bs h2 hb
 have hbl:bs.length=es.length:=by
  have:∀(es:List PV)(bs:List UInt8),es.mapM z7s=some bs->bs.length=es.length:=by
   intro es
   induction es with
   |nil=>intro bs h;simp at h;subst h;rfl
   |cons x xs ih=>
    intro bs h
    rw[M'm]at h
    simp only[M'p,M'q,L's]at h
    obtain⟨b,h4,bs',h5,h6⟩:=h
    cases h6
    simp[ih bs' h5]
  exact this es bs hb
 rw[run_convert_bytes_string w src dst e _ _ cap hs he hd]
 have hcells:(loadCells (A.getD ⟨0,0,none⟩) es.length).run P w=.ok ((bs.map fun b=>(b.toNat:Int)).map (Value.int .u8)).toArray w:=by
  rcases h3 with rfl| ⟨c,off,rfl,h4⟩
  ·simp at hbl;subst hbl;simp[loadCells,loadCellsFrom]
  ·have:=run_loadCells_list (P:=P) w ⟨c,off,none⟩ vs (fun j v hv=>by rw[z23];exact h4 j v hv)
   rw[hv]at this
   simp only[List.length_map,hbl]at this
   simpa [List.map_map,Function.comp_def]using this
 cases A with
 |none=>
  rcases h3 with rfl| ⟨c,off,h4,_⟩
  ·simp at hbl;subst hbl
   simp[Conv.bytesToString];rfl
  ·cases h4
 |some a=>
  rw[run_bytesToString w a _ cap _ hcells,foldl_push_bytes]
  simp[List.map_map,Function.comp_def,ByteArray.empty,ByteArray.emptyWithCapacity]
  rfl
theorem z7m{t:TypeId}{fs:Array Field}(ht:P.underlying t=some (.struct fs)){z:PV}(hz:z1i6 P t=some z)(hzo:zw0 z.cells=true)(hfs:∀f∈fs.toList,(P.underlying f.type).isSome=true)
  {ps:List (Nat×Nat×Nat)}{xs:List PV}{vs:List Value}{out:List PV}(hx:RpL G w xs vs)(hp:∀p∈ps,∃fd,fs[p.1]?=some fd/\fd.offset=p.2.1/\P.cellsOf fd.type=p.2.2)(hl:ps.length=xs.length)
  (ho:∀x∈xs,x.cells.all PV.one=true)(h:z7l z.cells ((ps.zip xs).map fun p=>(p.1.2.1,p.1.2.2,p.2))=some out) :
  ∃v,(Instr.build t ((ps.map (·.1)).zip vs).toArray).run P w=.ok v w/\Rp G w (.agg out) v:=by
 obtain⟨i,zv,h1,h2,h3⟩:=z1i7 hz
 obtain⟨cells',g1,g2⟩:=zga (P:=P) ps vs xs z.cells out zv.cells ((h3 G w).cells hzo) hx hp hl ho h
 have hm:(fs.mapM (m:=Sem) fun f=>do pure (f.offset,<-sizeOf f.type)).run P w=.ok (fs.map fun f=>(f.offset,P.cellsOf f.type)) w:=by
  rw[Array.mapM_eq_mapM_toList]
  simp only[Functor.map,Sem.run_bind',zg8 fs.toList hfs]
  simp
  exact Array.ext' (by simp)
 refine⟨.agg cells',?_,cells'.toList,by simp,g2⟩
 unfold Instr.build
 simp only[Sem.run_bind,z18j h1 h2,Result.andThen_ok,z18i ht,hm,g1]
 rfl
end
end Go.Proofs.YtbaclnecajkknaaGreat.Pi

