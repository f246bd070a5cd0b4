/- Pi: what makes blocks. -/
import Derived.Test.YtbaclnecajkknaaGreatPiVal
open Nat renaming le_refl->L'l,add_mul->L'2,one_mul->L'3
open List renaming length_cons->M'2,replicate->L'0,take_of_length_le->L'e,getElem?_eq_none->L'r,drop_of_length_le->L'a,nil_append->M'3,range->L'1
open Option renaming bind_eq_some_iff->L's
namespace Go.Proofs.YtbaclnecajkknaaGreat.Pi
open Go
set_option linter.all false

mutual
theorem z18v{G:Gh}{w:World}:∀(x:PV)(v:Value),sameV x v=true->Rp G w x v
 |.int k n,v,h=>by
  cases v<;>simp[sameV]at h
  obtain⟨rfl,rfl⟩:=h;rfl
 |.bool b,v,h=>by
  cases v<;>simp[sameV]at h
  subst h;rfl
 |.str s,v,h=>by
  cases v<;>simp[sameV]at h
  rename_i s'
  cases s;cases s';simp at h;subst h;rfl
 |.nil _ _,v,h=>by
  cases v<;>simp[sameV]at h
  obtain⟨⟨rfl,rfl⟩,rfl⟩:=h;rfl
 |.nilp,v,h=>by
  cases v<;>simp[sameV]at h
  subst h;rfl
 |.nilf,v,h=>by
  cases v<;>simp[sameV]at h
  rfl
 |.agg cs,v,h=>by
  cases v
  case agg vs=>exact⟨vs.toList,by simp,z18t cs vs.toList (by simpa only[sameV]using h)⟩
  all_goals simp[sameV]at h
 |.any,v,h|.undef,v,h|.sl ..,v,h|.ref ..,v,h|.ptr ..,v,h|.ep ..,v,h|.pv ..,v,h|.clo ..,v,h|.tup ..,v,h|.un ..,v,h|.unn ..,v,h|.sle ..,v,h=>by
  simp[sameV]at h
termination_by structural x => x
theorem z18t{G:Gh}{w:World}:∀(xs:List PV)(vs:List Value),sameL xs vs=true->RpL G w xs vs
 |[],vs,h=>by
  cases vs<;>simp[sameL]at h
  rfl
 |x::xs,vs,h=>by
  cases vs with
  |nil=>simp[sameL]at h
  |cons v vs=>
   simp only[sameL,Bool.and_eq_true]at h
   exact⟨v,vs,rfl,z18v x v h.1,z18t xs vs h.2⟩
termination_by structural x => x
end

theorem zbt{P:Program}{t:TypeId}{v:Value}{x:PV}(h:zbs P t v=some x){G:Gh}{w:World}:Rp G w x v:=by
 simp only[zbs,L's]at h
 obtain⟨y,_,h2⟩:=h
 split at h2
 ·rename_i hs;cases h2;exact z18v _ _ hs
 ·cases h2
theorem z1i7{P:Program}{t:TypeId}{x:PV}(h:z1i6 P t=some x):∃i z,P.info? t=some i/\i.zero=some z/\∀(G:Gh)(w:World),Rp G w x z:=by
 simp only[z1i6,L's]at h
 obtain⟨z,⟨i,h1,h2⟩,h3⟩:=h
 exact⟨i,z,h1,h2,fun G w=>zbt h3⟩
theorem z18j{P:Program}{t:TypeId}{i:TypeInfo}{z:Value}(h:P.info? t=some i)(hz:i.zero=some z)(w:World):(zeroValue t).run P w=.ok z w:=by
 simp[zeroValue,typeInfo,h,hz]
structure Made(G:Gh)(w w':World)(k:Blk)(res:Nat->PV)(v:Value):Prop where
grew:Grew w w'
ok:∃c cp,w.heap.size<=c/\∀b,Le G w (G.bind b (c,cp)) w'->BlkOk (G.bind b (c,cp)) w' c cp k/\Rp (G.bind b (c,cp)) w' (res b) v
section
variable {P:Program}{G:Gh}{w:World}{mem:List Blk}
theorem Made.push{w':World}{k:Blk}{res:Nat->PV}{v:Value}(h:Made G w w' k res v)(hG:Good G w mem) :
  ∃G',Good G' w' (mem++[k])/\Ext G w mem G' w' (mem++[k])/\Rp G' w' (res mem.length) v:=by
 obtain⟨c,cp,h1,h2⟩:=h.ok
 obtain⟨g1,g2⟩:=hG.push h.grew h1 (fun hl=>(h2 _ hl).1)
 exact⟨_,g1,g2,(h2 _ (g2.le hG)).2⟩
theorem z30{t:TypeId}{z:PV}(hz:z1i6 P t=some z)(hk:zw0 z.cells=true) :
  ∃v w',(Instr.alloc t true (.tuple #[])).run P w=.ok v w'/\Made G w w' (.box t z.cells) (fun b=>.ptr b 0) v:=by
 obtain⟨i,zv,h1,h2,h3⟩:=z1i7 hz
 refine⟨.pointer (some ⟨w.heap.size,0,none⟩),w.alloc (.cells zv.cells t),by simp[Instr.alloc,z18j h1 h2,newVar,newRow],.alloc w (.cells zv.cells t),w.heap.size,0,L'l _,fun b hl=>⟨⟨zv.cells,heap_alloc_new w (.cells zv.cells t),?_,hk⟩,?_⟩⟩
 ·exact(h3 _ _).cells hk
 ·exact⟨_,0,Gh.bind_same,rfl⟩
theorem z7e{t:TypeId}{x:PV}{v:Value}(hx:Rp G w x v)(hk:zw0 x.cells=true) :
  ∃v' w',(Instr.box t v).run P w=.ok v' w'/\Made G w w' (.box t x.cells) (fun b=>.ptr b 0) v':=by
 refine⟨.pointer (some ⟨w.heap.size,0,none⟩),w.alloc (.cells v.cells t),by simp[Instr.box,newVar,newRow],.alloc w (.cells v.cells t),w.heap.size,0,L'l _,fun b hl=>⟨⟨v.cells,heap_alloc_new w (.cells v.cells t),?_,hk⟩,?_⟩⟩
 ·exact RpL.mono hl (hx.cells hk)
 ·exact⟨_,0,Gh.bind_same,rfl⟩
theorem zhd{α:Type}(l:List α):∀(n i:Nat),i<n*l.length->(L'0 n l).flatten[i]?=l[i%l.length]?
 |0,i,h=>by simp at h
 |n+1,i,h=>by
  rw[List.replicate_succ,List.flatten_cons,List.getElem?_append]
  split
  ·rename_i hi;rw[Nat.mod_eq_of_lt hi]
  ·rename_i hi
   have h':i<n*l.length+l.length:=by rw[L'2,L'3]at h;exact h
   rw[zhd l n (i-l.length) (by omega)]
   congr 1
   exact(Nat.mod_eq_sub_mod (by omega)).symm
theorem zs6(z:Array Value)(n:Nat):(madeCells z (n*z.size)).toList=(L'0 n z.toList).flatten:=by
 apply List.ext_getElem?
 intro i
 by_cases hi:i<n*z.size
 ·rw[zhd z.toList n i (by simpa using hi)]
  have hz:0<z.size:=by
   rcases Nat.eq_zero_or_pos z.size with h|h
   ·simp[h]at hi
   ·exact h
  have hm:=Nat.mod_lt i hz
  simp[madeCells,hi,hm]
 ·rw[L'r,L'r]
  ·simp;omega
  ·simp[madeCells];omega
theorem mk_ok{t e:TypeId}{z:PV}{kd kd':IntKind}{n:Int}{fl:Bool}{sz:Nat}(ht:P.underlying t=some (.slice e))(hz:z1i6 P e=some z)(ho:okE fl sz z=true)(hsz:P.cellsOf e=sz)
  (hb:P.bytesOf e<=4096) (h0:0<=n) (hn:n<=zt4) :
  ∃v w',(Instr.makeSlice t (.int kd n) (.int kd' n)).run P w=.ok v w'/\Made G w w' (.row e fl sz (L'0 n.toNat z)) (fun b=>.ref b sz 0 n.toNat) v:=by
 obtain⟨i,zv,h1,h2,h3⟩:=z1i7 hz
 have hb':i.bytes<=4096:=by simpa [Program.bytesOf,h1]using hb
 have hs':i.size=sz:=by simpa [Program.cellsOf,h1]using hsz
 have hn':n<=68719476736:=hn
 have hbn:(i.bytes:Int)*n<=281474976710656:=by
  have e1:(i.bytes:Int)*n<=4096*n:=Int.mul_le_mul_of_nonneg_right (by omega) h0
  omega
 have hr:=run_make (P:=P) w t e i zv ht h1 h2 kd kd' n n h0 (Int.le_refl _) hbn (by omega)
 refine⟨_,_,hr,.alloc w _,w.heap.size,n.toNat,L'l _,fun b hl=>?_⟩
 have hzi:RpI (G.bind b (w.heap.size,n.toNat)).S (w.alloc (.cells (madeCells zv.cells (n.toNat*i.size)) e)) z zv:=(RpI.up ho).1 (h3 _ _)
 have hzs:=zwa hzi ho
 have hzs':zv.cells.size=i.size:=by simp at hzs;omega
 refine⟨rowOk (fun h=>by simpa using h) ⟨_,_,heap_alloc_new w _,by rw[size_madeCells,hs'],by simp,RpEs.replicate hzi ho _,?_⟩,⟨_,n.toNat,n.toNat,Gh.bind_same,by omega,L'l _,_,rfl,.inr (by simp)⟩⟩
 rw[<-hzs',zs6,L'e]
 have:=(RpEs.replicate hzi ho n.toNat).length
 omega
theorem zvn{e:TypeId}{fl:Bool}{sz:Nat}(A:Option Addr):Made G w w (.row e fl sz []) (fun b=>.ref b sz 0 0) (.slice A 0 0):=
⟨.refl w,w.heap.size,0,L'l _,fun b _=>⟨.inl ⟨rfl,rfl⟩,_,0,0,Gh.bind_same,rfl,L'l _,A,rfl,.inl rfl⟩⟩
theorem zvm{e:TypeId}{fl:Bool}{sz:Nat}:Made G w w (.row e fl sz []) (fun b=>.ref b sz 0 0) (.slice none 0 0):=zvn none
/-! ### Parts put into a row -/
theorem zhg(off:Nat):∀(vs:List Value)(k:Nat)(cs:Array Value),off+k+vs.length<=cs.size ->
  ((vs.zipIdx k).foldl (fun cs p=>cs.setIfInBounds (off+p.2) p.1) cs).toList=cs.toList.take (off+k)++vs++cs.toList.drop (off+k+vs.length)
 |[],k,cs,_=>by simp
 |v::rest,k,cs,h=>by
  simp only[M'2]at h
  rw[List.zipIdx_cons,List.foldl_cons,zhg off rest (k+1) _ (by simp;omega)]
  have:=list_seg_step cs.toList (off+k) v rest (by simp;omega)
  simp only[Array.toList_setIfInBounds,M'2]
  rw[show off+(k+1)=off+k+1 by omega]
  exact this
theorem zgb(cells:Array Value)(off:Nat)(v:Value)(h:off+v.cells.size<=cells.size) :
  (v.cells.zipIdx.foldl (fun cs (c,j)=>cs.setIfInBounds (off+j) c) cells).toList=cells.toList.take off++v.cells.toList++cells.toList.drop (off+v.cells.toList.length):=by
 have:=zhg off v.cells.toList 0 cells (by simpa using h)
 simp only[Nat.add_zero]at this
 rw[<-this,<-Array.foldl_toList]
 simp
theorem zgc(sz:Nat):∀(vs:List Value) (k:Nat) (cells:Array Value),(∀v∈vs,v.cells.size=sz)->(k+vs.length)*sz<=cells.size ->
  ∃out,Instr.fill (fun i=>some (i*sz,sz)) cells ((List.range' k vs.length).zip vs)=some out/\out.size=cells.size /\
   out.toList=cells.toList.take (k*sz)++vs.flatMap (fun v=>v.cells.toList)++cells.toList.drop ((k+vs.length)*sz)
 |[],k,cells,_,_=>⟨cells,by simp[Instr.fill],rfl,by simp⟩
 |v::vs,k,cells,h1,h2=>by
  have hv:=h1 v (by simp)
  have hmul:(k+1)*sz<=(k+(vs.length+1))*sz:=Nat.mul_le_mul_right _ (by omega)
  simp only[M'2]at h2
  have hle:k*sz+v.cells.size<=cells.size:=by rw[hv];rw[L'2,L'3]at hmul;omega
  have hone:=zgb cells (k*sz) v hle
  have hsz:(v.cells.zipIdx.foldl (fun cs (c,j)=>cs.setIfInBounds (k*sz+j) c) cells).size=cells.size:=by
   rw[<-Array.length_toList,hone]
   simp
   omega
  obtain⟨out,e1,e2,e3⟩:=zgc sz vs (k+1) (v.cells.zipIdx.foldl (fun cs (c,j)=>cs.setIfInBounds (k*sz+j) c) cells) (fun u hu=>h1 u (by simp[hu])) (by rw[hsz,show k+1+vs.length=k+(vs.length+1)by omega];exact h2)
  refine⟨out,?_,e2.trans hsz,?_⟩
  ·rw[M'2,List.range'_succ,List.zip_cons_cons,Instr.fill]
   have:¬(cells.size<k*sz+sz):=by rw[hv]at hle;omega
   simp[hv,this]
   simpa [hv]using e1
  ·have hvl:v.cells.toList.length=sz:=by simpa using hv
   rw[e3,hone,List.flatMap_cons,M'2,show k+1+vs.length=k+(vs.length+1)by omega]
   have t1:(cells.toList.take (k*sz)++v.cells.toList++cells.toList.drop (k*sz+v.cells.toList.length)).take ((k+1)*sz)=cells.toList.take (k*sz)++v.cells.toList:=by
    rw[List.take_append_of_le_length (by simp[hv];rw[L'2,L'3];omega),L'e]
    simp[hv];rw[L'2,L'3];omega
   have t2:(cells.toList.take (k*sz)++v.cells.toList++cells.toList.drop (k*sz+v.cells.toList.length)).drop ((k+(vs.length+1))*sz)=cells.toList.drop ((k+(vs.length+1))*sz):=by
    have hm2:(k+1)*sz<=(k+(vs.length+1))*sz:=hmul
    rw[L'2 k 1,L'3]at hm2
    rw[List.drop_append,L'a (by simp[hv];omega),M'3,List.drop_drop]
    congr 1
    simp[hv]
    omega
   rw[t1,t2]
   simp[List.append_assoc]
theorem z17b{fl:Bool}{sz:Nat}:∀{xs ys:List PV}{vs:List Value}{G:Gh}{mem mem':List Blk},Good G w mem->RpL G w xs vs->rowV fl sz mem xs=some (ys,mem') ->
  ∃G',Good G' w mem'/\Ext G w mem G' w mem'/\ys.length=xs.length/\(∀v∈vs,v.cells.size=sz)/\RpEs G'.S w fl sz ys (vs.flatMap fun v=>v.cells.toList)
 |[],ys,vs,G,mem,mem',hG,hx,h=>by
  simp only[rowV,Option.some.injEq,Prod.mk.injEq]at h
  obtain⟨rfl,rfl⟩:=h
  simp only[RpL]at hx;subst hx
  exact⟨G,hG,.refl G w mem,rfl,by simp,rfl⟩
 |x::xs,ys,vs,G,mem,mem',hG,hx,h=>by
  obtain⟨v,rest,rfl,h1,h2⟩:=hx
  simp only[rowV,L's]at h
  obtain⟨⟨y,m1⟩,h3,h4⟩:=h
  split at h4
  ·rename_i hok
   simp only[Option.map_eq_some_iff]at h4
   obtain⟨⟨ys',m2⟩,h5,h6⟩:=h4
   simp only[Prod.mk.injEq]at h6
   obtain⟨rfl,rfl⟩:=h6
   obtain⟨G1,g1,g2,g3⟩:=z12c hG h1 h3
   obtain⟨G2,k1,k2,k3,k4,k5⟩:=z17b g1 (RpL.mono (g2.le hG) h2) h5
   have hsz:=zwa g3 hok
   refine⟨G2,k1,g2.trans k2,by simp[k3],?_,?_⟩
   ·intro u hu
    rcases List.mem_cons.1 hu with rfl| hu
    ·simpa using hsz
    ·exact k4 u hu
   ·exact⟨v,_,by simp,RpI.mono (k2.le g1).I _ _ g3,hok,k5⟩
  ·cases h4
theorem z7k{t e:TypeId}{z:PV}{fl:Bool}{sz:Nat}{xs ys:List PV}{vs:List Value}{mem':List Blk}(hG:Good G w mem)(ht:P.underlying t=some (.slice e))(hz:z1i6 P e=some z)
  (hsz:P.cellsOf e=sz) (hbig:xs.length*sz<=2^24) (hx:RpL G w xs vs) (h:rowV fl sz mem xs=some (ys,mem')) :
  ∃v w' G',(Instr.buildSlice t xs.length ((L'1 xs.length).zip vs).toArray).run P w=.ok v w'/\Good G' w mem'/\Ext G w mem G' w mem'/\Made G' w w' (.row e fl sz ys) (fun b=>.ref b sz 0 ys.length) v:=by
 obtain⟨i,zv,h1,h2,h3⟩:=z1i7 hz
 have hs':i.size=sz:=by simpa [Program.cellsOf,h1]using hsz
 obtain⟨G',g1,g2,g3,g4,g5⟩:=z17b hG hx h
 have hvl:=hx.length
 have hsize:(sizeOf e).run P w=.ok sz w:=by simp[sizeOf,typeInfo,h1,hs']
 have key:∀zs:Array Value,zs.size=xs.length*sz->Instr.fill (fun i=>some (i*sz,sz)) zs ((L'1 xs.length).zip vs)=some (vs.flatMap fun v=>v.cells.toList).toArray:=by
  intro zs hzl
  obtain⟨out,e1,e2,e3⟩:=zgc sz vs 0 zs g4 (by rw[Nat.zero_add,hvl];omega)
  rw[<-hvl,List.range_eq_range',e1]
  congr 1
  apply Array.ext'
  rw[e3]
  simp only[Nat.zero_mul,List.take_zero,M'3,Nat.zero_add]
  rw[L'a (by simp[hzl,hvl]),List.append_nil]
 have hg5:=g5.length
 refine⟨.slice (some ⟨w.heap.size,0,none⟩) xs.length xs.length,w.alloc (.cells (vs.flatMap fun v=>v.cells.toList).toArray e),G',?_,g1,g2,.alloc w _,w.heap.size,xs.length,L'l _,fun b hl=>⟨rowOk (fun h=>by rw[<-g3,h];rfl) ⟨_,_,heap_alloc_new w _,by rw[List.size_toArray,hg5,g3],by omega,RpEs.mono hl.I _ _ _ _ g5,?_⟩,⟨_,xs.length,xs.length,Gh.bind_same,by omega,by omega,_,by rw[g3],.inr (by simp)⟩⟩⟩
 ·have hnot:¬(2^24<xs.length*sz):=by omega
  by_cases h0:xs.length*sz=0
  ·unfold Instr.buildSlice
   simp only[Sem.run_bind,z18i ht,Result.andThen_ok,hsize,Sem.run_ite]
   rw[if_neg (by simpa using hnot),if_pos h0]
   simp only[Sem.run_bind,Sem.run_pure,Result.andThen_ok]
   rw[key _ (by simp)]
   simp[newRow]
  ·unfold Instr.buildSlice
   simp only[Sem.run_bind,z18i ht,Result.andThen_ok,hsize,Sem.run_ite]
   rw[if_neg (by simpa using hnot),if_neg h0]
   simp only[Sem.run_bind,Sem.run_pure,Result.andThen_ok,z18j h1 h2]
   rw[key _ (by simp)]
   simp[newRow]
 ·rw[List.toList_toArray,L'e (by omega)]
end
end Go.Proofs.YtbaclnecajkknaaGreat.Pi

