/- Pi: drawn regions: allocations whenever they come. -/
import Derived.Test.YtbaclnecajkknaaGreatPiDr
open Option renaming bind_eq_some_iff->L's,map_eq_some_iff->M'0
open List renaming range->L'1,append_eq_nil_iff->M'f
open Nat renaming zero_add->M'6
namespace Go.Proofs.YtbaclnecajkknaaGreat.Pi
open Go
set_option linter.all false

section
variable {P:Program}{G:Gh}{w:World}{mem:List Blk}{a:Act}{rs fr:List PV}{c:Ctx}
theorem z12n{mem mem':List Blk}{x y:PV}{v:Value}(hx:x.refs=[])(hr:Rp G w x v)(h:pub mem x=some (y,mem')):RpI G.S w y v:=by
 cases x<;>simp only[pub]at h<;>first
  |(cases h;done)
  |(cases h;exact hr)
  |(cases h;exact⟨none,0,[],hr,by simp,rfl,fun _=>rfl,.inl rfl⟩)
  |(simp[PV.refs]at hx)
theorem z12i:∀{xs ys:List PV}{vs:List Value}{mem mem':List Blk},refsL xs=[]->RpL G w xs vs->pubL mem xs=some (ys,mem')->RpIL G.S w ys vs
 |[],ys,vs,mem,mem',_,hr,h=>by
  simp only[pubL,Option.some.injEq,Prod.mk.injEq]at h
  obtain⟨rfl,rfl⟩:=h
  exact hr
 |x::xs,ys,vs,mem,mem',hx,hr,h=>by
  simp only[refsL,M'f]at hx
  simp only[pubL,L's,M'0,Prod.mk.injEq]at h
  obtain⟨⟨y,m1⟩,h1,⟨⟨ys',m2⟩,h2,rfl,rfl⟩⟩:=h
  obtain⟨v,rest,rfl,r1,r2⟩:=hr
  exact⟨v,rest,rfl,z12n hx.1 r1 h1,z12i hx.2 r2 h2⟩
theorem z129{mem mem':List Blk}{x y:PV}{v:Value}(hx:x.refs=[])(hr:Rp G w x v)(h:pubE mem x=some (y,mem')):RpI G.S w y v:=by
 by_cases hq:∃cs,x=.agg cs
 ·obtain⟨cs,rfl⟩:=hq
  simp only[pubE,M'0,Prod.mk.injEq]at h
  obtain⟨⟨ys,m1⟩,h1,rfl,rfl⟩:=h
  obtain⟨vs,rfl,r⟩:=hr
  exact⟨vs,rfl,z12i (by simpa [PV.refs]using hx) r h1⟩
 ·have hq:∀cs,x≠.agg cs:=fun cs e=>hq ⟨cs,e⟩
  have he:∀m,pubE m x=pub m x:=by intro m;cases x<;>first|rfl|exact absurd rfl (hq _)
  rw[he]at h
  exact z12n hx hr h
theorem z179{fl:Bool}{sz:Nat}:∀{xs ys:List PV}{vs:List Value}{mem mem':List Blk},refsL xs=[]->RpL G w xs vs->rowV fl sz mem xs=some (ys,mem') ->
  ys.length=xs.length/\(∀v∈vs,v.cells.size=sz)/\RpEs G.S w fl sz ys (vs.flatMap fun v=>v.cells.toList)
 |[],ys,vs,mem,mem',_,hr,h=>by
  simp only[rowV,Option.some.injEq,Prod.mk.injEq]at h
  obtain⟨rfl,rfl⟩:=h
  simp only[RpL]at hr;subst hr
  exact⟨rfl,by simp,rfl⟩
 |x::xs,ys,vs,mem,mem',hx,hr,h=>by
  simp only[refsL,M'f]at hx
  obtain⟨v,rest,rfl,r1,r2⟩:=hr
  simp only[rowV,L's]at h
  obtain⟨⟨y,m1⟩,h1,h2⟩:=h
  split at h2
  ·rename_i hok
   simp only[M'0,Prod.mk.injEq]at h2
   obtain⟨⟨ys',m2⟩,h3,rfl,rfl⟩:=h2
   have q:=z129 hx.1 r1 h1
   obtain⟨k1,k2,k3⟩:=z179 hx.2 r2 h3
   have hsz:=zwa q hok
   refine⟨by simp[k1],?_,v,_,by simp,q,hok,k3⟩
   intro u hu
   rcases List.mem_cons.1 hu with rfl| hu
   ·simpa using hsz
   ·exact k2 u hu
  ·cases h2
theorem z7j{t e:TypeId}{z:PV}{fl:Bool}{sz n:Nat}{ys:List PV}{vs:List Value}(ht:P.underlying t=some (.slice e))(hz:z1i6 P e=some z)
  (hsz:P.cellsOf e=sz) (hbig:n*sz<=2^24) (hvl:vs.length=n) (g3:ys.length=n) (g4:∀v∈vs,v.cells.size=sz) (g5:RpEs G.S w fl sz ys (vs.flatMap fun v=>v.cells.toList)) :
  ∃v w',(Instr.buildSlice t n ((L'1 n).zip vs).toArray).run P w=.ok v w'/\Made G w w' (.row e fl sz ys) (fun b=>.ref b sz 0 ys.length) v:=by
 obtain⟨i,zv,h1,h2,h3⟩:=z1i7 hz
 have hs':i.size=sz:=by simpa [Program.cellsOf,h1]using hsz
 have hsize:(sizeOf e).run P w=.ok sz w:=by simp[sizeOf,typeInfo,h1,hs']
 have key:∀zs:Array Value,zs.size=n*sz->Instr.fill (fun i=>some (i*sz,sz)) zs ((L'1 n).zip vs)=some (vs.flatMap fun v=>v.cells.toList).toArray:=by
  intro zs hzl
  obtain⟨out,e1,e2,e3⟩:=zgc sz vs 0 zs g4 (by rw[M'6,hvl];omega)
  rw[<-hvl,List.range_eq_range',e1]
  congr 1
  apply Array.ext'
  rw[e3]
  simp only[Nat.zero_mul,List.take_zero,List.nil_append,M'6]
  rw[List.drop_of_length_le (by simp[hzl,hvl]),List.append_nil]
 have hg5:=g5.length
 refine⟨.slice (some ⟨w.heap.size,0,none⟩) n n,w.alloc (.cells (vs.flatMap fun v=>v.cells.toList).toArray e),?_,.alloc w _,w.heap.size,n,Nat.le_refl _,fun b hl=>⟨rowOk (fun h=>by rw[<-g3,h];rfl) ⟨_,_,heap_alloc_new w _,by rw[List.size_toArray,hg5,g3],by omega,RpEs.mono hl.I _ _ _ _ g5,?_⟩,⟨_,n,n,Gh.bind_same,by omega,by omega,_,by rw[g3],.inr (by simp)⟩⟩⟩
 ·have hnot:¬(2^24<n*sz):=by omega
  by_cases h0:n*sz=0
  ·unfold Instr.buildSlice
   simp only[Sem.run_bind,z18i ht,Result.andThen_ok,hsize,Sem.run_ite]
   rw[if_neg (by simpa using hnot),if_pos h0]
   simp only[Sem.run_pure,Result.andThen_ok]
   rw[key _ (by simp)]
   simp[newRow]
  ·unfold Instr.buildSlice
   simp only[Sem.run_bind,z18i ht,Result.andThen_ok,hsize,Sem.run_ite]
   rw[if_neg (by simpa using hnot),if_neg h0]
   simp only[Sem.run_pure,Result.andThen_ok,z18j h1 h2]
   rw[key _ (by simp)]
   simp[newRow]
 ·rw[List.toList_toArray,List.take_of_length_le (by omega)]
theorem zxt{orc:Orc}(hr:RelO G w c a rs fr){mf:Md}{q:Bool}{o:Oper}{iop:IOp}(hA:isA iop=true)
  (h:opOf P mf q c o=some iop) {v:PV} {mem':List Blk} (hs:z1cm orc rs fr mem iop=some (v,mem')) :
  ∃v' w' k res,(execOp a.eval o).run P w=.ok (.value v') w'/\Made G w w' k res v'/\v=res mem.length/\mem'=mem++[k]:=by
 obtain⟨dst,op,type,pos,after,guard⟩:=o
 cases op<;>simp only[opOf]at h<;>try(cases h;done)
 case assign x=>
  split at h
  ·rename_i e he
   cases h
   split at hA
   ·cases hA
   rename_i hml
   rw[if_neg hml]at hs
   simp only[z1cm,Option.some.injEq,Prod.mk.injEq]at hs
   obtain⟨rfl,rfl⟩:=hs
   have hx:x=.const (.slice none 0 0):=by
    unfold nilOf at he
    split at he
    ·rfl
    ·cases he
   subst hx
   exact⟨.slice none 0 0,w,_,_,by simp[execOp,Act.eval],zvm,rfl,rfl⟩
  ·simp only[M'0]at h
   obtain⟨ox,h1,rfl⟩:=h
   simp[isA]at hA
 case move x=>
  split at h
  ·rename_i e he
   cases h
   split at hA
   ·cases hA
   rename_i hml
   rw[if_neg hml]at hs
   simp only[z1cm,Option.some.injEq,Prod.mk.injEq]at hs
   obtain⟨rfl,rfl⟩:=hs
   have hx:x=.const (.slice none 0 0):=by
    unfold nilOf at he
    split at he
    ·rfl
    ·cases he
   subst hx
   exact⟨.slice none 0 0,w,_,_,by simp[execOp,Act.eval],zvm,rfl,rfl⟩
  ·simp only[M'0]at h
   obtain⟨ox,h1,rfl⟩:=h
   simp[isA]at hA
 case alloc t=>
  simp only[L's]at h
  obtain⟨z,h1,h2⟩:=h
  split at h2
  ·rename_i hk;cases h2
   simp only[z1cm,Option.some.injEq,Prod.mk.injEq]at hs
   obtain⟨rfl,rfl⟩:=hs
   obtain⟨v',w',e1,e2⟩:=z30 (G:=G) (w:=w) h1 hk
   exact⟨v',w',_,_,by simp[execOp,e1],e2,rfl,rfl⟩
  ·cases h2
 case box t x=>
  simp only[M'0]at h
  obtain⟨ox,h1,rfl⟩:=h
  simp only[z1cm,L's]at hs
  obtain⟨y,e1,e2⟩:=hs
  split at e2
  ·rename_i hk;cases e2
   obtain⟨v',w',f1,f2⟩:=z7e (P:=P) (t:=t) (zy3 hr h1 e1) hk.2
   exact⟨v',w',_,_,by simp[execOp,f1],f2,rfl,rfl⟩
  ·cases e2
 case makeSlice t l cp=>
  split at h
  case isFalse=>cases h
  rename_i hsame
  simp only[L's]at h
  obtain⟨e,h1,z,h2,ol,h3,h4⟩:=h
  split at h4
  case isFalse=>cases h4
  rename_i hk
  simp only[Bool.and_eq_true,decide_eq_true_eq]at hk
  cases h4
  split at hA
  ·cases hA
  rename_i hml
  rw[if_neg hml]at hs
  simp only[z1cm]at hs
  split at hs
  ·rename_i k n e1
   split at hs
   ·rename_i hn
    cases hs
    have hl:=(zy3 hr h3 e1).int_inv
    have hcp:∃k',a.eval cp=.int k' n:=by
     unfold z18u at hsame
     split at hsame
     ·rename_i s1 s2
      have:s1=s2:=by simpa using hsame
      subst this;exact⟨k,hl⟩
     ·rename_i k1 n1 k2 n2
      have:n1=n2:=by simpa using hsame
      subst this
      have hl:Value.int k1 n1=.int k n:=hl
      cases hl;exact⟨k2,rfl⟩
     ·cases hsame
    obtain⟨k',hcp⟩:=hcp
    obtain⟨v',w',f1,f2⟩:=mk_ok (G:=G) (w:=w) (kd:=k) (kd':=k') (zdh h1) h2 hk.1 rfl hk.2 hn.1 hn.2
    exact⟨v',w',_,_,by simp[execOp,hl,hcp,f1],f2,rfl,rfl⟩
   ·cases hs
  ·cases hs
 case buildSlice t len parts=>
  simp only[L's]at h
  obtain⟨e,h1,h2⟩:=h
  split at h2
  case isFalse=>cases h2
  rename_i hk
  obtain⟨hk1,hk2,hk3⟩:=hk
  simp only[M'0]at h2
  obtain⟨ps,h3,rfl⟩:=h2
  split at hA
  ·cases hA
  rename_i hml
  rw[if_neg hml]at hs
  simp only[isA]at hA
  subst hA
  simp only[z1cm,L's]at hs
  obtain⟨ys,e1,e2⟩:=hs
  split at e2
  ·cases e2
  rename_i hc
  simp only[M'0,Prod.mk.injEq]at e2
  obtain⟨⟨zs,m⟩,e3,rfl,rfl⟩:=e2
  have hrf:refsL ys=[]:=by simpa using hc
  obtain⟨z,hz⟩:=Option.isSome_iff_exists.1 hk3
  have hl:=zrn (P:=P) hr (fun p:Nat×Operand=>p.2) (fun _=>e) parts.toList ps ys h3 e1
  have hlen:ys.length=len:=by
   have q1:=hl.length
   have q2:(parts.toList.map (·.1)).length=(L'1 len).length:=by rw[hk1]
   simp at q1 q2
   omega
  subst hlen
  obtain⟨rfl,_⟩:=z17c hrf e3
  obtain⟨k1,k2,k3⟩:=z179 hrf hl e3
  obtain⟨v',w',f1,f2⟩:=z7j (P:=P) (w:=w) (zdh h1) hz rfl hk2 hl.length k1 k2 k3
  have hparts:(parts.map fun(i,x)=>(i,a.eval x))=((L'1 ys.length).zip (parts.toList.map fun p=>a.eval p.2)).toArray:=by
   apply Array.ext'
   rw[<-hk1]
   simp[List.zip_map']
  exact⟨v',w',_,_,by simp only[execOp,Sem.run_bind,hparts,f1];rfl,f2,rfl,rfl⟩
 all_goals
  exfalso
  clear hs hr
  (repeat' split at h)
  all_goals first
   |(cases h;done)
   |(simp only[L's,M'0,Option.some.injEq]at h;grind [isA])
   |(simp only[L's]at h;obtain⟨_,_,h⟩:=h;(repeat' split at h)<;>first| (cases h;done)|(cases h;simp[isA]at hA;done)|(simp only[L's,M'0,Option.some.injEq]at h;grind [isA]))
end
end Go.Proofs.YtbaclnecajkknaaGreat.Pi

