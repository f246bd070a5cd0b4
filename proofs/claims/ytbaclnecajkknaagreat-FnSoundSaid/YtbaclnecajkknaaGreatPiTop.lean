/- Pi: calls, to any depth. -/
import Derived.Test.YtbaclnecajkknaaGreatPiCode
open Option renaming bind_eq_some_iff->L's,map_eq_some_iff->M'0
open List renaming mapM_cons->M'm
namespace Go.Proofs.YtbaclnecajkknaaGreat.Pi
open Go
set_option linter.all false

section
variable {P:Program}{G:Gh}{w:World}
theorem z16l{slots:List Nat}{N:Nat}{st:St}{a:Act}(hr:RelS slots N G w st a):∀(l:List ResultVar)(rs:List IRes)(xs:List PV),l.mapM (resOf P slots)=some rs->resL st rs=some xs ->
  ∃vs,(l.mapM (m:=Sem) fun
   |.tmp t=>pure (a.tmps.getD t undef)
   |.cell b t=>do loadVar t (<-asAddr (a.tmps.getD b undef))).run P w=.ok vs w/\RpL G w xs vs
 |[],rs,xs,h,hx=>by
  simp at h;subst h
  simp only[resL,Option.some.injEq]at hx;subst hx
  exact⟨[],rfl,rfl⟩
 |r::l,rs,xs,h,hx=>by
  rw[M'm]at h
  simp only[Option.pure_def,Option.bind_eq_bind,L's]at h
  obtain⟨i,h1,is,h2,h3⟩:=h
  cases h3
  simp only[resL,L's,M'0]at hx
  obtain⟨x,e1,xs',e2,rfl⟩:=hx
  obtain⟨vs,f1,f2⟩:=z16l hr l is xs' h2 e2
  have one:∃v,((match r with
   |.tmp t=>pure (a.tmps.getD t undef)
   |.cell b t=>do loadVar t (<-asAddr (a.tmps.getD b undef)):Sem Value)).run P w=.ok v w/\Rp G w x v:=by
   cases r with
   |tmp t=>
    simp only[resOf,M'0]at h1
    obtain⟨j,k1,rfl⟩:=h1
    exact⟨_,rfl,hr.fr j t x (idxOf?_some k1) e1⟩
   |cell b t=>
    simp only[resOf]at h1
    split at h1
    case isFalse=>cases h1
    rename_i ht
    simp only[M'0]at h1
    obtain⟨j,k1,rfl⟩:=h1
    simp only[resV,L's]at e1
    obtain⟨p,e3,e4⟩:=e1
    have hp:=hr.fr j b p (idxOf?_some k1) e3
    obtain⟨cs,us,c,o,off,g1,g2,g3,g4⟩:=zrx hr.good hp e4
    obtain⟨v',g5,g6⟩:=z18e (P:=P) ht g2 g3 g4
    refine⟨v',?_,g6⟩
    simp only[Sem.run_bind,g1,asAddr,Sem.run_pure,Result.andThen_ok,g5]
  obtain⟨v,q1,q2⟩:=one
  refine⟨v::vs,?_,v,vs,rfl,q2,f2⟩
  rw[M'm,Sem.run_bind]
  rw[q1,Result.andThen_ok,Sem.run_bind,f1,Result.andThen_ok]
  rfl
theorem z16m{slots:List Nat}{N:Nat}{st:St}{a:Act}{fn:Func}(hr:RelS slots N G w st a){rs:List IRes}{xs:List PV}(h:fn.results.toList.mapM (resOf P slots)=some rs)(hx:resL st rs=some xs) :
  ∃vs,(results fn a.tmps).run P w=.ok (pack vs) w/\RpL G w xs vs:=by
 obtain⟨vs,h1,h2⟩:=z16l hr _ _ _ h hx
 refine⟨vs,?_,h2⟩
 unfold results
 rw[Sem.run_bind,Array.mapM_eq_mapM_toList]
 simp only[Functor.map,Sem.run_bind']
 erw [h1]
 simp only[Result.andThen_ok,Function.comp,Sem.run_pure',Sem.run_pure]
 congr 1
 unfold pack
 split
 ·rename_i hs
  cases vs with
  |nil=>simp at hs
  |cons v vs=>cases vs with
   |nil=>rfl
   |cons _ _=>simp at hs
 ·rename_i hs
  cases vs with
  |nil=>rfl
  |cons v vs=>cases vs with
   |nil=>simp at hs
   |cons _ _=>rfl
def ExtOk(P:Program)(f:FuncId)(e:List PV->Option PV):Prop:=
z06 P f/\∀args r,e args=some r->∀G w vargs,Good G w []->RpL G w args vargs ->
 Calls P f (List.toArray vargs) w fun e w1=>match e with| .returned v=>Post G w [] r [] v w1|_=>False
theorem z85{F:FuncId->Option IFun}{ext:FuncId->Option (List PV->Option PV)}(hF:∀f ir,F f=some ir->∃fn mf,P.funcs[f]?=some fn/\zbq P mf fn=some ir)
  (hE:∀f e,ext f=some e->ExtOk P f e) (hD:∀orc mf m n,OrcOk P orc->z05 P orc mf m n):∀n,OrcOk P (callN F ext n)
 |0=>by intro f args M r M1 h;simp[callN]at h
 |n+1=>by
  have ih:=z85 hF hE hD n
  intro f args M r M1 h
  simp only[callN]at h
  split at h
  ·rename_i e he
   obtain⟨h1,h2⟩:=hE f e he
   refine⟨h1,?_⟩
   split at h
   case isFalse=>cases h
   rename_i hM
   have hM:M=[]:=by simpa using hM
   subst hM
   simp only[M'0,Prod.mk.injEq]at h
   obtain⟨r',h3,rfl,rfl⟩:=h
   exact h2 args r' h3
  ·simp only[L's]at h
   obtain⟨ir,h1,h2⟩:=h
   obtain⟨fn,mf,h3,h4⟩:=hF f ir h1
   simp only[zbq,L's]at h4
   obtain⟨body,h5,h6⟩:=h4
   split at h6
   case isFalse=>cases h6
   rename_i hk
   simp only[Bool.and_eq_true,Bool.not_eq_true']at hk
   simp only[L's,M'0]at h6
   obtain⟨ib,h7,rs,h8,rfl⟩:=h6
   refine⟨⟨fn,h3,by simp[h5],hk.2⟩,?_⟩
   intro G w vargs hG hx
   generalize hsl:uniq _=slots at hk h7 h8 h2
   have hnd:=zvr hk.1
   have hcode:=zbh (m:=M.length) (n:=n) (slots:=slots) ih (hD _ _ _ _ ih) hnd body _ _ ib h7
   have hlen:=hx.length
   have start_ok:RelS slots fn.ntmps G w ⟨start ⟨slots,ib,rs⟩ args,M⟩ {tmps:=vargs.toArray++Array.replicate (fn.ntmps-vargs.toArray.size) undef,defers:=[]}:=by
    refine⟨hG,?_,by simp[start],by simp;omega,rfl⟩
    intro i s y hi hy
    simp only[start,List.getElem?_map,hi,Option.map_some,Option.some.injEq]at hy
    subst hy
    rw[Array.getD_eq_getD_getElem?,Array.getElem?_append,List.getD_eq_getElem?_getD]
    split
    ·rename_i hs
     have hs:s<vargs.length:=by simpa using hs
     have hsa:args[s]?=some args[s]:=List.getElem?_eq_getElem (by omega)
     obtain⟨v,k1,k2⟩:=hx.get s hsa
     simp[hsa,k1]
     exact k2
    ·rename_i hs
     have hs:vargs.length<=s:=by simpa using hs
     rw[List.getElem?_eq_none (by omega)]
     simp only[Option.getD_none]
     rw[Array.getElem?_replicate]
     split<;>rfl
   have fin:∀(st:St),zgq M.length rs st=some (r,M1)->∀G' w' a',Xe M.length G w M G' w' st.mem->RelS slots fn.ntmps G' w' st a' ->
     a'.defers=[]/\∃v,(results fn a'.tmps).run P w'=.ok v w'/\Post G w M r M1 v w':=by
    intro st hf G' w' a' x s
    refine⟨s.defers,?_⟩
    cases hr:resL st rs with
    |none=>simp[zgq,hr]at hf
    |some xs=>
     obtain⟨vs,q1,q2⟩:=z16m s h8 hr
     exact⟨_,q1,zgs rfl s.good x.toWx x.ids hr q2 hf⟩
   refine calls_of_wp h3 h5 ?_
   cases hexec:exec (callN F ext n) M.length n ib ⟨start ⟨slots,ib,rs⟩ args,M⟩with
   |none=>rw[hexec]at h2;cases h2
   |some out=>
    rw[hexec]at h2
    refine hcode _ out hexec G w _ start_ok (Nat.le_refl _) _ ?_
    intro G' w' a' st' hs x s
    cases out with
    |next st0=>cases hs;exact fin _ h2 G' w' a' x s
    |ret st0=>cases hs;exact fin _ h2 G' w' a' x s
    |exit id st=>cases h2
end
end Go.Proofs.YtbaclnecajkknaaGreat.Pi

