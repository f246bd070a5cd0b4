/- Pi: each operation of a function against its form. -/
import Derived.Test.YtbaclnecajkknaaGreatPiQu
open Option renaming map_eq_some_iff->M'0,bind_eq_some_iff->L's,pure_def->M'p,bind_eq_bind->M'q
open List renaming idxOf?_eq_some_iff->N'a,mapM_cons->M'm
namespace Go.Proofs.YtbaclnecajkknaaGreat.Pi
open Go
set_option linter.all false

structure RelO(G:Gh)(w:World)(c:Ctx)(a:Act)(rs fr:List PV):Prop where
fr:∀(i s:Nat)(y:PV),c.slots[i]?=some s->fr[i]?=some y->Rp G w y (a.tmps.getD s undef)
rs:∀(j s:Nat)(y:PV),c.ops[j]?=some (some s)->rs[j]?=some y->Rp G w y (a.tmps.getD s undef)
def OpOk(P:Program)(o:Oper)(a:Act)(G:Gh)(w:World)(mem:List Blk)(v:PV)(mem':List Blk):Prop:=
∀(K:Act->World->Prop)(Q:Exit->Act->World->Prop),(∀G' w' v',Good G' w' mem'->Ext G w mem G' w' mem'->Rp G' w' v v'->K (a.put o.dst v') w')->o.wp P a w K Q
section
variable {P:Program}{G:Gh}{w:World}{mem:List Blk}{a:Act}{rs fr:List PV}{c:Ctx}
theorem OpOk.value{o:Oper}{v:PV}{mem':List Blk}{G':Gh}{w':World}{v':Value}(h:(execOp a.eval o).run P w=.ok (.value v') w')(g:Good G' w' mem')(e:Ext G w mem G' w' mem')(r:Rp G' w' v v'):OpOk P o a G w mem v mem':=by
 intro K Q hK
 unfold Oper.wp
 rw[h]
 exact hK G' w' v' g e r
theorem OpOk.same{o:Oper}{v:PV}{v':Value}(hG:Good G w mem)(h:(execOp a.eval o).run P w=.ok (.value v') w)(r:Rp G w v v'):OpOk P o a G w mem v mem:=.value h hG (.refl G w mem) r
theorem OpOk.skip{o:Oper}{mem':List Blk}{G':Gh}{w':World}(h:(execOp a.eval o).run P w=.ok .skip w')(g:Good G' w' mem')(e:Ext G w mem G' w' mem'):OpOk P o a G w mem .undef mem':=by
 intro K Q hK
 unfold Oper.wp
 rw[h]
 exact hK G' w' undef g e rfl
theorem OpOk.call{o:Oper}{f:FuncId}{args:Array Value}{v:PV}{mem':List Blk}(h:(execOp a.eval o).run P w=.ok (.enter f args) w)
  (hc:Calls P f args w fun e w1=>match e with| .returned v'=>∃G',Good G' w1 mem'/\Ext G w mem G' w1 mem'/\Rp G' w1 v v'|_=>False):OpOk P o a G w mem v mem':=by
 intro K Q hK
 unfold Oper.wp
 rw[h]
 refine Calls.mono hc ?_
 intro e w1 he
 cases e with
 |returned v'=>obtain⟨G',g,x,r⟩:=he;exact hK G' w1 v' g x r
 |panicked _=>exact he.elim
 |outgrown=>exact he.elim
theorem zy3(hr:RelO G w c a rs fr){t:TypeId}{x:Operand}{o:Opd}(h:opdOf P c t x=some o){y:PV}(he:ev rs fr o=some y):Rp G w y (a.eval x):=by
 cases x with
 |tmp s=>
  simp only[opdOf]at h
  split at h
  ·rename_i i hi
   cases h
   have hs:c.slots[i]?=some s:=by
    obtain⟨hl,hb⟩:=N'a.1 hi
    simp_all
   exact hr.fr i s y hs he
  ·simp only[M'0]at h
   obtain⟨j,hj,rfl⟩:=h
   have hs:c.ops[j]?=some (some s):=by
    obtain⟨hl,hb⟩:=N'a.1 hj
    simp_all
   exact hr.rs j s y hs he
 |const v=>
  simp only[opdOf,M'0]at h
  obtain⟨z,h1,rfl⟩:=h
  simp only[ev,Option.some.injEq]at he
  subst he
  exact zbt h1
 |func f=>
  simp only[opdOf,Option.some.injEq]at h
  subst h
  simp only[ev,Option.some.injEq]at he
  subst he
  exact⟨[],rfl,rfl⟩
 |global g=>simp[opdOf]at h
theorem zzs(hr:RelO G w c a rs fr){t:TypeId}{x:Option Operand}{o:Option Opd}(h:(match x with| none=>some none|some y=>(opdOf P c t y).map some)=some o){y:Option PV}(he:opt (ev rs fr) o=some y):Bd G w y (x.map a.eval):=by
 cases x with
 |none=>
  simp only[Option.some.injEq]at h;subst h
  simp only[opt,Option.some.injEq]at he;subst he
  trivial
 |some x=>
  simp only[M'0]at h
  obtain⟨o',h1,rfl⟩:=h
  simp only[opt,M'0]at he
  obtain⟨y',h2,rfl⟩:=he
  exact zy3 hr h1 h2
theorem z46(hr:RelO G w c a rs fr):∀(xs:List Operand)(ts:List TypeId)(os:List Opd)(ys:List PV),xs.length=ts.length->((xs.zip ts).mapM fun p=>opdOf P c p.2 p.1)=some os->evL rs fr os=some ys->RpL G w ys (xs.map a.eval)
 |[],ts,os,ys,hl,h,he=>by
  simp at h;subst h
  simp only[evL,Option.some.injEq]at he;subst he
  rfl
 |x::xs,[],os,ys,hl,h,he=>by simp at hl
 |x::xs,t::ts,os,ys,hl,h,he=>by
  rw[List.zip_cons_cons,M'm]at h
  simp only[M'p,M'q,L's]at h
  obtain⟨o,h1,os',h2,h3⟩:=h
  cases h3
  simp only[evL,L's,M'0]at he
  obtain⟨y,e1,ys',e2,rfl⟩:=he
  exact⟨_,_,rfl,zy3 hr h1 e1,z46 hr xs ts os' ys' (by simpa using hl) h2 e2⟩
theorem zrn(hr:RelO G w c a rs fr){α:Type}(f:α->Operand)(g:α->TypeId):∀(xs:List α) (os:List Opd) (ys:List PV),(xs.mapM fun p=>opdOf P c (g p) (f p))=some os->evL rs fr os=some ys->RpL G w ys (xs.map fun p=>a.eval (f p))
 |[],os,ys,h,he=>by
  simp at h;subst h
  simp only[evL,Option.some.injEq]at he;subst he
  rfl
 |x::xs,os,ys,h,he=>by
  rw[M'm]at h
  simp only[M'p,M'q,L's]at h
  obtain⟨o,h1,os',h2,h3⟩:=h
  cases h3
  simp only[evL,L's,M'0]at he
  obtain⟨y,e1,ys',e2,rfl⟩:=he
  exact⟨_,_,rfl,zy3 hr h1 e1,zrn hr f g xs os' ys' h2 e2⟩
theorem z18a {f : FuncId} (he : z06 P f) (args : Array Value) (w : World) : (callFunc f args).run P w = .ok (.enter f args) w := by
  obtain ⟨fn, h1, h2, h3⟩ := he
  have h3' : ¬ fn.name = "runtime.NumGoroutine" := by simpa using h3
  have h2' : ¬ fn.body = none := by intro e; simp [e] at h2
  simp [callFunc, h1, h3', h2']

theorem z8e{o:Oper}{cl:Go.Call}{f:Operand}{g:FuncId}{caps:Array Value}(ho:o.op=.call cl)(hc:cl.callee=.value f)(hf:a.eval f=.func (.func g) #[] caps)(he:z06 P g) :
  (execOp a.eval o).run P w=.ok (.enter g (cl.args.map a.eval++caps)) w:=by
 simp[execOp,ho,resolve,hc,hf,Deferred.ofValue,invoke,z18a he]
theorem z8h{orc:Orc}(ho:OrcOk P orc)(hG:Good G w mem)(hr:RelO G w c a rs fr){mf:Md}{q:Bool}{o:Oper}{cl:Go.Call}{f:Operand}(hop:o.op=.call cl)(hcl:cl.callee=.value f){iop:IOp}
  (h:opOf P mf q c o=some iop){v:PV}{mem':List Blk}(hs:z1cm orc rs fr mem iop=some (v,mem')):OpOk P o a G w mem v mem':=by
 simp only[opOf,hop,hcl,L's]at h
 obtain⟨os,h1,h2⟩:=h
 split at h2
 case isFalse=>cases h2
 rename_i hsz
 have hlen:cl.args.toList.length=cl.argTypes.toList.length:=by simpa using hsz
 have hmap:(cl.args.map a.eval)=(cl.args.toList.map a.eval).toArray:=by apply Array.ext';simp
 split at h2
 ·rename_i g
  simp only[Option.some.injEq]at h2
  have hf:a.eval (.func g)=.func (.func g) #[] #[]:=rfl
  split at h2
  ·subst h2
   simp only[z1cm,L's]at hs
   obtain⟨ys,h3,h4⟩:=hs
   obtain⟨e1,e2⟩:=z83 ho hG (z46 hr _ _ _ _ hlen h1 h3) h4
   have:=z8e (w:=w) hop hcl hf e1
   rw[Array.append_empty,hmap]at this
   exact .call this e2
  ·subst h2
   simp only[z1cm,L's]at hs
   obtain⟨ys,h3,h4⟩:=hs
   obtain⟨e1,e2⟩:=z8c ho hG (z46 hr _ _ _ _ hlen h1 h3) h4
   have:=z8e (w:=w) hop hcl hf e1
   rw[Array.append_empty,hmap]at this
   exact .call this e2
 ·rename_i f' hnf
  simp only[M'0]at h2
  obtain⟨x,h2,rfl⟩:=h2
  simp only[z1cm]at hs
  split at hs
  ·rename_i g caps hx
   simp only[L's]at hs
   obtain⟨ys,h3,h4⟩:=hs
   obtain⟨vs,k1,k2⟩:=zy3 hr h2 hx
   obtain⟨e1,e2⟩:=z8c ho hG ((z46 hr _ _ _ _ hlen h1 h3).append k2) h4
   have:=z8e (w:=w) hop hcl k1 e1
   rw[hmap]at this
   refine .call (args:=(cl.args.toList.map a.eval++vs).toArray) ?_ e2
   rw[this]
   simp
  ·cases hs
theorem z6u{orc:Orc}(hG:Good G w mem)(hr:RelO G w c a rs fr){mf:Md}{q:Bool}{o:Oper}{op:BinOp}{t:TypeId}{x y:Operand}{ty:TypeId}(hop:o.op=.binOp op t x y ty){iop:IOp}
  (h:opOf P mf q c o=some iop) {v:PV} {mem':List Blk} (hs:z1cm orc rs fr mem iop=some (v,mem')):OpOk P o a G w mem v mem':=by
 have hrun:∀{v':Value},(do eqGuard op t x y (a.eval x) (a.eval y);binOp op t (a.eval x) (a.eval y):Sem Value).run P w=.ok v' w->(execOp a.eval o).run P w=.ok (.value v') w:=by
  intro v' h
  simp only[execOp,hop,Sem.run_bind]at h ⊢
  rw[h]
  rfl
 have plain:∀(bl:Bool),(bl=true->P.underlying t=some .bool)->((opdOf P c 0 x).bind fun a=>(opdOf P c 0 y).map fun b=>IOp.bin bl op a b)=some iop->OpOk P o a G w mem v mem':=by
  intro bl hbl hi
  simp only[L's,M'0]at hi
  obtain⟨ox,h1,oy,h2,rfl⟩:=hi
  simp only[z1cm]at hs
  split at hs
  ·rename_i u1 u2 e1 e2
   simp only[M'0,Prod.mk.injEq]at hs
   obtain⟨r,h3,rfl,rfl⟩:=hs
   obtain⟨v',h4,h5⟩:=z6l (P:=P) (zy3 hr h1 e1) (zy3 hr h2 e2) h3 hbl x y
   exact .same hG (hrun h4) h5
  ·cases hs
 have nilc:∀(ne:Bool),op=(if ne then .neq else .eql)->(∃e,P.underlying t=some (.slice e))->y=.const (.slice none 0 0)->((opdOf P c t x).map fun a=>IOp.isnil ne a)=some iop->OpOk P o a G w mem v mem':=by
  rintro ne rfl ⟨e,ht⟩ rfl hi
  simp only[M'0]at hi
  obtain⟨ox,h1,rfl⟩:=hi
  simp only[z1cm,L's,M'0,Prod.mk.injEq]at hs
  obtain⟨u,hev,r,hm,rfl,rfl⟩:=hs
  obtain⟨v',h4,h5⟩:=zny (P:=P) (zy3 hr h1 hev) hm ht x (.const (.slice none 0 0))
  exact .same hG (hrun h4) h5
 have strct:∀(ne:Bool) (fs:Array Field),op=(if ne then .neq else .eql)->P.underlying t=some (.struct fs)->((zop P t fs).bind fun ks=>(opdOf P c t x).bind fun a=>(opdOf P c t y).map fun b=>IOp.eqs ne ks a b)=some iop->OpOk P o a G w mem v mem':=by
  rintro ne fs rfl ht hi
  simp only[L's,M'0]at hi
  obtain⟨ks,h0,ox,h1,oy,h2,rfl⟩:=hi
  simp only[z1cm]at hs
  split at hs
  ·rename_i u1 u2 e1 e2
   simp only[M'0,Prod.mk.injEq]at hs
   obtain⟨r,h3,rfl,rfl⟩:=hs
   obtain⟨v',h4,h5⟩:=zdw (P:=P) (ne:=ne) (zy3 hr h1 e1) (zy3 hr h2 e2) h3 ht h0 x y
   exact .same hG (hrun h4) h5
  ·cases hs
 simp only[opOf,hop]at h
 split at h
 ·rename_i e ht;exact nilc false rfl ⟨_,ht⟩ rfl h
 ·rename_i e ht;exact nilc true rfl ⟨_,ht⟩ rfl h
 ·rename_i fs ht;exact strct false _ rfl ht h
 ·rename_i fs ht;exact strct true _ rfl ht h
 ·exact plain false (by simp) h
 ·exact plain false (by simp) h
 ·rename_i ht;exact plain true (fun _=>ht) h
 ·cases h
end
end Go.Proofs.YtbaclnecajkknaaGreat.Pi

