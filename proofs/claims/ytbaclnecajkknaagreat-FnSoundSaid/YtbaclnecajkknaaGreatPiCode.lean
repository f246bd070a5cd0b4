/- Pi: code. -/
import Derived.Test.YtbaclnecajkknaaGreatPiKd
import Derived.Scope
open Option renaming map_eq_some_iff->M'0,bind_eq_some_iff->L's,bind_some->L't
open List renaming range->L'1,all_eq_true->L'h,mem_of_getElem?->M'v,getElem?_map->N'i,getElem?_eq_getElem->L'v,nodup_range->N'o
namespace Go.Proofs.YtbaclnecajkknaaGreat.Pi
open Go
set_option linter.all false

structure Xe(m:Nat)(G:Gh)(w:World)(mem:List Blk)(G':Gh)(w':World)(mem':List Blk):Prop extends Wx G w mem G' w' mem' where
ids:∀b,b<m->G'.ids b=G.ids b
len:m<=mem'.length
theorem Xe.refl{m:Nat}{G:Gh}{w:World}{mem:List Blk}(h:m<=mem.length):Xe m G w mem G w mem:=⟨.refl G w mem,fun _ _=>rfl,h⟩
theorem Xe.trans{m:Nat}{G G₁ G₂:Gh}{w w₁ w₂:World}{M M₁ M₂:List Blk}(h:Xe m G w M G₁ w₁ M₁)(h':Xe m G₁ w₁ M₁ G₂ w₂ M₂):Xe m G w M G₂ w₂ M₂:=
⟨h.toWx.trans h'.toWx,fun b hb=>(h'.ids b hb).trans (h.ids b hb),h'.len⟩
theorem Ext.xe{m:Nat}{G G':Gh}{w w':World}{M M':List Blk}(h:Ext G w M G' w' M')(hm:m<=M.length):Xe m G w M G' w' M':=
⟨h.toWx,fun b hb=>h.ids b (by omega),Nat.le_trans hm h.len⟩
def z04(P:Program)(orc:Orc)(m n:Nat)(slots:List Nat)(N:Nat)(code:Code)(ic:ICode):Prop:=
∀(st:St)(out:Out),exec orc m n ic st=some out->∀(G:Gh)(w:World)(a:Act),RelS slots N G w st a->m<=st.mem.length ->
 ∀Q:Exit->Act->World->Prop,
 (∀G' w' a' st',(match out with| .next s=>s=st'|.ret s=>s=st'|.exit _ s=>s=st')->Xe m G w st.mem G' w' st'.mem->RelS slots N G' w' st' a'->Q (match out with| .next _=>.normal|.ret _=>.ret|.exit id _=>.exit id) a' w')->code.wp P Q a w
section
variable {P:Program}{orc:Orc}{m n N:Nat}{slots:List Nat}
theorem zbm:z04 P orc m n slots N .skip .skip:=by
 intro st out h G w a hr hm Q hQ
 simp only[exec,Option.some.injEq]at h
 subst h
 exact wp_skip (hQ G w a st rfl (.refl hm) hr)
theorem zbe(id:Nat):z04 P orc m n slots N (.exit id) (.exit id):=by
 intro st out h G w a hr hm Q hQ
 simp only[exec,Option.some.injEq]at h
 subst h
 exact wp_exit (hQ G w a st rfl (.refl hm) hr)
theorem zbj:z04 P orc m n slots N .ret .ret:=by
 intro st out h G w a hr hm Q hQ
 simp only[exec,Option.some.injEq]at h
 subst h
 exact wp_ret (hQ G w a st rfl (.refl hm) hr)
theorem zbl{x y:Code}{ix iy:ICode}(hx:z04 P orc m n slots N x ix)(hy:z04 P orc m n slots N y iy):z04 P orc m n slots N (.seq x y) (.seq ix iy):=by
 intro st out h G w a hr hm Q hQ
 simp only[exec]at h
 split at h
 ·rename_i st1 h1
  refine wp_seq (hx st _ h1 G w a hr hm _ ?_)
  intro G1 w1 a1 st' hs x1 r1
  cases hs
  exact hy st1 out h G1 w1 a1 r1 x1.len Q fun G2 w2 a2 st2 hs x2 r2=>hQ G2 w2 a2 st2 hs (x1.trans x2) r2
 ·rename_i hne
  cases out with
  |next s=>exact(hne s h).elim
  |ret s=>
   refine wp_seq (hx st _ h G w a hr hm _ ?_)
   intro G1 w1 a1 st' hs x1 r1
   exact hQ G1 w1 a1 st' hs x1 r1
  |exit id s=>
   refine wp_seq (hx st _ h G w a hr hm _ ?_)
   intro G1 w1 a1 st' hs x1 r1
   exact hQ G1 w1 a1 st' hs x1 r1
theorem zbc{id:Nat}{x:Code}{ix:ICode}(hx:z04 P orc m n slots N x ix):z04 P orc m n slots N (.block id x) (.block id ix):=by
 intro st out h G w a hr hm Q hQ
 simp only[exec]at h
 refine wp_block ?_
 split at h
 ·rename_i i st1 h1
  refine hx st _ h1 G w a hr hm _ ?_
  intro G1 w1 a1 st' hs x1 r1
  split at h
  ·rename_i hi;subst hi
   cases h
   simp only[Exit.inBlock,if_pos]
   exact hQ G1 w1 a1 st' hs x1 r1
  ·rename_i hi
   cases h
   simp only[Exit.inBlock,if_neg hi]
   exact hQ G1 w1 a1 st' hs x1 r1
 ·rename_i hne
  refine hx st _ h G w a hr hm _ ?_
  intro G1 w1 a1 st' hs x1 r1
  cases out with
  |next s=>exact hQ G1 w1 a1 st' hs x1 r1
  |ret s=>exact hQ G1 w1 a1 st' hs x1 r1
  |exit i s=>exact(hne i s h).elim
theorem zbk{x:Code}{ix:ICode}(hx:z04 P orc m n slots N x ix):z04 P orc m n slots N (.scope x) (.scope ix):=by
 intro st out h G w a hr hm Q hQ
 simp only[exec]at h
 refine wp_scope_straight (hx st _ h G w a hr hm _ ?_)
 intro G1 w1 a1 st' hs x1 r1
 cases out with
 |next s=>exact hQ G1 w1 a1 st' hs x1 r1
 |ret s=>exact hQ G1 w1 a1 st' hs x1 r1
 |exit i s=>exact hQ G1 w1 a1 st' hs x1 r1
theorem zbd{cd:Operand}{oc:Opd}{x y:Code}{ix iy:ICode}(hc:opdOf P ⟨slots,[]⟩ 0 cd=some oc)(hx:z04 P orc m n slots N x ix)(hy:z04 P orc m n slots N y iy):z04 P orc m n slots N (.cond cd x y) (.cond oc ix iy):=by
 intro st out h G w a hr hm Q hQ
 have hrel:RelO G w ⟨slots,[]⟩ a [] st.fr:=⟨hr.fr,by simp⟩
 simp only[exec]at h
 split at h
 ·rename_i he
  exact wp_cond_true (zy3 hrel hc he).bool_inv (hx st out h G w a hr hm Q hQ)
 ·rename_i he
  exact wp_cond_false (zy3 hrel hc he).bool_inv (hy st out h G w a hr hm Q hQ)
 ·cases h
theorem Blk.ren_id(k:Blk):k.ren (fun b=>b)=k:=by
 cases k<;>simp[Blk.ren,z150]
theorem ztb:∀{xs:List PV}{x:PV}{r:Nat},x∈xs->r∈x.refs->r∈refsL xs
 |y::ys,x,r,hx,hr=>by
  simp only[refsL,List.mem_append]
  rcases List.mem_cons.1 hx with rfl| hx
  ·exact .inl hr
  ·exact .inr (ztb hx hr)
theorem z151(f:Nat->Nat):∀xs:List PV,renL f xs=xs.map (PV.ren f)
|[]=>rfl
|x::xs=>by simp[renL,z151 f xs]
theorem z126{G:Gh}{w:World}{st:St}{a:Act}(hr:RelS slots N G w st a)(hm:m<=st.mem.length){keep:List Bool}(hk:keep.length=slots.length) :
  ∃G',RelS slots N G' w (gc m ⟨clean keep st.fr,st.mem⟩) a/\Xe m G w st.mem G' w (gc m ⟨clean keep st.fr,st.mem⟩).mem:=by
 have hcl:(clean keep st.fr).length=slots.length:=by simp[clean,hr.len,hk]
 have hclean:∀(i s:Nat) (y:PV),slots[i]?=some s->(clean keep st.fr)[i]?=some y->Rp G w y (a.tmps.getD s undef):=by
  intro i s y hi hy
  simp only[clean,N'i,M'0]at hy
  obtain⟨p,h1,h2⟩:=hy
  rw[List.getElem?_zip_eq_some]at h1
  split at h2
  ·rw[h2]at h1;exact hr.fr i s y hi h1.1
  ·rw[<-h2];trivial
 unfold gc
 simp only
 split
 ·rename_i hall
  generalize hI:L'1 m++((reach st.mem 3 (refsL (clean keep st.fr)++L'1 m)).filter (m<=·)).eraseDups=I at hall
  split
  ·rename_i M hM
   have hall:∀b∈refsL (clean keep st.fr),b∈I:=by
    intro b hb
    rw[L'h]at hall
    simpa using hall b hb
   have hIb:∀b,b<m->I[b]?=some b:=by
    intro b hb
    rw[<-hI,List.getElem?_append_left (by simpa using hb)]
    simp[hb]
   obtain⟨s1,s2,s3,s4⟩:=z198 hM
   have get:∀(i:Nat) (y:PV),(renL I.idxOf (clean keep st.fr))[i]?=some y->∃x,(clean keep st.fr)[i]?=some x/\y=x.ren I.idxOf:=by
    intro i y hy
    rw[z151,N'i,M'0]at hy
    obtain⟨x,h1,h2⟩:=hy
    exact⟨x,h1,h2.symm⟩
   refine⟨G.sel I,⟨hr.good.select hM,fun i s y hi hy=>?_,by rw[z151,List.length_map];exact hcl,hr.size,hr.defers⟩,⟨rfl,rfl,rfl,Nat.le_refl _,fun _ _ _=>rfl,fun c hc=>?_,fun _ h=>h,fun _ h=>h,fun _ h=>.inl h,fun _ h=>.inl h⟩,fun b hb=>?_,?_⟩
   ·obtain⟨x,h1,rfl⟩:=get i y hy
    refine Rp.ren (G:=G) (G':=G.sel I) (w:=w) (w':=w) I.idxOf (fun c hc=>⟨hc,rfl⟩) (fun c hc=>⟨hc,rfl⟩) x _ (fun b hb p hp=>?_) (hclean i s x hi h1)
    simp only[Gh.sel,zla (hall b (ztb (M'v h1) hb)),L't];exact hp
   ·rcases hc with hc|hc
    ·obtain⟨b,k,cp,_,e2,e3,e4⟩:=z196 hM hc
     exact .inl (.inl ⟨b,k,cp,e2,e3,e4⟩)
    ·exact .inl (.inr hc)
   ·show(I[b]?).bind G.ids=G.ids b
    rw[hIb b hb];rfl
   ·show m<=M.length
    rw[s3,<-hI,List.length_append,List.length_range];omega
  ·exact⟨G,⟨hr.good,hclean,hcl,hr.size,hr.defers⟩,.refl hm⟩
 ·exact⟨G,⟨hr.good,hclean,hcl,hr.size,hr.defers⟩,.refl hm⟩
theorem least(p:Nat->Prop)(h:∃k,p k):∃k,p k/\∀j,p j->k<=j:=by
 obtain⟨k,hk⟩:=h
 induction k using Nat.strongRecOn with
 |_ k ih=>
  by_cases hj:∃j,j<k/\p j
  ·obtain⟨j,h1,h2⟩:=hj
   exact ih j h1 h2
  ·refine⟨k,hk,fun j hpj=>?_⟩
   rcases Nat.lt_or_ge j k with hlt|hge
   ·exact(hj ⟨j,hlt,hpj⟩).elim
   ·exact hge
theorem zbg{keep:List Bool}(hk:keep.length=slots.length){x:Code}{ix:ICode}(hx:z04 P orc m n slots N x ix):z04 P orc m n slots N (.loop x) (.loop keep ix):=by
 intro st out h G w a hr hm Q hQ
 simp only[exec]at h
 let p:Act->World->Nat->Prop:=fun a1 w1 k=>∃(st1:St) (G1:Gh),iter (exec orc m n ix) (fun s=>gc m ⟨clean keep s.fr,s.mem⟩) k st1=some out/\RelS slots N G1 w1 st1 a1/\Xe m G w st.mem G1 w1 st1.mem
 classical
 let μ:Act->World->Nat:=fun a1 w1=>if hI:∃k,p a1 w1 k then Classical.choose (least _ hI)else 0
 have hμ:∀a1 w1 (hI:∃k,p a1 w1 k),p a1 w1 (μ a1 w1)/\∀j,p a1 w1 j->μ a1 w1<=j:=by
  intro a1 w1 hI
  have:μ a1 w1=Classical.choose (least _ hI):=by simp only[μ,dif_pos hI]
  rw[this]
  exact Classical.choose_spec (least _ hI)
 refine wp_loop (fun a1 w1=>∃k,p a1 w1 k) μ ⟨n,st,G,h,hr,.refl hm⟩ ?_
 intro a1 w1 hI
 obtain⟨⟨st1,G1,e1,e2,e3⟩,_⟩:=hμ a1 w1 hI
 generalize hk0:μ a1 w1=k at e1
 cases k with
 |zero=>simp[iter]at e1
 |succ k=>
  simp only[iter]at e1
  obtain⟨G2,p1,p2⟩:=z126 (m:=m) e2 e3.len hk
  split at e1
  ·rename_i st2 he
   refine hx _ _ he G2 w1 a1 p1 p2.len _ ?_
   intro G3 w3 a3 st3 hs x3 r3
   cases hs
   have hp3:p a3 w3 k:=⟨st2,G3,e1,r3,(e3.trans p2).trans x3⟩
   exact⟨⟨k,hp3⟩,Nat.lt_succ_of_le ((hμ a3 w3 ⟨k,hp3⟩).2 k hp3)⟩
  ·rename_i hne
   cases out with
   |next s=>exact(hne s e1).elim
   |ret s=>
    refine hx _ _ e1 G2 w1 a1 p1 p2.len _ ?_
    intro G3 w3 a3 st3 hs x3 r3
    exact hQ G3 w3 a3 st3 hs ((e3.trans p2).trans x3) r3
   |exit id s=>
    refine hx _ _ e1 G2 w1 a1 p1 p2.len _ ?_
    intro G3 w3 a3 st3 hs x3 r3
    exact hQ G3 w3 a3 st3 hs ((e3.trans p2).trans x3) r3
theorem zgh{α β:Type}(g:α->Option β):∀(l:List α),(∀x∈l,(g x).isSome=true)->(l.filterMap g).length=l.length/\∀(p:Nat),(l.filterMap g)[p]?=(l[p]?).bind g
 |[],_=>⟨rfl,by simp⟩
 |x::l,h=>by
  obtain⟨y,hy⟩:=Option.isSome_iff_exists.1 (h x (by simp))
  obtain⟨h1,h2⟩:=zgh g l (fun z hz=>h z (by simp[hz]))
  rw[List.filterMap_cons,hy]
  refine⟨by simp[h1],fun p=>?_⟩
  cases p with
  |zero=>simp[hy]
  |succ p=>simpa using h2 p
theorem z14s{mf:Md}{dr:Bool}{ops:Array Oper}{ord:List Nat}{ios:List IOper}{chk:List (Nat×Nat)}(hx:zzl P mf dr slots ops=(ord,ios,chk))(hs:slots.Nodup)(hk:regOk dr N ops ord ios chk=true)
  (hord:ord.Nodup) (hlt:∀k∈ord,k<ops.toList.length) :
  RegC P mf N slots ops ord ⟨slots,ord.map fun k=>(ops.toList[k]?).bind (·.dst)⟩/\ios.length=ord.length /\
   ∀(p k:Nat),ord[p]?=some k->∃o q,ops[k]?=some o/\ios[p]?=some (zzi P mf q ⟨slots,ord.map fun k=>(ops.toList[k]?).bind (·.dst)⟩ ord o):=by
 simp only[zzl]at hx
 generalize hb:(if dr=true then Region.before ops else #[])=b at hx
 generalize ho0:(if dr=true then asap b (fun k=>match ops.toList[k]? with| some o=>isF ((opOf P mf (z13d mf.k b ops.toList k) ⟨slots,ops.toList.map (·.dst)⟩ o).getD .bad)|none=>false) ops.toList.length ops.toList.length []else L'1 ops.toList.length)=ord0 at hx
 simp only[Prod.mk.injEq]at hx
 obtain⟨h1,h2,h3⟩:=hx
 subst h1
 have hsome:∀k∈ord0,((ops.toList[k]?).map fun o=>zzi P mf (dr&&z13d mf.k b ops.toList k) ⟨slots,ord0.map fun k=>(ops.toList[k]?).bind (·.dst)⟩ ord0 o).isSome=true:=by
  intro k hk
  simp[L'v (hlt k hk)]
 obtain⟨g1,g2⟩:=zgh _ ord0 hsome
 rw[h2]at g1 g2
 have hios:∀(p k:Nat),ord0[p]?=some k->∃o,ops[k]?=some o/\ios[p]?=some (zzi P mf (dr&&z13d mf.k b ops.toList k) ⟨slots,ord0.map fun k=>(ops.toList[k]?).bind (·.dst)⟩ ord0 o):=by
  intro p k hp
  have hkl:=hlt k (M'v hp)
  refine⟨ops.toList[k],by simp at hkl⊢,?_⟩
  rw[g2 p,hp,L't,L'v hkl]
  rfl
 simp only[regOk,Bool.and_eq_true]at hk
 obtain⟨⟨⟨k1,k2⟩,k3⟩,k4⟩:=hk
 refine⟨⟨rfl,rfl,hs,zvr k1,?_,hord,?_⟩,g1,fun p k hp=>?_⟩
 ·intro t ht
  rw[L'h]at k2
  simpa using k2 t ht
 ·intro k o j bb hk ho hg hj
  obtain⟨p,hp⟩:=List.mem_iff_getElem?.1 hk
  obtain⟨o',h4,h5⟩:=hios p k hp
  rw[ho]at h4;cases h4
  rw[L'h]at k3
  have:=k3 _ (M'v h5)
  simpa [zzi,hg]using this
 ·obtain⟨o,h4,h5⟩:=hios p k hp
  exact⟨o,_,h4,h5⟩
theorem zbi{mf:Md}{id:Nat}{ops:Array Oper}{ord:List Nat}{ios:List IOper}{chk:List (Nat×Nat)}(hor:OrcOk P orc)(hx:zzl P mf false slots ops=(ord,ios,chk))(hs:slots.Nodup)(hk:regOk false N ops ord ios chk=true) :
  z04 P orc m n slots N (.region id ops false) (.region false chk ios):=by
 intro st out h G w a hr hm Q hQ
 have hord:ord=L'1 ops.size:=by
  simp only[zzl,Prod.mk.injEq]at hx
  rw[<-hx.1];simp
 have hchk:chk=[]:=by
  simp only[zzl,Prod.mk.injEq]at hx
  rw[<-hx.2.2];simp
 obtain⟨hc,hl,hios⟩:=z14s hx hs hk (by rw[hord];exact N'o) (by rw[hord];intro k hk;simpa using hk)
 simp only[exec,z187,hchk,List.isEmpty_nil,if_true,M'0]at h
 obtain⟨st',h1,rfl⟩:=h
 refine wp_region ?_
 have hrel:RelO G w ⟨slots,ord.map fun k=>(ops.toList[k]?).bind (·.dst)⟩ a [] st.fr:=⟨hr.fr,by simp⟩
 have:=z183 hor hc hord hl hios (Q:=Q) (st':=st') ord.length [] st.fr st.mem G w a (by simp) hr.good hrel hr.len hr.size hr.defers (by simpa using h1) (fun G' w' a' e s=>hQ G' w' a' st' rfl (e.xe hm) s)
 rw[List.length_nil,List.drop_zero,hord]at this
 exact this
theorem zbf{mf:Md}{id:Nat}{ops:Array Oper}{ord:List Nat}{ios:List IOper}{chk:List (Nat×Nat)}(hor:OrcOk P orc)(hx:zzl P mf false slots ops=(ord,ios,chk))(hs:slots.Nodup)(hk:regOk false N ops ord ios chk=true) :
  z04 P orc m n slots N (.region id ops false) (.kreg ios):=by
 intro st out h G w a hr hm Q hQ
 have hord:ord=L'1 ops.size:=by
  simp only[zzl,Prod.mk.injEq]at hx
  rw[<-hx.1];simp
 obtain⟨hc,hl,hios⟩:=z14s hx hs hk (by rw[hord];exact N'o) (by rw[hord];intro k hk;simpa using hk)
 simp only[exec,L's,M'0]at h
 obtain⟨k,h1,st',h2,rfl⟩:=h
 refine wp_region ?_
 have hrel:RelO G w ⟨slots,ord.map fun k=>(ops.toList[k]?).bind (·.dst)⟩ a [] st.fr:=⟨hr.fr,by simp⟩
 obtain⟨pre,p,q1,q2,q3,q4⟩:=zot h1
 obtain⟨b,o,len,kk,i,j,kv,t,es,e,r,e',p1,p2,p3,p4,p5,p6,p7,rfl⟩:=zoe h2
 obtain⟨rsp,q5,q6⟩:=q4 orc st.fr st.mem b o len kk i j p1 p2 p4
 have:=zp1 (Q:=Q) hor hc hl hios q1 q2 q3 hr.good hrel hr.len hr.size hr.defers q5 q6 p5 p6 p3 p7 (fun G' w' a' e s=>hQ G' w' a' _ rfl (e.xe hm) s)
 rw[hord]at this
 exact this
def z05(P:Program)(orc:Orc)(mf:Md)(m n:Nat):Prop:=
∀(N:Nat) (slots:List Nat) (id:Nat) (ops:Array Oper) (ord:List Nat) (ios:List IOper) (chk:List (Nat×Nat)),zzl P mf true slots ops=(ord,ios,chk)->slots.Nodup->regOk true N ops ord ios chk=true ->
 z04 P orc m n slots N (.region id ops true) (.region true chk ios)
theorem zbh{mf:Md}{res:List Nat}(hor:OrcOk P orc)(hd:z05 P orc mf m n)(hs:slots.Nodup):∀(code:Code) (after:List Nat) (e:List (Nat×List Nat)) (ic:ICode),zbb P mf N slots res code after e=some ic->z04 P orc m n slots N code ic:=by
 intro code
 induction code with
 |skip=>intro _ _ ic h;simp only[zbb,Option.some.injEq]at h;subst h;exact zbm
 |ret=>intro _ _ ic h;simp only[zbb,Option.some.injEq]at h;subst h;exact zbj
 |exit id=>intro _ _ ic h;simp only[zbb,Option.some.injEq]at h;subst h;exact zbe id
 |seq x y ihx ihy=>
  intro after e ic h
  simp only[zbb,L's,M'0]at h
  obtain⟨ix,h1,iy,h2,rfl⟩:=h
  exact zbl (ihx _ _ _ h1) (ihy _ _ _ h2)
 |cond c x y ihx ihy=>
  intro after e ic h
  simp only[zbb,L's,M'0]at h
  obtain⟨oc,h0,ix,h1,iy,h2,rfl⟩:=h
  exact zbd h0 (ihx _ _ _ h1) (ihy _ _ _ h2)
 |block id x ihx=>
  intro after e ic h
  simp only[zbb,M'0]at h
  obtain⟨ix,h1,rfl⟩:=h
  exact zbc (ihx _ _ _ h1)
 |loop x ihx=>
  intro after e ic h
  simp only[zbb,M'0]at h
  obtain⟨ix,h1,rfl⟩:=h
  exact zbg (by simp) (ihx _ _ _ h1)
 |scope x ihx=>
  intro after e ic h
  simp only[zbb,M'0]at h
  obtain⟨ix,h1,rfl⟩:=h
  exact zbk (ihx _ _ _ h1)
 |region id ops dr=>
  intro after e ic h
  simp only[zbb]at h
  split at h
  case isFalse=>cases h
  rename_i hk
  cases h
  cases dr
  ·split
   ·exact zbf hor rfl hs hk
   ·exact zbi hor rfl hs hk
  ·rw[if_neg (by simp)]
   exact hd N slots id ops _ _ _ rfl hs hk
 |_=>intro _ _ ic h;simp[zbb]at h
end
end Go.Proofs.YtbaclnecajkknaaGreat.Pi

