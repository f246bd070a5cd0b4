/- Pi: operations and what they read; for drawn regions. -/
import Derived.Test.YtbaclnecajkknaaGreatPiTop
open Option renaming bind_eq_some_iff->L's,map_eq_some_iff->M'0,bind_some->L't,map_some->L'z
open List renaming mem_append->L'j,append_eq_nil_iff->M'f,getElem?_append_left->L'm,getElem?_set->L'k
namespace Go.Proofs.YtbaclnecajkknaaGreat.Pi
open Go
set_option linter.all false

theorem ze2{rs rs' fr fr':List PV}:∀{l:List Opd},(∀o∈l,ev rs fr o=ev rs' fr' o)->evL rs fr l=evL rs' fr' l
 |[],_=>rfl
 |o::l,h=>by
  simp only[evL]
  rw[h o (by simp),ze2 (fun o' ho=>h o' (by simp[ho]))]
theorem zzr{rs rs' fr fr':List PV}{l:Option Opd}(h:∀o∈l.toList,ev rs fr o=ev rs' fr' o):opt (ev rs fr) l=opt (ev rs' fr') l:=by
 cases l with
 |none=>rfl
 |some o=>simp only[opt];rw[h o (by simp)]
theorem z1cn{orc:Orc}{rs rs' fr fr':List PV}{mem:List Blk}{op:IOp}(h:∀o∈opds op,ev rs fr o=ev rs' fr' o):z1cm orc rs fr mem op=z1cm orc rs' fr' mem op:=by
 cases op<;>simp only[opds]at h<;>simp only[z1cm]
 case slice sz x l h'=>
  have h1:=zzr (l:=l) (fun o ho=>h o (by simp[ho]))
  have h2:=zzr (l:=h') (fun o ho=>h o (by simp[ho]))
  rw[h x (by simp),h1,h2]
 case sub x l h'=>
  have h1:=zzr (l:=l) (fun o ho=>h o (by simp[ho]))
  have h2:=zzr (l:=h') (fun o ho=>h o (by simp[ho]))
  rw[h x (by simp),h1,h2]
 case build z ps=>rw[ze2 h]
 case bslice q t fl sz ps=>rw[ze2 h]
 case mkfn f ps=>rw[ze2 h]
 case call q f ps=>rw[ze2 h]
 case callm f ps=>rw[ze2 h]
 case callv q x ps=>rw[h x (by simp),ze2 (fun o ho=>h o (by simp[ho]))]
 case pick x y z=>rw[h x (by simp),h y (by simp),h z (by simp)]
 case bin bl op x y=>rw[h x (by simp),h y (by simp)]
 case eqs ne ks x y=>rw[h x (by simp),h y (by simp)]
 case store n x y=>rw[h x (by simp),h y (by simp)]
 case iaddr sz x y=>rw[h x (by simp),h y (by simp)]
 case stri x y=>rw[h x (by simp),h y (by simp)]
 case append t fl sz x y=>rw[h x (by simp),h y (by simp)]
 case appl t fl sz x y=>rw[h x (by simp),h y (by simp)]
 case stl n x y=>rw[h x (by simp),h y (by simp)]
 case slq n x y=>rw[h x (by simp),h y (by simp)]
 case copy n x y=>rw[h x (by simp),h y (by simp)]
 case apq t n x y=>rw[h x (by simp),h y (by simp)]
 case bsl t sz ps=>rw[ze2 h]
 case mnmx mx x y=>rw[h x (by simp),h y (by simp)]
 case extract x i=>rw[h x (by simp)]
 case clr z x=>rw[h x (by simp)]
 case chk3 x y z u=>rw[h x (by simp),h y (by simp),h z (by simp),h u (by simp)]
 all_goals(rename_i x;rw[h x (by simp)])
def znt:IOp->Bool
|.mov _|.pick ..|.neg _|.not _|.bin ..|.eqs ..|.isnil ..|.faddr ..|.field ..|.stri ..|.sub ..|.extract ..|.ncheck _|.build ..|.mkfn ..|.conv ..|.len ..|.mnmx ..|.chk3 ..=>true
|_=>false
theorem z12v{orc:Orc}{rs fr:List PV}{mem:List Blk}{op:IOp}(hp:znt op=true){v:PV}{mem':List Blk}(h:z1cm orc rs fr mem op=some (v,mem')):mem'=mem/\∀m,z1cm orc rs fr m op=some (v,m):=by
 cases op<;>simp[znt]at hp<;>simp only[z1cm]at h ⊢
 case mov=>simp only[M'0,Prod.mk.injEq]at h;obtain⟨x,h1,rfl,rfl⟩:=h;exact⟨rfl,fun m=>by simp[h1]⟩
 case isnil=>simp only[L's,M'0,Prod.mk.injEq]at h;obtain⟨x,h1,y,h2,rfl,rfl⟩:=h;exact⟨rfl,fun m=>by simp[h1,h2]⟩
 case faddr=>simp only[L's,M'0,Prod.mk.injEq]at h;obtain⟨x,h1,y,h2,rfl,rfl⟩:=h;exact⟨rfl,fun m=>by simp[h1,h2]⟩
 case ncheck=>simp only[L's,M'0,Prod.mk.injEq]at h;obtain⟨x,h1,y,h2,rfl,rfl⟩:=h;exact⟨rfl,fun m=>by simp[h1,h2]⟩
 case len=>simp only[L's,M'0,Prod.mk.injEq]at h;obtain⟨x,h1,y,h2,rfl,rfl⟩:=h;exact⟨rfl,fun m=>by simp[h1,h2]⟩
 case sub=>simp only[L's,M'0,Prod.mk.injEq]at h;obtain⟨x,h1,y,h2,z,h3,r,h4,rfl,rfl⟩:=h;exact⟨rfl,fun m=>by simp[h1,h2,h3,h4]⟩
 case build=>
  simp only[L's]at h
  obtain⟨x,h1,h2⟩:=h
  split at h2
  ·rename_i hc
   simp only[M'0,Prod.mk.injEq]at h2
   obtain⟨y,h3,rfl,rfl⟩:=h2
   refine⟨rfl,fun m=>?_⟩
   rw[h1,L't,if_pos hc,h3];rfl
  ·cases h2
 case mkfn=>
  simp only[L's]at h
  obtain⟨x,h1,h2⟩:=h
  split at h2
  ·rename_i hc;cases h2
   refine⟨rfl,fun m=>?_⟩
   rw[h1,L't,if_pos hc]
  ·cases h2
 case mnmx=>
  split at h
  ·rename_i e1 e2
   split at h
   ·rename_i hk;subst hk;cases h
    exact⟨rfl,fun m=>by simp only[e1,e2,if_true]⟩
   ·cases h
  ·cases h
 all_goals
  repeat' split at h
  all_goals first
   |(cases h;done)
   |(cases h;exact⟨rfl,fun m=>by simp_all⟩)
   |(simp only[M'0,Prod.mk.injEq]at h;obtain⟨x,h1,rfl,rfl⟩:=h;exact⟨rfl,fun m=>by simp_all⟩)
def isA:IOp->Bool
|.alloc ..|.box ..|.mk ..|.nilrow ..=>true
|.bslice q ..=>q
|_=>false
def isL:IOp->Bool
|.load ..|.slice ..=>true
|_=>false
def isR:IOp->Bool
|.strb _=>true
|.call q _ _|.callv q _ _=>q
|_=>false
theorem zy1(op:IOp)(h:isF op=false):znt op=true\/op=.iaddr 0 (.r 0) (.r 0)\/(∃sz x i,op=.iaddr sz x i)\/isA op=true\/isL op=true\/isR op=true:=by
 cases op<;>simp_all [isF,znt,isA,isL,isR]
theorem z12r{mem mem':List Blk}{x y:PV}(hx:x.refs=[])(h:pub mem x=some (y,mem')):mem'=mem/\∀m,pub m x=some (y,m):=by
 cases x<;>simp only[pub]at h<;>first
  |(cases h;done)
  |(cases h;exact⟨rfl,fun m=>rfl⟩)
  |(simp[PV.refs]at hx)
theorem z12l:∀{xs ys:List PV}{mem mem':List Blk},refsL xs=[]->pubL mem xs=some (ys,mem')->mem'=mem/\∀m,pubL m xs=some (ys,m)
 |[],ys,mem,mem',_,h=>by
  simp only[pubL,Option.some.injEq,Prod.mk.injEq]at h
  obtain⟨rfl,rfl⟩:=h
  exact⟨rfl,fun m=>rfl⟩
 |x::xs,ys,mem,mem',hx,h=>by
  simp only[refsL,M'f]at hx
  simp only[pubL,L's,M'0,Prod.mk.injEq]at h
  obtain⟨⟨y,m1⟩,h1,⟨⟨ys',m2⟩,h2,rfl,rfl⟩⟩:=h
  obtain⟨rfl,k1⟩:=z12r hx.1 h1
  obtain⟨rfl,k2⟩:=z12l hx.2 h2
  exact⟨rfl,fun m=>by simp only[pubL,k1 m,L't,k2 m,L'z]⟩
theorem z12d{mem mem':List Blk}{x y:PV}(hx:x.refs=[])(h:pubE mem x=some (y,mem')):mem'=mem/\∀m,pubE m x=some (y,m):=by
 by_cases hq:∃cs,x=.agg cs
 ·obtain⟨cs,rfl⟩:=hq
  simp only[pubE,M'0,Prod.mk.injEq]at h
  obtain⟨⟨ys,m1⟩,h1,rfl,rfl⟩:=h
  obtain⟨rfl,k⟩:=z12l (by simpa [PV.refs]using hx) h1
  exact⟨rfl,fun m=>by simp only[pubE,k m,L'z]⟩
 ·have hq:∀cs,x≠.agg cs:=fun cs e=>hq ⟨cs,e⟩
  have he:∀m,pubE m x=pub m x:=by intro m;cases x<;>first|rfl|exact absurd rfl (hq _)
  rw[he]at h
  obtain⟨h1,h2⟩:=z12r hx h
  exact⟨h1,fun m=>by rw[he];exact h2 m⟩
theorem z17c{fl:Bool}{sz:Nat}:∀{xs ys:List PV}{mem mem':List Blk},refsL xs=[]->rowV fl sz mem xs=some (ys,mem')->mem'=mem/\∀m,rowV fl sz m xs=some (ys,m)
 |[],ys,mem,mem',_,h=>by
  simp only[rowV,Option.some.injEq,Prod.mk.injEq]at h
  obtain⟨rfl,rfl⟩:=h
  exact⟨rfl,fun m=>rfl⟩
 |x::xs,ys,mem,mem',hx,h=>by
  simp only[refsL,M'f]at hx
  simp only[rowV,L's]at h
  obtain⟨⟨y,m1⟩,h1,h2⟩:=h
  split at h2
  ·rename_i hok
   simp only[M'0,Prod.mk.injEq]at h2
   obtain⟨⟨ys',m2⟩,h3,rfl,rfl⟩:=h2
   obtain⟨rfl,k1⟩:=z12d hx.1 h1
   obtain⟨rfl,k2⟩:=z17c hx.2 h3
   exact⟨rfl,fun m=>by simp only[rowV,k1 m,L't];rw[if_pos hok,k2 m];rfl⟩
  ·cases h2
theorem zxs{orc:Orc}{rs fr:List PV}{mem:List Blk}{op:IOp}(hp:isA op=true){v:PV}{mem':List Blk}(h:z1cm orc rs fr mem op=some (v,mem')) :
  ∃(k:Blk)(res:Nat->PV),v=res mem.length/\mem'=mem++[k]/\∀m,z1cm orc rs fr m op=some (res m.length,m++[k]):=by
 cases op<;>simp[isA]at hp<;>simp only[z1cm]at h ⊢
 case alloc t cs=>cases h;exact⟨.box t cs,fun b=>.ptr b 0,rfl,rfl,fun m=>rfl⟩
 case nilrow t fl sz=>cases h;exact⟨.row t fl sz [],fun b=>.ref b sz 0 0,rfl,rfl,fun m=>rfl⟩
 case box t n x=>
  simp only[L's]at h
  obtain⟨y,h1,h2⟩:=h
  split at h2
  ·rename_i hc;cases h2
   exact⟨.box t y.cells,fun b=>.ptr b 0,rfl,rfl,fun m=>by rw[h1,L't,if_pos hc]⟩
  ·cases h2
 case mk t fl sz z n=>
  split at h
  ·rename_i k n' e1
   split at h
   ·rename_i hc;cases h
    exact⟨.row t fl sz (List.replicate n'.toNat z),fun b=>.ref b sz 0 n'.toNat,rfl,rfl,fun m=>by rw[if_pos hc]⟩
   ·cases h
  ·cases h
 case bslice q t fl sz ps=>
  subst hp
  simp only[L's]at h
  obtain⟨ys,h1,h2⟩:=h
  split at h2
  ·cases h2
  ·rename_i hc
   simp only[M'0,Prod.mk.injEq]at h2
   obtain⟨⟨zs,m1⟩,h3,rfl,rfl⟩:=h2
   have hr:refsL ys=[]:=by simpa using hc
   obtain⟨rfl,k⟩:=z17c hr h3
   exact⟨.row t fl sz zs,fun b=>.ref b sz 0 zs.length,rfl,rfl,fun m=>by rw[h1,L't,if_neg (by simp[hr]),k m];rfl⟩
theorem zxu{orc:Orc}{rs fr:List PV}{mem:List Blk}{op:IOp}(hp:isL op=true\/isR op=true\/∃sz x i,op=.iaddr sz x i){v:PV}{mem':List Blk}(h:z1cm orc rs fr mem op=some (v,mem')):mem'=mem:=by
 have cv:∀(f:FuncId)(args:List PV),callV orc true mem f args=some (v,mem')->mem'=mem:=by
  intro f args h
  simp only[callV,L's]at h
  obtain⟨vs,h1,r,h2,h3⟩:=h
  split at h3
  ·split at h3
   ·simp at h3;exact h3.2.symm
   ·simp at h3
  ·cases h3
 cases op<;>simp[isL,isR]at hp<;>simp only[z1cm]at h
 case load=>simp only[L's,M'0,Prod.mk.injEq]at h;obtain⟨_,_,_,_,_,rfl⟩:=h;rfl
 case slice=>simp only[L's,M'0,Prod.mk.injEq]at h;obtain⟨_,_,_,_,_,_,_,_,_,rfl⟩:=h;rfl
 case strb=>simp only[L's,M'0,Prod.mk.injEq]at h;obtain⟨_,_,_,_,_,_,_,rfl⟩:=h;rfl
 case iaddr=>
  split at h
  ·simp only[M'0,Prod.mk.injEq]at h;obtain⟨_,_,_,rfl⟩:=h;rfl
  ·cases h
 case call=>subst hp;simp only[L's]at h;obtain⟨vs,_,h2⟩:=h;exact cv _ _ h2
 case callv=>
  subst hp
  split at h
  ·simp only[L's]at h;obtain⟨vs,_,h2⟩:=h;exact cv _ _ h2
  ·cases h
theorem z141{mem:List Blk}:∀(d:Nat){bs bs':List Nat},(∀b∈bs,b∈bs')->∀b∈reach mem d bs,b∈reach mem d bs'
 |0,bs,bs',h,b,hb=>h b hb
 |d+1,bs,bs',h,b,hb=>by
  simp only[reach,L'j]at hb ⊢
  rcases hb with hb|hb
  ·exact .inl (h b hb)
  ·refine .inr (z141 d (fun r hr=>?_) b hb)
   simp only[List.mem_flatMap]at hr ⊢
   obtain⟨b',hb',hr⟩:=hr
   exact⟨b',h b' hb',hr⟩
theorem z140{mem:List Blk}(d:Nat){bs:List Nat}:∀b∈bs,b∈reach mem d bs:=by
 intro b hb
 cases d with
 |zero=>exact hb
 |succ d=>simp only[reach,L'j];exact .inl hb
theorem z142{mem:List Blk}:∀(d:Nat){bs:List Nat},∀b∈reach mem d bs,b∈reach mem (d+1) bs
 |0,bs,b,hb=>z140 1 b hb
 |d+1,bs,b,hb=>by
  simp only[reach,L'j]at hb
  rw[reach,L'j]
  rcases hb with hb|hb
  ·exact .inl hb
  ·exact .inr (z142 d b hb)
def Kept(F:Nat->Prop)(mem mem':List Blk):Prop:=mem.length<=mem'.length/\∀b,b<mem.length->¬F b->mem'[b]?=mem[b]?
theorem Kept.refl{F:Nat->Prop}{mem:List Blk}:Kept F mem mem:=⟨Nat.le_refl _,fun _ _ _=>rfl⟩
theorem Kept.trans{F:Nat->Prop}{m m1 m2:List Blk}(h:Kept F m m1)(h':Kept F m1 m2):Kept F m m2:=
⟨Nat.le_trans h.1 h'.1,fun b hb hn=>(h'.2 b (Nat.lt_of_lt_of_le hb h.1) hn).trans (h.2 b hb hn)⟩
theorem Kept.set{F:Nat->Prop}{mem:List Blk}{b:Nat}(hb:F b)(k:Blk):Kept F mem (mem.set b k):=
⟨by simp,fun b' _ hn=>by rw[List.getElem?_set_ne];rintro rfl;exact hn hb⟩
theorem Kept.append{F:Nat->Prop}{mem:List Blk}(ks:List Blk):Kept F mem (mem++ks):=
⟨by simp,fun b hb _=>L'm hb⟩
theorem Kept.freeze{F:Nat->Prop}{mem:List Blk}{b:Nat}(hb:F b):Kept F mem (freeze mem b):=by
 unfold Pi.freeze
 split
 ·exact .set hb _
 ·exact .set hb _
 ·exact .refl
theorem Kept.kill{F:Nat->Prop}:∀{R:List Nat}{mem:List Blk},(∀b∈R,F b)->Kept F mem (kill mem R)
|[],mem,_=>.refl
|b::R,mem,h=>(Kept.freeze (h b (by simp))).trans (Kept.kill fun b' hb=>h b' (by simp[hb]))
theorem zi0{mem:List Blk}{b b':Nat}(h:rowsh (freeze mem b)[b']?=true):rowsh mem[b']?=true:=by
 unfold freeze at h
 split at h
 ·rename_i e
  rw[L'k]at h
  split at h
  ·split at h<;>cases h
  ·exact h
 ·rename_i e
  rw[L'k]at h
  split at h
  ·split at h<;>cases h
  ·exact h
 ·exact h
theorem zhz{mem:List Blk}{b:Nat}(h:rowsh mem[b]?=false):freeze mem b=mem:=by
 unfold freeze
 split
 ·rename_i e;rw[e]at h;cases h
 ·rename_i e;rw[e]at h;cases h
 ·rfl
theorem Kept.killR{F:Nat->Prop}:∀{R:List Nat} {mem:List Blk},(∀b∈R,rowsh mem[b]?=true->F b)->Kept F mem (Pi.kill mem R)
 |[],mem,_=>.refl
 |b::R,mem,h=>by
  have rest:=Kept.killR (F:=F) (R:=R) (mem:=Pi.freeze mem b) fun b' hb hk=>h b' (by simp[hb]) (zi0 hk)
  cases e:rowsh mem[b]? with
  |true=>exact(Kept.freeze (h b (by simp) e)).trans rest
  |false=>rw[zhz e]at rest;unfold Pi.kill;rw[zhz e];exact rest
theorem zgf{mem:List Blk}:∀{l:List Nat}{b:Nat},b∈l->rowsh mem[b]?=true->b∈filtR mem l
 |c::l,b,h,hk=>by
  unfold filtR
  rcases List.mem_cons.1 h with rfl| h
  ·rw[if_pos hk];simp
  ·split
   ·exact List.mem_cons_of_mem _ (zgf h hk)
   ·exact zgf h hk
theorem Kept.imp1{F:Nat->Prop}{mem:List Blk}{x:PV}:Kept F mem (imp1 mem x).2:=by
 cases x<;>first| exact .refl|exact .append _
theorem Kept.impL{F:Nat->Prop}:∀{xs:List PV}{mem:List Blk},Kept F mem (impL mem xs).2
|[],_=>.refl
|_::_,_=>Kept.imp1.trans Kept.impL
theorem Kept.impA{F:Nat->Prop}{mem:List Blk}{x:PV}:Kept F mem (impA mem x).2:=by
 cases x<;>first| exact Kept.impL|exact Kept.imp1
theorem Kept.impAL{F:Nat->Prop}:∀{xs:List PV}{mem:List Blk},Kept F mem (impAL mem xs).2
|[],_=>.refl
|_::_,_=>Kept.impA.trans Kept.impAL
theorem Kept.imp{F:Nat->Prop}{mem:List Blk}{x:PV}:Kept F mem (imp mem x).2:=by
 cases x<;>first| exact Kept.impAL|exact Kept.impA
theorem Kept.pub{F:Nat->Prop}{mem mem':List Blk}{x y:PV}(hx:∀b∈x.refs,F b)(h:pub mem x=some (y,mem')):Kept F mem mem':=by
 cases x<;>simp only[Pi.pub]at h<;>first
  |(cases h;done)
  |(cases h;exact .refl)
  |(simp only[M'0,Prod.mk.injEq]at h;obtain⟨_,_,_,rfl⟩:=h;exact .freeze (hx _ (by simp[PV.refs])))
theorem Kept.pubL{F:Nat->Prop}:∀{xs ys:List PV}{mem mem':List Blk},(∀b∈refsL xs,F b)->pubL mem xs=some (ys,mem')->Kept F mem mem'
 |[],ys,mem,mem',_,h=>by
  simp only[Pi.pubL,Option.some.injEq,Prod.mk.injEq]at h
  obtain⟨_,rfl⟩:=h
  exact .refl
 |x::xs,ys,mem,mem',hx,h=>by
  simp only[refsL,L'j]at hx
  simp only[Pi.pubL,L's,M'0,Prod.mk.injEq]at h
  obtain⟨⟨y,m1⟩,h1,⟨⟨ys',m2⟩,h2,_,rfl⟩⟩:=h
  exact(Kept.pub (fun b hb=>hx b (.inl hb)) h1).trans (Kept.pubL (fun b hb=>hx b (.inr hb)) h2)
theorem Kept.pubE{F:Nat->Prop}{mem mem':List Blk}{x y:PV}(hx:∀b∈x.refs,F b)(h:pubE mem x=some (y,mem')):Kept F mem mem':=by
 by_cases hq:∃cs,x=.agg cs
 ·obtain⟨cs,rfl⟩:=hq
  simp only[Pi.pubE,M'0,Prod.mk.injEq]at h
  obtain⟨⟨ys,m1⟩,h1,_,rfl⟩:=h
  exact Kept.pubL (by simpa [PV.refs]using hx) h1
 ·have hq:∀cs,x≠.agg cs:=fun cs e=>hq ⟨cs,e⟩
  have he:∀m,Pi.pubE m x=Pi.pub m x:=by intro m;cases x<;>first|rfl|exact absurd rfl (hq _)
  rw[he]at h
  exact Kept.pub hx h
theorem Kept.rowV{F:Nat->Prop}{fl:Bool}{sz:Nat}:∀{xs ys:List PV}{mem mem':List Blk},(∀b∈refsL xs,F b)->rowV fl sz mem xs=some (ys,mem')->Kept F mem mem'
 |[],ys,mem,mem',_,h=>by
  simp only[Pi.rowV,Option.some.injEq,Prod.mk.injEq]at h
  obtain⟨_,rfl⟩:=h
  exact .refl
 |x::xs,ys,mem,mem',hx,h=>by
  simp only[refsL,L'j]at hx
  simp only[Pi.rowV,L's]at h
  obtain⟨⟨y,m1⟩,h1,h2⟩:=h
  split at h2
  ·simp only[M'0,Prod.mk.injEq]at h2
   obtain⟨⟨ys',m2⟩,h3,_,rfl⟩:=h2
   exact(Kept.pubE (fun b hb=>hx b (.inl hb)) h1).trans (Kept.rowV (fun b hb=>hx b (.inr hb)) h3)
  ·cases h2
theorem Kept.linP{F:Nat->Prop}{mem mem':List Blk}{x y:PV}(hx:∀b∈x.refs,F b)(h:linP mem x=some (y,mem')):Kept F mem mem':=by
 cases x<;>simp only[Pi.linP]at h
 case ref j sz off len=>
  split at h
  ·split at h
   ·cases h;exact .set (hx j (by simp[PV.refs])) _
   ·cases h
  ·cases h
 all_goals first
  |(cases h;done)
  |(cases h;exact .refl)
  |(split at h<;>first| (cases h;done)|(cases h;exact .refl))
theorem Kept.linL{F:Nat->Prop}:∀{xs ys:List PV}{mem mem':List Blk},(∀b∈refsL xs,F b)->linL mem xs=some (ys,mem')->Kept F mem mem'
 |[],ys,mem,mem',_,h=>by
  simp only[Pi.linL,Option.some.injEq,Prod.mk.injEq]at h
  rw[<-h.2];exact .refl
 |x::xs,ys,mem,mem',hx,h=>by
  simp only[refsL,L'j]at hx
  simp only[Pi.linL,L's,M'0,Prod.mk.injEq]at h
  obtain⟨⟨y,m1⟩,h1,⟨⟨ys',m2⟩,h2,_,rfl⟩⟩:=h
  exact(Kept.linP (fun b hb=>hx b (.inl hb)) h1).trans (Kept.linL (fun b hb=>hx b (.inr hb)) h2)
theorem Kept.linE{F:Nat->Prop}{mem mem':List Blk}{x y:PV}(hx:∀b∈x.refs,F b)(h:linE mem x=some (y,mem')):Kept F mem mem':=by
 by_cases hq:∃cs,x=.agg cs
 ·obtain⟨cs,rfl⟩:=hq
  simp only[Pi.linE,M'0,Prod.mk.injEq]at h
  obtain⟨⟨ys,m⟩,h1,_,rfl⟩:=h
  exact Kept.linL (by simpa [PV.refs]using hx) h1
 ·have he:Pi.linE mem x=Pi.linP mem x:=by cases x<;>first| rfl| exact absurd ⟨_,rfl⟩ hq
  rw[he]at h
  exact Kept.linP hx h
theorem Kept.linR{F:Nat->Prop}{sz:Nat}:∀{xs ys:List PV}{mem mem':List Blk},(∀b∈refsL xs,F b)->linR sz mem xs=some (ys,mem')->Kept F mem mem'
 |[],ys,mem,mem',_,h=>by
  simp only[Pi.linR,Option.some.injEq,Prod.mk.injEq]at h
  rw[<-h.2];exact .refl
 |x::xs,ys,mem,mem',hx,h=>by
  simp only[refsL,L'j]at hx
  simp only[Pi.linR,L's]at h
  obtain⟨⟨y,m1⟩,h1,h2⟩:=h
  split at h2
  ·simp only[M'0,Prod.mk.injEq]at h2
   obtain⟨⟨ys',m2⟩,h3,_,rfl⟩:=h2
   exact(Kept.linE (fun b hb=>hx b (.inl hb)) h1).trans (Kept.linR (fun b hb=>hx b (.inr hb)) h3)
  ·cases h2
theorem Kept.storeV{F:Nat->Prop}{mem mem':List Blk}{n:Nat}{x y:PV}(hx:∀b∈x.refs,F b)(hy:∀b∈y.refs,F b)(h1:storeV mem n x y=some mem'):Kept F mem mem':=by
 unfold Pi.storeV at h1
 split at h1
 ·rename_i b off
  split at h1
  ·split at h1
   ·cases h1;exact .set (hx b (by simp[PV.refs])) _
   ·cases h1
  ·cases h1
 ·rename_i b sz' i off
  simp only[L's]at h1
  obtain⟨⟨y',m1⟩,h2,h3⟩:=h1
  have k1:=Kept.pubE hy h2
  split at h3
  ·split at h3
   ·split at h3
    ·simp only[L's]at h3
     obtain⟨e',h4,h5⟩:=h3
     split at h5
     ·cases h5;exact k1.trans (.set (hx b (by simp[PV.refs])) _)
     ·cases h5
    ·cases h3
   ·cases h3
  ·cases h3
 ·cases h1
theorem Kept.stlV{F:Nat->Prop}{mem mem':List Blk}{n:Nat}{x y:PV}(hx:∀b∈x.refs,F b)(hy:∀b∈y.refs,F b)(h1:stlV mem n x y=some mem'):Kept F mem mem':=by
 unfold Pi.stlV at h1
 split at h1
 ·rename_i b sz' i off
  split at h1
  ·simp only[L's]at h1
   obtain⟨⟨y',m1⟩,h2,h3⟩:=h1
   have k1:=Kept.linE hy h2
   split at h3
   ·split at h3
    ·split at h3
     ·simp only[L's]at h3
      obtain⟨e',h4,h5⟩:=h3
      split at h5
      ·cases h5;exact k1.trans (.set (hx b (by simp[PV.refs])) _)
      ·cases h5
     ·cases h3
    ·cases h3
   ·cases h3
  ·simp only[L's]at h1
   obtain⟨⟨y',m1⟩,h2,h3⟩:=h1
   have k1:=Kept.linE hy h2
   split at h3
   ·split at h3
    ·split at h3
     ·simp only[L's]at h3
      obtain⟨e',h4,h5⟩:=h3
      split at h5
      ·cases h5;exact k1.trans (.set (hx b (by simp[PV.refs])) _)
      ·cases h5
     ·cases h3
    ·cases h3
   ·cases h3
  ·exact Kept.storeV hx hy h1
 ·exact Kept.storeV hx hy h1
theorem Kept.ldtV{F:Nat->Prop}{mem mem':List Blk}{t:TypeId}{x v:PV}(hx:∀b∈x.refs,F b)(h:ldtV t mem x=some (v,mem')):Kept F mem mem':=by
 have dflt:((loadV mem false 1 x).map fun v=>(v,mem))=some (v,mem')->Kept F mem mem':=by
  intro h
  simp only[M'0,Prod.mk.injEq]at h
  obtain⟨_,_,_,rfl⟩:=h
  exact .refl
 unfold Pi.ldtV at h
 split at h
 ·rename_i b sz i off
  split at h
  ·split at h
   ·simp only[L's]at h
    obtain⟨e,h1,h2⟩:=h
    split at h2
    ·split at h2
     ·cases h2
     ·simp only[L's]at h2
      obtain⟨e',h3,h4⟩:=h2
      split at h4
      ·cases h4;exact(Kept.set (hx b (by simp[PV.refs])) _).trans (.append _)
      ·cases h4
    ·cases h2;exact .refl
    ·cases h2
   ·cases h
  ·exact dflt h
 ·exact dflt h
theorem Kept.ldfV{F:Nat->Prop}{mem mem':List Blk}{x v:PV}(hx:∀b∈x.refs,F b)(h:ldfV mem x=some (v,mem')):Kept F mem mem':=by
 have dflt:((loadV mem false 1 x).map fun v=>(v,mem))=some (v,mem')->Kept F mem mem':=by
  intro h
  simp only[M'0,Prod.mk.injEq]at h
  obtain⟨_,_,_,rfl⟩:=h
  exact .refl
 unfold Pi.ldfV at h
 split at h
 ·rename_i b sz i off
  split at h
  ·simp only[M'0,Prod.mk.injEq]at h
   obtain⟨_,_,_,rfl⟩:=h
   exact .freeze (hx b (by simp[PV.refs]))
  ·exact dflt h
 ·exact dflt h
theorem Kept.slqV{F:Nat->Prop}{mem mem':List Blk}{sz:Nat}{x l v:PV}(hx:∀b∈x.refs,F b)(h:slqV mem sz x l=some (v,mem')):Kept F mem mem':=by
 have dflt:∀l',((z1b4 mem sz x (some l') none).map fun v=>(v,mem))=some (v,mem')->Kept F mem mem':=by
  intro l' h
  simp only[M'0,Prod.mk.injEq]at h
  obtain⟨_,_,_,rfl⟩:=h
  exact .refl
 unfold Pi.slqV at h
 split at h
 ·rename_i b sz' off len k l'
  split at h
  ·split at h
   ·cases h;exact(Kept.set (hx b (by simp[PV.refs])) _).trans (.append _)
   ·cases h
  ·exact dflt _ h
 ·split at h
  ·split at h
   ·cases h;exact .refl
   ·cases h
  ·cases h
 ·exact dflt _ h
theorem Kept.appendV{F:Nat->Prop}{mem mem':List Blk}{t:TypeId}{fl:Bool}{sz:Nat}{x y v:PV}(hx:∀b∈x.refs,F b)(h:appendV mem t fl sz x y=some (v,mem')):Kept F mem mem':=by
 unfold Pi.appendV at h
 simp only[L's]at h
 obtain⟨s,h1,h2⟩:=h
 split at h2
 case isFalse=>cases h2
 split at h2
 ·cases h2;exact .append _
 ·rename_i b sx off len
  have hb:=hx b (by simp[PV.refs])
  split at h2
  ·split at h2
   ·split at h2
    ·cases h2;exact(Kept.set hb _).trans (.append _)
    ·split at h2
     ·cases h2;exact .set hb _
     ·split at h2
      ·cases h2;exact(Kept.set hb _).trans (.append _)
      ·cases h2
   ·cases h2
  ·cases h2
 ·cases h2
theorem Kept.apqV{F:Nat->Prop}{mem mem':List Blk}{t:TypeId}{sz:Nat}{x y v:PV}(hx:∀b∈x.refs,F b)(h:apqV mem t sz x y=some (v,mem')):Kept F mem mem':=by
 unfold Pi.apqV at h
 split at h
 ·rename_i b sx off len
  simp only[L's]at h
  obtain⟨s,h1,h2⟩:=h
  split at h2
  ·split at h2
   ·cases h2;exact(Kept.set (hx b (by simp[PV.refs])) _).trans (.append _)
   ·cases h2
  ·cases h2
 ·exact Kept.appendV hx h
theorem Kept.applV{F:Nat->Prop}{mem mem':List Blk}{t:TypeId}{fl:Bool}{sz:Nat}{x y v:PV}(hx:∀b∈x.refs,F b)(hy:∀b∈y.refs,F b)(h:applV mem t fl sz x y=some (v,mem')):Kept F mem mem':=by
 unfold Pi.applV at h
 split at h
 ·rename_i b2 s2 o2 l2
  have hb2:=hy b2 (by simp[PV.refs])
  split at h
  ·split at h
   case isFalse=>cases h
   split at h
   ·cases h;exact(Kept.set hb2 _).trans (.append _)
   ·rename_i b sx off len
    have hb:=hx b (by simp[PV.refs])
    split at h
    ·split at h
     ·cases h;exact((Kept.set hb2 _).trans (.set hb _)).trans (.append _)
     ·cases h
    ·cases h
   ·cases h
  ·exact Kept.appendV hx h
 ·exact Kept.appendV hx h
theorem zhr{orc:Orc}{rs fr:List PV}{mem:List Blk}{op:IOp}{v:PV}{mem':List Blk}(hF:isF op=true)(h:z1cm orc rs fr mem op=some (v,mem')):Kept (fun b=>b∈foot rs fr mem op) mem mem':=by
 have cV:∀(F:Nat->Prop) (q:Bool) (f:FuncId) (args:List PV),(∀b∈reach mem 3 (refsL args),rowsh mem[b]?=true->F b)->callV orc q mem f args=some (v,mem')->Kept F mem mem':=by
  intro F q f args hin h
  simp only[callV,L's]at h
  obtain⟨vs,h1,r,h2,h3⟩:=h
  split at h3
  ·split at h3
   ·cases q
    ·simp only[Bool.false_eq_true,if_false,Option.some.injEq]at h3
     have:mem'=(imp mem r.1).2:=by rw[h3]
     rw[this];exact .imp
    ·simp at h3;rw[<-h3.2];exact .refl
   ·split at h3
    ·cases h3
    ·simp only[Option.some.injEq]at h3
     have:mem'=(imp (kill mem (reach mem 3 (refsL args))) r.1).2:=by rw[h3]
     rw[this];exact(Kept.killR hin).trans .imp
  ·cases h3
 cases op<;>simp[isF]at hF<;>simp only[z1cm]at h
 case store n x y=>
  split at h
  ·rename_i u1 u2 e1 e2
   have hf:foot rs fr mem (.store n x y)=reach mem 3 (refsL [u1,u2]):=by simp[foot,opds,evL,e1,e2,isC]
   rw[hf]
   have in1:∀b∈u1.refs,b∈reach mem 3 (refsL [u1,u2]):=fun b hb=>z140 3 b (by simp[refsL,hb])
   have in2:∀b∈u2.refs,b∈reach mem 3 (refsL [u1,u2]):=fun b hb=>z140 3 b (by simp[refsL,hb])
   simp only[M'0,Prod.mk.injEq]at h
   obtain⟨m,h1,rfl,rfl⟩:=h
   unfold storeV at h1
   split at h1
   ·rename_i b off
    split at h1
    ·split at h1
     ·cases h1;exact .set (in1 b (by simp[PV.refs])) _
     ·cases h1
    ·cases h1
   ·rename_i b sz' i off
    simp only[L's]at h1
    obtain⟨⟨y',m1⟩,h2,h3⟩:=h1
    have k1:=Kept.pubE in2 h2
    split at h3
    ·split at h3
     ·split at h3
      ·simp only[L's]at h3
       obtain⟨e',h4,h5⟩:=h3
       split at h5
       ·cases h5;exact k1.trans (.set (in1 b (by simp[PV.refs])) _)
       ·cases h5
      ·cases h3
     ·cases h3
    ·cases h3
   ·cases h1
  ·cases h
 case bslice q t fl sz ps=>
  subst hF
  simp only[L's]at h
  obtain⟨ys,h1,h2⟩:=h
  have hf:foot rs fr mem (.bslice false t fl sz ps)=reach mem 3 (refsL ys):=by simp[foot,opds,h1,isC]
  rw[hf]
  split at h2
  ·cases h2
  ·simp only[M'0,Prod.mk.injEq]at h2
   obtain⟨⟨zs,m1⟩,h3,rfl,rfl⟩:=h2
   exact(Kept.rowV (fun b hb=>z140 3 b hb) h3).trans (.append _)
 case call q f ps=>
  simp only[L's]at h
  obtain⟨ys,h1,h2⟩:=h
  have hf:foot rs fr mem (.call q f ps)=filtR mem (reach mem 3 (refsL ys)):=by simp[foot,opds,h1,isC]
  rw[hf]
  exact cV _ q f ys (fun b hb hk=>zgf hb hk) h2
 case callv q x ps=>
  split at h
  ·rename_i f caps e1
   simp only[L's]at h
   obtain⟨ys,h1,h2⟩:=h
   have hf:foot rs fr mem (.callv q x ps)=filtR mem (reach mem 3 (refsL (.clo f caps::ys))):=by simp[foot,opds,evL,e1,h1,isC]
   rw[hf]
   refine cV _ q f _ (fun b hb hk=>zgf (z141 3 (fun r hr=>?_) b hb) hk) h2
   have app:∀(xs zs:List PV),refsL (xs++zs)=refsL xs++refsL zs:=by
    intro xs zs
    induction xs with
    |nil=>rfl
    |cons x xs ih=>simp[refsL,ih]
   rw[app,L'j]at hr
   simp only[refsL,PV.refs,L'j]
   exact hr.symm
  ·cases h
 case append t fl sz x y=>
  split at h
  ·rename_i u1 u2 e1 e2
   have hf:foot rs fr mem (.append t fl sz x y)=reach mem 3 (refsL [u1,u2]):=by simp[foot,opds,evL,e1,e2,isC]
   rw[hf]
   have in1:∀b∈u1.refs,b∈reach mem 3 (refsL [u1,u2]):=fun b hb=>z140 3 b (by simp[refsL,hb])
   unfold appendV at h
   simp only[L's]at h
   obtain⟨s,h1,h2⟩:=h
   split at h2
   case isFalse=>cases h2
   split at h2
   ·cases h2;exact .append _
   ·rename_i b sx off len
    have hb:=in1 b (by simp[PV.refs])
    split at h2
    ·split at h2
     ·split at h2
      ·cases h2;exact(Kept.set hb _).trans (.append _)
      ·split at h2
       ·cases h2;exact .set hb _
       ·split at h2
        ·cases h2;exact(Kept.set hb _).trans (.append _)
        ·cases h2
     ·cases h2
    ·cases h2
   ·cases h2
  ·cases h
 case mkl t sz z x=>
  split at h
  ·split at h
   ·cases h;exact .append _
   ·cases h
  ·cases h
 case nill t sz=>cases h;exact .append _
 case bsl t sz ps=>
  simp only[L's,M'0,Prod.mk.injEq]at h
  obtain⟨ys,h1,⟨zs,m⟩,h3,rfl,rfl⟩:=h
  have hf:foot rs fr mem (.bsl t sz ps)=reach mem 3 (refsL ys):=by simp[foot,opds,h1,isC]
  rw[hf]
  exact(Kept.linR (fun b hb=>z140 3 b hb) h3).trans (.append _)
 case stl n x y=>
  split at h
  ·rename_i u1 u2 e1 e2
   have hf:foot rs fr mem (.stl n x y)=reach mem 3 (refsL [u1,u2]):=by simp[foot,opds,evL,e1,e2,isC]
   rw[hf]
   simp only[M'0,Prod.mk.injEq]at h
   obtain⟨m,h1,rfl,rfl⟩:=h
   exact Kept.stlV (fun b hb=>z140 3 b (by simp[refsL,hb])) (fun b hb=>z140 3 b (by simp[refsL,hb])) h1
  ·cases h
 case appl t fl sz x y=>
  split at h
  ·rename_i u1 u2 e1 e2
   have hf:foot rs fr mem (.appl t fl sz x y)=reach mem 3 (refsL [u1,u2]):=by simp[foot,opds,evL,e1,e2,isC]
   rw[hf]
   exact Kept.applV (fun b hb=>z140 3 b (by simp[refsL,hb])) (fun b hb=>z140 3 b (by simp[refsL,hb])) h
  ·cases h
 case ldt t x=>
  simp only[L's]at h
  obtain⟨u,e1,h1⟩:=h
  have hf:foot rs fr mem (.ldt t x)=reach mem 3 (refsL [u]):=by simp[foot,opds,evL,e1,isC]
  rw[hf]
  exact Kept.ldtV (fun b hb=>z140 3 b (by simp[refsL,hb])) h1
 case ldf x=>
  simp only[L's]at h
  obtain⟨u,e1,h1⟩:=h
  have hf:foot rs fr mem (.ldf x)=reach mem 3 (refsL [u]):=by simp[foot,opds,evL,e1,isC]
  rw[hf]
  exact Kept.ldfV (fun b hb=>z140 3 b (by simp[refsL,hb])) h1
 case slq n x y=>
  split at h
  ·rename_i u1 u2 e1 e2
   have hf:foot rs fr mem (.slq n x y)=reach mem 3 (refsL [u1,u2]):=by simp[foot,opds,evL,e1,e2,isC]
   rw[hf]
   exact Kept.slqV (fun b hb=>z140 3 b (by simp[refsL,hb])) h
  ·cases h
 case apq t n x y=>
  split at h
  ·rename_i u1 u2 e1 e2
   have hf:foot rs fr mem (.apq t n x y)=reach mem 3 (refsL [u1,u2]):=by simp[foot,opds,evL,e1,e2,isC]
   rw[hf]
   exact Kept.apqV (fun b hb=>z140 3 b (by simp[refsL,hb])) h
  ·cases h
 case copy n x y=>
  split at h
  ·rename_i u1 u2 e1 e2
   have hf:foot rs fr mem (.copy n x y)=reach mem 3 (refsL [u1,u2]):=by simp[foot,opds,evL,e1,e2,isC]
   rw[hf]
   simp only[M'0,Prod.mk.injEq]at h
   obtain⟨r,h1,_,rfl⟩:=h
   cases u1<;>simp only[copyV]at h1<;>try(cases h1;done)
   case ref b sz off len=>
    simp only[L's]at h1
    obtain⟨s,_,h3⟩:=h1
    split at h3
    ·split at h3
     ·cases h3;exact .set (z140 3 b (by simp[refsL,PV.refs])) _
     ·cases h3
    ·cases h3
  ·cases h
 case clr z x=>
  simp only[L's,M'0,Prod.mk.injEq]at h
  obtain⟨u,e1,m,h1,rfl,rfl⟩:=h
  have hf:foot rs fr mem (.clr z x)=reach mem 3 (refsL [u]):=by simp[foot,opds,evL,e1,isC]
  rw[hf]
  cases u<;>simp only[clrV]at h1<;>try(cases h1;done)
  case nil=>cases h1;exact .refl
  case ref b sz off len=>
   split at h1
   ·cases h1;exact .refl
   ·split at h1
    ·split at h1
     ·cases h1;exact .set (z140 3 b (by simp[refsL,PV.refs])) _
     ·cases h1
    ·cases h1
 case callm f ps=>
  simp only[L's]at h
  obtain⟨ys,h1,h2⟩:=h
  have hf:foot rs fr mem (.callm f ps)=reach mem 3 (refsL ys):=by simp[foot,opds,h1,isC]
  rw[hf]
  simp only[callM]at h2
  split at h2
  case isFalse=>cases h2
  simp only[L's]at h2
  obtain⟨M,h3,r,h4,h5⟩:=h2
  split at h5
  case isFalse=>cases h5
  simp only[Option.some.injEq]at h5
  generalize hm2:((mem.mapIdx fun b k=>if (reach mem 2 (refsL ys)).eraseDups.contains b=true then _ else k)++_)=mem2 at h5
  have h6:=congrArg Prod.snd h5
  simp only at h6
  rw[<-h6]
  refine Kept.trans ?_ .imp
  rw[<-hm2]
  refine⟨by simp,fun b hb hn=>?_⟩
  rw[L'm (by simpa using hb),List.getElem?_mapIdx]
  have hnI:b∉reach mem 2 (refsL ys):=fun hI=>hn (z142 2 b hI)
  cases hk:mem[b]?<;>simp[hnI]
 case bad=>cases h
end Go.Proofs.YtbaclnecajkknaaGreat.Pi

