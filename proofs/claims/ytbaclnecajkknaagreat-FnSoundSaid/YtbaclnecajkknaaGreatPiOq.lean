/- Pi: each operation of a function against its form, all. -/
import Derived.Test.YtbaclnecajkknaaGreatPiOp
open Option renaming map_eq_some_iff->M'0,bind_eq_some_iff->L's,isSome_iff_exists->N'f
open Bool renaming and_eq_true->L'c,not_eq_true'->N'e
open List renaming range->L'1,zip_map'->N'd,all_eq_true->L'h
namespace Go.Proofs.YtbaclnecajkknaaGreat.Pi
open Go
set_option linter.all false

section
variable {P:Program}{G:Gh}{w:World}{mem:List Blk}{a:Act}{rs fr:List PV}{c:Ctx}
theorem Made.op{o:Oper}{w':World}{k:Blk}{res:Nat->PV}{v':Value}(hG:Good G w mem)(h:(execOp a.eval o).run P w=.ok (.value v') w')(hm:Made G w w' k res v'):OpOk P o a G w mem (res mem.length) (mem++[k]):=by
 obtain⟨G',g1,g2,g3⟩:=hm.push hG
 exact .value h g1 g2 g3
theorem zv4{x v:PV}{b:Value}(hx:Rp G w x b)(h:zv2 x=some v):(∃ad,b=.pointer (some ad))/\v=x:=by
 cases x<;>simp only[zv2]at h<;>try(cases h;done)
 case ptr=>cases h;obtain⟨c,cp,_,rfl⟩:=hx;exact⟨⟨_,rfl⟩,rfl⟩
 case ep=>cases h;obtain⟨c,cp,_,rfl⟩:=hx;exact⟨⟨_,rfl⟩,rfl⟩
 case pv=>cases h;obtain⟨c,o,vx,rfl,_⟩:=hx;exact⟨⟨_,rfl⟩,rfl⟩
theorem zxj{orc:Orc}(hG:Good G w mem)(hr:RelO G w c a rs fr){mf:Md}{q:Bool}{o:Oper}{iop:IOp}
  (h:opOf P mf q c o=some iop) {v:PV} {mem':List Blk} (hs:z1cm orc rs fr mem iop=some (v,mem')) (hop:∀cl,o.op≠.call cl) (hbin:∀op t x y ty,o.op≠.binOp op t x y ty):OpOk P o a G w mem v mem':=by
 obtain⟨dst,op,type,pos,after,guard⟩:=o
 cases op<;>simp only[opOf]at h<;>try(cases h;done)
 case move x=>
  split at h
  ·rename_i e he
   simp only[Option.some.injEq]at h
   have hx:x=.const (.slice none 0 0):=by
    unfold nilOf at he
    split at he
    ·rfl
    ·cases he
   subst hx
   split at h
   ·subst h
    simp only[z1cm,Option.some.injEq,Prod.mk.injEq]at hs
    obtain⟨rfl,rfl⟩:=hs
    exact Made.op (v':=.slice none 0 0) (w':=w) hG (by simp [execOp,Act.eval]) (zvl none)
   ·subst h
    simp only[z1cm,Option.some.injEq,Prod.mk.injEq]at hs
    obtain⟨rfl,rfl⟩:=hs
    exact Made.op (v':=.slice none 0 0) (w':=w) hG (by simp [execOp,Act.eval]) zvm
  simp only[M'0]at h
  obtain⟨ox,h1,rfl⟩:=h
  simp only[z1cm,M'0,Prod.mk.injEq]at hs
  obtain⟨y,e1,rfl,rfl⟩:=hs
  exact .same hG (by simp [execOp]) (zy3 hr h1 e1)
 case assign x=>
  split at h
  ·rename_i e he
   simp only[Option.some.injEq]at h
   have hx:x=.const (.slice none 0 0):=by
    unfold nilOf at he
    split at he
    ·rfl
    ·cases he
   subst hx
   split at h
   ·subst h
    simp only[z1cm,Option.some.injEq,Prod.mk.injEq]at hs
    obtain⟨rfl,rfl⟩:=hs
    exact Made.op (v':=.slice none 0 0) (w':=w) hG (by simp [execOp,Act.eval]) (zvl none)
   ·subst h
    simp only[z1cm,Option.some.injEq,Prod.mk.injEq]at hs
    obtain⟨rfl,rfl⟩:=hs
    exact Made.op (v':=.slice none 0 0) (w':=w) hG (by simp [execOp,Act.eval]) zvm
  simp only[M'0]at h
  obtain⟨ox,h1,rfl⟩:=h
  simp only[z1cm,M'0,Prod.mk.injEq]at hs
  obtain⟨y,e1,rfl,rfl⟩:=hs
  exact .same hG (by simp [execOp]) (zy3 hr h1 e1)
 case pick x y z=>
  simp only[L's,M'0]at h
  obtain⟨ox,h1,oy,h2,oz,h3,rfl⟩:=h
  simp only[z1cm]at hs
  split at hs
  ·rename_i hb
   have hc:=(zy3 hr h1 hb).bool_inv
   simp only[M'0,Prod.mk.injEq]at hs
   obtain⟨u,e1,rfl,rfl⟩:=hs
   exact .same hG (by simp [execOp,hc,asBool]) (zy3 hr h2 e1)
  ·rename_i hb
   have hc:=(zy3 hr h1 hb).bool_inv
   simp only[M'0,Prod.mk.injEq]at hs
   obtain⟨u,e1,rfl,rfl⟩:=hs
   exact .same hG (by simp [execOp,hc,asBool]) (zy3 hr h3 e1)
  ·cases hs
 case alloc t=>
  simp only[L's]at h
  obtain⟨z,h1,h2⟩:=h
  split at h2
  ·rename_i hk;cases h2
   simp only[z1cm,Option.some.injEq,Prod.mk.injEq]at hs
   obtain⟨rfl,rfl⟩:=hs
   obtain⟨v',w',e1,e2⟩:=z30 (G:=G) (w:=w) h1 hk
   exact Made.op hG (by simp [execOp,e1]) e2
  ·cases h2
 case box t x=>
  simp only[M'0]at h
  obtain⟨ox,h1,rfl⟩:=h
  simp only[z1cm,L's]at hs
  obtain⟨y,e1,e2⟩:=hs
  split at e2
  ·rename_i hk;cases e2
   obtain⟨v',w',f1,f2⟩:=z7e (P:=P) (t:=t) (zy3 hr h1 e1) hk.2
   exact Made.op hG (by simp [execOp,f1]) f2
  ·cases e2
 case build t parts=>
  simp only[L's]at h
  obtain⟨z,h1,h2⟩:=h
  split at h2
  case isFalse=>cases h2
  rename_i hk
  simp only[L'c,L'h]at hk
  simp only[M'0]at h2
  obtain⟨ps,h3,rfl⟩:=h2
  simp only[z1cm,L's]at hs
  obtain⟨ys,e1,e2⟩:=hs
  split at e2
  case isFalse=>cases e2
  rename_i hones
  simp only[M'0,Prod.mk.injEq]at e2
  obtain⟨out,e3,rfl,rfl⟩:=e2
  have parts_ok:∀(l:List (Nat×Operand)) (ps:List (Nat×Nat×Opd)) (ys:List PV),(l.mapM fun p=>(zg5 P t p.1).bind fun fd=>(opdOf P c fd.type p.2).map fun y=>(fd.offset,P.cellsOf fd.type,y))=some ps->evL rs fr (ps.map fun p=>p.2.2)=some ys ->
    ∃qs:List (Nat×Nat×Nat),qs.map (·.1)=l.map (·.1)/\qs.length=ys.length/\(∀p∈qs,∃fd,zg5 P t p.1=some fd/\fd.offset=p.2.1/\P.cellsOf fd.type=p.2.2)/\RpL G w ys (l.map fun p=>a.eval p.2) /\
     (ps.zip ys).map (fun p=>(p.1.1,p.1.2.1,p.2))=(qs.zip ys).map fun p=>(p.1.2.1,p.1.2.2,p.2):=by
   intro l
   induction l with
   |nil=>
    intro ps ys h he
    simp at h;subst h
    simp only[List.map_nil,evL,Option.some.injEq]at he;subst he
    exact⟨[],rfl,rfl,by simp,rfl,rfl⟩
   |cons p l ih=>
    intro ps ys h he
    rw[List.mapM_cons]at h
    simp only[Option.pure_def,Option.bind_eq_bind,L's,M'0]at h
    obtain⟨p',⟨fd,g1,oy,g2,rfl⟩,ps',g3,g4⟩:=h
    cases g4
    simp only[List.map_cons,evL,L's,M'0]at he
    obtain⟨y,k1,ys',k2,rfl⟩:=he
    obtain⟨qs,q1,q2,q3,q4,q5⟩:=ih ps' ys' g3 k2
    refine⟨(p.1,fd.offset,P.cellsOf fd.type)::qs,by simp [q1],by simp [q2],?_,⟨_,_,rfl,zy3 hr g2 k1,q4⟩,by simp [q5]⟩
    intro r hr'
    rcases List.mem_cons.1 hr' with rfl|hr'
    ·exact⟨fd,g1,rfl,rfl⟩
    ·exact q3 r hr'
  obtain⟨qs,q1,q2,q3,q4,q5⟩:=parts_ok parts.toList ps ys h3 e1
  rw[q5]at e3
  have hst:P.underlying t=some (.struct (P.fieldsOf t)):=by
   have:=hk.1.2
   unfold znu at this
   split at this
   ·rename_i fs hfs;simp [Program.fieldsOf,hfs]
   ·cases this
  have hones':∀x∈ys,x.cells.all PV.one=true:=by
   rw[L'h]at hones
   exact hones
  obtain⟨v',f1,f2⟩:=z7m (P:=P) hst h1 hk.1.1 hk.2 q4 (fun p hp=>by
   obtain⟨fd,g1,g2⟩:=q3 p hp
   obtain⟨fs,g3,g4⟩:=zg6 g1
   exact⟨fd,by simp only[Program.fieldsOf,g3];exact g4,g2⟩) q2 hones' e3
  have hparts:(parts.map fun(i,x)=>(i,a.eval x))=((qs.map (·.1)).zip (parts.toList.map fun p=>a.eval p.2)).toArray:=by
   apply Array.ext'
   rw[q1]
   simp [N'd]
  exact .same hG (by simp only[execOp,Sem.run_bind,hparts,f1];rfl) f2
 case load t x=>
  split at h
  case isFalse=>cases h
  rename_i ht
  simp only[M'0]at h
  obtain⟨ox,h1,h2⟩:=h
  have plain:iop=.load (aggT P t) (P.cellsOf t) ox->OpOk P ⟨dst,.load t x,type,pos,after,guard⟩ a G w mem v mem':=by
   rintro rfl
   simp only[z1cm,L's,M'0,Prod.mk.injEq]at hs
   obtain⟨y,e1,r,e2,rfl,rfl⟩:=hs
   obtain⟨v',f1,f2⟩:=zrz hG (zy3 hr h1 e1) ht e2
   exact .same hG (by simp [execOp,f1]) f2
  split at h2
  case h_2=>exact plain h2.symm
  rename_i e hcd
  split at hcd
  case isFalse=>cases hcd
  rename_i hk
  simp only[L'c,N'e,beq_iff_eq]at hk
  split at h2
  case isFalse=>exact plain h2.symm
  split at h2
  ·subst h2
   simp only[z1cm,L's]at hs
   obtain⟨y,e1,e2⟩:=hs
   obtain⟨v',G',f1,f2,f3,f4⟩:=zph hG (zy3 hr h1 e1) ht hk.1.2 hk.2 e2
   exact .value (by simp [execOp,f1]) f2 f3 f4
  ·subst h2
   simp only[z1cm,L's]at hs
   obtain⟨y,e1,e2⟩:=hs
   obtain⟨v',G',f1,f2,f3,f4⟩:=zpp hG (zy3 hr h1 e1) ht hk.1.2 hk.2 e2
   exact .value (by simp [execOp,f1]) f2 f3 f4
 case store t x y=>
  split at h
  case isFalse=>cases h
  rename_i ht
  simp only[L's,M'0]at h
  obtain⟨ox,h1,oy,h2,rfl⟩:=h
  split at hs
  ·simp only[z1cm]at hs
   split at hs
   ·rename_i u1 u2 e1 e2
    simp only[M'0,Prod.mk.injEq]at hs
    obtain⟨m,e3,rfl,rfl⟩:=hs
    obtain⟨G',w',f1,f2,f3⟩:=z1da hG (zy3 hr h1 e1) (zy3 hr h2 e2) ht e3
    exact .skip (by simp [execOp,f1]) f2 f3
   ·cases hs
  simp only[z1cm]at hs
  split at hs
  ·rename_i u1 u2 e1 e2
   simp only[M'0,Prod.mk.injEq]at hs
   obtain⟨m,e3,rfl,rfl⟩:=hs
   obtain⟨G',w',f1,f2,f3⟩:=z1du hG (zy3 hr h1 e1) (zy3 hr h2 e2) ht e3
   exact .skip (by simp [execOp,f1]) f2 f3
  ·cases hs
 case nilCheck x=>
  simp only[M'0]at h
  obtain⟨ox,h1,rfl⟩:=h
  simp only[z1cm,L's,M'0,Prod.mk.injEq]at hs
  obtain⟨y,e1,r,e2,rfl,rfl⟩:=hs
  have hx:=zy3 hr h1 e1
  obtain⟨⟨ad,hp⟩,rfl⟩:=zv4 hx e2
  exact .same hG (v':=a.eval x) (by simp [execOp,hp]) hx
 case binOp=>exact absurd rfl (hbin _ _ _ _ _)
 case unOp uop t x=>
  cases uop<;>simp only at h<;>try(cases h;done)
  case neg=>
   simp only[M'0]at h
   obtain⟨ox,h1,rfl⟩:=h
   simp only[z1cm]at hs
   split at hs
   ·rename_i k n e1
    cases hs
    have:=(zy3 hr h1 e1).int_inv
    exact .same hG (v':=.int k (k.wrap (0-n))) (by simp [execOp,this,Op.unary,Op.intArith]) rfl
   ·cases hs
  case not=>
   simp only[M'0]at h
   obtain⟨ox,h1,rfl⟩:=h
   simp only[z1cm]at hs
   split at hs
   ·rename_i b e1
    cases hs
    have:=(zy3 hr h1 e1).bool_inv
    exact .same hG (v':=.bool (!b)) (by simp [execOp,this,Op.unary]) rfl
   ·cases hs
 case convert s t x=>
  split at h
  ·rename_i k0 k hs' hd
   simp only[M'0]at h
   obtain⟨ox,h1,rfl⟩:=h
   simp only[z1cm]at hs
   split at hs
   ·rename_i k1 n e1
    cases hs
    have:=(zy3 hr h1 e1).int_inv
    exact .same hG (v':=.int k (k.wrap n)) (by simp [execOp,this,convert,z18i hs',z18i hd,Conv.intToInt]) rfl
   ·cases hs
  ·rename_i e hs' hd
   split at h
   ·rename_i he
    simp only[M'0]at h
    obtain⟨ox,h1,rfl⟩:=h
    simp only[z1cm,L's,M'0,Prod.mk.injEq]at hs
    obtain⟨y,e1,⟨fl,sz,es⟩,e2,bs,e3,rfl,rfl⟩:=hs
    have:=z1e1 hG hs' he hd (zy3 hr h1 e1) e2 e3
    exact .same hG (v':=.string ⟨bs.toArray⟩) (by simp [execOp,this]) rfl
   ·cases h
  ·cases h
 case makeFunc fn first caps=>
  cases fn<;>simp only at h<;>try(cases h;done)
  rename_i f
  split at h
  case isFalse=>cases h
  rename_i hsz
  simp only[M'0]at h
  obtain⟨os,h1,rfl⟩:=h
  simp only[z1cm,L's]at hs
  obtain⟨ys,e1,e2⟩:=hs
  split at e2
  case isFalse=>cases e2
  cases e2
  have hl:=zrn (P:=P) hr (fun x=>x) (fun _=>0) caps.toList os ys h1 e1
  have hf:first=#[]:=by simpa using hsz
  refine .same hG (v':=.func (.func f) #[] (caps.map a.eval)) (by simp [execOp,Instr.makeFunc,hf]) ⟨caps.toList.map a.eval,by congr 1;apply Array.ext';simp,by simpa using hl⟩
 case makeSlice t l cp=>
  split at h
  case isFalse=>cases h
  rename_i hsame
  simp only[L's]at h
  obtain⟨e,h1,z,h2,ol,h3,h4⟩:=h
  split at h4
  case isFalse=>cases h4
  rename_i hk
  simp only[L'c,decide_eq_true_eq]at hk
  cases h4
  have hcpk:∀{k n},a.eval l=.int k n->∃k',a.eval cp=.int k' n:=by
   intro k n hl
   unfold z18u at hsame
   split at hsame
   ·rename_i s1 s2
    have:s1=s2:=by simpa using hsame
    subst this;exact⟨k,hl⟩
   ·rename_i k1 n1 k2 n2
    have:n1=n2:=by simpa using hsame
    subst this
    have hl:Value.int k1 n1=.int k n:=hl
    cases hl;exact⟨k2,rfl⟩
   ·cases hsame
  split at hs
  ·rename_i hml
   simp only[L'c,N'e]at hml
   simp only[z1cm]at hs
   split at hs
   ·rename_i k n e1
    split at hs
    ·rename_i hn
     cases hs
     have hl:=(zy3 hr h3 e1).int_inv
     obtain⟨k',hcp⟩:=hcpk hl
     have hk1:=hk.1
     rw[hml.2]at hk1
     obtain⟨v',w',f1,f2⟩:=zub (G:=G) (w:=w) (kd:=k) (kd':=k') (zdh h1) h2 hk1 hn.2.2 rfl hk.2 hn.1 hn.2.1
     exact Made.op hG (by simp [execOp,hl,hcp,f1]) f2
    ·cases hs
   ·cases hs
  simp only[z1cm]at hs
  split at hs
  ·rename_i k n e1
   split at hs
   ·rename_i hn
    cases hs
    have hl:=(zy3 hr h3 e1).int_inv
    obtain⟨k',hcp⟩:=hcpk hl
    obtain⟨v',w',f1,f2⟩:=mk_ok (G:=G) (w:=w) (kd:=k) (kd':=k') (zdh h1) h2 hk.1 rfl hk.2 hn.1 hn.2
    exact Made.op hG (by simp [execOp,hl,hcp,f1]) f2
   ·cases hs
  ·cases hs
 case slice t x lo hi mx=>
  cases mx with
  |some mx=>
   cases lo with
   |none=>cases h
   |some lo=>
    cases hi with
    |none=>cases h
    |some hi=>
     simp only[L's]at h
     obtain⟨e,ht,h⟩:=h
     split at h
     case isFalse=>cases h
     rename_i he
     simp only[L's,M'0]at h
     obtain⟨ox,h1,ol,h2,oh,h3,om,h4,rfl⟩:=h
     simp only[z1cm]at hs
     split at hs
     ·rename_i y ka l kb u kc m e1 e2 e3 e4
      simp only[M'0,Prod.mk.injEq]at hs
      obtain⟨r,e5,rfl,rfl⟩:=hs
      have i2:=(zy3 hr h2 e2).int_inv
      have i3:=(zy3 hr h3 e3).int_inv
      have i4:=(zy3 hr h4 e4).int_inv
      obtain⟨v',f1,f2⟩:=z9p (P:=P) (zdh ht) he (zy3 hr h1 e1) (k1:=ka) (k2:=kb) (k3:=kc) e5
      exact .same hG (by simp [execOp,i2,i3,i4,f1]) f2
     ·cases hs
  |none=>
  simp only[L's]at h
  obtain⟨ox,h1,olo,h2,ohi,h3,h4⟩:=h
  split at h4
  ·rename_i ht
   cases h4
   simp only[z1cm,L's,M'0,Prod.mk.injEq]at hs
   obtain⟨y,e1,yl,e2,yh,e3,r,e4,rfl,rfl⟩:=hs
   obtain⟨v',f1,f2⟩:=z1e6 (P:=P) ht (zy3 hr h1 e1) (zzs hr h2 e2) (zzs hr h3 e3) e4
   exact .same hG (by simp [execOp,f1]) f2
  ·rename_i e ht
   split at h4
   case isFalse=>cases h4
   rename_i he
   have plain:iop=.slice (P.cellsOf e) ox olo ohi->OpOk P ⟨dst,.slice t x lo hi none,type,pos,after,guard⟩ a G w mem v mem':=by
    rintro rfl
    simp only[z1cm,L's,M'0,Prod.mk.injEq]at hs
    obtain⟨y,e1,yl,e2,yh,e3,r,e4,rfl,rfl⟩:=hs
    obtain⟨v',f1,f2⟩:=z1b6 (P:=P) hG ht he (zy3 hr h1 e1) (zzs hr h2 e2) (zzs hr h3 e3) e4
    exact .same hG (by simp [execOp,f1]) f2
   split at h4
   case h_2=>exact plain (Option.some.inj h4).symm
   rename_i lo' hlo
   cases h4
   split at hlo
   case isFalse=>cases hlo
   subst hlo
   cases hi with
   |some y=>simp at h3
   |none=>
    cases lo with
    |none=>cases h2
    |some lo0=>
     simp only[M'0,Option.some.injEq]at h2
     obtain⟨_,h2,rfl⟩:=h2
     simp only[z1cm]at hs
     split at hs
     ·rename_i y1 y2 e1 e2
      obtain⟨v',G',f1,f2,f3,f4⟩:=z1bb (P:=P) hG ht he (zy3 hr h1 e1) (zy3 hr h2 e2) hs
      exact .value (by simp [execOp,f1]) f2 f3 f4
     ·cases hs
  ·cases h4
 case fieldAddr s x f=>
  simp only[L's]at h
  obtain⟨fd,h1,h2⟩:=h
  split at h2
  case isFalse=>cases h2
  rename_i hk
  simp only[L'c,decide_eq_true_eq]at hk
  simp only[M'0]at h2
  obtain⟨ox,h3,rfl⟩:=h2
  simp only[z1cm,L's,M'0,Prod.mk.injEq]at hs
  obtain⟨y,e1,r,e2,rfl,rfl⟩:=hs
  obtain⟨v',f1,f2⟩:=zg0 h1 hk.1 hk.2 (zy3 hr h3 e1) e2
  exact .same hG (by simp [execOp,f1]) f2
 case field s x f=>
  simp only[L's]at h
  obtain⟨fd,h1,h2⟩:=h
  split at h2
  case isFalse=>cases h2
  rename_i hk
  simp only[M'0]at h2
  obtain⟨ox,h3,rfl⟩:=h2
  simp only[z1cm]at hs
  split at hs
  ·rename_i cs e1
   simp only[M'0,Prod.mk.injEq]at hs
   obtain⟨r,e2,rfl,rfl⟩:=hs
   obtain⟨v',f1,f2⟩:=zg7 h1 hk (zy3 hr h3 e1) e2
   exact .same hG (by simp [execOp,f1]) f2
  ·cases hs
 case indexAddr t x i=>
  simp only[L's]at h
  obtain⟨e,h1,h2⟩:=h
  split at h2
  case isFalse=>cases h2
  rename_i he
  simp only[L's,M'0]at h2
  obtain⟨ox,h3,oi,h4,rfl⟩:=h2
  simp only[z1cm]at hs
  split at hs
  ·rename_i u1 u2 e1 e2
   simp only[M'0,Prod.mk.injEq]at hs
   obtain⟨r,e3,rfl,rfl⟩:=hs
   obtain⟨v',f1,f2⟩:=zkw hG (zdh h1) he (zy3 hr h3 e1) (zy3 hr h4 e2) e3
   exact .same hG (by simp [execOp,f1]) f2
  ·cases hs
 case index t x i=>
  split at h
  ·rename_i ht
   simp only[L's,M'0]at h
   obtain⟨ox,h3,oi,h4,rfl⟩:=h
   simp only[z1cm]at hs
   split at hs
   ·rename_i s k n e1 e2
    split at hs
    ·rename_i hn
     simp only[M'0,Prod.mk.injEq]at hs
     obtain⟨b,e3,rfl,rfl⟩:=hs
     have f1:=(zy3 hr h3 e1).str_inv
     have f2:=(zy3 hr h4 e2).int_inv
     exact .same hG (v':=.int .u8 b.toNat) (by simp [execOp,f1,f2,z1e2 ht hn e3]) rfl
    ·cases hs
   ·cases hs
  ·cases h
 case extract x i=>
  simp only[M'0]at h
  obtain⟨ox,h1,rfl⟩:=h
  simp only[z1cm]at hs
  split at hs
  ·rename_i us e1
   simp only[M'0,Prod.mk.injEq]at hs
   obtain⟨r,e2,rfl,rfl⟩:=hs
   obtain⟨v',f1,f2⟩:=zfx (P:=P) (zy3 hr h1 e1) e2
   exact .same hG (by simp [execOp,f1]) f2
  ·cases hs
 case buildSlice t len parts=>
  simp only[L's]at h
  obtain⟨e,h1,h2⟩:=h
  split at h2
  case isFalse=>cases h2
  rename_i hk
  obtain⟨hk1,hk2,hk3⟩:=hk
  simp only[M'0]at h2
  obtain⟨ps,h3,rfl⟩:=h2
  have common:∀{ys:List PV},evL rs fr ps=some ys->ys.length=len/\RpL G w ys (parts.toList.map fun p=>a.eval p.2):=by
   intro ys e1
   have hl:=zrn (P:=P) hr (fun p:Nat×Operand=>p.2) (fun _=>e) parts.toList ps ys h3 e1
   have q1:=hl.length
   have q2:(parts.toList.map (·.1)).length=(L'1 len).length:=by rw[hk1]
   simp at q1 q2
   exact⟨by omega,hl⟩
  split at hs
  ·simp only[z1cm,L's,M'0,Prod.mk.injEq]at hs
   obtain⟨ys,e1,⟨zs,m⟩,e3,rfl,rfl⟩:=hs
   obtain⟨z,hz⟩:=N'f.1 hk3
   obtain⟨hlen,hl⟩:=common e1
   subst hlen
   obtain⟨v',w',G',f1,f2,f3,f4⟩:=z7i (P:=P) hG (zdh h1) hz rfl hk2 hl e3
   have hparts:(parts.map fun(i,x)=>(i,a.eval x))=((L'1 ys.length).zip (parts.toList.map fun p=>a.eval p.2)).toArray:=by
    apply Array.ext'
    rw[<-hk1]
    simp [N'd]
   obtain⟨G'',g1,g2,g3⟩:=f4.push f2
   exact .value (by simp only[execOp,Sem.run_bind,hparts,f1];rfl) g1 (f3.trans g2) g3
  simp only[z1cm,L's]at hs
  obtain⟨ys,e1,e2⟩:=hs
  split at e2
  ·cases e2
  simp only[M'0,Prod.mk.injEq]at e2
  obtain⟨⟨zs,m⟩,e3,rfl,rfl⟩:=e2
  obtain⟨z,hz⟩:=N'f.1 hk3
  have hl:=zrn (P:=P) hr (fun p:Nat×Operand=>p.2) (fun _=>e) parts.toList ps ys h3 e1
  have hlen:ys.length=len:=by
   have q1:=hl.length
   have q2:(parts.toList.map (·.1)).length=(L'1 len).length:=by rw[hk1]
   simp at q1 q2
   omega
  subst hlen
  obtain⟨v',w',G',f1,f2,f3,f4⟩:=z7k (P:=P) hG (zdh h1) hz rfl hk2 hl e3
  have hparts:(parts.map fun(i,x)=>(i,a.eval x))=((L'1 ys.length).zip (parts.toList.map fun p=>a.eval p.2)).toArray:=by
   apply Array.ext'
   rw[<-hk1]
   simp [N'd]
  obtain⟨G'',g1,g2,g3⟩:=f4.push f2
  exact .value (by simp only[execOp,Sem.run_bind,hparts,f1];rfl) g1 (f3.trans g2) g3
 case call=>exact absurd rfl (hop _)
end
end Go.Proofs.YtbaclnecajkknaaGreat.Pi

