/- Pi: what calls answer in the end: the limit over all depths. No condition. -/
import Derived.Test.YtbaclnecajkknaaGreatPiDefs
open Option renaming bind_eq_some_iff->L's,map_eq_some_iff->M'0,bind_some->L't,map_some->L'z
open Nat renaming le_max_left->P'8,le_max_right->P'9,le_succ->P'a
namespace Go.Proofs.YtbaclnecajkknaaGreat.Pi
open Go
set_option linter.all false

def OLe(o o':Orc):Prop:=∀f args M r,o f args M=some r->o' f args M=some r
section
variable {o o':Orc}
theorem z8b(h:OLe o o'){dr:Bool}{mem:List Blk}{f:FuncId}{args:List PV}{x:PV×List Blk}(hx:callV o dr mem f args=some x):callV o' dr mem f args=some x:=by
 simp only[callV,L's]at hx ⊢
 obtain⟨vs,h1,r,h2,h3⟩:=hx
 exact⟨vs,h1,r,h f vs [] r h2,h3⟩
theorem z82(h:OLe o o'){mem:List Blk}{f:FuncId}{args:List PV}{x:PV×List Blk}(hx:callM o mem f args=some x):callM o' mem f args=some x:=by
 simp only[callM]at hx ⊢
 split at hx
 ·rename_i hc
  rw[if_pos hc]
  simp only[L's]at hx ⊢
  obtain⟨M,h1,r,h2,h3⟩:=hx
  exact⟨M,h1,r,h f _ M r h2,h3⟩
 ·cases hx
theorem z1cp(h:OLe o o'){rs fr:List PV}{mem:List Blk}{op:IOp}{x:PV×List Blk}(hx:z1cm o rs fr mem op=some x):z1cm o' rs fr mem op=some x:=by
 cases op<;>simp only[z1cm]at hx⊢<;>try exact hx
 case call q f args=>
  simp only[L's]at hx ⊢
  obtain⟨vs,h1,h2⟩:=hx
  exact⟨vs,h1,z8b h h2⟩
 case callv q x args=>
  split at hx
  ·simp only[L's]at hx ⊢
   obtain⟨vs,h1,h2⟩:=hx
   exact⟨vs,h1,z8b h h2⟩
  ·cases hx
 case callm f args=>
  simp only[L's]at hx ⊢
  obtain⟨vs,h1,h2⟩:=hx
  exact⟨vs,h1,z82 h h2⟩
theorem z1cs(h:OLe o o'){rs fr:List PV}{mem:List Blk}{op:IOper}{x:PV×List PV×List Blk}(hx:z1cq o rs fr mem op=some x):z1cq o' rs fr mem op=some x:=by
 simp only[z1cq,L's]at hx ⊢
 obtain⟨w,h1,h2⟩:=hx
 refine⟨w,h1,?_⟩
 split at h2
 ·rename_i hw
  rw[if_pos hw]
  simp only[M'0]at h2 ⊢
  obtain⟨y,h3,h4⟩:=h2
  exact⟨y,z1cp h h3,h4⟩
 ·rename_i hw
  rw[if_neg hw];exact h2
theorem z182(h:OLe o o'):∀{ops:List IOper}{rs fr:List PV}{mem:List Blk}{st:St},z17z o ops rs fr mem=some st->z17z o' ops rs fr mem=some st
 |[],_,_,_,_,hx=>hx
 |op::ops,rs,fr,mem,st,hx=>by
  simp only[z17z,L's]at hx ⊢
  obtain⟨x,h1,h2⟩:=hx
  exact⟨x,z1cs h h1,z182 h h2⟩
theorem z17y(h:OLe o o'):∀{ops:List IOper}{rs fr:List PV}{mem:List Blk}{ft:List (List Nat×List Nat)}{x:St×List (List Nat×List Nat)},runDr o ops rs fr mem ft=some x->runDr o' ops rs fr mem ft=some x
 |[],_,_,_,_,_,hx=>hx
 |op::ops,rs,fr,mem,ft,x,hx=>by
  simp only[runDr,L's]at hx ⊢
  obtain⟨y,h1,h2⟩:=hx
  exact⟨y,z1cs h h1,z17y h h2⟩
theorem z189(h:OLe o o'){chk:List (Nat×Nat)}{ops:List IOper}{st st':St}(hx:z187 o chk ops st=some st'):z187 o' chk ops st=some st':=by
 unfold z187 at hx ⊢
 split at hx
 ·rename_i hc;rw[if_pos hc];exact z182 h hx
 ·rename_i hc;rw[if_neg hc]
  simp only[L's]at hx ⊢
  obtain⟨y,h1,h2⟩:=hx
  exact⟨y,z17y h h1,h2⟩
theorem zo2{b b':St->Option Out}(h:∀st out,b st=some out->b' st=some out){prep:St->St}:∀{n n':Nat}{st:St}{out:Out},n<=n'->iter b prep n st=some out->iter b' prep n' st=some out
 |0,_,_,_,_,hx=>by simp[iter]at hx
 |n+1,0,_,_,hn,_=>by omega
 |n+1,n'+1,st,out,hn,hx=>by
  simp only[iter]at hx ⊢
  split at hx
  ·rename_i st' he
   rw[h _ _ he]
   exact zo2 h (by omega) hx
  ·rename_i hne
   rw[h _ _ hx]
   split
   ·rename_i s he;cases he;exact(hne s hx).elim
   ·rfl
theorem zoc{o:Orc}{f:FuncId}{sz off:Nat}{e k:PV}{x:PV×PV}(h:zoa o f sz off e k=some x):∃args M r,o f args M=some r/\∀o':Orc,o' f args M=some r->zoa o' f sz off e k=some x:=by
 unfold zoa at h
 split at h
 case h_2=>cases h
 rename_i s1 es kk n hc
 split at h
 ·rename_i he
  simp only[L's]at h
  obtain⟨r,h1,h2⟩:=h
  refine⟨_,_,r,h1,fun o' h'=>?_⟩
  unfold zoa
  simp only[hc,he,if_true,h',L't]
  exact h2
 ·rename_i he
  simp only[L's]at h
  obtain⟨r,h1,h2⟩:=h
  refine⟨_,_,r,h1,fun o' h'=>?_⟩
  unfold zoa
  simp only[hc,he,h',L't]
  exact h2
theorem zod{o:Orc}{k:KC}{st st':St}(h:kcall o k st=some st'):∃args M r,o k.f args M=some r/\∀o':Orc,o' k.f args M=some r->kcall o' k st=some st':=by
 unfold kcall at h
 split at h
 case h_2=>cases h
 rename_i b s of len kk i kv h1 h2 h3
 split at h
 case isFalse=>cases h
 rename_i hs
 subst hs
 simp only[L's]at h
 obtain⟨j,h4,h5⟩:=h
 split at h5
 case h_2=>cases h5
 rename_i t sz es h6
 split at h5
 case isFalse=>cases h5
 rename_i hs2
 subst hs2
 simp only[L's,M'0]at h5
 obtain⟨e,h7,x,h8,h9⟩:=h5
 obtain⟨args,M,r,h10,h11⟩:=zoc h8
 refine⟨args,M,r,h10,fun o' h'=>?_⟩
 unfold kcall
 simp only[h1,h2,h3,if_true,h4,L't,h6,h7,h11 o' h',L'z,h9]
theorem zf3(h:OLe o o'){m n n':Nat}(hn:n<=n'):∀{c:ICode}{st:St}{out:Out},exec o m n c st=some out->exec o' m n' c st=some out
 |.skip,_,_,hx|.exit _,_,_,hx|.ret,_,_,hx=>hx
 |.region dr chk ops,st,out,hx=>by
  simp only[exec,M'0]at hx ⊢
  obtain⟨st',h1,h2⟩:=hx
  exact⟨st',z189 h h1,h2⟩
 |.seq a b,st,out,hx=>by
  simp only[exec]at hx ⊢
  split at hx
  ·rename_i st' he
   rw[zf3 h hn he]
   exact zf3 h hn hx
  ·rename_i hne
   rw[zf3 h hn hx]
   split
   ·rename_i s he;cases he;exact(hne s hx).elim
   ·rfl
 |.cond c a b,st,out,hx=>by
  simp only[exec]at hx ⊢
  split at hx
  ·exact zf3 h hn hx
  ·exact zf3 h hn hx
  ·cases hx
 |.block id b,st,out,hx=>by
  simp only[exec]at hx ⊢
  split at hx
  ·rename_i i st' he
   rw[zf3 h hn he];exact hx
  ·rename_i hne
   rw[zf3 h hn hx]
   split
   ·rename_i i s he;cases he;exact(hne i s hx).elim
   ·rfl
 |.loop keep b,st,out,hx=>by
  simp only[exec]at hx ⊢
  exact zo2 (fun st out he=>zf3 h hn he) hn hx
 |.scope b,st,out,hx=>by
  simp only[exec]at hx ⊢
  exact zf3 h hn hx
 |.kreg ops,st,out,hx=>by
  simp only[exec,L's,M'0]at hx ⊢
  obtain⟨k,h1,st',h2,h3⟩:=hx
  obtain⟨args,M,r,h4,h5⟩:=zod h2
  exact⟨k,h1,st',h5 o' (h _ _ _ _ h4),h3⟩
end

section
variable {F:FuncId->Option IFun}{ext:FuncId->Option (List PV->Option PV)}
theorem z86:∀n,OLe (callN F ext n) (callN F ext (n+1))
 |0=>by intro f args M r h;simp[callN]at h
 |n+1=>by
  intro f args M r h
  rw[callN]at h ⊢
  split at h
  ·exact h
  ·simp only[L's]at h ⊢
   obtain⟨fn,h1,h2⟩:=h
   refine⟨fn,h1,?_⟩
   split at h2
   ·rename_i st he
    rw[zf3 (z86 n) (P'a n) he];exact h2
   ·rename_i st he
    rw[zf3 (z86 n) (P'a n) he];exact h2
   ·cases h2
theorem z84{n n':Nat}(h:n<=n'):OLe (callN F ext n) (callN F ext n'):=by
 induction h with
 |refl=>exact fun _ _ _ _ h=>h
 |step _ ih=>exact fun f args M r h=>z86 _ f args M r (ih f args M r h)
noncomputable def lim(F:FuncId->Option IFun)(ext:FuncId->Option (List PV->Option PV)):Orc:=fun f args M=>
open Classical in if h:∃n r,callN F ext n f args M=some r then some h.choose_spec.choose else none
theorem zqp{f:FuncId}{args:List PV}{M:List Blk}{r:PV×List Blk}:lim F ext f args M=some r↔∃n,callN F ext n f args M=some r:=by
 unfold lim
 constructor
 ·intro h
  split at h
  ·rename_i hx
   cases h
   exact⟨_,hx.choose_spec.choose_spec⟩
  ·cases h
 ·rintro⟨n,h⟩
  have hx:∃n r,callN F ext n f args M=some r:=⟨n,r,h⟩
  rw[dif_pos hx]
  have h1:=hx.choose_spec.choose_spec
  have h2:=z84 (P'8 n hx.choose) f args M _ h
  have h3:=z84 (P'9 n hx.choose) f args M _ h1
  rw[h2]at h3
  exact h3.symm
theorem z1co{rs fr:List PV}{mem:List Blk}{op:IOp}{x:PV×List Blk}(hx:z1cm (lim F ext) rs fr mem op=some x):∃n,z1cm (callN F ext n) rs fr mem op=some x:=by
 have cv:∀{dr:Bool}{f:FuncId}{args:List PV},callV (lim F ext) dr mem f args=some x->∃n,callV (callN F ext n) dr mem f args=some x:=by
  intro dr f args h
  simp only[callV,L's]at h
  obtain⟨vs,h1,r,h2,h3⟩:=h
  obtain⟨n,h4⟩:=zqp.1 h2
  refine⟨n,?_⟩
  simp only[callV,L's]
  exact⟨vs,h1,r,h4,h3⟩
 cases op<;>simp only[z1cm]at hx⊢<;>try exact⟨0,hx⟩
 case call q f args=>
  simp only[L's]at hx ⊢
  obtain⟨vs,h1,h2⟩:=hx
  obtain⟨n,h3⟩:=cv h2
  exact⟨n,vs,h1,h3⟩
 case callv q y args=>
  split at hx
  ·simp only[L's]at hx ⊢
   obtain⟨vs,h1,h2⟩:=hx
   obtain⟨n,h3⟩:=cv h2
   exact⟨n,vs,h1,h3⟩
  ·cases hx
 case callm f args=>
  simp only[L's]at hx ⊢
  obtain⟨vs,h1,h2⟩:=hx
  simp only[callM]at h2 ⊢
  split at h2
  ·rename_i hc
   simp only[L's]at h2
   obtain⟨M,h3,r,h4,h5⟩:=h2
   obtain⟨n,h6⟩:=zqp.1 h4
   refine⟨n,vs,h1,?_⟩
   rw[if_pos hc]
   simp only[L's]
   exact⟨M,h3,r,h6,h5⟩
  ·cases h2
theorem z1cr{rs fr:List PV}{mem:List Blk}{op:IOper}{x:PV×List PV×List Blk}(hx:z1cq (lim F ext) rs fr mem op=some x):∃n,z1cq (callN F ext n) rs fr mem op=some x:=by
 simp only[z1cq,L's]at hx ⊢
 obtain⟨w,h1,h2⟩:=hx
 split at h2
 ·rename_i hw
  simp only[M'0]at h2
  obtain⟨y,h3,h4⟩:=h2
  obtain⟨n,h5⟩:=z1co h3
  refine⟨n,w,h1,?_⟩
  rw[if_pos hw,h5,L'z,h4]
 ·rename_i hw
  refine⟨0,w,h1,?_⟩
  rw[if_neg hw];exact h2
theorem z180:∀{ops:List IOper}{rs fr:List PV}{mem:List Blk}{st:St},z17z (lim F ext) ops rs fr mem=some st->∃n,z17z (callN F ext n) ops rs fr mem=some st
 |[],_,_,_,_,hx=>⟨0,hx⟩
 |op::ops,rs,fr,mem,st,hx=>by
  simp only[z17z,L's]at hx
  obtain⟨x,h1,h2⟩:=hx
  obtain⟨n1,h3⟩:=z1cr h1
  obtain⟨n2,h4⟩:=z180 h2
  refine⟨max n1 n2,?_⟩
  simp only[z17z,L's]
  exact⟨x,z1cs (z84 (P'8 _ _)) h3,z182 (z84 (P'9 _ _)) h4⟩
theorem z17x:∀{ops:List IOper}{rs fr:List PV}{mem:List Blk}{ft:List (List Nat×List Nat)}{x:St×List (List Nat×List Nat)},runDr (lim F ext) ops rs fr mem ft=some x->∃n,runDr (callN F ext n) ops rs fr mem ft=some x
 |[],_,_,_,_,_,hx=>⟨0,hx⟩
 |op::ops,rs,fr,mem,ft,x,hx=>by
  simp only[runDr,L's]at hx
  obtain⟨y,h1,h2⟩:=hx
  obtain⟨n1,h3⟩:=z1cr h1
  obtain⟨n2,h4⟩:=z17x h2
  refine⟨max n1 n2,?_⟩
  simp only[runDr,L's]
  exact⟨y,z1cs (z84 (P'8 _ _)) h3,z17y (z84 (P'9 _ _)) h4⟩
theorem z188{chk:List (Nat×Nat)}{ops:List IOper}{st st':St}(hx:z187 (lim F ext) chk ops st=some st'):∃n,z187 (callN F ext n) chk ops st=some st':=by
 unfold z187 at hx ⊢
 split at hx
 ·rename_i hc
  obtain⟨n,h⟩:=z180 hx
  exact⟨n,by rw[if_pos hc];exact h⟩
 ·rename_i hc
  simp only[L's]at hx
  obtain⟨y,h1,h2⟩:=hx
  obtain⟨n,h3⟩:=z17x h1
  refine⟨n,?_⟩
  rw[if_neg hc,h3];exact h2
end

/-! ### Loops to their end -/
noncomputable def iterL(b:St->Option Out)(prep:St->St)(st:St):Option Out:=
open Classical in if h:∃n r,iter b prep n st=some r then some h.choose_spec.choose else none
theorem zo1{b:St->Option Out}{prep:St->St}{st:St}{out:Out}:iterL b prep st=some out↔∃n,iter b prep n st=some out:=by
 unfold iterL
 constructor
 ·intro h
  split at h
  ·rename_i hx;cases h;exact⟨_,hx.choose_spec.choose_spec⟩
  ·cases h
 ·rintro⟨n,h⟩
  have hx:∃n r,iter b prep n st=some r:=⟨n,out,h⟩
  rw[dif_pos hx]
  have h2:=zo2 (fun _ _ h=>h) (P'8 n hx.choose) h
  have h3:=zo2 (fun _ _ h=>h) (P'9 n hx.choose) hx.choose_spec.choose_spec
  rw[h2]at h3
  exact h3.symm
theorem zo0(b:St->Option Out)(prep:St->St)(st:St):iterL b prep st=match b (prep st)with
  |some (.next st')=>iterL b prep st'
  |r=>r:=by
 apply Option.ext
 intro out
 rw[zo1]
 constructor
 ·rintro⟨n,h⟩
  cases n with
  |zero=>simp[iter]at h
  |succ n=>
   simp only[iter]at h
   split at h
   ·rename_i st' he;rw[he];exact zo1.2 ⟨n,h⟩
   ·rename_i hne
    rw[h]
    cases out with
    |next s=>exact(hne s h).elim
    |ret s=>rfl
    |exit i s=>rfl
 ·intro h
  split at h
  ·rename_i st' he
   obtain⟨n,h1⟩:=zo1.1 h
   exact⟨n+1,by simp only[iter,he];exact h1⟩
  ·rename_i hne
   refine⟨1,?_⟩
   simp only[iter]
   cases out with
   |next s=>exact(hne s h).elim
   |ret s=>rw[h]
   |exit i s=>rw[h]
noncomputable def run(orc:Orc)(m:Nat):ICode->St->Option Out
 |.skip,st=>some (.next st)
 |.region _ chk ops,st=>(z187 orc chk ops st).map .next
 |.seq a b,st=>match run orc m a st with
  |some (.next st')=>run orc m b st'
  |r=>r
 |.cond c a b,st=>match ev [] st.fr c with
  |some (.bool true)=>run orc m a st
  |some (.bool false)=>run orc m b st
  |_=>none
 |.block id b,st=>match run orc m b st with
  |some (.exit i st')=>if i=id then some (.next st')else some (.exit i st')
  |r=>r
 |.loop keep b,st=>iterL (run orc m b) (fun s=>gc m ⟨clean keep s.fr,s.mem⟩) st
 |.exit id,st=>some (.exit id st)
 |.scope b,st=>run orc m b st
 |.ret,st=>some (.ret st)
 |.kreg ops,st=>(zoq ops).bind fun k=>(kcall orc k st).map .next
section
variable {F:FuncId->Option IFun}{ext:FuncId->Option (List PV->Option PV)}{m:Nat}
theorem z18b:∀{c:ICode} {st:St} {out:Out},run (lim F ext) m c st=some out->∃n,exec (callN F ext n) m n c st=some out
 |.skip,_,_,hx|.exit _,_,_,hx|.ret,_,_,hx=>⟨0,hx⟩
 |.region dr chk ops,st,out,hx=>by
  simp only[run,M'0]at hx
  obtain⟨st',h1,h2⟩:=hx
  obtain⟨n,h3⟩:=z188 h1
  exact⟨n,by simp only[exec,h3,L'z,h2]⟩
 |.seq a b,st,out,hx=>by
  simp only[run]at hx
  split at hx
  ·rename_i st' he
   obtain⟨n1,h1⟩:=z18b he
   obtain⟨n2,h2⟩:=z18b hx
   refine⟨max n1 n2,?_⟩
   simp only[exec,zf3 (z84 (P'8 n1 n2)) (P'8 n1 n2) h1]
   exact zf3 (z84 (P'9 n1 n2)) (P'9 n1 n2) h2
  ·rename_i hne
   obtain⟨n,h1⟩:=z18b hx
   refine⟨n,?_⟩
   simp only[exec,h1]
   cases out with
   |next s=>exact(hne s hx).elim
   |ret s=>rfl
   |exit i s=>rfl
 |.cond c a b,st,out,hx=>by
  simp only[run]at hx
  simp only[exec]
  split at hx
  ·rename_i he;rw[he];exact z18b hx
  ·rename_i he;rw[he];exact z18b hx
  ·cases hx
 |.block id b,st,out,hx=>by
  simp only[run]at hx
  split at hx
  ·rename_i i st' he
   obtain⟨n,h1⟩:=z18b he
   exact⟨n,by simp only[exec,h1];exact hx⟩
  ·rename_i hne
   obtain⟨n,h1⟩:=z18b hx
   refine⟨n,?_⟩
   simp only[exec,h1]
   cases out with
   |next s=>rfl
   |ret s=>rfl
   |exit i s=>exact(hne i s hx).elim
 |.loop keep b,st,out,hx=>by
  simp only[run]at hx
  obtain⟨k,hk⟩:=zo1.1 hx
  have key:∀(k:Nat) (st:St),iter (run (lim F ext) m b) (fun s=>gc m ⟨clean keep s.fr,s.mem⟩) k st=some out->∃n,iter (exec (callN F ext n) m n b) (fun s=>gc m ⟨clean keep s.fr,s.mem⟩) n st=some out:=by
   intro k
   induction k with
   |zero=>intro st h;simp[iter]at h
   |succ k ih=>
    intro st h
    simp only[iter]at h
    split at h
    ·rename_i st' he
     obtain⟨n1,h1⟩:=z18b he
     obtain⟨n2,h2⟩:=ih st' h
     refine⟨max n1 n2+1,?_⟩
     have hm1:n1<=max n1 n2+1:=by omega
     have hm2:n2<=max n1 n2+1:=by omega
     simp only[iter,zf3 (z84 hm1) hm1 h1]
     exact zo2 (fun st out he=>zf3 (z84 hm2) hm2 he) (by omega) h2
    ·rename_i hne
     obtain⟨n,h1⟩:=z18b h
     refine⟨n+1,?_⟩
     simp only[iter,zf3 (z84 (P'a n)) (P'a n) h1]
     cases out with
     |next s=>exact(hne s h).elim
     |ret s=>rfl
     |exit i s=>rfl
  obtain⟨n,h⟩:=key k st hk
  exact⟨n,by simp only[exec];exact h⟩
 |.scope b,st,out,hx=>by
  simp only[run]at hx
  obtain⟨n,h⟩:=z18b hx
  exact⟨n,by simp only[exec];exact h⟩
 |.kreg ops,st,out,hx=>by
  simp only[run,L's,M'0]at hx
  obtain⟨k,h1,st',h2,h3⟩:=hx
  obtain⟨args,M,r,h4,h5⟩:=zod h2
  obtain⟨n,h6⟩:=zqp.1 h4
  refine⟨n,?_⟩
  simp only[exec,L's,M'0]
  exact⟨k,h1,st',h5 _ h6,h3⟩
def leave(m:Nat)(rs:List IRes):Option Out->Option (PV×List Blk)
|some (.ret st)=>zgq m rs st
|some (.next st)=>zgq m rs st
|_=>none
theorem zqo{f:FuncId}{fn:IFun}{args:List PV}{M:List Blk}{r:PV×List Blk}(he:ext f=none)(hf:F f=some fn)(h:leave M.length fn.results (run (lim F ext) M.length fn.body ⟨start fn args,M⟩)=some r):lim F ext f args M=some r:=by
 cases ho:run (lim F ext) M.length fn.body ⟨start fn args,M⟩with
 |none=>rw[ho]at h;cases h
 |some out=>
  obtain⟨n,h1⟩:=z18b ho
  rw[ho]at h
  refine zqp.2 ⟨n+1,?_⟩
  simp only[callN,he,hf,L't,h1]
  cases out with
  |next s=>exact h
  |ret s=>exact h
  |exit i s=>cases h
theorem zqn{f:FuncId}{e:List PV->Option PV}{args:List PV}{r:PV}(he:ext f=some e)(h:e args=some r):lim F ext f args []=some (r,[]):=
zqp.2 ⟨1,by simp[callN,he,h]⟩
end
end Go.Proofs.YtbaclnecajkknaaGreat.Pi

