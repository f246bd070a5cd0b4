/- Pi: evaluation by rewriting: the rules. No condition. -/
import Derived.Test.YtbaclnecajkknaaGreatPiLim
import Derived.WalkKit
open Option renaming bind_some->L't
namespace Go.Proofs.YtbaclnecajkknaaGreat.Pi
open Go
set_option linter.all false

abbrev I(n:Int):PV:=.int .i64 n
abbrev ints(l:List Int):PV:=.sl true 1 (l.map I)
/-! ### What code does, and then -/
def W(orc:Orc)(m:Nat)(c:ICode)(st:St)(Q:Out->Prop):Prop:=∃out,run orc m c st=some out/\Q out
def WO(orc:Orc)(ops:List IOper)(rs fr:List PV)(mem:List Blk)(Q:St->Prop):Prop:=∃st,z17z orc ops rs fr mem=some st/\Q st
section
variable {orc:Orc}{m:Nat}{Q:Out->Prop}{st:St}
theorem W.mono{c:ICode}{Q':Out->Prop}(h:W orc m c st Q)(hq:∀o,Q o->Q' o):W orc m c st Q':=by
 obtain⟨o,h1,h2⟩:=h
 exact⟨o,h1,hq o h2⟩
theorem z1m(h:Q (.next st)):W orc m .skip st Q:=⟨_,rfl,h⟩
theorem z1c{id:Nat}(h:Q (.exit id st)):W orc m (.exit id) st Q:=⟨_,rfl,h⟩
theorem W_ret(h:Q (.ret st)):W orc m .ret st Q:=⟨_,rfl,h⟩
theorem W_seq{a b:ICode}(h:W orc m a st (fun o=>match o with| .next st'=>W orc m b st' Q|o=>Q o)):W orc m (.seq a b) st Q:=by
 obtain⟨o,h1,h2⟩:=h
 cases o with
 |next st'=>
  obtain⟨o',h3,h4⟩:=h2
  exact⟨o',by simp only[run,h1];exact h3,h4⟩
 |ret st'=>exact⟨_,by simp only[run,h1],h2⟩
 |exit i st'=>exact⟨_,by simp only[run,h1],h2⟩
theorem z18{c:Opd}{a b:ICode}{v:Bool}(hv:ev [] st.fr c=some (.bool v))(h1:v=true->W orc m a st Q)(h2:v=false->W orc m b st Q):W orc m (.cond c a b) st Q:=by
 cases v with
 |true=>obtain⟨o,h3,h4⟩:=h1 rfl;exact⟨o,by simp only[run,hv];exact h3,h4⟩
 |false=>obtain⟨o,h3,h4⟩:=h2 rfl;exact⟨o,by simp only[run,hv];exact h3,h4⟩
theorem z16{id:Nat}{b:ICode}(h:W orc m b st (fun o=>match o with| .exit i st'=>if i=id then Q (.next st')else Q (.exit i st')|o=>Q o)):W orc m (.block id b) st Q:=by
 obtain⟨o,h1,h2⟩:=h
 cases o with
 |next st'=>exact⟨_,by simp only[run,h1],h2⟩
 |ret st'=>exact⟨_,by simp only[run,h1],h2⟩
 |exit i st'=>
  by_cases hi:i=id
  ·simp only[hi,if_true]at h2
   exact⟨_,by simp only[run,h1,hi,if_true],h2⟩
  ·simp only[if_neg hi]at h2
   exact⟨_,by simp only[run,h1,if_neg hi],h2⟩
theorem z1g{dr:Bool}{ops:List IOper}(h:WO orc ops [] st.fr st.mem (fun s=>Q (.next s))):W orc m (.region dr [] ops) st Q:=by
 obtain⟨s,h1,h2⟩:=h
 exact⟨.next s,by simp[run,z187,h1],h2⟩
theorem W_for{keep:List Bool}{b:ICode}(n:Nat)(Inv:Nat->St->Prop)(h0:Inv 0 (gc m ⟨clean keep st.fr,st.mem⟩))
  (step:∀k s,k<n->Inv k s->W orc m b s (fun o=>match o with| .next s'=>Inv (k+1) (gc m ⟨clean keep s'.fr,s'.mem⟩)|o=>Q o))
  (last:∀s,Inv n s->W orc m b s (fun o=>match o with| .next _=>False|o=>Q o)):W orc m (.loop keep b) st Q:=by
 have key:∀(d k:Nat) (st:St),k+d=n->Inv k (gc m ⟨clean keep st.fr,st.mem⟩)->W orc m (.loop keep b) st Q:=by
  intro d
  induction d with
  |zero=>
   intro k st hk hI
   have hk:k=n:=by omega
   subst hk
   obtain⟨o,h1,h2⟩:=last _ hI
   cases o with
   |next s'=>exact h2.elim
   |ret s'=>exact⟨_,by simp only[run];rw[zo0,h1],h2⟩
   |exit i s'=>exact⟨_,by simp only[run];rw[zo0,h1],h2⟩
  |succ d ih=>
   intro k st hk hI
   obtain⟨o,h1,h2⟩:=step k _ (by omega) hI
   cases o with
   |next s'=>
    obtain⟨o',h3,h4⟩:=ih (k+1) s' (by omega) h2
    simp only[run]at h3
    exact⟨o',by simp only[run];rw[zo0,h1];exact h3,h4⟩
   |ret s'=>exact⟨_,by simp only[run];rw[zo0,h1],h2⟩
   |exit i s'=>exact⟨_,by simp only[run];rw[zo0,h1],h2⟩
 exact key n 0 st (by omega) h0
/-! ### Operations, one by one -/
variable {os:List IOper}{rs fr:List PV}{mem:List Blk}{R:St->Prop}
theorem z13(h:R ⟨fr,mem⟩):WO orc [] rs fr mem R:=⟨_,rfl,h⟩
theorem WO_op{d:Option Nat}{op:IOp}{v:PV}{mem':List Blk}(hs:z1cm orc rs fr mem op=some (v,mem'))(h:WO orc os (rs++[v]) (setFr fr d v) mem' R):WO orc (⟨d,op,none⟩::os) rs fr mem R:=by
 obtain⟨s,h1,h2⟩:=h
 exact⟨s,by simp only[z17z,z1cq,wanted,hs,L't,if_true,Option.map_some];exact h1,h2⟩
theorem WO_g{d:Option Nat}{op:IOp}{j:Nat}{b c:Bool}(hg:rs[j]?=some (.bool c))(h1:c=b->WO orc (⟨d,op,none⟩::os) rs fr mem R)(h2:c≠b->WO orc os (rs++[.undef]) (setFr fr d .undef) mem R):WO orc (⟨d,op,some (j,b)⟩::os) rs fr mem R:=by
 by_cases hc:c=b
 ·obtain⟨s,h3,h4⟩:=h1 hc
  refine⟨s,?_,h4⟩
  simp only[z17z,z1cq,wanted,hg,L't,hc,if_true]at h3 ⊢
  simpa using h3
 ·obtain⟨s,h3,h4⟩:=h2 hc
  refine⟨s,?_,h4⟩
  have:(c==b)=false:=by simpa using hc
  simp only[z17z,z1cq,wanted,hg,L't,this]
  simpa using h3
theorem WO_gu{d:Option Nat}{op:IOp}{j:Nat}{b:Bool}(hg:rs[j]?=some .undef)(h:WO orc os (rs++[.undef]) (setFr fr d .undef) mem R):WO orc (⟨d,op,some (j,b)⟩::os) rs fr mem R:=by
 obtain⟨s,h3,h4⟩:=h
 refine⟨s,?_,h4⟩
 simp only[z17z,z1cq,wanted,hg,L't]
 simpa using h3
end

theorem z8g{F:FuncId->Option IFun}{ext:FuncId->Option (List PV->Option PV)}{f:FuncId}{fn:IFun}{args:List PV}{M:List Blk}{r:PV×List Blk}(he:ext f=none)(hf:F f=some fn)
  (h:W (lim F ext) M.length fn.body ⟨start fn args,M⟩ (fun o=>leave M.length fn.results (some o)=some r)):lim F ext f args M=some r:=by
 obtain⟨o,h1,h2⟩:=h
 exact zqo he hf (by rw[h1];exact h2)
def Lw(x:Option (PV×List Blk))(P:PV×List Blk->Prop):Prop:=∃r,x=some r/\P r
theorem z8d{F:FuncId->Option IFun}{ext:FuncId->Option (List PV->Option PV)}{f:FuncId}{fn:IFun}{args:List PV}{M:List Blk}{P:PV×List Blk->Prop}(he:ext f=none)(hf:F f=some fn)
  (h:W (lim F ext) M.length fn.body ⟨start fn args,M⟩ (fun o=>Lw (leave M.length fn.results (some o)) P)):Lw (lim F ext f args M) P:=by
 obtain⟨o,h1,r,h2,h3⟩:=h
 exact⟨r,zqo he hf (by rw[h1];exact h2),h3⟩
end Go.Proofs.YtbaclnecajkknaaGreat.Pi

