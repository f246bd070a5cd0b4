/- Pi: functions of the library that are told by what they answer: slices.Clone. Conditions: the function's form. -/
import Derived.Test.YtbaclnecajkknaaGreatPiRz
import Derived.Test.YtbaclnecajkknaaGreatPiDz
open List renaming length_nil->M'7,length_cons->M'2
open Nat renaming reduceAdd->P'k
namespace Go.Proofs.YtbaclnecajkknaaGreat.Pi
open Go
set_option linter.all false

def znp(t:TypeId)(fl:Bool)(sz:Nat):IFun:=⟨[0,2,4],
(.seq (.region false [] [⟨some 1,.nilrow t fl sz,none⟩])
(.seq (.seq (.region false [] [⟨none,.mov (.v 0),none⟩,⟨some 2,.isnil false (.r 0),none⟩])
(.cond (.v 2) (.seq (.region false [] [⟨some 1,.nilrow t fl sz,none⟩])
.ret) .skip))
(.seq (.region false [] [⟨none,.bslice false t fl sz [],none⟩,⟨none,.mov (.v 0),none⟩,⟨none,.append t fl sz (.r 0) (.r 1),none⟩,⟨some 1,.mov (.r 2),none⟩])
.ret))),
[.v 1]⟩
def zfv(t:TypeId)(fl:Bool)(sz:Nat):List PV->Option PV
|[.sl fl' sz' es]=>if fl'=fl/\sz'=sz/\es.length<=68719476736 then some (.un t fl sz es)else none
|_=>none
def F1(f:FuncId)(ir:IFun)(g:FuncId):Option IFun:=if g=f then some ir else none
theorem zfw{P:Program}{mf:Md}(hm:P.follows .mixedOrders=true){f:FuncId}{fn:Func}{t:TypeId}{fl:Bool}{sz:Nat}(hf:P.funcs[f]?=some fn)(hc:zbq P mf fn=some (znp t fl sz)):ExtOk P f (zfv t fl sz):=by
 have hF:∀g ir,F1 f (znp t fl sz) g=some ir->∃fn mf,P.funcs[g]?=some fn/\zbq P mf fn=some ir:=by
  intro g ir h
  unfold F1 at h
  split at h
  ·rename_i e;subst e;cases h;exact⟨fn,mf,hf,hc⟩
  ·cases h
 have hor:∀n,OrcOk P (callN (F1 f (znp t fl sz)) (fun _=>none) n):=z85 hF (fun g e h=>(by cases h)) (fun orc mf m n ho=>zcy hm ho)
 have hself:F1 f (znp t fl sz) f=some (znp t fl sz):=by simp[F1]
 have nilc:lim (F1 f (znp t fl sz)) (fun _=>none) f [.nil fl sz] []=some (.un t fl sz [],[]):=by
  refine z8g rfl hself ?_
  show W _ _ _ _ (Lv _ _ _)
  simp(disch:=(first| omega| (simp only[M'7];first| done| omega)))only[znp,go_sem,P'k]
 have slec:lim (F1 f (znp t fl sz)) (fun _=>none) f [.sle fl sz] []=some (.un t fl sz [],[]):=by
  refine z8g rfl hself ?_
  show W _ _ _ _ (Lv _ _ _)
  simp(disch:=(first| omega| (simp only[M'7];first| done| omega)))only[znp,go_sem,P'k]
 have consc:∀x xs,(x::xs:List PV).length<=68719476736->lim (F1 f (znp t fl sz)) (fun _=>none) f [.sl fl sz (x::xs)] []=some (.un t fl sz (x::xs),[]):=by
  intro x xs hl
  refine z8g rfl hself ?_
  show W _ _ _ _ (Lv _ _ _)
  simp only[M'2]at hl
  simp(disch:=(first| omega| (simp only[M'7,M'2];first| done| omega)))only[znp,go_sem,P'k]
 obtain⟨n0,h0⟩:=zqp.1 nilc
 refine⟨(hor n0 f _ _ _ _ h0).1,?_⟩
 intro args r he G w vargs hG hx
 unfold zfv at he
 split at he
 case h_2=>cases he
 rename_i fl' sz' es
 split at he
 case isFalse=>cases he
 rename_i hq
 obtain⟨rfl,rfl,hl⟩:=hq
 cases he
 obtain⟨v,rest,rfl,h1,h2⟩:=hx
 simp only[RpL]at h2;subst h2
 have key:∀y:PV,Rp G w y v->lim (F1 f (znp t fl' sz')) (fun _=>none) f [y] []=some (.un t fl' sz' es,[])->Calls P f (List.toArray [v]) w fun e w1=>match e with| .returned v=>Post G w [] (.un t fl' sz' es) [] v w1|_=>False:=by
  intro y hy hlim
  obtain⟨n,hn⟩:=zqp.1 hlim
  exact(hor n f _ _ _ _ hn).2 G w [v] hG ⟨v,[],rfl,hy,rfl⟩
 cases es with
 |cons x xs=>exact key _ h1 (consc x xs hl)
 |nil=>
  obtain⟨A,cap,vs,hv,_,_,hz,_⟩:=h1
  cases A with
  |none=>exact key (.nil fl' sz') (by rw[hv,hz rfl];rfl) nilc
  |some a=>exact key (.sle fl' sz') ⟨a,cap,hv⟩ slec
end Go.Proofs.YtbaclnecajkknaaGreat.Pi

