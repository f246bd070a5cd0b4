/- Pi: drawn regions: operations that read, beside dead blocks. -/
import Derived.Test.YtbaclnecajkknaaGreatPiDu
open List renaming replicate->L'0,getElem?_eq_some_iff->L'b
open Option renaming map_eq_some_iff->M'0,bind_eq_some_iff->L's
namespace Go.Proofs.YtbaclnecajkknaaGreat.Pi
open Go
set_option linter.all false

section
variable {M:List Blk}{d:Nat}
theorem z10z{b:Nat}{k:Blk}(h:M[b]?=some k):(M++L'0 d .dead)[b]?=some k:=by
 rw[List.getElem?_append_left (L'b.1 h).1];exact h
theorem z110{b:Nat}(h:M[b]?=none):(M++L'0 d .dead)[b]?=none\/(M++L'0 d .dead)[b]?=some .dead:=by
 rw[List.getElem?_append_right (by simpa using h),List.getElem?_replicate]
 split
 ·exact .inr rfl
 ·exact .inl rfl
theorem z16y{b sz off len:Nat}{x:Bool×List PV}(h:rowAt M b sz off len=some x):rowAt (M++L'0 d .dead) b sz off len=some x:=by
 unfold rowAt at h ⊢
 cases hb:M[b]? with
 |none=>rw[hb]at h;cases h
 |some k=>rw[z10z hb];rw[hb]at h;exact h
theorem z16u{b sz off len:Nat}{x:Bool×List PV}(h:z16r M b sz off len=some x):z16r (M++L'0 d .dead) b sz off len=some x:=by
 unfold z16r at h ⊢
 cases hb:M[b]? with
 |none=>rw[hb]at h;simp[rowAt,hb]at h
 |some k=>
  rw[z10z hb];rw[hb]at h
  cases k<;>first| exact h|exact z16y h
theorem z13z:∀(n:Nat)(bs:List Nat),reach (M++L'0 d .dead) n bs=reach M n bs
 |0,bs=>rfl
 |n+1,bs=>by
  simp only[reach]
  rw[z13z n]
  congr 2
  congr 1
  funext b
  cases hb:M[b]? with
  |some k=>rw[z10z hb]
  |none=>rcases z110 (d:=d) hb with h|h<;>rw[h]<;>rfl
mutual
theorem z1ha{R:List Nat}{g g':Nat->Nat->Option PV}(hg:∀b off y,g b off=some y->g' b off=some y):∀(x y:PV),x.viewWith R M g=some y->x.viewWith R (M++L'0 d .dead) g'=some y
 |.ref b sz off len,y,h=>by
  simp only[PV.viewWith]at h ⊢
  split at h
  ·rename_i hc
   rw[if_pos hc]
   simp only[M'0]at h ⊢
   obtain⟨x,h1,h2⟩:=h
   exact⟨x,z16u h1,h2⟩
  ·cases h
 |.ptr b off,y,h=>by
  simp only[PV.viewWith]at h ⊢
  split at h
  ·rename_i hc;rw[if_pos hc];exact hg _ _ _ h
  ·cases h
 |.clo f caps,y,h=>by
  simp only[PV.viewWith,M'0]at h ⊢
  obtain⟨x,h1,h2⟩:=h
  exact⟨x,z1gz hg caps x h1,h2⟩
 |.agg cs,y,h=>by
  simp only[PV.viewWith,M'0]at h ⊢
  obtain⟨x,h1,h2⟩:=h
  exact⟨x,z1gz hg cs x h1,h2⟩
 |.nil ..,y,h|.int ..,y,h|.bool _,y,h|.str _,y,h|.sl ..,y,h|.pv ..,y,h|.nilp,y,h|.nilf,y,h=>by
  simpa only[PV.viewWith]using h
 |.any,y,h|.undef,y,h|.ep ..,y,h|.tup _,y,h|.un ..,y,h|.sle ..,y,h=>by simp[PV.viewWith]at h
termination_by structural x => x
theorem z1gz{R:List Nat}{g g':Nat->Nat->Option PV}(hg:∀b off y,g b off=some y->g' b off=some y):∀(xs ys:List PV),z1gv R M g xs=some ys->z1gv R (M++L'0 d .dead) g' xs=some ys
 |[],ys,h=>by simpa only[z1gv]using h
 |x::xs,ys,h=>by
  simp only[z1gv,L's,M'0]at h ⊢
  obtain⟨y,h1,ys',h2,h3⟩:=h
  exact⟨y,z1ha hg x y h1,ys',z1gz hg xs ys' h2,h3⟩
termination_by structural x => x
end

theorem z5q{R:List Nat}:∀(n b off:Nat)(y:PV),z5n R M n b off=some y->z5n R (M++L'0 d .dead) n b off=some y
 |0,b,off,y,h=>by simp[z5n]at h
 |n+1,b,off,y,h=>by
  unfold z5n at h ⊢
  cases hb:M[b]? with
  |none=>rw[hb]at h;cases h
  |some k=>
   rw[z10z hb]
   rw[hb]at h
   cases k<;>simp only at h⊢<;>try(cases h;done)
   simp only[L's]at h ⊢
   obtain⟨cs,h1,h2⟩:=h
   exact⟨cs,z1gz (z5q n) _ _ h1,h2⟩
theorem zxz{orc:Orc}{rs fr:List PV}{op:IOp}(hp:isR op=true){v:PV}{mem':List Blk}(h:z1cm orc rs fr M op=some (v,mem')) :
  z1cm orc rs fr (M++L'0 d .dead) op=some (v,M++L'0 d .dead):=by
 have cv:∀(f:FuncId)(args:List PV),callV orc true M f args=some (v,mem')->callV orc true (M++L'0 d .dead) f args=some (v,M++L'0 d .dead):=by
  intro f args h
  simp only[callV,L's]at h ⊢
  obtain⟨vs,h1,r,h2,h3⟩:=h
  refine⟨vs,?_,r,h2,?_⟩
  ·rw[z13z];exact z1gz (z5q 3) args vs h1
  ·rw[z13z]
   split at h3
   ·rename_i hc
    rw[if_pos hc]
    split at h3
    ·rename_i hc2
     rw[if_pos hc2]
     simp at h3 ⊢
     exact h3.1
    ·simp at h3
   ·cases h3
 cases op<;>simp[isR]at hp<;>simp only[z1cm]at h ⊢
 case strb x=>
  simp only[L's,M'0,Prod.mk.injEq]at h ⊢
  obtain⟨y,h1,s,h2,bs,h3,h4,_⟩:=h
  refine⟨y,h1,s,?_,bs,h3,h4,trivial⟩
  cases y<;>simp only[shown]at h2⊢<;>try(first| exact h2|(cases h2;done))
  simp only[M'0]at h2 ⊢
  obtain⟨x,h5,h6⟩:=h2
  exact⟨x,z16y h5,h6⟩
 case call q f ps=>subst hp;simp only[L's]at h⊢;obtain⟨vs,h1,h2⟩:=h;exact⟨vs,h1,cv _ _ h2⟩
 case callv q x ps=>
  subst hp
  split at h
  ·simp only[L's]at h⊢;obtain⟨vs,h1,h2⟩:=h;exact⟨vs,h1,cv _ _ h2⟩
  ·cases h
theorem zxv{orc:Orc}{rs fr:List PV}{full:List Blk}{op:IOp}(hp:isL op=true){v:PV}{mem':List Blk}(h:z1cm orc rs fr M op=some (v,mem'))(hs:∀b∈footR rs fr op,b<M.length->full[b]?=M[b]?) :
  z1cm orc rs fr full op=some (v,full):=by
 have get:∀(b:Nat) (k:Blk),b∈footR rs fr op->M[b]?=some k->full[b]?=some k:=fun b k hb hk=>(hs b hb (L'b.1 hk).1).trans hk
 cases op<;>simp[isL]at hp<;>simp only[z1cm]at h ⊢
 case load ag n x=>
  simp only[L's,M'0,Prod.mk.injEq]at h ⊢
  obtain⟨y,h1,r,h2,h3,_⟩:=h
  have hf:footR rs fr (.load ag n x)=y.refs:=by simp[footR,opds,evL,h1,refsL]
  rw[hf]at get
  refine⟨y,h1,r,?_,h3,trivial⟩
  cases y<;>simp only[loadV]at h2⊢<;>try(first| exact h2|(cases h2;done))
  case ptr b off=>
   cases hb:M[b]? with
   |none=>rw[hb]at h2;cases h2
   |some k=>rw[get b k (by simp[PV.refs]) hb];rw[hb]at h2;exact h2
  case ep b sz i off=>
   cases hb:M[b]? with
   |none=>rw[hb]at h2;cases h2
   |some k=>rw[get b k (by simp[PV.refs]) hb];rw[hb]at h2;exact h2
  case qep b sz i off=>
   cases hb:M[b]? with
   |none=>rw[hb]at h2;cases h2
   |some k=>rw[get b k (by simp[PV.refs]) hb];rw[hb]at h2;exact h2
 case slice sz x lo hi=>
  simp only[L's,M'0,Prod.mk.injEq]at h ⊢
  obtain⟨y,h1,l,h2,u,h3,r,h4,h5,_⟩:=h
  refine⟨y,h1,l,h2,u,h3,r,?_,h5,trivial⟩
  cases y<;>simp only[z1b4]at h4⊢<;>try(first| exact h4|(cases h4;done))
  case ref b sz' off len=>
   have hev:∀(l:List Opd),(∀o∈l,∃z,ev rs fr o=some z)->∃zs,evL rs fr l=some zs:=by
    intro l
    induction l with
    |nil=>intro _;exact⟨[],rfl⟩
    |cons o l ih=>
     intro ho
     obtain⟨z,hz⟩:=ho o (by simp)
     obtain⟨zs,hzs⟩:=ih (fun o' ho'=>ho o' (by simp[ho']))
     exact⟨z::zs,by simp[evL,hz,hzs]⟩
   have hopt:∀(o:Option Opd) (z:Option PV),opt (ev rs fr) o=some z->∀o'∈o.toList,∃z,ev rs fr o'=some z:=by
    intro o z ho o' ho'
    cases o with
    |none=>simp at ho'
    |some o=>
     simp at ho';subst ho'
     simp only[opt,M'0]at ho
     obtain⟨z',hz',_⟩:=ho
     exact⟨z',hz'⟩
   obtain⟨zs,hzs⟩:=hev (lo.toList++hi.toList) (fun o ho=>by
    rcases List.mem_append.1 ho with ho|ho
    ·exact hopt lo l h2 o ho
    ·exact hopt hi u h3 o ho)
   have hin:b∈footR rs fr (.slice sz x lo hi):=by simp[footR,opds,evL,h1,hzs,refsL,PV.refs]
   cases hb:M[b]? with
   |none=>rw[hb]at h4;cases h4
   |some k=>rw[get b k hin hb];rw[hb]at h4;exact h4
end
end Go.Proofs.YtbaclnecajkknaaGreat.Pi

