/- Pi: evaluation by rewriting: the set of rules. No condition. -/
import Derived.Test.YtbaclnecajkknaaGreatPiEv
open Option renaming bind_some->L't,map_eq_some_iff->M'0,bind_eq_some_iff->L's
open Bool renaming false_eq_true->M'w,and_self->P'd
open List renaming getElem?_map->N'i,getElem?_eq_getElem->L'v,isEmpty_nil->P'b,nil_append->M'3,append_nil->M'e,all_cons->P'c
namespace Go.Proofs.YtbaclnecajkknaaGreat.Pi
open Go
set_option linter.all false

def WO1(orc:Orc)(res:Option (PV×List Blk))(d:Option Nat)(os:List IOper)(rs fr:List PV)(R:St->Prop):Prop:=
match res with
|some x=>WO orc os (rs++[x.1]) (setFr fr d x.1) x.2 R
|none=>False
def Lv(m:Nat)(rs:List IRes)(r:PV×List Blk)(o:Out):Prop:=leave m rs (some o)=some r
def Le'(m:Nat)(rs:List IRes)(P:PV×List Blk->Prop)(o:Out):Prop:=Lw (leave m rs (some o)) P
@[go_sem] theorem z0b{v:PV×List Blk}{P:PV×List Blk->Prop}:Lw (some v) P↔P v:=by simp[Lw]
def Bk(id:Nat)(Q:Out->Prop)(o:Out):Prop:=match o with
|.exit i st'=>if i=id then Q (.next st')else Q (.exit i st')
|o=>Q o
def Sq(orc:Orc)(m:Nat)(b:ICode)(Q:Out->Prop)(o:Out):Prop:=match o with
|.next st'=>W orc m b st' Q
|o=>Q o
def Wc(orc:Orc)(m:Nat)(v:Option PV)(a b:ICode)(st:St)(Q:Out->Prop):Prop:=match v with
|some (.bool true)=>W orc m a st Q
|some (.bool false)=>W orc m b st Q
|_=>False
def Wg(orc:Orc)(g:Option PV)(b:Bool)(d:Option Nat)(op:IOp)(os:List IOper)(rs fr:List PV)(mem:List Blk)(R:St->Prop):Prop:=match g with
|some (.bool c)=>(c=b->WO orc (⟨d,op,none⟩::os) rs fr mem R)/\(c≠b->WO orc os (rs++[.undef]) (setFr fr d .undef) mem R)
|some .undef=>WO orc os (rs++[.undef]) (setFr fr d .undef) mem R
|_=>False
section
variable {orc:Orc}{m:Nat}{Q:Out->Prop}{st:St}{os:List IOper}{rs fr:List PV}{mem:List Blk}{R:St->Prop}
theorem z18s{a b:ICode}(h:W orc m a st (Sq orc m b Q)):W orc m (.seq a b) st Q:=W_seq (h.mono fun o ho=>by cases o<;>exact ho)
theorem z18p{id:Nat}{b:ICode}(h:W orc m b st (Bk id Q)):W orc m (.block id b) st Q:=z16 (h.mono fun o ho=>by cases o<;>exact ho)
theorem z18q{c:Opd}{a b:ICode}(h:Wc orc m (ev [] st.fr c) a b st Q):W orc m (.cond c a b) st Q:=by
 unfold Wc at h
 split at h
 ·rename_i e;exact z18 e (fun _=>h) (fun h=>by cases h)
 ·rename_i e;exact z18 e (fun h=>by cases h) (fun _=>h)
 ·exact h.elim
theorem z18r{dr:Bool}{ops:List IOper}(h:WO orc ops [] st.fr st.mem (fun s=>Q (.next s))):W orc m (.region dr [] ops) st Q:=z1g h
theorem rw_op{d:Option Nat}{op:IOp}(h:WO1 orc (z1cm orc rs fr mem op) d os rs fr R):WO orc (⟨d,op,none⟩::os) rs fr mem R:=by
 unfold WO1 at h
 split at h
 ·rename_i x e;exact WO_op (v:=x.1) (mem':=x.2) e h
 ·exact h.elim
theorem rw_g{d:Option Nat}{op:IOp}{j:Nat}{b:Bool}(h:Wg orc rs[j]? b d op os rs fr mem R):WO orc (⟨d,op,some (j,b)⟩::os) rs fr mem R:=by
 unfold Wg at h
 split at h
 ·rename_i e;exact WO_g e h.1 h.2
 ·rename_i e;exact WO_gu e h
 ·exact h.elim
end

/- The rules, as equations of propositions. -/
section
variable {orc:Orc}{m:Nat}{Q:Out->Prop}{st st':St}{os:List IOper}{rs fr:List PV}{mem:List Blk}{R:St->Prop}{a b:ICode}{id i:Nat}{c:Opd}{v:Option PV}{p q:Prop}
@[go_sem] theorem z1n:W orc m .skip st Q↔Q (.next st):=⟨fun⟨_,h,k⟩=>by cases h;exact k,z1m⟩
@[go_sem] theorem z1d:W orc m (.exit id) st Q↔Q (.exit id st):=⟨fun⟨_,h,k⟩=>by cases h;exact k,z1c⟩
@[go_sem] theorem z1i:W orc m .ret st Q↔Q (.ret st):=⟨fun⟨_,h,k⟩=>by cases h;exact k,W_ret⟩
@[go_sem] theorem z1k:W orc m (.scope a) st Q↔W orc m a st Q:=Iff.rfl
@[go_sem] theorem z1l:W orc m (.seq a b) st Q↔W orc m a st (Sq orc m b Q):=by
 refine⟨?_,z18s⟩
 rintro⟨o,h1,h2⟩
 simp only[run]at h1
 split at h1
 ·rename_i s e;exact⟨_,e,⟨o,h1,h2⟩⟩
 ·rename_i hne
  refine⟨o,h1,?_⟩
  cases o with
  |next s=>exact(hne s h1).elim
  |ret s=>exact h2
  |exit i s=>exact h2
@[go_sem] theorem z17:W orc m (.block id b) st Q↔W orc m b st (Bk id Q):=by
 refine⟨?_,z18p⟩
 rintro⟨o,h1,h2⟩
 simp only[run]at h1
 split at h1
 ·rename_i i s e
  refine⟨_,e,?_⟩
  unfold Bk
  by_cases hi:i=id
  ·simp only[hi,if_true]at h1⊢;cases h1;exact h2
  ·simp only[if_neg hi]at h1⊢;cases h1;exact h2
 ·rename_i hne
  refine⟨o,h1,?_⟩
  cases o with
  |next s=>exact h2
  |ret s=>exact h2
  |exit i s=>exact(hne i s h1).elim
@[go_sem] theorem z19:W orc m (.cond c a b) st Q↔Wc orc m (ev [] st.fr c) a b st Q:=by
 refine⟨?_,z18q⟩
 rintro⟨o,h1,h2⟩
 simp only[run]at h1
 unfold Wc
 split at h1
 ·rename_i e;rw[e];exact⟨o,h1,h2⟩
 ·rename_i e;rw[e];exact⟨o,h1,h2⟩
 ·cases h1
@[go_sem] theorem z1q:Wc orc m (some (.bool true)) a b st Q↔W orc m a st Q:=Iff.rfl
@[go_sem] theorem z1p:Wc orc m (some (.bool false)) a b st Q↔W orc m b st Q:=Iff.rfl
@[go_sem 500] theorem z1o{x:Bool}:Wc orc m (some (.bool x)) a b st Q↔(x=true->W orc m a st Q)/\(x=false->W orc m b st Q):=by
 cases x<;>simp[Wc]
@[go_sem] theorem z1h{dr:Bool}{ops:List IOper}:W orc m (.region dr [] ops) st Q↔WO orc ops [] st.fr st.mem (fun s=>Q (.next s)):=by
 refine⟨?_,z18r⟩
 rintro⟨o,h1,h2⟩
 simp only[run,z187,P'b,if_true,M'0]at h1
 obtain⟨s,h3,rfl⟩:=h1
 exact⟨s,h3,h2⟩
@[go_sem] theorem z14:WO orc [] rs fr mem R↔R ⟨fr,mem⟩:=⟨fun⟨_,h,k⟩=>by cases h;exact k,z13⟩
@[go_sem] theorem z15{d:Option Nat}{op:IOp}:WO orc (⟨d,op,none⟩::os) rs fr mem R↔WO1 orc (z1cm orc rs fr mem op) d os rs fr R:=by
 refine⟨?_,rw_op⟩
 rintro⟨s,h1,h2⟩
 simp only[z17z,z1cq,wanted,L't,if_true,L's,M'0]at h1
 obtain⟨x,⟨y,h3,rfl⟩,h4⟩:=h1
 rw[h3]
 exact⟨s,h4,h2⟩
@[go_sem 500] theorem z0z{x:PV}{mem':List Blk}{d:Option Nat}:WO1 orc (some (x,mem')) d os rs fr R↔WO orc os (rs++[x]) (setFr fr d x) mem' R:=Iff.rfl
@[go_sem] theorem z11{mem':List Blk}{d:Option Nat}:WO1 orc (some (.bool true,mem')) d os rs fr R↔WO orc os (rs++[.bool true]) (setFr fr d (.bool true)) mem' R:=Iff.rfl
@[go_sem] theorem z0w{mem':List Blk}{d:Option Nat}:WO1 orc (some (.bool false,mem')) d os rs fr R↔WO orc os (rs++[.bool false]) (setFr fr d (.bool false)) mem' R:=Iff.rfl
@[go_sem] theorem z0y{d:Option Nat}:WO1 orc none d os rs fr R↔False:=Iff.rfl
@[go_sem 700] theorem z0v{x:Bool}{mem':List Blk}{d:Option Nat}:WO1 orc (some (.bool x,mem')) d os rs fr R↔(x=true->WO orc os (rs++[.bool true]) (setFr fr d (.bool true)) mem' R)/\(x=false->WO orc os (rs++[.bool false]) (setFr fr d (.bool false)) mem' R):=by
 cases x<;>simp[WO1]
@[go_sem] theorem z0x{x y:Option (PV×List Blk)}{d:Option Nat}[Decidable p]:WO1 orc (if p then x else y) d os rs fr R↔(p->WO1 orc x d os rs fr R)/\(¬p->WO1 orc y d os rs fr R):=by
 by_cases h:p<;>simp[h]
@[go_sem] theorem z12{d:Option Nat}{op:IOp}{j:Nat}{b:Bool}:WO orc (⟨d,op,some (j,b)⟩::os) rs fr mem R↔Wg orc rs[j]? b d op os rs fr mem R:=by
 refine⟨?_,rw_g⟩
 rintro⟨s,h1,h2⟩
 simp only[z17z,z1cq,L's]at h1
 obtain⟨x,⟨w,h3,h4⟩,h5⟩:=h1
 simp only[wanted]at h3
 unfold Wg
 split at h3
 ·rename_i c e
  rw[e]
  cases h3
  refine⟨fun hc=>⟨s,?_,h2⟩,fun hc=>⟨s,?_,h2⟩⟩
  ·subst hc
   simp only[beq_self_eq_true,if_true]at h4
   simp only[z17z,z1cq,wanted,L't,if_true,h4]
   exact h5
  ·have:(c==b)=false:=by simpa using hc
   simp only[this,M'w,if_false,Option.some.injEq]at h4
   subst h4;exact h5
 ·rename_i e
  rw[e]
  cases h3
  simp only[M'w,if_false,Option.some.injEq]at h4
  subst h4
  exact⟨s,h5,h2⟩
 ·cases h3
@[go_sem] theorem z1r{d:Option Nat}{op:IOp}{b:Bool}:Wg orc (some .undef) b d op os rs fr mem R↔WO orc os (rs++[.undef]) (setFr fr d .undef) mem R:=Iff.rfl
@[go_sem] theorem Wg_tt{d:Option Nat}{op:IOp}:Wg orc (some (.bool true)) true d op os rs fr mem R↔WO orc (⟨d,op,none⟩::os) rs fr mem R:=by simp[Wg]
@[go_sem] theorem Wg_ff{d:Option Nat}{op:IOp}:Wg orc (some (.bool false)) false d op os rs fr mem R↔WO orc (⟨d,op,none⟩::os) rs fr mem R:=by simp[Wg]
@[go_sem] theorem Wg_tf{d:Option Nat}{op:IOp}:Wg orc (some (.bool true)) false d op os rs fr mem R↔WO orc os (rs++[.undef]) (setFr fr d .undef) mem R:=by simp[Wg]
@[go_sem] theorem Wg_ft{d:Option Nat}{op:IOp}:Wg orc (some (.bool false)) true d op os rs fr mem R↔WO orc os (rs++[.undef]) (setFr fr d .undef) mem R:=by simp[Wg]
@[go_sem 500] theorem Wg_bt{x:Bool}{d:Option Nat}{op:IOp}:Wg orc (some (.bool x)) true d op os rs fr mem R↔(x=true->WO orc (⟨d,op,none⟩::os) rs fr mem R)/\(x=false->WO orc os (rs++[.undef]) (setFr fr d .undef) mem R):=by
 cases x<;>simp[Wg]
@[go_sem 500] theorem Wg_bf{x:Bool}{d:Option Nat}{op:IOp}:Wg orc (some (.bool x)) false d op os rs fr mem R↔(x=false->WO orc (⟨d,op,none⟩::os) rs fr mem R)/\(x=true->WO orc os (rs++[.undef]) (setFr fr d .undef) mem R):=by
 cases x<;>simp[Wg]
@[go_sem] theorem z0f:Sq orc m b Q (.next st)↔W orc m b st Q:=Iff.rfl
@[go_sem] theorem z0g:Sq orc m b Q (.ret st)↔Q (.ret st):=Iff.rfl
@[go_sem] theorem z0e:Sq orc m b Q (.exit i st)↔Q (.exit i st):=Iff.rfl
@[go_sem] theorem z02:Bk id Q (.next st)↔Q (.next st):=Iff.rfl
@[go_sem] theorem z03:Bk id Q (.ret st)↔Q (.ret st):=Iff.rfl
@[go_sem] theorem z01:Bk id Q (.exit id st)↔Q (.next st):=by simp[Bk]
@[go_sem] theorem z00:Bk id Q (.exit i st)↔(if i=id then Q (.next st)else Q (.exit i st)):=Iff.rfl
@[go_sem] theorem z0a{rl:List IRes}{r:PV×List Blk}:Lv m rl r (.ret st)↔zgq m rl st=some r:=Iff.rfl
@[go_sem] theorem z08{rl:List IRes}{P:PV×List Blk->Prop}:Le' m rl P (.ret st)↔Lw (zgq m rl st) P:=Iff.rfl
@[go_sem] theorem z07{rl:List IRes}{P:PV×List Blk->Prop}:Le' m rl P (.next st)↔Lw (zgq m rl st) P:=Iff.rfl
@[go_sem] theorem z09{rl:List IRes}{r:PV×List Blk}:Lv m rl r (.next st)↔zgq m rl st=some r:=Iff.rfl
end

/-! ### Lists, frames, operands -/
attribute [go_sem] List.getElem?_cons_zero List.getElem?_cons_succ List.set_cons_zero List.set_cons_succ M'3 List.cons_append M'e List.length_cons List.length_nil
 L't Option.map_some Option.bind_none Option.map_none List.map_cons List.map_nil List.getD_cons_zero List.getD_cons_succ List.getD_nil
 ev evL setFr opt z1cm start if_true if_false
theorem zaf{k:List Bool}{x:PV}{f:List PV}:clean (true::k) (x::f)=x::clean k f:=rfl
theorem zad{k:List Bool}{x:PV}{f:List PV}:clean (false::k) (x::f)=.any::clean k f:=rfl
theorem zae{f:List PV}:clean [] f=[]:=by cases f<;>rfl
attribute [go_sem] zaf zad zae
/-! ### Numbers -/
section
variable {bl:Bool}{k:IntKind}{x y:Int}
@[go_sem] theorem z6b:binV bl .add (.int k x) (.int k y)=some (.int k (k.wrap (x+y))):=by simp[binV,binI]
@[go_sem] theorem z6r:binV bl .sub (.int k x) (.int k y)=some (.int k (k.wrap (x-y))):=by simp[binV,binI]
@[go_sem] theorem z6j:binV bl .mul (.int k x) (.int k y)=some (.int k (k.wrap (x*y))):=by simp[binV,binI]
@[go_sem] theorem z6n:binV bl .quo (.int k x) (.int k y)=if y=0 then none else some (.int k (k.wrap (x.tdiv y))):=by simp[binV,binI]
@[go_sem] theorem z6o:binV bl .rem (.int k x) (.int k y)=if y=0 then none else some (.int k (x.tmod y)):=by simp[binV,binI]
@[go_sem] theorem z6e:binV bl .eql (.int k x) (.int k y)=some (.bool (x==y)):=by simp[binV,binI]
@[go_sem] theorem z6k:binV bl .neq (.int k x) (.int k y)=some (.bool (x !=y)):=by simp[binV,binI]
@[go_sem] theorem z6i:binV bl .lss (.int k x) (.int k y)=some (.bool (decide (x<y))):=by simp[binV,binI]
@[go_sem] theorem z6h:binV bl .leq (.int k x) (.int k y)=some (.bool (decide (x<=y))):=by simp[binV,binI]
@[go_sem] theorem z6g:binV bl .gtr (.int k x) (.int k y)=some (.bool (decide (x>y))):=by simp[binV,binI]
@[go_sem] theorem z6f:binV bl .geq (.int k x) (.int k y)=some (.bool (decide (x>=y))):=by simp[binV,binI]
@[go_sem] theorem z6c:binV bl .and (.int k x) (.int k y)=some (.int k (bits .and k x y)):=by simp[binV,binI]
@[go_sem] theorem z6m:binV bl .or (.int k x) (.int k y)=some (.int k (bits .or k x y)):=by simp[binV,binI]
@[go_sem] theorem z6p{k':IntKind}:binV bl .shl (.int k x) (.int k' y)=if 0<=y then some (.int k (k.wrap (x*2^min y.toNat k.bits)))else none:=by simp[binV,binI]
@[go_sem] theorem z6q{k':IntKind}:binV bl .shr (.int k x) (.int k' y)=if 0<=y then some (.int k (x/2^min y.toNat k.bits))else none:=by simp[binV,binI]
@[go_sem] theorem z65{x y:Bool}:binV true .eql (.bool x) (.bool y)=some (.bool (x==y)):=by simp[binV]
@[go_sem] theorem z66{x y:Bool}:binV true .neq (.bool x) (.bool y)=some (.bool (x !=y)):=by simp[binV]
end

@[go_sem] theorem wrap_i64{x:Int}(h1:-9223372036854775808<=x)(h2:x<9223372036854775808):IntKind.i64.wrap x=x:=IntWalk.i64_in x ⟨h1,by omega⟩
/-! ### Results, calls, slices -/
@[go_sem] theorem zle{i:Int}{n:Nat}(h0:0<=i)(h1:i<n):idx i n=some i.toNat:=by unfold idx;rw[if_pos ⟨h0,h1⟩]
@[go_sem] theorem zgt{rl:List IRes}{st:St}:zgq 0 rl st=(resL st rl).bind fun vs=>(expAL 0 st.mem vs).bind fun x=>if (refsL x.1).isEmpty=true then some (packP x.1,[])else none:=by
 unfold zgq
 congr 1
 funext vs
 congr 1
 funext x
 have hc:close 0 x.2=some []:=by simp[close,select,refsL]
 cases hr:refsL x.1 with
 |nil=>simp[hc]
 |cons a l=>simp
@[go_sem] theorem res_v{st:St}{i:Nat}{l:List IRes}:resL st (.v i::l)=(st.fr[i]?).bind fun y=>(resL st l).map fun ys=>y::ys:=rfl
@[go_sem] theorem res_c{st:St}{ag:Bool}{n i:Nat}{l:List IRes}:resL st (.cell ag n i::l)=((st.fr[i]?).bind fun p=>loadV st.mem ag n p).bind fun y=>(resL st l).map fun ys=>y::ys:=rfl
@[go_sem] theorem z16k{st:St}:resL st []=some []:=rfl
@[go_sem] theorem zfc{m:Nat}{mem:List Blk}:expAL m mem []=some ([],mem):=rfl
@[go_sem] theorem zfb{m:Nat}{mem:List Blk}{x:PV}{xs:List PV}:expAL m mem (x::xs)=(expA m mem x).bind fun y=>(expAL m y.2 xs).map fun ys=>(y.1::ys.1,ys.2):=rfl
@[go_sem] theorem zfs{m:Nat}{mem:List Blk}:expL m mem []=some ([],mem):=rfl
@[go_sem] theorem zfr{m:Nat}{mem:List Blk}{x:PV}{xs:List PV}:expL m mem (x::xs)=(exp1 m mem x).bind fun y=>(expL m y.2 xs).map fun ys=>(y.1::ys.1,ys.2):=rfl
@[go_sem] theorem zfg{m:Nat}{mem:List Blk}{k:IntKind}{n:Int}:expA m mem (.int k n)=some (.int k n,mem):=rfl
@[go_sem] theorem zff{m:Nat}{mem:List Blk}{b:Bool}:expA m mem (.bool b)=some (.bool b,mem):=rfl
@[go_sem] theorem zfl{m:Nat}{mem:List Blk}{b:ByteArray}:expA m mem (.str b)=some (.str b,mem):=rfl
@[go_sem] theorem zfh{m:Nat}{mem:List Blk}{fl:Bool}{sz:Nat}:expA m mem (.nil fl sz)=some (.nil fl sz,mem):=rfl
@[go_sem] theorem zfk{m:Nat}{mem:List Blk}{fl:Bool}{sz:Nat}{es:List PV}:expA m mem (.sl fl sz es)=some (.sl fl sz es,mem):=rfl
@[go_sem] theorem zfe{m:Nat}{mem:List Blk}{cs:List PV}:expA m mem (.agg cs)=(expL m mem cs).map fun x=>(.agg x.1,x.2):=rfl
@[go_sem] theorem zfj{m:Nat}{mem:List Blk}{b sz o l:Nat}:expA m mem (.ref b sz o l)=exp1 m mem (.ref b sz o l):=rfl
@[go_sem] theorem z148:refsL []=[]:=rfl
@[go_sem] theorem z147{x:PV}{xs:List PV}:refsL (x::xs)=x.refs++refsL xs:=rfl
@[go_sem] theorem z14e{k:IntKind}{n:Int}:(PV.int k n).refs=[]:=rfl
@[go_sem] theorem z14b{b:Bool}:(PV.bool b).refs=[]:=rfl
@[go_sem] theorem z14n{b:ByteArray}:(PV.str b).refs=[]:=rfl
@[go_sem] theorem z14l{fl:Bool}{sz:Nat}{es:List PV}:(PV.sl fl sz es).refs=[]:=rfl
@[go_sem] theorem z14f{fl:Bool}{sz:Nat}:(PV.nil fl sz).refs=[]:=rfl
@[go_sem] theorem z14p{t:TypeId}{fl:Bool}{sz:Nat}{es:List PV}:(PV.un t fl sz es).refs=[]:=rfl
@[go_sem] theorem z14r{t:TypeId}{sz:Nat}{es:List PV}:(PV.unn t sz es).refs=[]:=rfl
@[go_sem] theorem z14a:PV.any.refs=[]:=rfl
@[go_sem] theorem z14q:PV.undef.refs=[]:=rfl
@[go_sem] theorem z14k{b sz o l:Nat}:(PV.ref b sz o l).refs=[b]:=rfl
@[go_sem] theorem z14g{b o:Nat}:(PV.ptr b o).refs=[b]:=rfl
@[go_sem] theorem z14d{b sz i o:Nat}:(PV.ep b sz i o).refs=[b]:=rfl
@[go_sem] theorem z14c{f:FuncId}{c:List PV}:(PV.clo f c).refs=refsL c:=rfl
@[go_sem] theorem z149{c:List PV}:(PV.agg c).refs=refsL c:=rfl
@[go_sem] theorem z14o{c:List PV}:(PV.tup c).refs=refsL c:=rfl
@[go_sem] theorem z14h{x:PV}{o:Nat}:(PV.pv x o).refs=x.refs:=rfl
@[go_sem] theorem z108{v:PV}:packP [v]=v:=rfl
@[go_sem] theorem z109{v w:PV}{l:List PV}:packP (v::w::l)=.tup (v::w::l):=rfl
@[go_sem] theorem z107:packP []=.tup []:=rfl
attribute [go_sem] P'b List.isEmpty_cons M'w Bool.true_eq_false
section
variable {x y:Int}
@[go_sem] theorem zcl(h:x<y):decide (x<y)=true:=by simpa using h
@[go_sem] theorem zck(h:y<=x):decide (x<y)=false:=by simp;omega
@[go_sem] theorem zch(h:y<x):decide (x>y)=true:=by simpa using h
@[go_sem] theorem zcg(h:x<=y):decide (x>y)=false:=by simp;omega
@[go_sem] theorem zcj(h:x<=y):decide (x<=y)=true:=by simpa using h
@[go_sem] theorem zci(h:y<x):decide (x<=y)=false:=by simp;omega
@[go_sem] theorem zcf(h:y<=x):decide (x>=y)=true:=by simpa using h
@[go_sem] theorem zce(h:x<y):decide (x>=y)=false:=by simp;omega
@[go_sem] theorem beq_t(h:x=y):(x==y)=true:=by simpa using h
@[go_sem] theorem beq_f(h:¬x=y):(x==y)=false:=by simpa using h
@[go_sem] theorem bne_t(h:¬x=y):(x !=y)=true:=by simpa using h
@[go_sem] theorem bne_f(h:x=y):(x !=y)=false:=by simpa using h
end
attribute [go_sem] decide_eq_true_eq decide_eq_false_iff_not beq_iff_eq beq_eq_false_iff_ne bne_iff_ne bne_eq_false_iff_eq Bool.not_true Bool.not_false Bool.not_eq_true' Bool.not_eq_false' ne_eq not_true_eq_false not_false_eq_true
 true_implies false_implies and_true true_and implies_true Int.not_lt Int.not_le ge_iff_le gt_iff_lt
 N'i Int.toNat_natCast
/-! ### Slices -/
section
variable {sz sz':Nat}{fl:Bool}{es:List PV}{mem:List Blk}{k:IntKind}{i:Int}
@[go_sem] theorem zkz:zkv mem sz (.sl fl sz es) (.int k i)=(idx i es.length).bind fun j=>(es[j]?).map fun e=>.pv e 0:=by simp[zkv]
@[go_sem] theorem zky{b o l:Nat}:zkv mem sz (.ref b sz o l) (.int k i)=(idx i l).map fun j=>.ep b sz (o+j) 0:=by simp[zkv]
@[go_sem] theorem zqi:lenV false (.sl fl sz es)=some es.length:=rfl
@[go_sem] theorem zqh{b o l:Nat}:lenV false (.ref b sz o l)=some l:=rfl
@[go_sem] theorem zqd:lenV false (.nil fl sz)=some 0:=rfl
@[go_sem] theorem zqj{x:ByteArray}:lenV true (.str x)=some x.size:=rfl
@[go_sem] theorem zs2{x:PV}:loadV mem false 1 (.pv x 0)=(if 1<=x.cells.length then x.cells[0]? else none):=by simp[loadV,cut]
@[go_sem] theorem z8r{n:Int}:(PV.int k n).cells=[.int k n]:=rfl
@[go_sem] theorem z8q{b:Bool}:(PV.bool b).cells=[.bool b]:=rfl
@[go_sem] theorem z8x{b:ByteArray}:(PV.str b).cells=[.str b]:=rfl
@[go_sem] theorem z8w:(PV.sl fl sz es).cells=[.sl fl sz es]:=rfl
@[go_sem] theorem z8s:(PV.nil fl sz).cells=[.nil fl sz]:=rfl
@[go_sem] theorem z8v{b o l:Nat}:(PV.ref b sz o l).cells=[.ref b sz o l]:=rfl
@[go_sem] theorem z8p{c:List PV}:(PV.agg c).cells=c:=rfl
attribute [go_sem] List.length_map Nat.le_refl Int.ofNat_eq_natCast
end
theorem getElem?_some{α:Type}{l:List α}{i:Nat}(h:i<l.length):l[i]?=some l[i]:=L'v h
attribute [go_sem 300] getElem?_some
/-! ### Blocks -/
def rowK(k:Option Blk)(sz off len:Nat):Option (Bool×List PV):=match k with
|some (.row _ fl sz' es)=>if off+len<=es.length/\sz'=sz then some (fl,(es.drop off).take len)else none
|some (.fro fl sz' es)=>if off+len<=es.length/\sz'=sz then some (fl,(es.drop off).take len)else none
|_=>none
section
variable {mem:List Blk}{b sz off len o i n:Nat}{fl fl':Bool}{t t':TypeId}{es:List PV}{x y:PV}{cs:List PV}
@[go_sem] theorem z16w:rowAt mem b sz off len=rowK mem[b]? sz off len:=rfl
@[go_sem] theorem z175(h:off+len<=es.length):rowK (some (.row t fl sz es)) sz off len=some (fl,(es.drop off).take len):=by simp[rowK,h]
@[go_sem] theorem z174(h:off+len<=es.length):rowK (some (.fro fl sz es)) sz off len=some (fl,(es.drop off).take len):=by simp[rowK,h]
def rowKV(k:Option Blk)(sz off len:Nat):Option (Bool×List PV):=match k with
|some (.lin _ sz' es)=>if off+len<=es.length/\sz'=sz then some (false,(es.drop off).take len)else none
|k=>rowK k sz off len
@[go_sem] theorem z16s:z16r mem b sz off len=rowKV mem[b]? sz off len:=by
 unfold z16r rowKV
 cases h:mem[b]? with
 |none=>simp[rowAt,rowK,h]
 |some k=>cases k<;>simp[rowAt,rowK,h]
@[go_sem] theorem z173(h:off+len<=es.length):rowKV (some (.row t fl sz es)) sz off len=some (fl,(es.drop off).take len):=by simp[rowKV,rowK,h]
@[go_sem] theorem z171(h:off+len<=es.length):rowKV (some (.fro fl sz es)) sz off len=some (fl,(es.drop off).take len):=by simp[rowKV,rowK,h]
@[go_sem] theorem z172(h:off+len<=es.length):rowKV (some (.lin t sz es)) sz off len=some (false,(es.drop off).take len):=by simp[rowKV,h]
attribute [go_sem] List.drop_zero List.take_zero
@[go_sem] theorem z1fa{α:Type}{l:List α}{n:Nat}(h:l.length<=n):l.take n=l:=List.take_of_length_le h
def frzK(mem:List Blk)(b:Nat)(k:Option Blk):List Blk:=match k with
|some (.row _ fl sz es)=>mem.set b (.fro fl sz es)
|some (.lin _ sz es)=>mem.set b (.fro false sz es)
|_=>mem
@[go_sem] theorem zhy:freeze mem b=frzK mem b mem[b]?:=rfl
@[go_sem] theorem zid:frzK mem b (some (.row t fl sz es))=mem.set b (.fro fl sz es):=rfl
@[go_sem] theorem zi9:frzK mem b (some (.fro fl sz es))=mem:=rfl
@[go_sem] theorem zib:frzK mem b (some (.lin t sz es))=mem.set b (.fro false sz es):=rfl
@[go_sem] theorem zi8:frzK mem b (some .dead)=mem:=rfl
@[go_sem] theorem zi7:frzK mem b (some (.box t cs))=mem:=rfl
@[go_sem] theorem zon:kill mem []=mem:=rfl
@[go_sem] theorem zom{l:List Nat}:kill mem (b::l)=kill (freeze mem b) l:=rfl
/-! pub, shown, append -/
@[go_sem] theorem z12s:pub mem (.ref b sz off len)=(rowAt mem b sz off len).map fun x=>(.sl x.1 sz x.2,freeze mem b):=rfl
@[go_sem] theorem z12p:pub mem (.nil fl sz)=some (.sl fl sz [],mem):=rfl
@[go_sem] theorem z12o{k:IntKind}{n:Int}:pub mem (.int k n)=some (.int k n,mem):=rfl
@[go_sem] theorem z12m{b:Bool}:pub mem (.bool b)=some (.bool b,mem):=rfl
@[go_sem] theorem z12u{b:ByteArray}:pub mem (.str b)=some (.str b,mem):=rfl
@[go_sem] theorem z12t:pub mem (.sl fl sz es)=some (.sl fl sz es,mem):=rfl
@[go_sem] theorem z12j:pubL mem []=some ([],mem):=rfl
@[go_sem] theorem z12h:pubL mem (x::es)=(pub mem x).bind fun y=>(pubL y.2 es).map fun ys=>(y.1::ys.1,ys.2):=rfl
@[go_sem] theorem z127:pubE mem (.agg cs)=(pubL mem cs).map fun x=>(.agg x.1,x.2):=rfl
@[go_sem] theorem z12e:pubE mem (.ref b sz off len)=pub mem (.ref b sz off len):=rfl
@[go_sem] theorem z12b:pubE mem (.nil fl sz)=some (.sl fl sz [],mem):=rfl
@[go_sem] theorem z12a{k:IntKind}{n:Int}:pubE mem (.int k n)=some (.int k n,mem):=rfl
@[go_sem] theorem z128{b:Bool}:pubE mem (.bool b)=some (.bool b,mem):=rfl
@[go_sem] theorem z12g{b:ByteArray}:pubE mem (.str b)=some (.str b,mem):=rfl
@[go_sem] theorem z12f:pubE mem (.sl fl sz es)=some (.sl fl sz es,mem):=rfl
@[go_sem] theorem zw6{k:IntKind}{n:Int}:okE fl 1 (.int k n)=true:=by cases fl<;>rfl
@[go_sem] theorem zw5{b:Bool}:okE fl 1 (.bool b)=true:=by cases fl<;>rfl
@[go_sem] theorem zwc{b:ByteArray}:okE fl 1 (.str b)=true:=by cases fl<;>rfl
@[go_sem] theorem zwb:okE false 1 (.sl fl sz es)=true:=rfl
@[go_sem] theorem zw3:okE fl sz (.agg cs)=(cs.length==sz&&cs.all fun c=>c.imm1&&(!fl||c.scalar)):=rfl
@[go_sem] theorem z17a:rowV fl sz mem []=some ([],mem):=rfl
@[go_sem] theorem z178:rowV fl sz mem (x::es)=(pubE mem x).bind fun y=>if okE fl sz y.1=true then(rowV fl sz y.2 es).map fun ys=>(y.1::ys.1,ys.2)else none:=rfl
@[go_sem] theorem zlh{k:IntKind}{n:Int}:(PV.int k n).imm1=true:=rfl
@[go_sem] theorem zlg{b:Bool}:(PV.bool b).imm1=true:=rfl
@[go_sem] theorem zll{b:ByteArray}:(PV.str b).imm1=true:=rfl
@[go_sem] theorem zlk:(PV.sl fl sz es).imm1=true:=rfl
@[go_sem] theorem zli:(PV.nil fl sz).imm1=true:=rfl
@[go_sem] theorem z18x{k:IntKind}{n:Int}:(PV.int k n).scalar=true:=rfl
@[go_sem] theorem z18w{b:Bool}:(PV.bool b).scalar=true:=rfl
@[go_sem] theorem z18y{b:ByteArray}:(PV.str b).scalar=true:=rfl
@[go_sem] theorem zxe{k:IntKind}{n:Int}:(PV.int k n).one=true:=rfl
@[go_sem] theorem zxb{b:Bool}:(PV.bool b).one=true:=rfl
@[go_sem] theorem zxr{b:ByteArray}:(PV.str b).one=true:=rfl
@[go_sem] theorem zxp:(PV.sl fl sz es).one=true:=rfl
@[go_sem] theorem zxg:(PV.nil fl sz).one=true:=rfl
@[go_sem] theorem zxo:(PV.ref b sz off len).one=true:=rfl
@[go_sem] theorem zxk:(PV.ptr b off).one=true:=rfl
@[go_sem] theorem zxc{f:FuncId}:(PV.clo f cs).one=true:=rfl
@[go_sem] theorem zxi:PV.nilp.one=true:=rfl
@[go_sem] theorem zxh:PV.nilf.one=true:=rfl
@[go_sem] theorem zxl:(PV.pv x o).one=true:=rfl
@[go_sem] theorem zxd:(PV.ep b sz i o).one=true:=rfl
attribute [go_sem] zw0 P'c List.all_nil Bool.and_true Bool.true_and P'd Bool.or_true Bool.true_or Bool.false_or Bool.or_false beq_self_eq_true
@[go_sem] theorem z1a7:shown mem (.sl fl sz es)=some (fl,sz,es):=rfl
@[go_sem] theorem z1a4:shown mem (.nil fl sz)=some (fl,sz,[]):=rfl
@[go_sem] theorem z1a6:shown mem (.ref b sz off len)=(rowAt mem b sz off len).map fun x=>(x.1,sz,x.2):=rfl
def appK(mem:List Blk)(t:TypeId)(fl:Bool)(sz b off len:Nat)(ys:List PV)(k:Option Blk):Option (PV×List Blk):=match k with
|some (.row t' fl' sz' es)=>if t'=t/\fl'=fl/\sz'=sz then
 (if off=0/\len=es.length/\len<=zt4 then some (.ref mem.length sz 0 (len+ys.length),mem.set b .dead++[.row t fl sz (es++ys)])
 else if off+len+ys.length<=es.length then some (.ref b sz off (len+ys.length),mem.set b (.row t fl sz (splice es (off+len) ys)))
 else if off=0/\len<=es.length/\len<=zt4 then some (.ref mem.length sz 0 (len+ys.length),mem.set b .dead++[.row t fl sz (es.take len++ys)])
 else none)else none
|_=>none
def appS(mem:List Blk)(t:TypeId)(fl:Bool)(sz:Nat)(x:PV)(s:Option (Bool×Nat×List PV)):Option (PV×List Blk):=match s with
 |some (fl',sz',ys)=>if sz'=sz/\fl'=fl/\ys.length<=zt4 then(match x with
  |.nil _ _=>some (.ref mem.length sz 0 ys.length,mem++[.row t fl sz ys])
  |.ref b sx off len=>if sx=sz then appK mem t fl sz b off len ys mem[b]? else none
  |_=>none)else none
 |none=>none
@[go_sem] theorem z3j:appendV mem t fl sz x y=appS mem t fl sz x (shown mem y):=by
 unfold appendV appS
 cases shown mem y with
 |none=>rfl
 |some s=>
  obtain⟨f,z,ys⟩:=s
  simp only[L't]
  split
  ·cases x<;>simp only<;>try rfl
   rename_i b sx off len
   unfold appK
   cases hb:mem[b]? with
   |none=>simp
   |some k=>
    cases k<;>simp only<;>grind
  ·rfl
@[go_sem] theorem z3h{ys:List PV}(h:ys.length<=68719476736):appS mem t fl sz (.nil fl' n) (some (fl,sz,ys))=some (.ref mem.length sz 0 ys.length,mem++[.row t fl sz ys]):=by simp[appS,zt4,h]
@[go_sem] theorem z3i{ys:List PV}(h:ys.length<=68719476736):appS mem t fl sz (.ref b sz off len) (some (fl,sz,ys))=appK mem t fl sz b off len ys mem[b]?:=by simp[appS,zt4,h]
@[go_sem] theorem z3g{ys:List PV}(h1:len=es.length)(h3:len<=68719476736):appK mem t fl sz b 0 len ys (some (.row t fl sz es))=some (.ref mem.length sz 0 (len+ys.length),mem.set b .dead++[.row t fl sz (es++ys)]):=by
 subst h1
 simp[appK,zt4,h3]
@[go_sem] theorem zt5:zt4=68719476736:=rfl
/-! load, store -/
def loadP(k:Option Blk)(ag:Bool)(n off:Nat):Option PV:=match k with
|some (.box _ cs)=>cut ag off n cs
|_=>none
def loadE(k:Option Blk)(ag:Bool)(n sz i off:Nat):Option PV:=match k with
|some (.row _ _ sz' es)=>if sz'=sz then(es[i]?).bind fun e=>cut ag off n e.cells else none
|some (.fro _ sz' es)=>if sz'=sz then(es[i]?).bind fun e=>cut ag off n e.cells else none
|_=>none
@[go_sem] theorem zs0{ag:Bool}:loadV mem ag n (.ptr b off)=loadP mem[b]? ag n off:=rfl
@[go_sem] theorem zry{ag:Bool}:loadV mem ag n (.ep b sz i off)=loadE mem[b]? ag n sz i off:=rfl
@[go_sem] theorem zs1{ag:Bool}:loadV mem ag n (.pv x off)=cut ag off n x.cells:=rfl
@[go_sem] theorem zrv{ag:Bool}:loadP (some (.box t cs)) ag n off=cut ag off n cs:=rfl
@[go_sem] theorem zru{ag:Bool}:loadE (some (.row t fl sz es)) ag n sz i off=(es[i]?).bind fun e=>cut ag off n e.cells:=by simp[loadE]
@[go_sem] theorem zrt{ag:Bool}:loadE (some (.fro fl sz es)) ag n sz i off=(es[i]?).bind fun e=>cut ag off n e.cells:=by simp[loadE]
@[go_sem] theorem cut_f:cut false off n cs=if off+n<=cs.length then cs[off]? else none:=by simp[cut]
@[go_sem] theorem cut_t:cut true off n cs=if off+n<=cs.length then some (.agg ((cs.drop off).take n))else none:=by simp[cut]
attribute [go_sem] List.drop_succ_cons List.take_succ_cons List.take_nil List.drop_nil splice
@[go_sem] theorem zg1:zfy o (.ptr b off)=some (.ptr b (off+o)):=rfl
@[go_sem] theorem zfz:zfy o (.ep b sz i off)=some (.ep b sz i (off+o)):=rfl
@[go_sem] theorem zg2:zfy o (.pv x off)=some (.pv x (off+o)):=rfl
@[go_sem] theorem zv5:zv2 (.ptr b off)=some (.ptr b off):=rfl
@[go_sem] theorem zv3:zv2 (.ep b sz i off)=some (.ep b sz i off):=rfl
@[go_sem] theorem zv6:zv2 (.pv x off)=some (.pv x off):=rfl
def z1dr(mem:List Blk)(n b off:Nat)(y:PV)(k:Option Blk):Option (List Blk):=match k with
|some (.box t cs)=>if off+n<=cs.length/\y.cells.length=n/\zw0 y.cells=true then some (mem.set b (.box t (splice cs off y.cells)))else none
|_=>none
def z1dh(n b sz i off:Nat)(y1:PV)(mem:List Blk)(k:Option Blk):Option (List Blk):=match k with
 |some (.row t fl sz' es)=>match es[i]? with
  |some e=>if sz=sz'/\off+n<=sz'/\y1.cells.length=n then(ztv (isAgg e) (splice e.cells off y1.cells)).bind fun e'=>if okE fl sz' e'=true then some (mem.set b (.row t fl sz' (es.set i e')))else none else none
  |none=>none
 |_=>none
def z1de(n b sz i off:Nat)(y:Option (PV×List Blk)):Option (List Blk):=match y with
 |some (y1,mem)=>(match mem[b]? with
  |some (.row t fl sz' es)=>match es[i]? with
   |some e=>if sz=sz'/\off+n<=sz'/\y1.cells.length=n then(ztv (isAgg e) (splice e.cells off y1.cells)).bind fun e'=>if okE fl sz' e'=true then some (mem.set b (.row t fl sz' (es.set i e')))else none else none
   |none=>none
  |_=>none)
 |none=>none
@[go_sem] theorem z1dv:storeV mem n (.ptr b off) y=z1dr mem n b off y mem[b]?:=rfl
@[go_sem] theorem z1dt:storeV mem n (.ep b sz i off) y=z1de n b sz i off (pubE mem y):=by
 unfold storeV z1de
 cases pubE mem y with
 |none=>rfl
 |some z=>rfl
@[go_sem] theorem z1dg:z1de n b sz i off (some (y,mem))=z1dh n b sz i off y mem mem[b]?:=rfl
@[go_sem] theorem z1dj{k:IntKind}{v:Int}{l:List Int}(h:i<l.length):z1dh 1 b 1 i 0 (.int k v) mem (some (.row t fl 1 (l.map (PV.int k))))=some (mem.set b (.row t fl 1 ((l.set i v).map (PV.int k)))):=by
 unfold z1dh
 have:(l.map (PV.int k))[i]?=some (PV.int k l[i]):=by rw[N'i,L'v h];rfl
 simp only[this]
 simp[isAgg,ztv,splice,PV.cells,PV.imm1,okE,PV.scalar,List.map_set]
@[go_sem] theorem z1di{v:Bool}{l:List Bool}(h:i<l.length):z1dh 1 b 1 i 0 (.bool v) mem (some (.row t fl 1 (l.map PV.bool)))=some (mem.set b (.row t fl 1 ((l.set i v).map PV.bool))):=by
 unfold z1dh
 have:(l.map PV.bool)[i]?=some (PV.bool l[i]):=by rw[N'i,L'v h];rfl
 simp only[this]
 simp[isAgg,ztv,splice,PV.cells,PV.imm1,okE,PV.scalar,List.map_set]
@[go_sem] theorem z1ds:z1dr mem n b off y (some (.box t cs))=if off+n<=cs.length/\y.cells.length=n/\zw0 y.cells=true then some (mem.set b (.box t (splice cs off y.cells)))else none:=rfl
end

/-! ### Calls -/
def behK(R:List Nat)(mem:List Blk)(g:Nat->Nat->Option PV)(off:Nat)(k:Option Blk):Option PV:=match k with
|some (.box _ cs)=>(z1gv R mem g cs).bind fun cs'=>if cs'.all PV.one then some (.pv (.agg cs') off)else none
|_=>none
def callR(orc:Orc)(dr:Bool)(mem:List Blk)(f:FuncId)(args:List PV)(R:List Nat):Option (PV×List Blk):=
 (viewL R mem args).bind fun vs=>(orc f vs []).bind fun r=>
  if resOk r.1 then
   (if alias r.1=false\/R.isEmpty=true then some (if dr then(frz r.1,mem)else imp mem r.1)
   else if dr then none
   else some (imp (kill mem R) r.1))
  else none
section
variable {orc:Orc}{mem:List Blk}{f:FuncId}{args:List PV}{dr:Bool}{R:List Nat}{g:Nat->Nat->Option PV}{x:PV}{xs:List PV}{b sz off len:Nat}{fl:Bool}{t:TypeId}{es:List PV}
@[go_sem] theorem z8a:callV orc dr mem f args=callR orc dr mem f args (reach mem 3 (refsL args)):=rfl
@[go_sem] theorem z13y:reach mem 3 []=[]:=rfl
@[go_sem] theorem z88:callR orc dr mem f args []=(viewL [] mem args).bind fun vs=>(orc f vs []).bind fun r=>if resOk r.1=true then some (if dr=true then(frz r.1,mem)else imp mem r.1)else none:=by
 unfold callR
 congr 1
 funext vs
 congr 1
 funext r
 simp
@[go_sem] theorem z87:callR orc dr mem f args (b::R)=(viewL (b::R) mem args).bind fun vs=>(orc f vs []).bind fun r=>
  if resOk r.1=true then(if alias r.1=false then some (if dr=true then(frz r.1,mem)else imp mem r.1)else if dr=true then none else some (imp (kill mem (b::R)) r.1))else none:=by
 unfold callR
 simp
@[go_sem] theorem z2n{k:IntKind}{n:Int}:alias (.int k n)=false:=rfl
@[go_sem] theorem z2m{b:Bool}:alias (.bool b)=false:=rfl
@[go_sem] theorem z2q{b:ByteArray}:alias (.str b)=false:=rfl
@[go_sem] theorem z2o:alias (.nil fl sz)=false:=rfl
@[go_sem] theorem z2t:alias .undef=false:=rfl
@[go_sem] theorem z2p:alias (.sl fl sz es)=!es.isEmpty:=rfl
@[go_sem] theorem z2s:alias (.un t fl sz es)=!fl:=rfl
@[go_sem] theorem z2u:alias (.unn t sz es)=false:=rfl
@[go_sem] theorem z2l:alias (.agg xs)=xs.any z24:=rfl
@[go_sem] theorem z2r:alias (.tup xs)=xs.any z2c:=rfl
@[go_sem] theorem z2f{k:IntKind}{n:Int}:z2c (.int k n)=false:=rfl
@[go_sem] theorem z2e{b:Bool}:z2c (.bool b)=false:=rfl
@[go_sem] theorem z2i{b:ByteArray}:z2c (.str b)=false:=rfl
@[go_sem] theorem z2g:z2c (.nil fl sz)=false:=rfl
@[go_sem] theorem z2h:z2c (.sl fl sz es)=!es.isEmpty:=rfl
@[go_sem] theorem z2j:z2c (.un t fl sz es)=!fl:=rfl
@[go_sem] theorem z2k:z2c (.unn t sz es)=false:=rfl
@[go_sem] theorem z2d:z2c (.agg xs)=xs.any z24:=rfl
@[go_sem] theorem z26{k:IntKind}{n:Int}:z24 (.int k n)=false:=rfl
@[go_sem] theorem z25{b:Bool}:z24 (.bool b)=false:=rfl
@[go_sem] theorem z29{b:ByteArray}:z24 (.str b)=false:=rfl
@[go_sem] theorem z27:z24 (.nil fl sz)=false:=rfl
@[go_sem] theorem z28:z24 (.sl fl sz es)=!es.isEmpty:=rfl
@[go_sem] theorem z2a:z24 (.un t fl sz es)=!fl:=rfl
@[go_sem] theorem z2b:z24 (.unn t sz es)=false:=rfl
attribute [go_sem] List.any_cons List.any_nil P'c
@[go_sem] theorem z5o:z5n R mem 3 b off=behK R mem (z5n R mem 2) off mem[b]?:=rfl
@[go_sem] theorem z5m{cs:List PV}:behK R mem g off (some (.box t cs))=(z1gv R mem g cs).bind fun cs'=>if cs'.all PV.one=true then some (.pv (.agg cs') off)else none:=rfl
@[go_sem] theorem z1gx:viewL R mem xs=z1gv R mem (z5n R mem 3) xs:=rfl
@[go_sem] theorem z1h7:z1gv R mem g []=some []:=rfl
@[go_sem] theorem z1h4:z1gv R mem g (x::xs)=(x.viewWith R mem g).bind fun y=>(z1gv R mem g xs).map fun ys=>y::ys:=rfl
@[go_sem] theorem z1h5{k:IntKind}{n:Int}:(PV.int k n).viewWith R mem g=some (.int k n):=rfl
@[go_sem] theorem z1h2{b:Bool}:(PV.bool b).viewWith R mem g=some (.bool b):=rfl
@[go_sem] theorem z1he{b:ByteArray}:(PV.str b).viewWith R mem g=some (.str b):=rfl
@[go_sem] theorem z1hd:(PV.sl fl sz es).viewWith R mem g=some (.sl fl sz es):=rfl
@[go_sem] theorem z1h6:(PV.nil fl sz).viewWith R mem g=some (.sl fl sz []):=rfl
@[go_sem] theorem z1hc:(PV.ref b sz off len).viewWith R mem g=if R.contains b then(z16r mem b sz off len).map fun x=>.sl x.1 sz x.2 else none:=rfl
@[go_sem] theorem z1hb:(PV.ptr b off).viewWith R mem g=if R.contains b then g b off else none:=rfl
@[go_sem] theorem z1h3{h:FuncId}{cs:List PV}:(PV.clo h cs).viewWith R mem g=(z1gv R mem g cs).map fun c=>.clo h c:=rfl
@[go_sem] theorem z1h1{cs:List PV}:(PV.agg cs).viewWith R mem g=(z1gv R mem g cs).map .agg:=rfl
@[go_sem] theorem z1h8:PV.nilf.viewWith R mem g=some .nilf:=rfl
@[go_sem] theorem z1h9:PV.nilp.viewWith R mem g=some .nilp:=rfl
@[go_sem] theorem z169{k:IntKind}{n:Int}:resOk (.int k n)=true:=rfl
@[go_sem] theorem z168{b:Bool}:resOk (.bool b)=true:=rfl
@[go_sem] theorem z16c{b:ByteArray}:resOk (.str b)=true:=rfl
@[go_sem] theorem z16b:resOk (.sl fl sz es)=true:=rfl
@[go_sem] theorem z16a:resOk (.nil fl sz)=true:=rfl
@[go_sem] theorem z16e:resOk (.un t fl sz es)=true:=rfl
@[go_sem] theorem z16g:resOk (.unn t sz es)=true:=rfl
@[go_sem] theorem z16f:resOk .undef=true:=rfl
@[go_sem] theorem z167:resOk (.agg xs)=xs.all res1:=rfl
@[go_sem] theorem z16d:resOk (.tup xs)=xs.all resA:=rfl
@[go_sem] theorem z160{k:IntKind}{n:Int}:resA (.int k n)=true:=rfl
@[go_sem] theorem z15z{b:Bool}:resA (.bool b)=true:=rfl
@[go_sem] theorem z163{b:ByteArray}:resA (.str b)=true:=rfl
@[go_sem] theorem z162:resA (.sl fl sz es)=true:=rfl
@[go_sem] theorem z161:resA (.nil fl sz)=true:=rfl
@[go_sem] theorem z164:resA (.un t fl sz es)=true:=rfl
@[go_sem] theorem z165:resA (.unn t sz es)=true:=rfl
@[go_sem] theorem z15y:resA (.agg xs)=xs.all res1:=rfl
@[go_sem] theorem z15s{k:IntKind}{n:Int}:res1 (.int k n)=true:=rfl
@[go_sem] theorem z15r{b:Bool}:res1 (.bool b)=true:=rfl
@[go_sem] theorem z15v{b:ByteArray}:res1 (.str b)=true:=rfl
@[go_sem] theorem z15u:res1 (.sl fl sz es)=true:=rfl
@[go_sem] theorem z15t:res1 (.nil fl sz)=true:=rfl
@[go_sem] theorem z15w:res1 (.un t fl sz es)=true:=rfl
@[go_sem] theorem z15x:res1 (.unn t sz es)=true:=rfl
@[go_sem] theorem zmf{k:IntKind}{n:Int}:imp mem (.int k n)=(.int k n,mem):=rfl
@[go_sem] theorem zme{b:Bool}:imp mem (.bool b)=(.bool b,mem):=rfl
@[go_sem] theorem zml{b:ByteArray}:imp mem (.str b)=(.str b,mem):=rfl
@[go_sem] theorem zmk:imp mem (.sl fl sz es)=(.sl fl sz es,mem):=rfl
@[go_sem] theorem zmh:imp mem (.nil fl sz)=(.nil fl sz,mem):=rfl
@[go_sem] theorem zmo:imp mem .undef=(.undef,mem):=rfl
@[go_sem] theorem zmn:imp mem (.un t fl sz es)=(.ref mem.length sz 0 es.length,mem++[.row t fl sz es]):=rfl
@[go_sem] theorem zmp:imp mem (.unn t sz es)=(.ref mem.length sz 0 es.length,mem++[.lin t sz es]):=rfl
@[go_sem] theorem zmd:imp mem (.agg xs)=(.agg (impL mem xs).1,(impL mem xs).2):=rfl
@[go_sem] theorem zmm:imp mem (.tup xs)=(.tup (impAL mem xs).1,(impAL mem xs).2):=rfl
@[go_sem] theorem zlx:impAL mem []=([],mem):=rfl
@[go_sem] theorem zlw:impAL mem (x::xs)=((impA mem x).1::(impAL (impA mem x).2 xs).1,(impAL (impA mem x).2 xs).2):=rfl
@[go_sem] theorem zmb:impL mem []=([],mem):=rfl
@[go_sem] theorem zma:impL mem (x::xs)=((imp1 mem x).1::(impL (imp1 mem x).2 xs).1,(impL (imp1 mem x).2 xs).2):=rfl
@[go_sem] theorem zm1{k:IntKind}{n:Int}:impA mem (.int k n)=(.int k n,mem):=rfl
@[go_sem] theorem zm0{b:Bool}:impA mem (.bool b)=(.bool b,mem):=rfl
@[go_sem] theorem zm7{b:ByteArray}:impA mem (.str b)=(.str b,mem):=rfl
@[go_sem] theorem zm6:impA mem (.sl fl sz es)=(.sl fl sz es,mem):=rfl
@[go_sem] theorem zm3:impA mem (.nil fl sz)=(.nil fl sz,mem):=rfl
@[go_sem] theorem zm8:impA mem (.un t fl sz es)=(.ref mem.length sz 0 es.length,mem++[.row t fl sz es]):=rfl
@[go_sem] theorem zm9:impA mem (.unn t sz es)=(.ref mem.length sz 0 es.length,mem++[.lin t sz es]):=rfl
@[go_sem] theorem zlz:impA mem (.agg xs)=(.agg (impL mem xs).1,(impL mem xs).2):=rfl
@[go_sem] theorem zlo{k:IntKind}{n:Int}:imp1 mem (.int k n)=(.int k n,mem):=rfl
@[go_sem] theorem zln{b:Bool}:imp1 mem (.bool b)=(.bool b,mem):=rfl
@[go_sem] theorem zlt{b:ByteArray}:imp1 mem (.str b)=(.str b,mem):=rfl
@[go_sem] theorem zls:imp1 mem (.sl fl sz es)=(.sl fl sz es,mem):=rfl
@[go_sem] theorem zlp:imp1 mem (.nil fl sz)=(.nil fl sz,mem):=rfl
@[go_sem] theorem zlu:imp1 mem (.un t fl sz es)=(.ref mem.length sz 0 es.length,mem++[.row t fl sz es]):=rfl
@[go_sem] theorem zlv:imp1 mem (.unn t sz es)=(.ref mem.length sz 0 es.length,mem++[.lin t sz es]):=rfl
end

/-! ### Loops' heads -/
mutual
theorem z15e(f:Nat->Nat):∀(x:PV),x.refs=[]->x.ren f=x
|.any,_|.undef,_|.int _ _,_|.bool _,_|.str _,_|.nil _ _,_|.nilp,_|.nilf,_|.sl ..,_|.un ..,_|.unn ..,_|.sle ..,_=>rfl
|.ref b sz off len,h=>by simp[PV.refs]at h
|.ptr b off,h=>by simp[PV.refs]at h
|.ep b sz i off,h=>by simp[PV.refs]at h
|.pv x off,h=>by simp only[PV.ren];rw[z15e f x (by simpa [PV.refs]using h)]
|.clo g caps,h=>by simp only[PV.ren];rw[z153 f caps (by simpa [PV.refs]using h)]
|.agg cs,h=>by simp only[PV.ren];rw[z153 f cs (by simpa [PV.refs]using h)]
|.tup cs,h=>by simp only[PV.ren];rw[z153 f cs (by simpa [PV.refs]using h)]
termination_by structural x => x
theorem z153(f:Nat->Nat):∀(xs:List PV),refsL xs=[]->renL f xs=xs
 |[],_=>rfl
 |x::xs,h=>by
  simp only[refsL,List.append_eq_nil_iff]at h
  simp only[renL]
  rw[z15e f x h.1,z153 f xs h.2]
termination_by structural x => x
end
def gcR(fr:List PV)(mem:List Blk)(R:List Nat):St:=match select (reach mem 3 R).eraseDups mem with
|some M=>⟨renL (reach mem 3 R).eraseDups.idxOf fr,M⟩
|none=>⟨fr,mem⟩
theorem z13v{mem:List Blk}:∀(d:Nat){bs:List Nat},∀b∈bs,b∈reach mem d bs
|0,_,b,h=>h
|d+1,_,b,h=>by rw[reach,List.mem_append];exact .inl h
theorem gc_eq{fr:List PV}{mem:List Blk}:gc 0 ⟨fr,mem⟩=gcR fr mem (refsL fr):=by
 unfold gc gcR
 have hf:∀l:List Nat,l.filter (fun _=>true)=l:=fun l=>List.filter_eq_self.2 (fun _ _=>rfl)
 simp only[List.range_zero,M'3,M'e,Nat.zero_le,decide_true,hf]
 have hall:((refsL fr).all fun b=>(reach mem 3 (refsL fr)).eraseDups.contains b)=true:=by
  rw[List.all_eq_true]
  intro b hb
  rw[List.contains_eq_mem,decide_eq_true_eq,List.mem_eraseDups]
  exact z13v 3 b hb
 rw[hall]
 rfl
theorem ziz{fr:List PV}{mem:List Blk}(h:refsL fr=[]):gcR fr mem []=⟨fr,[]⟩:=by
 have:reach mem 3 []=[]:=rfl
 unfold gcR
 rw[this]
 simp only[List.eraseDups_nil,select,List.nodup_nil,decide_true,List.all_nil,P'd,if_true,List.map_nil]
 rw[z153 _ _ h]
@[go_sem] theorem zj1{fr:List PV}{mem:List Blk}:gc 0 ⟨fr,mem⟩=if (refsL fr).isEmpty=true then⟨fr,[]⟩else gcR fr mem (refsL fr):=by
 rw[gc_eq]
 split
 ·rename_i h
  have h:refsL fr=[]:=by simpa using h
  rw[h,ziz h]
 ·rfl
attribute [go_sem] false_and and_false and_self not_false_eq_true not_true_eq_false imp_self forall_const
@[go_sem 400] theorem if_om{α:Type}{c:Prop}[Decidable c]{x y:α}(h:c):(if c then x else y)=x:=if_pos h
@[go_sem 400] theorem if_on{α:Type}{c:Prop}[Decidable c]{x y:α}(h:¬c):(if c then x else y)=y:=if_neg h
def expK(mem:List Blk)(b sz off len:Nat)(k:Option Blk):Option (PV×List Blk):=match k with
|some (.row t fl sz' es)=>if sz'=sz then(if off=0/\len=es.length then some (.un t fl sz es,mem.set b .dead)else if off=0/\0<len/\len<=es.length then some (.un t fl sz (es.take len),mem.set b .dead)else if off+len<=es.length then some (.sl fl sz ((es.drop off).take len),freeze mem b)else none)else none
|some (.fro fl sz' es)=>if off+len<=es.length/\sz'=sz then some (.sl fl sz ((es.drop off).take len),mem)else none
|some (.lin t sz' es)=>if sz'=sz/\off=0/\len=es.length then some (.unn t sz es,mem.set b .dead)else none
|_=>none
section
variable {mem:List Blk}{m b sz off len:Nat}{fl:Bool}{t:TypeId}{es:List PV}
@[go_sem] theorem zf8:exp1 m mem (.ref b sz off len)=if b<m then some (.ref b sz off len,mem)else expK mem b sz off len mem[b]?:=rfl
@[go_sem] theorem zfm(h:len=es.length):expK mem b sz 0 len (some (.row t fl sz es))=some (.un t fl sz es,mem.set b .dead):=by simp[expK,h]
@[go_sem] theorem zfo(h:len=es.length):expK mem b sz 0 len (some (.lin t sz es))=some (.unn t sz es,mem.set b .dead):=by simp[expK,h]
@[go_sem] theorem zfq(h:len≠es.length)(h2:0<len)(h3:len<=es.length):expK mem b sz 0 len (some (.row t fl sz es))=some (.un t fl sz (es.take len),mem.set b .dead):=by simp[expK,h,h2,h3]
@[go_sem] theorem zfp(h:(off≠0\/len=0)/\(off≠0\/len≠es.length))(h2:off+len<=es.length):expK mem b sz off len (some (.row t fl sz es))=some (.sl fl sz ((es.drop off).take len),freeze mem b):=by
 have:¬(off=0/\len=es.length):=by omega
 have h4:¬(off=0/\0<len/\len<=es.length):=by omega
 simp[expK,this,h4,h2]
@[go_sem] theorem zfn(h2:off+len<=es.length):expK mem b sz off len (some (.fro fl sz es))=some (.sl fl sz ((es.drop off).take len),mem):=by simp[expK,h2]
@[go_sem] theorem zf5{k:IntKind}{n:Int}:exp1 m mem (.int k n)=some (.int k n,mem):=rfl
@[go_sem] theorem zf4{b:Bool}:exp1 m mem (.bool b)=some (.bool b,mem):=rfl
@[go_sem] theorem zfa{b:ByteArray}:exp1 m mem (.str b)=some (.str b,mem):=rfl
@[go_sem] theorem zf6:exp1 m mem (.nil fl sz)=some (.nil fl sz,mem):=rfl
@[go_sem] theorem zf9:exp1 m mem (.sl fl sz es)=some (.sl fl sz es,mem):=rfl
end

@[go_sem] theorem znx{ne fl:Bool}{sz:Nat}:znv ne (.nil fl sz)=some (.bool (!ne)):=rfl
@[go_sem] theorem znz{ne fl:Bool}{sz:Nat}:znv ne (.sle fl sz)=some (.bool ne):=rfl
@[go_sem] theorem znw{ne fl:Bool}{sz:Nat}{x:PV}{l:List PV}:znv ne (.sl fl sz (x::l))=some (.bool ne):=rfl
@[go_sem] theorem z1a8{mem:List Blk}{fl:Bool}{sz:Nat}:shown mem (.sle fl sz)=some (fl,sz,[]):=rfl
@[go_sem] theorem z14m{fl:Bool}{sz:Nat}:(PV.sle fl sz).refs=[]:=rfl
end Go.Proofs.YtbaclnecajkknaaGreat.Pi

