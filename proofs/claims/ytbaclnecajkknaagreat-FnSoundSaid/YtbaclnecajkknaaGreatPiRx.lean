/- Pi: evaluation by rewriting: calls that may write. No condition. -/
import Derived.Test.YtbaclnecajkknaaGreatPiRw
open List renaming range->L'1,eraseDups_cons->P'f,nodup_cons->N'g,mem_eraseDups->P'g,mem_cons->M'z,idxOf_cons->P'h,flatMap_cons->N'3,all_eq_true->L'h,contains_eq_mem->P'i,mem_append_left->P'j
open Bool renaming true_and->P'e
open Option renaming bind_some->L't,getD_some->P'5,map_some->L'z
open Nat renaming lt_or_ge->N'v
namespace Go.Proofs.YtbaclnecajkknaaGreat.Pi
open Go
set_option linter.all false

def posn(I:List Nat)(b:Nat):Nat:=I.idxOf b
@[go_sem] theorem z123{a:Nat}{l:List Nat}:posn (a::l) a=0:=by simp[posn]
@[go_sem] theorem z124{a b:Nat}{l:List Nat}(h:a≠b):posn (a::l) b=posn l b+1:=by
 unfold posn
 rw[P'h]
 have:(a==b)=false:=by simpa using h
 rw[this];rfl
def renK(I:List Nat)(k:Option Blk):Option Blk:=match k with
|some k=>if k.refs.all fun r=>I.contains r then some (k.ren (posn I))else none
|none=>none
def selM(I:List Nat)(mem:List Blk):List Nat->Option (List Blk)
|[]=>some []
|b::bs=>(renK I mem[b]?).bind fun k=>(selM I mem bs).map fun ks=>k::ks
def putM(mem:List Blk):List Nat->List Blk->List Blk
|b::bs,k::ks=>putM (mem.set b k) bs ks
|_,_=>mem
def nexts(mem:List Blk):List Nat->List Nat
|[]=>[]
|b::bs=>(match mem[b]? with| some k=>k.refs|none=>[])++nexts mem bs
def refsK:Option Blk->List Nat
|some k=>k.refs
|none=>[]
theorem zvj{mem:List Blk}:∀(bs:List Nat),(bs.flatMap fun b=>match mem[b]? with| some k=>k.refs|none=>[])=nexts mem bs
|[]=>rfl
|b::bs=>by simp only[N'3,nexts];rw[zvj bs]
theorem z192{I:List Nat}{mem:List Blk}:∀(L:List Nat),selM I mem L=if (L.all fun b=>(match mem[b]? with| some k=>k.refs.all fun r=>I.contains r|none=>false))=true then some (L.map fun b=>(mem.getD b .dead).ren I.idxOf)else none
 |[]=>rfl
 |b::bs=>by
  simp only[selM,List.all_cons,List.map_cons]
  rw[z192 bs]
  cases hb:mem[b]? with
  |none=>simp[renK]
  |some k=>
   simp only[renK,List.getD_eq_getElem?_getD,hb,P'5]
   cases hr:k.refs.all fun r=>I.contains r with
   |false=>simp
   |true=>
    simp only[if_true,L't,P'e]
    split
    ·rfl
    ·rfl
theorem zvs{l:List Nat}:l.eraseDups.Nodup:=by
 have:∀(n:Nat)(l:List Nat),l.length<=n->l.eraseDups.Nodup:=by
  intro n
  induction n with
  |zero=>intro l h;have:l=[]:=List.eq_nil_of_length_eq_zero (by omega);subst this;simp
  |succ n ih=>
   intro l h
   cases l with
   |nil=>simp
   |cons a l=>
    rw[P'f,N'g]
    refine⟨?_,ih _ ?_⟩
    ·rw[P'g];simp
    ·have:=List.length_filter_le (fun b=>!b==a) l
     simp at h⊢;omega
 exact this l.length l (Nat.le_refl _)
theorem z197{l:List Nat}{mem:List Blk}:select l.eraseDups mem=selM l.eraseDups mem l.eraseDups:=by
 rw[z192]
 unfold select
 have:decide l.eraseDups.Nodup=true:=decide_eq_true zvs
 rw[this,P'e]
 rfl
theorem z134{x:Nat}:∀(I:List Nat)(M mem:List Blk),I.Nodup->I.length<=M.length->(putM mem I M)[x]?=if x∈I then(if x<mem.length then some (M.getD (I.idxOf x) .dead)else none)else mem[x]?
 |[],M,mem,_,_=>by cases M<;>simp[putM]
 |b::I,[],mem,_,h=>by simp at h
 |b::I,k::M,mem,hn,h=>by
  rw[N'g]at hn
  simp only[putM]
  rw[z134 I M (mem.set b k) hn.2 (by simpa using h)]
  by_cases hx:x=b
  ·subst hx
   rw[if_neg hn.1]
   simp only[M'z,true_or,if_true,List.idxOf_cons_self,List.getD_cons_zero]
   rw[List.getElem?_set]
   simp
  ·have hxb:(b==x)=false:=by simpa using fun e:b=x=>hx e.symm
   simp only[M'z,hx,false_or,List.length_set]
   split
   ·rw[P'h,hxb]
    simp
   ·rw[List.getElem?_set_ne (fun e=>hx e.symm)]
def callI(orc:Orc)(mem:List Blk)(f:FuncId)(args:List PV)(I:List Nat):Option (PV×List Blk):=
(selM I mem I).bind fun M=>(orc f (renL (posn I) args) M).bind fun r=>
 if I.length<=r.2.length then
 some (imp (putM mem I (r.2.map (Blk.ren fun j=>(I[j]?).getD (mem.length+(j-I.length))))++(r.2.drop I.length).map (Blk.ren fun j=>(I[j]?).getD (mem.length+(j-I.length)))) (r.1.ren fun j=>(I[j]?).getD (mem.length+(j-I.length))))
 else none
theorem z13x{mem:List Blk}{d:Nat}{bs:List Nat}:reach mem (d+1) bs=bs++reach mem d (nexts mem bs):=
congrArg (fun l=>bs++reach mem d l) (zvj bs)
theorem z13n{mem:List Blk}{bs:List Nat}:reach mem 2 bs=bs++(nexts mem bs++nexts mem (nexts mem bs)):=by
 rw[z13x,z13x];rfl
theorem z13o{mem:List Blk}{bs:List Nat}:reach mem 3 bs=bs++(nexts mem bs++(nexts mem (nexts mem bs)++nexts mem (nexts mem (nexts mem bs)))):=by
 rw[z13x,z13x,z13x];rfl
def callS(orc:Orc)(mem:List Blk)(f:FuncId)(args:List PV)(I:List Nat)(M:Option (List Blk)):Option (PV×List Blk):=
M.bind fun M=>(orc f (renL (posn I) args) M).bind fun r=>
 if I.length<=r.2.length then
 some (imp (putM mem I (r.2.map (Blk.ren fun j=>(I[j]?).getD (mem.length+(j-I.length))))++(r.2.drop I.length).map (Blk.ren fun j=>(I[j]?).getD (mem.length+(j-I.length)))) (r.1.ren fun j=>(I[j]?).getD (mem.length+(j-I.length))))
 else none
@[go_sem] theorem z81{orc:Orc}{mem:List Blk}{f:FuncId}{args:List PV}:callM orc mem f args=callI orc mem f args (refsL args++(nexts mem (refsL args)++nexts mem (nexts mem (refsL args)))).eraseDups:=by
 unfold callM callI
 rw[z13n]
 generalize hl:refsL args++(nexts mem (refsL args)++nexts mem (nexts mem (refsL args)))=l
 have hall:(refsL args).all (fun r=>l.eraseDups.contains r)=true:=by
  rw[L'h]
  intro b hb
  rw[P'i,decide_eq_true_eq,P'g,<-hl]
  exact P'j _ hb
 simp only[hall,if_true]
 rw[z197]
 cases hsel:selM l.eraseDups mem l.eraseDups with
 |none=>rfl
 |some M=>
  simp only[L't]
  have hpos:(renL l.eraseDups.idxOf args)=renL (posn l.eraseDups) args:=rfl
  rw[hpos]
  cases hc:orc f (renL (posn l.eraseDups) args) M with
  |none=>rfl
  |some r=>
   simp only[L't]
   split
   ·rename_i hle
    congr 2
    rw[List.map_drop]
    congr 1
    apply List.ext_getElem?
    intro x
    rw[z134 _ _ _ zvs (by simpa using hle),List.getElem?_mapIdx]
    by_cases hx:x∈l.eraseDups
    ·have hc:l.eraseDups.contains x=true:=by simpa using hx
     rw[if_pos hx]
     rcases N'v x mem.length with h|h
     ·rw[if_pos h,List.getElem?_eq_getElem h]
      simp only[L'z,hc,if_true]
     ·rw[if_neg (by omega),List.getElem?_eq_none h];rfl
    ·have hc:l.eraseDups.contains x=false:=by simpa using hx
     rw[if_neg hx]
     cases mem[x]? with
     |none=>rfl
     |some k=>simp only[L'z,hc,Bool.false_eq_true,if_false]
   ·rfl
def gcI(fr:List PV)(mem:List Blk)(I:List Nat):St:=match selM I mem I with
|some M=>⟨renL (posn I) fr,M⟩
|none=>⟨fr,mem⟩
def gcS(fr:List PV)(mem:List Blk)(I:List Nat)(M:Option (List Blk)):St:=match M with
|some M=>⟨renL (posn I) fr,M⟩
|none=>⟨fr,mem⟩
@[go_sem] theorem ziy{fr:List PV}{mem:List Blk}{R:List Nat}:gcR fr mem R=gcI fr mem (R++(nexts mem R++(nexts mem (nexts mem R)++nexts mem (nexts mem (nexts mem R))))).eraseDups:=by
 unfold gcR gcI
 rw[z13o,z197]
 rfl
@[go_sem] theorem zix{fr:List PV}{mem:List Blk}{I:List Nat}:gcI fr mem I=gcS fr mem I (selM I mem I):=rfl
@[go_sem] theorem zj0{fr:List PV}{mem M:List Blk}{I:List Nat}:gcS fr mem I (some M)=⟨renL (posn I) fr,M⟩:=rfl
@[go_sem] theorem z13p{mem:List Blk}{b:Nat}{bs:List Nat}:reach mem 3 (b::bs)=(b::bs)++(nexts mem (b::bs)++(nexts mem (nexts mem (b::bs))++nexts mem (nexts mem (nexts mem (b::bs))))):=z13o
section
variable {mem:List Blk}{I:List Nat}{b:Nat}{bs:List Nat}{k:Blk}{ks:List Blk}{f:Nat->Nat}{x:PV}{xs:List PV}{fl:Bool}{sz o l:Nat}{t:TypeId}{es cs:List PV}
@[go_sem] theorem zvk:nexts mem []=[]:=rfl
@[go_sem] theorem zvi:nexts mem (b::bs)=refsK mem[b]?++nexts mem bs:=rfl
@[go_sem] theorem z145:refsK (some k)=k.refs:=rfl
@[go_sem] theorem z144:refsK none=[]:=rfl
@[go_sem] theorem zou:(Blk.box t cs).refs=refsL cs:=rfl
@[go_sem] theorem zp0:(Blk.row t fl sz es).refs=[]:=rfl
@[go_sem] theorem zow:(Blk.fro fl sz es).refs=[]:=rfl
@[go_sem] theorem zoy:(Blk.lin t sz es).refs=[]:=rfl
@[go_sem] theorem zov:Blk.dead.refs=[]:=rfl
@[go_sem] theorem z193:selM I mem []=some []:=rfl
@[go_sem] theorem z191:selM I mem (b::bs)=(renK I mem[b]?).bind fun k=>(selM I mem bs).map fun ks=>k::ks:=rfl
@[go_sem] theorem z14y:renK I (some k)=if (k.refs.all fun r=>I.contains r)=true then some (k.ren (posn I))else none:=rfl
@[go_sem] theorem zp2:(Blk.box t cs).ren f=.box t (renL f cs):=rfl
@[go_sem] theorem zp8:(Blk.row t fl sz es).ren f=.row t fl sz es:=rfl
@[go_sem] theorem zp4:(Blk.fro fl sz es).ren f=.fro fl sz es:=rfl
@[go_sem] theorem zp6:(Blk.lin t sz es).ren f=.lin t sz es:=rfl
@[go_sem] theorem zp3:Blk.dead.ren f=.dead:=rfl
@[go_sem] theorem z152:renL f []=[]:=rfl
@[go_sem] theorem z14z:renL f (x::xs)=x.ren f::renL f xs:=rfl
@[go_sem] theorem z15a{k:IntKind}{n:Int}:(PV.int k n).ren f=.int k n:=rfl
@[go_sem] theorem z157{b:Bool}:(PV.bool b).ren f=.bool b:=rfl
@[go_sem] theorem z15m{b:ByteArray}:(PV.str b).ren f=.str b:=rfl
@[go_sem] theorem z15l:(PV.sl fl sz es).ren f=.sl fl sz es:=rfl
@[go_sem] theorem z15b:(PV.nil fl sz).ren f=.nil fl sz:=rfl
@[go_sem] theorem z15o:(PV.un t fl sz es).ren f=.un t fl sz es:=rfl
@[go_sem] theorem z15q:(PV.unn t sz es).ren f=.unn t sz es:=rfl
@[go_sem] theorem z156:PV.any.ren f=.any:=rfl
@[go_sem] theorem z15p:PV.undef.ren f=.undef:=rfl
@[go_sem] theorem z15k:(PV.ref b sz o l).ren f=.ref (f b) sz o l:=rfl
@[go_sem] theorem z15g:(PV.ptr b o).ren f=.ptr (f b) o:=rfl
@[go_sem] theorem z159{i:Nat}:(PV.ep b sz i o).ren f=.ep (f b) sz i o:=rfl
@[go_sem] theorem z158{g:FuncId}:(PV.clo g xs).ren f=.clo g (renL f xs):=rfl
@[go_sem] theorem z155:(PV.agg xs).ren f=.agg (renL f xs):=rfl
@[go_sem] theorem z15n:(PV.tup xs).ren f=.tup (renL f xs):=rfl
@[go_sem] theorem z15c:PV.nilf.ren f=.nilf:=rfl
@[go_sem] theorem z15d:PV.nilp.ren f=.nilp:=rfl
@[go_sem] theorem z15h:(PV.pv x o).ren f=.pv (x.ren f) o:=rfl
@[go_sem] theorem z133:putM mem (b::bs) (k::ks)=putM (mem.set b k) bs ks:=rfl
@[go_sem] theorem z136:putM mem [] ks=mem:=by cases ks<;>rfl
@[go_sem] theorem z80{orc:Orc}{g:FuncId}{args:List PV}:callI orc mem g args I=callS orc mem g args I (selM I mem I):=rfl
@[go_sem] theorem z89{orc:Orc}{g:FuncId}{args:List PV}{M:List Blk}:callS orc mem g args I (some M)=(orc g (renL (posn I) args) M).bind fun r=>
 if I.length<=r.2.length then
 some (imp (putM mem I (r.2.map (Blk.ren fun j=>(I[j]?).getD (mem.length+(j-I.length))))++(r.2.drop I.length).map (Blk.ren fun j=>(I[j]?).getD (mem.length+(j-I.length)))) (r.1.ren fun j=>(I[j]?).getD (mem.length+(j-I.length))))
 else none:=rfl
end
@[go_sem] theorem zdz{a:Nat}:[a].eraseDups=[a]:=by rw[P'f];simp
attribute [go_sem] List.eraseDups_nil
@[go_sem 500] theorem zdy{a:Nat}{l:List Nat}:(a::l).eraseDups=a::(l.filter fun b=>!b==a).eraseDups:=P'f
attribute [go_sem] List.filter_nil List.filter_cons Bool.not_true Bool.not_false P'5 Option.getD_none List.contains_cons Nat.sub_self Nat.zero_add Nat.add_zero List.drop_zero List.drop_succ_cons List.drop_nil List.map_nil List.contains_nil List.isEmpty_cons
/-! ### Results where something may have been written -/
def bref:List Blk->List Nat
|[]=>[]
|k::ks=>k.refs++bref ks
theorem z146:∀(xs ys:List PV),refsL (xs++ys)=refsL xs++refsL ys
|[],_=>rfl
|x::xs,ys=>by simp[refsL,z146 xs ys]
theorem z7g:∀(ks:List Blk),refsL (ks.flatMap fun b=>match b with| .box _ cs=>cs|_=>[])=bref ks
 |[]=>rfl
 |k::ks=>by
  rw[N'3,z146,z7g ks]
  cases k<;>rfl
def zag(mem:List Blk)(I:List Nat):Option (List Blk):=if I.Nodup then selM I mem I else none
theorem zai{m:Nat}{mem:List Blk}:close m mem=zag mem (L'1 m++(bref (mem.take m)).filter (m<=·)):=by
 unfold close zag
 refine(congrArg (fun l=>select (L'1 m++l.filter (m<=·)) mem) (z7g (mem.take m))).trans ?_
 show select (L'1 m++(bref (mem.take m)).filter (m<=·)) mem=_
 generalize L'1 m++(bref (mem.take m)).filter (m<=·)=I
 rw[z192]
 unfold select
 by_cases h:I.Nodup
 ·simp only[h,decide_true,P'e,if_true];rfl
 ·simp[h]
@[go_sem 400] theorem zgr{m:Nat}{rl:List IRes}{st:St}:zgq m rl st=(resL st rl).bind fun vs=>(expAL m st.mem vs).bind fun x=>if ((refsL x.1).all fun b=>decide (b<m))=true then(zag x.2 (L'1 m++(bref (x.2.take m)).filter (m<=·))).map fun M=>(packP x.1,M)else none:=by
 unfold zgq
 congr 1
 funext vs
 congr 1
 funext x
 rw[zai]
@[go_sem] theorem zah{mem:List Blk}{I:List Nat}:zag mem I=if I.Nodup then selM I mem I else none:=rfl
@[go_sem] theorem z7h:bref []=[]:=rfl
@[go_sem] theorem z7f{k:Blk}{ks:List Blk}:bref (k::ks)=k.refs++bref ks:=rfl
attribute [go_sem] List.range_succ List.range_zero N'g List.nodup_nil M'z List.not_mem_nil decide_true decide_false or_false false_or
@[go_sem] theorem zqf{α:Type}{a:α}:[a].length=1:=rfl
/-! ### Loops' heads where something may be written -/
theorem gc_m{m:Nat}{fr:List PV}{mem:List Blk}:gc m ⟨fr,mem⟩=gcS fr mem (L'1 m++((reach mem 3 (refsL fr++L'1 m)).filter (m<=·)).eraseDups) (zag mem (L'1 m++((reach mem 3 (refsL fr++L'1 m)).filter (m<=·)).eraseDups)):=by
 unfold gc
 generalize hI:L'1 m++((reach mem 3 (refsL fr++L'1 m)).filter (m<=·)).eraseDups=I
 have hall:((refsL fr).all fun b=>I.contains b)=true:=by
  rw[L'h]
  intro b hb
  rw[P'i,decide_eq_true_eq,<-hI,List.mem_append]
  rcases N'v b m with h|h
  ·exact .inl (List.mem_range.2 h)
  ·right
   rw[P'g,List.mem_filter]
   exact⟨z13v 3 b (P'j _ hb),by simpa using h⟩
 simp only[hI,hall,if_true]
 have:select I mem=zag mem I:=by
  unfold select zag
  rw[z192]
  by_cases h:I.Nodup
  ·simp only[h,decide_true,P'e,if_true];rfl
  ·simp[h]
 rw[this]
 unfold gcS
 rfl
@[go_sem 400] theorem gc_m'{m:Nat}{fr:List PV}{mem:List Blk}:gc m ⟨fr,mem⟩=gcS fr mem (L'1 m++(((refsL fr++L'1 m)++(nexts mem (refsL fr++L'1 m)++(nexts mem (nexts mem (refsL fr++L'1 m))++nexts mem (nexts mem (nexts mem (refsL fr++L'1 m)))))).filter (m<=·)).eraseDups) (zag mem (L'1 m++(((refsL fr++L'1 m)++(nexts mem (refsL fr++L'1 m)++(nexts mem (nexts mem (refsL fr++L'1 m))++nexts mem (nexts mem (nexts mem (refsL fr++L'1 m)))))).filter (m<=·)).eraseDups)):=by
 rw[gc_m,z13o]
theorem z31{x:Int}(h0:0<=x)(h1:x<18446744073709551616):0<=bits .and .u64 x 255/\bits .and .u64 x 255<256:=by
 have h:=bits_and_u64_nat x.toNat 255 (by omega) (by omega)
 rw[show((x.toNat:Nat):Int)=x by omega]at h
 have h2:x.toNat&&&255<=255:=Nat.and_le_right
 have h3:bits .and .u64 x 255=((x.toNat&&&255:Nat):Int):=h
 omega
theorem z1gj(x:Int):0<=IntKind.u64.wrap x/\IntKind.u64.wrap x<18446744073709551616:=by
 rw[IntKind.wrap_u64];omega
attribute [go_sem] List.zip_cons_cons List.zip_nil_left List.zip_nil_right z7l
end Go.Proofs.YtbaclnecajkknaaGreat.Pi

