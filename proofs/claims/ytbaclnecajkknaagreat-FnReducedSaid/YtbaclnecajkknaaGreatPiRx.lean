/- Pi: evaluation by rewriting: calls that may write. No condition. -/
import Derived.Test.YtbaclnecajkknaaGreatPiRw
namespace Go.Proofs.YtbaclnecajkknaaGreat.Pi
open Go
set_option linter.all false

def posn(I:List Nat)(b:Nat):Nat:=I.idxOf b
@[go_sem] theorem z11f{a:Nat}{l:List Nat}:posn (a :: l) a=0:=by simp [posn]
@[go_sem] theorem z11g{a b:Nat}{l:List Nat}(h:a≠b):posn (a :: l) b=posn l b+1:=by
 unfold posn
 rw[List.idxOf_cons]
 have:(a == b)=false:=by simpa using h
 rw[this];rfl
def renK(I:List Nat)(k:Option Blk):Option Blk:=match k with
 | some k=>if k.refs.all fun r=>I.contains r then some (k.ren (posn I)) else none
 | none=>none
def selM(I:List Nat)(mem:List Blk):List Nat→Option (List Blk)
 | []=>some []
 | b :: bs=>(renK I mem[b]?).bind fun k=>(selM I mem bs).map fun ks=>k :: ks
def putM(mem:List Blk):List Nat→List Blk→List Blk
 | b :: bs,k :: ks=>putM (mem.set b k) bs ks
 | _,_=>mem
def nexts(mem:List Blk):List Nat→List Nat
 | []=>[]
 | b :: bs=>(match mem[b]? with | some k=>k.refs | none=>[])++nexts mem bs
def refsK:Option Blk→List Nat
 | some k=>k.refs
 | none=>[]
theorem zuv{mem:List Blk} : ∀ (bs:List Nat),(bs.flatMap fun b=>match mem[b]? with | some k=>k.refs | none=>[])=nexts mem bs
 | []=>rfl
 | b :: bs=>by simp only[List.flatMap_cons,nexts];rw[zuv bs]
theorem z188{I:List Nat}{mem:List Blk} : ∀ (L:List Nat),selM I mem L=if (L.all fun b=>(match mem[b]? with | some k=>k.refs.all fun r=>I.contains r | none=>false))=true then some (L.map fun b=>(mem.getD b .dead).ren I.idxOf) else none
  | []=>rfl
  | b :: bs => by
    simp only[selM,List.all_cons,List.map_cons]
    rw[z188 bs]
    cases hb:mem[b]? with
    | none=>simp [renK]
    | some k =>
      simp only[renK,List.getD_eq_getElem?_getD,hb,Option.getD_some]
      cases hr:k.refs.all fun r=>I.contains r with
      | false=>simp
      | true =>
        simp only[if_true,Option.bind_some,Bool.true_and]
        split
        · rfl
        · rfl

theorem zv4{l:List Nat}:l.eraseDups.Nodup:=by
  have : ∀ (n:Nat) (l:List Nat),l.length≤n→l.eraseDups.Nodup:=by
    intro n
    induction n with
    | zero=>intro l h;have:l=[]:=List.eq_nil_of_length_eq_zero (by omega);subst this;simp
    | succ n ih =>
      intro l h
      cases l with
      | nil=>simp
      | cons a l =>
        rw[List.eraseDups_cons,List.nodup_cons]
        refine⟨?_,ih _ ?_⟩
        · rw[List.mem_eraseDups];simp
        · have:=List.length_filter_le (fun b=>!b == a) l
          simp at h ⊢;omega
  exact this l.length l (Nat.le_refl _)

theorem z18d{l:List Nat}{mem:List Blk}:select l.eraseDups mem=selM l.eraseDups mem l.eraseDups:=by
 rw[z188]
 unfold select
 have:decide l.eraseDups.Nodup=true:=decide_eq_true zv4
 rw[this,Bool.true_and]
 rfl
theorem z12g{x:Nat} : ∀ (I:List Nat) (M mem:List Blk),I.Nodup→I.length≤M.length→(putM mem I M)[x]? = if x∈I then(if x<mem.length then some (M.getD (I.idxOf x) .dead) else none) else mem[x]?
  | [],M,mem,_,_=>by cases M<;>simp [putM]
  | b :: I,[],mem,_,h=>by simp at h
  | b :: I, k :: M, mem, hn, h => by
    rw[List.nodup_cons] at hn
    simp only[putM]
    rw[z12g I M (mem.set b k) hn.2 (by simpa using h)]
    by_cases hx:x=b
    · subst hx
      rw[if_neg hn.1]
      simp only[List.mem_cons,true_or,if_true,List.idxOf_cons_self,List.getD_cons_zero]
      rw[List.getElem?_set]
      simp
    · have hxb:(b == x)=false:=by simpa using fun e:b=x=>hx e.symm
      simp only[List.mem_cons,hx,false_or,List.length_set]
      split
      · rw[List.idxOf_cons,hxb]
        simp
      · rw[List.getElem?_set_ne (fun e=>hx e.symm)]

def callI(orc:Orc)(mem:List Blk)(f:FuncId)(args:List PV)(I:List Nat):Option (PV×List Blk):=
 (selM I mem I).bind fun M=>(orc f (renL (posn I) args) M).bind fun r =>
  if I.length≤r.2.length then
   some (imp (putM mem I (r.2.map (Blk.ren fun j=>(I[j]?).getD (mem.length+(j-I.length))))++(r.2.drop I.length).map (Blk.ren fun j=>(I[j]?).getD (mem.length+(j-I.length)))) (r.1.ren fun j=>(I[j]?).getD (mem.length+(j-I.length))))
  else none
theorem z139{mem:List Blk}{d:Nat}{bs:List Nat}:reach mem (d+1) bs=bs++reach mem d (nexts mem bs):=
 congrArg (fun l=>bs++reach mem d l) (zuv bs)
theorem z12z{mem:List Blk}{bs:List Nat}:reach mem 2 bs=bs++(nexts mem bs++nexts mem (nexts mem bs)):=by
 rw[z139,z139];rfl
theorem z130{mem:List Blk}{bs:List Nat}:reach mem 3 bs=bs++(nexts mem bs++(nexts mem (nexts mem bs)++nexts mem (nexts mem (nexts mem bs)))):=by
 rw[z139,z139,z139];rfl
def callS(orc:Orc)(mem:List Blk)(f:FuncId)(args:List PV)(I:List Nat)(M:Option (List Blk)):Option (PV×List Blk):=
 M.bind fun M=>(orc f (renL (posn I) args) M).bind fun r =>
  if I.length≤r.2.length then
   some (imp (putM mem I (r.2.map (Blk.ren fun j=>(I[j]?).getD (mem.length+(j-I.length))))++(r.2.drop I.length).map (Blk.ren fun j=>(I[j]?).getD (mem.length+(j-I.length)))) (r.1.ren fun j=>(I[j]?).getD (mem.length+(j-I.length))))
  else none
@[go_sem] theorem z7x{orc:Orc}{mem:List Blk}{f:FuncId}{args:List PV}:callM orc mem f args=callI orc mem f args (refsL args++(nexts mem (refsL args)++nexts mem (nexts mem (refsL args)))).eraseDups:=by
  unfold callM callI
  rw[z12z]
  generalize hl:refsL args++(nexts mem (refsL args)++nexts mem (nexts mem (refsL args)))=l
  have hall:(refsL args).all (fun r=>l.eraseDups.contains r)=true:=by
    rw[List.all_eq_true]
    intro b hb
    rw[List.contains_eq_mem,decide_eq_true_eq,List.mem_eraseDups,←hl]
    exact List.mem_append_left _ hb
  simp only[hall,if_true]
  rw[z18d]
  cases hsel:selM l.eraseDups mem l.eraseDups with
  | none=>rfl
  | some M =>
    simp only[Option.bind_some]
    have hpos:(renL l.eraseDups.idxOf args)=renL (posn l.eraseDups) args:=rfl
    rw[hpos]
    cases hc:orc f (renL (posn l.eraseDups) args) M with
    | none=>rfl
    | some r =>
      simp only[Option.bind_some]
      split
      · rename_i hle
        congr 2
        rw[List.map_drop]
        congr 1
        apply List.ext_getElem?
        intro x
        rw[z12g _ _ _ zv4 (by simpa using hle),List.getElem?_mapIdx]
        by_cases hx:x∈l.eraseDups
        · have hc:l.eraseDups.contains x=true:=by simpa using hx
          rw[if_pos hx]
          rcases Nat.lt_or_ge x mem.length with h | h
          · rw[if_pos h,List.getElem?_eq_getElem h]
            simp only[Option.map_some,hc,if_true]
          · rw[if_neg (by omega),List.getElem?_eq_none h];rfl
        · have hc:l.eraseDups.contains x=false:=by simpa using hx
          rw[if_neg hx]
          cases mem[x]? with
          | none=>rfl
          | some k=>simp only[Option.map_some,hc,Bool.false_eq_true,if_false]
      · rfl
def gcI(fr:List PV)(mem:List Blk)(I:List Nat):St:=match selM I mem I with
 | some M=>⟨renL (posn I) fr,M⟩
 | none=>⟨fr,mem⟩
def gcS(fr:List PV)(mem:List Blk)(I:List Nat)(M:Option (List Blk)):St:=match M with
 | some M=>⟨renL (posn I) fr,M⟩
 | none=>⟨fr,mem⟩
@[go_sem] theorem zi9{fr:List PV}{mem:List Blk}{R:List Nat}:gcR fr mem R=gcI fr mem (R++(nexts mem R++(nexts mem (nexts mem R)++nexts mem (nexts mem (nexts mem R))))).eraseDups:=by
 unfold gcR gcI
 rw[z130,z18d]
 rfl
@[go_sem] theorem zi8{fr:List PV}{mem:List Blk}{I:List Nat}:gcI fr mem I=gcS fr mem I (selM I mem I):=rfl
@[go_sem] theorem zib{fr:List PV}{mem M:List Blk}{I:List Nat}:gcS fr mem I (some M)=⟨renL (posn I) fr,M⟩:=rfl
@[go_sem] theorem z131{mem:List Blk}{b:Nat}{bs:List Nat}:reach mem 3 (b :: bs)=(b :: bs)++(nexts mem (b :: bs)++(nexts mem (nexts mem (b :: bs))++nexts mem (nexts mem (nexts mem (b :: bs))))):=z130
section
variable {mem : List Blk} {I : List Nat} {b : Nat} {bs : List Nat} {k : Blk} {ks : List Blk} {f : Nat → Nat} {x : PV} {xs : List PV} {fl : Bool} {sz o l : Nat} {t : TypeId} {es cs : List PV}
@[go_sem] theorem zuw:nexts mem []=[]:=rfl
@[go_sem] theorem zuu:nexts mem (b :: bs)=refsK mem[b]?++nexts mem bs:=rfl
@[go_sem] theorem z13h:refsK (some k)=k.refs:=rfl
@[go_sem] theorem z13g:refsK none=[]:=rfl
@[go_sem] theorem zo6:(Blk.box t cs).refs=refsL cs:=rfl
@[go_sem] theorem zoc:(Blk.row t fl sz es).refs=[]:=rfl
@[go_sem] theorem zo8:(Blk.fro fl sz es).refs=[]:=rfl
@[go_sem] theorem zoa:(Blk.lin t sz es).refs=[]:=rfl
@[go_sem] theorem zo7:Blk.dead.refs=[]:=rfl
@[go_sem] theorem z189:selM I mem []=some []:=rfl
@[go_sem] theorem z187:selM I mem (b :: bs)=(renK I mem[b]?).bind fun k=>(selM I mem bs).map fun ks=>k :: ks:=rfl
@[go_sem] theorem z14a:renK I (some k)=if (k.refs.all fun r=>I.contains r)=true then some (k.ren (posn I)) else none:=rfl
@[go_sem] theorem zoe:(Blk.box t cs).ren f=.box t (renL f cs):=rfl
@[go_sem] theorem zok:(Blk.row t fl sz es).ren f=.row t fl sz es:=rfl
@[go_sem] theorem zog:(Blk.fro fl sz es).ren f=.fro fl sz es:=rfl
@[go_sem] theorem zoi:(Blk.lin t sz es).ren f=.lin t sz es:=rfl
@[go_sem] theorem zof:Blk.dead.ren f=.dead:=rfl
@[go_sem] theorem z14e:renL f []=[]:=rfl
@[go_sem] theorem z14b:renL f (x :: xs)=x.ren f :: renL f xs:=rfl
@[go_sem] theorem z14m{k:IntKind}{n:Int}:(PV.int k n).ren f=.int k n:=rfl
@[go_sem] theorem z14j{b:Bool}:(PV.bool b).ren f=.bool b:=rfl
@[go_sem] theorem z14y{b:ByteArray}:(PV.str b).ren f=.str b:=rfl
@[go_sem] theorem z14x:(PV.sl fl sz es).ren f=.sl fl sz es:=rfl
@[go_sem] theorem z14n:(PV.nil fl sz).ren f=.nil fl sz:=rfl
@[go_sem] theorem z150:(PV.un t fl sz es).ren f=.un t fl sz es:=rfl
@[go_sem] theorem z152:(PV.unn t sz es).ren f=.unn t sz es:=rfl
@[go_sem] theorem z14i:PV.any.ren f=.any:=rfl
@[go_sem] theorem z151:PV.undef.ren f=.undef:=rfl
@[go_sem] theorem z14w:(PV.ref b sz o l).ren f=.ref (f b) sz o l:=rfl
@[go_sem] theorem z14s:(PV.ptr b o).ren f=.ptr (f b) o:=rfl
@[go_sem] theorem z14l{i:Nat}:(PV.ep b sz i o).ren f=.ep (f b) sz i o:=rfl
@[go_sem] theorem z14k{g:FuncId}:(PV.clo g xs).ren f=.clo g (renL f xs):=rfl
@[go_sem] theorem z14h:(PV.agg xs).ren f=.agg (renL f xs):=rfl
@[go_sem] theorem z14z:(PV.tup xs).ren f=.tup (renL f xs):=rfl
@[go_sem] theorem z14o:PV.nilf.ren f=.nilf:=rfl
@[go_sem] theorem z14p:PV.nilp.ren f=.nilp:=rfl
@[go_sem] theorem z14t:(PV.pv x o).ren f=.pv (x.ren f) o:=rfl
@[go_sem] theorem z12f:putM mem (b :: bs) (k :: ks)=putM (mem.set b k) bs ks:=rfl
@[go_sem] theorem z12i:putM mem [] ks=mem:=by cases ks<;>rfl
@[go_sem] theorem z7w{orc:Orc}{g:FuncId}{args:List PV}:callI orc mem g args I=callS orc mem g args I (selM I mem I):=rfl
@[go_sem] theorem z85{orc:Orc}{g:FuncId}{args:List PV}{M:List Blk}:callS orc mem g args I (some M)=(orc g (renL (posn I) args) M).bind fun r =>
  if I.length≤r.2.length then
   some (imp (putM mem I (r.2.map (Blk.ren fun j=>(I[j]?).getD (mem.length+(j-I.length))))++(r.2.drop I.length).map (Blk.ren fun j=>(I[j]?).getD (mem.length+(j-I.length)))) (r.1.ren fun j=>(I[j]?).getD (mem.length+(j-I.length))))
  else none:=rfl
end
@[go_sem] theorem zdi{a:Nat}:[a].eraseDups=[a]:=by rw[List.eraseDups_cons];simp
attribute [go_sem] List.eraseDups_nil
@[go_sem 500] theorem zdh{a:Nat}{l:List Nat}:(a :: l).eraseDups=a :: (l.filter fun b=>!b == a).eraseDups:=List.eraseDups_cons
attribute [go_sem] List.filter_nil List.filter_cons Bool.not_true Bool.not_false Option.getD_some Option.getD_none List.contains_cons Nat.sub_self Nat.zero_add Nat.add_zero List.drop_zero List.drop_succ_cons List.drop_nil List.map_nil List.contains_nil List.isEmpty_cons

/-! ### Results where something may have been written -/
def bref:List Blk→List Nat
 | []=>[]
 | k :: ks=>k.refs++bref ks
theorem z13i : ∀ (xs ys:List PV),refsL (xs++ys)=refsL xs++refsL ys
 | [],_=>rfl
 | x :: xs,ys=>by simp [refsL,z13i xs ys]
theorem z7c : ∀ (ks:List Blk),refsL (ks.flatMap fun b=>match b with | .box _ cs=>cs | _=>[])=bref ks
  | []=>rfl
  | k :: ks => by
    rw[List.flatMap_cons,z13i,z7c ks]
    cases k<;>rfl
def za1(mem:List Blk)(I:List Nat):Option (List Blk):=if I.Nodup then selM I mem I else none
theorem za3{m:Nat}{mem:List Blk}:close m mem=za1 mem (List.range m++(bref (mem.take m)).filter (m≤·)):=by
 unfold close za1
 refine(congrArg (fun l=>select (List.range m++l.filter (m≤·)) mem) (z7c (mem.take m))).trans ?_
 show select (List.range m++(bref (mem.take m)).filter (m≤·)) mem=_
 generalize List.range m++(bref (mem.take m)).filter (m≤·)=I
 rw[z188]
 unfold select
 by_cases h:I.Nodup
 ·simp only[h,decide_true,Bool.true_and,if_true];rfl
 ·simp [h]
@[go_sem 400] theorem zg7{m:Nat}{rl:List IRes}{st:St}:zg6 m rl st=(resL st rl).bind fun vs=>(expAL m st.mem vs).bind fun x=>if ((refsL x.1).all fun b=>decide (b<m))=true then(za1 x.2 (List.range m++(bref (x.2.take m)).filter (m≤·))).map fun M=>(packP x.1,M) else none:=by
 unfold zg6
 congr 1
 funext vs
 congr 1
 funext x
 rw[za3]
@[go_sem] theorem za2{mem:List Blk}{I:List Nat}:za1 mem I=if I.Nodup then selM I mem I else none:=rfl
@[go_sem] theorem z7d:bref []=[]:=rfl
@[go_sem] theorem z7b{k:Blk}{ks:List Blk}:bref (k :: ks)=k.refs++bref ks:=rfl
attribute [go_sem] List.range_succ List.range_zero List.nodup_cons List.nodup_nil List.mem_cons List.not_mem_nil decide_true decide_false or_false false_or
@[go_sem] theorem zpr{α:Type}{a:α}:[a].length=1:=rfl
/-! ### Loops' heads where something may be written -/
theorem gc_m{m:Nat}{fr:List PV}{mem:List Blk}:gc m ⟨fr,mem⟩=gcS fr mem (List.range m++((reach mem 3 (refsL fr++List.range m)).filter (m≤·)).eraseDups) (za1 mem (List.range m++((reach mem 3 (refsL fr++List.range m)).filter (m≤·)).eraseDups)):=by
 unfold gc
 generalize hI:List.range m++((reach mem 3 (refsL fr++List.range m)).filter (m≤·)).eraseDups=I
 have hall:((refsL fr).all fun b=>I.contains b)=true:=by
  rw[List.all_eq_true]
  intro b hb
  rw[List.contains_eq_mem,decide_eq_true_eq,←hI,List.mem_append]
  rcases Nat.lt_or_ge b m with h | h
  ·exact .inl (List.mem_range.2 h)
  ·right
   rw[List.mem_eraseDups,List.mem_filter]
   exact⟨z137 3 b (List.mem_append_left _ hb),by simpa using h⟩
 simp only[hI,hall,if_true]
 have:select I mem=za1 mem I:=by
  unfold select za1
  rw[z188]
  by_cases h:I.Nodup
  ·simp only[h,decide_true,Bool.true_and,if_true];rfl
  ·simp [h]
 rw[this]
 unfold gcS
 rfl
@[go_sem 400] theorem gc_m'{m:Nat}{fr:List PV}{mem:List Blk}:gc m ⟨fr,mem⟩=gcS fr mem (List.range m++(((refsL fr++List.range m)++(nexts mem (refsL fr++List.range m)++(nexts mem (nexts mem (refsL fr++List.range m))++nexts mem (nexts mem (nexts mem (refsL fr++List.range m)))))).filter (m≤·)).eraseDups) (za1 mem (List.range m++(((refsL fr++List.range m)++(nexts mem (refsL fr++List.range m)++(nexts mem (nexts mem (refsL fr++List.range m))++nexts mem (nexts mem (nexts mem (refsL fr++List.range m)))))).filter (m≤·)).eraseDups)):=by
 rw[gc_m,z130]
theorem z31{x:Int}(h0:0≤x)(h1:x<18446744073709551616):0≤bits .and .u64 x 255∧bits .and .u64 x 255<256:=by
 have h:=bits_and_u64_nat x.toNat 255 (by omega) (by omega)
 rw[show((x.toNat:Nat):Int)=x by omega] at h
 have h2:x.toNat &&& 255≤255:=Nat.and_le_right
 have h3:bits .and .u64 x 255=((x.toNat &&& 255:Nat):Int):=h
 omega
theorem z1fp(x:Int):0≤IntKind.u64.wrap x∧IntKind.u64.wrap x<18446744073709551616:=by
 rw[IntKind.wrap_u64];omega
attribute [go_sem] List.zip_cons_cons List.zip_nil_left List.zip_nil_right z7h
end Go.Proofs.YtbaclnecajkknaaGreat.Pi

