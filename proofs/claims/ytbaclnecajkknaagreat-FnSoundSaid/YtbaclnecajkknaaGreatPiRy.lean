/- Pi: evaluation by rewriting: drawn regions of which some operations are compared; storing into rows of structures. No condition. -/
import Derived.Test.YtbaclnecajkknaaGreatPiRx
open Option renaming bind_some->L't
open Bool renaming false_eq_true->M'w
namespace Go.Proofs.YtbaclnecajkknaaGreat.Pi
open Go
set_option linter.all false

def WD(orc:Orc)(chk:List (Nat×Nat))(os:List IOper)(rs fr:List PV)(mem:List Blk)(ft:List (List Nat×List Nat))(R:St->Prop):Prop:=
∃x,runDr orc os rs fr mem ft=some x/\chkOk chk x.2=true/\R x.1
def WD1(orc:Orc)(chk:List (Nat×Nat))(res:Option (PV×List Blk))(d:Option Nat)(os:List IOper)(rs fr:List PV)(ft:List (List Nat×List Nat))(R:St->Prop):Prop:=
match res with
|some x=>WD orc chk os (rs++[x.1]) (setFr fr d x.1) x.2 ft R
|none=>False
def WDg(orc:Orc)(chk:List (Nat×Nat))(g:Option PV)(b:Bool)(d:Option Nat)(op:IOp)(os:List IOper)(rs fr:List PV)(mem:List Blk)(ft:List (List Nat×List Nat))(R:St->Prop):Prop:=match g with
|some (.bool c)=>(c=b->WD orc chk (⟨d,op,none⟩::os) rs fr mem ft R)/\(c≠b->WD orc chk os (rs++[.undef]) (setFr fr d .undef) mem (ft++[(foot rs fr mem op,footR rs fr op)]) R)
|some .undef=>WD orc chk os (rs++[.undef]) (setFr fr d .undef) mem (ft++[(foot rs fr mem op,footR rs fr op)]) R
|_=>False
def footS(mem:List Blk):Option (List PV)->List Nat
|some vs=>reach mem 3 (refsL vs)
|none=>[]
def footT:Option (List PV)->List Nat
|some vs=>refsL vs
|none=>[]
def chk1:Option (List Nat×List Nat)->Option (List Nat×List Nat)->Bool
|some a,some b=>a.1.all fun x=>!b.2.contains x
|_,_=>false
section
variable {orc:Orc}{m:Nat}{Q:Out->Prop}{st:St}{os:List IOper}{rs fr:List PV}{mem:List Blk}{R:St->Prop}{chk:List (Nat×Nat)}{ft:List (List Nat×List Nat)}{c:Nat×Nat}
@[go_sem] theorem z1b{dr:Bool}{ops:List IOper}:W orc m (.region dr (c::chk) ops) st Q↔WD orc (c::chk) ops [] st.fr st.mem [] (fun s=>Q (.next s)):=by
 constructor
 ·rintro⟨o,h1,h2⟩
  simp only[run,z187,List.isEmpty_cons,M'w,if_false,Option.map_eq_some_iff,Option.bind_eq_some_iff]at h1
  obtain⟨s,⟨x,h3,h4⟩,rfl⟩:=h1
  split at h4
  ·cases h4;rename_i h5;exact⟨x,h3,h5,h2⟩
  ·cases h4
 ·rintro⟨x,h3,h5,h2⟩
  refine⟨.next x.1,?_,h2⟩
  simp[run,z187,h3,h5]
@[go_sem] theorem z0o:WD orc chk [] rs fr mem ft R↔chkOk chk ft=true/\R ⟨fr,mem⟩:=by simp[WD,runDr]
@[go_sem] theorem z0p{d:Option Nat}{op:IOp}:WD orc chk (⟨d,op,none⟩::os) rs fr mem ft R↔WD1 orc chk (z1cm orc rs fr mem op) d os rs fr (ft++[(foot rs fr mem op,footR rs fr op)]) R:=by
 unfold WD WD1
 simp only[runDr,z1cq,wanted,L't,if_true]
 cases z1cm orc rs fr mem op with
 |none=>simp
 |some x=>simp only[Option.map_some,L't];rfl
@[go_sem 500] theorem z0l{x:PV}{mem':List Blk}{d:Option Nat}:WD1 orc chk (some (x,mem')) d os rs fr ft R↔WD orc chk os (rs++[x]) (setFr fr d x) mem' ft R:=Iff.rfl
@[go_sem] theorem z0m{mem':List Blk}{d:Option Nat}:WD1 orc chk (some (.bool true,mem')) d os rs fr ft R↔WD orc chk os (rs++[.bool true]) (setFr fr d (.bool true)) mem' ft R:=Iff.rfl
@[go_sem] theorem z0i{mem':List Blk}{d:Option Nat}:WD1 orc chk (some (.bool false,mem')) d os rs fr ft R↔WD orc chk os (rs++[.bool false]) (setFr fr d (.bool false)) mem' ft R:=Iff.rfl
@[go_sem] theorem z0k{d:Option Nat}:WD1 orc chk none d os rs fr ft R↔False:=Iff.rfl
@[go_sem 700] theorem z0h{x:Bool}{mem':List Blk}{d:Option Nat}:WD1 orc chk (some (.bool x,mem')) d os rs fr ft R↔(x=true->WD orc chk os (rs++[.bool true]) (setFr fr d (.bool true)) mem' ft R)/\(x=false->WD orc chk os (rs++[.bool false]) (setFr fr d (.bool false)) mem' ft R):=by
 cases x<;>simp[WD1]
@[go_sem] theorem z0j{p:Prop}{x y:Option (PV×List Blk)}{d:Option Nat}[Decidable p]:WD1 orc chk (if p then x else y) d os rs fr ft R↔(p->WD1 orc chk x d os rs fr ft R)/\(¬p->WD1 orc chk y d os rs fr ft R):=by
 by_cases h:p<;>simp[h]
@[go_sem] theorem z0n{d:Option Nat}{op:IOp}{j:Nat}{b:Bool}:WD orc chk (⟨d,op,some (j,b)⟩::os) rs fr mem ft R↔WDg orc chk rs[j]? b d op os rs fr mem ft R:=by
 unfold WDg
 cases hg:rs[j]? with
 |none=>simp[WD,runDr,z1cq,wanted,hg]
 |some v=>
  cases v with
  |bool x=>
   simp only
   by_cases hx:x=b
   ·subst hx
    have e:∀g:Option (Nat×Bool),g=some (j,x)\/g=none->wanted rs g=some true:=by
     rintro g (rfl| rfl)
     ·simp[wanted,hg]
     ·rfl
    simp only[true_implies,ne_eq,not_true_eq_false,false_implies,and_true]
    unfold WD
    simp only[runDr,z1cq]
    rw[e _ (.inl rfl),e _ (.inr rfl)]
   ·simp only[hx,false_implies,ne_eq,not_false_eq_true,true_implies,true_and]
    unfold WD
    have:(x==b)=false:=by simpa using hx
    simp only[runDr,z1cq,wanted,hg,this,L't,M'w,if_false]
  |undef=>simp[WD,runDr,z1cq,wanted,hg]
  |_=>simp[WD,runDr,z1cq,wanted,hg]
@[go_sem] theorem z0u{d:Option Nat}{op:IOp}{b:Bool}:WDg orc chk (some .undef) b d op os rs fr mem ft R↔WD orc chk os (rs++[.undef]) (setFr fr d .undef) mem (ft++[(foot rs fr mem op,footR rs fr op)]) R:=Iff.rfl
@[go_sem] theorem z0t{d:Option Nat}{op:IOp}:WDg orc chk (some (.bool true)) true d op os rs fr mem ft R↔WD orc chk (⟨d,op,none⟩::os) rs fr mem ft R:=by simp[WDg]
@[go_sem] theorem z0q{d:Option Nat}{op:IOp}:WDg orc chk (some (.bool false)) false d op os rs fr mem ft R↔WD orc chk (⟨d,op,none⟩::os) rs fr mem ft R:=by simp[WDg]
@[go_sem] theorem z0s{d:Option Nat}{op:IOp}:WDg orc chk (some (.bool true)) false d op os rs fr mem ft R↔WD orc chk os (rs++[.undef]) (setFr fr d .undef) mem (ft++[(foot rs fr mem op,footR rs fr op)]) R:=by simp[WDg]
@[go_sem] theorem z0r{d:Option Nat}{op:IOp}:WDg orc chk (some (.bool false)) true d op os rs fr mem ft R↔WD orc chk os (rs++[.undef]) (setFr fr d .undef) mem (ft++[(foot rs fr mem op,footR rs fr op)]) R:=by simp[WDg]
def footC(c:Bool)(mem:List Blk)(l:List Nat):List Nat:=if c then filtR mem l else l
@[go_sem] theorem zhk{l:List Nat}:footC true mem l=filtR mem l:=rfl
@[go_sem] theorem zhj{l:List Nat}:footC false mem l=l:=rfl
@[go_sem] theorem zgg:filtR mem []=[]:=rfl
@[go_sem] theorem zge{b:Nat}{l:List Nat}:filtR mem (b::l)=if rowsh mem[b]?=true then b::filtR mem l else filtR mem l:=rfl
@[go_sem] theorem z17k:rowsh none=false:=rfl
@[go_sem] theorem z17l{t:TypeId}{fl:Bool}{sz:Nat}{es:List PV}:rowsh (some (.row t fl sz es))=true:=rfl
@[go_sem] theorem z17j{t:TypeId}{sz:Nat}{es:List PV}:rowsh (some (.lin t sz es))=true:=rfl
@[go_sem] theorem z17i{fl:Bool}{sz:Nat}{es:List PV}:rowsh (some (.fro fl sz es))=false:=rfl
@[go_sem] theorem z17g{t:TypeId}{cs:List PV}:rowsh (some (.box t cs))=false:=rfl
@[go_sem] theorem z17h:rowsh (some .dead)=false:=rfl
attribute [go_sem] isC
@[go_sem] theorem zhq{op:IOp}:foot rs fr mem op=footC (isC op) mem (footS mem (evL rs fr (opds op))):=by
 unfold foot footS footC
 cases evL rs fr (opds op)
 ·cases isC op<;>rfl
 ·cases isC op<;>rfl
@[go_sem] theorem zhl{op:IOp}:footR rs fr op=footT (evL rs fr (opds op)):=by
 unfold footR footT
 cases evL rs fr (opds op)<;>rfl
@[go_sem] theorem zhn{vs:List PV}:footS mem (some vs)=reach mem 3 (refsL vs):=rfl
@[go_sem] theorem zhm:footS mem none=[]:=rfl
@[go_sem] theorem zhp{vs:List PV}:footT (some vs)=refsL vs:=rfl
@[go_sem] theorem zho:footT none=[]:=rfl
@[go_sem] theorem z9t:chkOk [] ft=true:=rfl
@[go_sem] theorem z9s:chkOk (c::chk) ft=(chk1 ft[c.1]? ft[c.2]?&&chkOk chk ft):=by
 unfold chkOk chk1
 rw[List.all_cons]
 congr 1
@[go_sem] theorem z9o{a b:List Nat×List Nat}:chk1 (some a) (some b)=a.1.all fun x=>!b.2.contains x:=rfl
end
section
variable {a b:ICode}{x y z:Opd}{d:Nat}{n:Nat}{l:List Opd}
@[go_sem] theorem zyy:opds (.mov x)=[x]:=rfl
@[go_sem] theorem zz3:opds (.not x)=[x]:=rfl
@[go_sem] theorem zz0:opds (.neg x)=[x]:=rfl
@[go_sem] theorem zyp{q:Bool}:opds (.isnil q x)=[x]:=rfl
@[go_sem] theorem zy9{t:TypeId}:opds (.box t n x)=[x]:=rfl
@[go_sem] theorem zyt{q:Bool}:opds (.load q n x)=[x]:=rfl
@[go_sem] theorem zym:opds (.faddr n x)=[x]:=rfl
@[go_sem] theorem zyn{q:Bool}:opds (.field q n d x)=[x]:=rfl
@[go_sem] theorem zyl:opds (.extract x n)=[x]:=rfl
@[go_sem] theorem zyz:opds (.ncheck x)=[x]:=rfl
@[go_sem] theorem zyu{t:TypeId}{fl:Bool}{p:PV}:opds (.mk t fl n p x)=[x]:=rfl
@[go_sem] theorem zyi{k:IntKind}:opds (.conv k x)=[x]:=rfl
@[go_sem] theorem zys{q:Bool}:opds (.len q x)=[x]:=rfl
@[go_sem] theorem zz9:opds (.strb x)=[x]:=rfl
@[go_sem] theorem zy8{q:Bool}{o:BinOp}:opds (.bin q o x y)=[x,y]:=rfl
@[go_sem] theorem zyk{q:Bool}{ks:List Nat}:opds (.eqs q ks x y)=[x,y]:=rfl
@[go_sem] theorem zz8:opds (.store n x y)=[x,y]:=rfl
@[go_sem] theorem zyo:opds (.iaddr n x y)=[x,y]:=rfl
@[go_sem] theorem zza:opds (.stri x y)=[x,y]:=rfl
@[go_sem] theorem zy5{t:TypeId}{fl:Bool}:opds (.append t fl n x y)=[x,y]:=rfl
@[go_sem] theorem zyx{q:Bool}:opds (.mnmx q x y)=[x,y]:=rfl
@[go_sem] theorem zz4:opds (.pick x y z)=[x,y,z]:=rfl
@[go_sem] theorem zz5{l h:Option Opd}:opds (.slice n x l h)=x::(l.toList++h.toList):=rfl
@[go_sem] theorem zzb{l h:Option Opd}:opds (.sub x l h)=x::(l.toList++h.toList):=rfl
@[go_sem] theorem zyc{zr:List PV}{ps:List (Nat×Nat×Opd)}:opds (.build zr ps)=ps.map fun p=>p.2.2:=rfl
@[go_sem] theorem zyb{q:Bool}{t:TypeId}{fl:Bool}:opds (.bslice q t fl n l)=l:=rfl
@[go_sem] theorem zyv{f:FuncId}:opds (.mkfn f l)=l:=rfl
@[go_sem] theorem zyd{q:Bool}{f:FuncId}:opds (.call q f l)=l:=rfl
@[go_sem] theorem zye{f:FuncId}:opds (.callm f l)=l:=rfl
@[go_sem] theorem zyf{q:Bool}:opds (.callv q x l)=x::l:=rfl
@[go_sem] theorem zy4{t:TypeId}{cs:List PV}:opds (.alloc t cs)=[]:=rfl
@[go_sem] theorem zz2{t:TypeId}{fl:Bool}:opds (.nilrow t fl n)=[]:=rfl
@[go_sem] theorem zyw{t:TypeId}{p:PV}:opds (.mkl t n p x)=[x]:=rfl
@[go_sem] theorem zz1{t:TypeId}:opds (.nill t n)=[]:=rfl
@[go_sem] theorem zya{t:TypeId}:opds (.bsl t n l)=l:=rfl
@[go_sem] theorem zy6{t:TypeId}{fl:Bool}:opds (.appl t fl n x y)=[x,y]:=rfl
@[go_sem] theorem zz7:opds (.stl n x y)=[x,y]:=rfl
@[go_sem] theorem zyj:opds (.copy n x y)=[x,y]:=rfl
@[go_sem] theorem zyh{p:PV}:opds (.clr p x)=[x]:=rfl
@[go_sem] theorem zyg{u:Opd}:opds (.chk3 x y z u)=[x,y,z,u]:=rfl
attribute [go_sem] Option.toList_some Option.toList_none
end

section
variable {mem:List Blk}{b sz o l:Nat}
@[go_sem] theorem zmj:imp mem (.ref b sz o l)=(.ref b sz o l,mem):=rfl
@[go_sem] theorem zm5:impA mem (.ref b sz o l)=(.ref b sz o l,mem):=rfl
@[go_sem] theorem zlr:imp1 mem (.ref b sz o l)=(.ref b sz o l,mem):=rfl
end

/-! ### Parts of slices -/
def z1b1(sz b off len:Nat)(lo hi:Option Int)(k:Option Blk):Option PV:=
match (match k with| some (.row _ fl _ es)=>some (fl,es.length)|some (.fro fl _ es)=>some (fl,es.length)|_=>none)with
|some (fl,n)=>lo.bind fun l=>hi.bind fun h=>if 0<=l/\l<=h/\off+h.toNat<=n then(if l<h\/off+l.toNat<n then some (.ref b sz (off+l.toNat) (h.toNat-l.toNat))else some (.sl fl sz []))else none
|none=>none
section
variable {mem:List Blk}{sz b off len d:Nat}{lo hi:Option PV}{lo' hi':Option Int}{fl:Bool}{t:TypeId}{es:List PV}{k:IntKind}{n:Int}
@[go_sem] theorem z1b7:z1b4 mem sz (.ref b sz off len) lo hi=z1b1 sz b off len (bound 0 lo) (bound len hi) mem[b]?:=by
 simp only[z1b4,z1b1,if_true]
 cases mem[b]? with
 |none=>rfl
 |some k=>cases k<;>rfl
@[go_sem] theorem z1b3:z1b1 sz b off len lo' hi' (some (.row t fl sz es))=lo'.bind fun l=>hi'.bind fun h=>if 0<=l/\l<=h/\off+h.toNat<=es.length then(if l<h\/off+l.toNat<es.length then some (.ref b sz (off+l.toNat) (h.toNat-l.toNat))else some (.sl fl sz []))else none:=rfl
@[go_sem] theorem z1b2:z1b1 sz b off len lo' hi' (some (.fro fl sz es))=lo'.bind fun l=>hi'.bind fun h=>if 0<=l/\l<=h/\off+h.toNat<=es.length then(if l<h\/off+l.toNat<es.length then some (.ref b sz (off+l.toNat) (h.toNat-l.toNat))else some (.sl fl sz []))else none:=rfl
@[go_sem] theorem z1b8:z1b4 mem sz (.sl fl sz es) lo hi=(bound 0 lo).bind fun l=>(bound es.length hi).bind fun h=>if 0<=l/\l<=h/\h<=es.length then some (.sl fl sz ((es.take h.toNat).drop l.toNat))else none:=by
 unfold z1b4
 simp only[if_true]
@[go_sem] theorem z79:bound d none=some (d:Int):=rfl
@[go_sem] theorem z7b:bound d (some (.int k n))=some n:=rfl
@[go_sem] theorem z6t{α:Type}{c:Prop}[Decidable c]{x y:α}{β:Type}{f:α->Option β}:(if c then some x else some y:Option α).bind f=if c then f x else f y:=by
 split<;>rfl
@[go_sem] theorem zsi{α β:Type}{c:Prop}[Decidable c]{x y:α}{f:α->β}:(if c then some x else some y:Option α).map f=if c then some (f x)else some (f y):=by
 split<;>rfl
end

/-! ### Storing into rows of structures -/
def z1dl(n b sz i off:Nat)(y:PV)(mem:List Blk)(t:TypeId)(fl:Bool)(es:List PV)(e:Option PV):Option (List Blk):=match e with
|some e=>if off+n<=sz/\y.cells.length=n then(ztv (isAgg e) (splice e.cells off y.cells)).bind fun e'=>if okE fl sz e'=true then some (mem.set b (.row t fl sz (es.set i e')))else none else none
|none=>none
section
variable {n b sz i off:Nat}{y:PV}{mem:List Blk}{t:TypeId}{fl:Bool}{es cs:List PV}
@[go_sem 300] theorem z1dk:z1dh n b sz i off y mem (some (.row t fl sz es))=z1dl n b sz i off y mem t fl es es[i]?:=by
 unfold z1dh z1dl
 cases h:es[i]?<;>simp[h]
@[go_sem] theorem z1dm:z1dl n b sz i off y mem t fl es (some (.agg cs))=if off+n<=sz/\y.cells.length=n then(if okE fl sz (.agg (splice cs off y.cells))=true then some (mem.set b (.row t fl sz (es.set i (.agg (splice cs off y.cells)))))else none)else none:=by
 simp only[z1dl,z8p,isAgg,ztv,L't]
@[go_sem] theorem z1do{k k':IntKind}{u v:Int}:z1dl 1 b 1 i 0 (.int k v) mem t fl es (some (.int k' u))=some (mem.set b (.row t fl 1 (es.set i (.int k v)))):=by
 simp[z1dl,isAgg,ztv,splice,PV.cells,PV.imm1,okE,PV.scalar]
@[go_sem] theorem z1dn{u v:Bool}:z1dl 1 b 1 i 0 (.bool v) mem t fl es (some (.bool u))=some (mem.set b (.row t fl 1 (es.set i (.bool v)))):=by
 simp[z1dl,isAgg,ztv,splice,PV.cells,PV.imm1,okE,PV.scalar]
@[go_sem] theorem z1dq{u v:ByteArray}:z1dl 1 b 1 i 0 (.str v) mem t fl es (some (.str u))=some (mem.set b (.row t fl 1 (es.set i (.str v)))):=by
 simp[z1dl,isAgg,ztv,splice,PV.cells,PV.imm1,okE,PV.scalar]
@[go_sem] theorem z1dp{f1 f2:Bool}{s1 s2:Nat}{u v:List PV}:z1dl 1 b 1 i 0 (.sl f1 s1 v) mem t false es (some (.sl f2 s2 u))=some (mem.set b (.row t false 1 (es.set i (.sl f1 s1 v)))):=by
 simp[z1dl,isAgg,ztv,splice,PV.cells,PV.imm1,okE]
end
end Go.Proofs.YtbaclnecajkknaaGreat.Pi

