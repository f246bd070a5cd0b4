/- Pi: operations that write nothing. -/
import Derived.Test.YtbaclnecajkknaaGreatPiApp
open Option renaming map_eq_some_iff->M'0,bind_eq_some_iff->L's
open Nat renaming add_assoc->M'k,add_mul->L'2,add_zero->M'b
open List renaming drop_drop->M'l
namespace Go.Proofs.YtbaclnecajkknaaGreat.Pi
open Go
set_option linter.all false

section
variable {P:Program}{G:Gh}{w:World}{mem:List Blk}
theorem z67{op:BinOp}{k k':IntKind}{a b:Int}{v:PV}(hk:k=k'\/op=.shl\/op=.shr)(h:binI op k a b=some v)(t:TypeId) :
  ∃v',(binOp op t (.int k a) (.int k' b)).run P w=.ok v' w/\Rp G w v v':=by
 cases op<;>simp only[binI]at h<;>simp at hk
 all_goals try subst hk
 case add=>cases h;exact⟨_,by simp[binOp,Op.intArith],rfl⟩
 case sub=>cases h;exact⟨_,by simp[binOp,Op.intArith],rfl⟩
 case mul=>cases h;exact⟨_,by simp[binOp,Op.intArith],rfl⟩
 case quo=>
  split at h
  ·cases h
  ·rename_i hb;cases h;exact⟨_,by simp[binOp,Op.intDiv,hb],rfl⟩
 case rem=>
  split at h
  ·cases h
  ·rename_i hb;cases h;exact⟨_,by simp[binOp,Op.intDiv,hb],rfl⟩
 case and=>cases h;exact⟨_,by simp[binOp,Op.intBits,bits],rfl⟩
 case or=>cases h;exact⟨_,by simp[binOp,Op.intBits,bits],rfl⟩
 case xor=>cases h;exact⟨_,by simp[binOp,Op.intBits,bits],rfl⟩
 case andNot=>cases h;exact⟨_,by simp[binOp,Op.intBits,bits],rfl⟩
 case shl=>
  split at h
  ·rename_i hb;cases h
   have:¬b<0:=by omega
   exact⟨_,by simp[binOp,Op.shift,this],rfl⟩
  ·cases h
 case shr=>
  split at h
  ·rename_i hb;cases h
   have:¬b<0:=by omega
   have hpos:(0:Int)<=2^min b.toNat k.bits:=Int.le_of_lt (Int.pow_pos (by decide))
   exact⟨.int k (a.fdiv (2^min b.toNat k.bits)),by simp[binOp,Op.shift,this],by rw[Int.fdiv_eq_ediv_of_nonneg _ hpos];rfl⟩
  ·cases h
 case eql=>cases h;exact⟨_,by simp[binOp,Op.intCmp],rfl⟩
 case neq=>cases h;exact⟨_,by simp[binOp,Op.intCmp],rfl⟩
 case lss=>cases h;exact⟨_,by simp[binOp,Op.intCmp],rfl⟩
 case leq=>cases h;exact⟨_,by simp[binOp,Op.intCmp],rfl⟩
 case gtr=>cases h;exact⟨_,by simp[binOp,Op.intCmp],rfl⟩
 case geq=>cases h;exact⟨_,by simp[binOp,Op.intCmp],rfl⟩
theorem z6a{op:BinOp}{a b:ByteArray}{v:PV}(h:binS op a b=some v)(t:TypeId) : ∃v',(binOp op t (.string a) (.string b)).run P w=.ok v' w/\Rp G w v v':=by
 unfold binS at h
 split at h
 ·split at h
  ·rename_i hle;cases h
   have:¬(9223372036854775807<((a.size:Int)+(b.size:Int))):=by omega
   exact⟨.string (a++b),by simp[binOp,Op.stringOp,this],rfl⟩
  ·cases h
 ·cases h;exact⟨.bool (a==b),by simp[binOp,Op.stringOp,beq_toListBytes],rfl⟩
 ·cases h;exact⟨.bool (a !=b),by simp[binOp,Op.stringOp,bne,beq_toListBytes],rfl⟩
 ·cases h
theorem Rp.int_inv{k:IntKind}{n:Int}{v:Value}(h:Rp G w (.int k n) v):v=.int k n:=h
theorem Rp.bool_inv{b:Bool}{v:Value}(h:Rp G w (.bool b) v):v=.bool b:=h
theorem Rp.str_inv{s:ByteArray}{v:Value}(h:Rp G w (.str s) v):v=.string s:=h
theorem zdu{op:BinOp}{t:TypeId}{x y:Operand}{a b:Value}(h:match a,b with| .nilIface,.nilIface=>False|.agg _,.agg _=>False|_,_=>True) :
  (eqGuard op t x y a b).run P w=.ok () w:=by
 unfold eqGuard
 cases op<;>simp
 all_goals(split<;>simp_all)
theorem z6l{bl:Bool}{op:BinOp}{x y v:PV}{a b:Value}(hx:Rp G w x a)(hy:Rp G w y b)(h:binV bl op x y=some v){t:TypeId}(ht:bl=true->P.underlying t=some .bool)(ox oy:Operand) :
  ∃v',(do eqGuard op t ox oy a b;binOp op t a b:Sem Value).run P w=.ok v' w/\Rp G w v v':=by
 cases x<;>cases y<;>simp only[binV]at h<;>try(cases h;done)
 ·cases hx;cases hy
  split at h
  ·rename_i hk
   obtain⟨v',h1,h2⟩:=z67 (P:=P) (G:=G) (w:=w) hk h t
   exact⟨v',by simp[Sem.run_bind,zdu,h1],h2⟩
  ·cases h
 ·cases hx;cases hy
  split at h
  ·rename_i hb
   have ht:=ht hb
   rename_i a b
   have hq:(Op.equal t (.bool a) (.bool b)).run P w=.ok (a==b) w:=run_equalIn_bool' w 9999 t a b ht
   split at h
   ·cases h
    exact⟨.bool (a==b),by simp[Sem.run_bind,zdu,binOp,hq],rfl⟩
   ·cases h
    exact⟨.bool (a !=b),by simp[Sem.run_bind,zdu,binOp,hq,bne],rfl⟩
   ·cases h
  ·cases h
 ·cases hx;cases hy
  obtain⟨v',h1,h2⟩:=z6a (P:=P) (G:=G) (w:=w) h t
  exact⟨v',by simp[Sem.run_bind,zdu,h1],h2⟩
theorem zdx(d:Nat){t e:TypeId}(ht:P.underlying t=some (.slice e))(A:Option Addr)(l c:Nat):(Op.equalIn (d+1) t (.slice A l c) (.slice none 0 0)).run P w=.ok A.isNone w:=by
 cases A<;>simp[Op.equalIn,z18i ht]
theorem zny{x:PV}{a:Value}(hx:Rp G w x a){ne:Bool}{v:PV}
  (h:znv ne x=some v)
  {t e:TypeId} (ht:P.underlying t=some (.slice e)) (ox oy:Operand) :
  ∃v',(do eqGuard (if ne then .neq else .eql) t ox oy a (.slice none 0 0);binOp (if ne then .neq else .eql) t a (.slice none 0 0):Sem Value).run P w=.ok v' w/\Rp G w v v':=by
 have key : ∀(A:Option Addr) (l c:Nat),a=.slice A l c->(do eqGuard (if ne then .neq else .eql) t ox oy a (.slice none 0 0);binOp (if ne then .neq else .eql) t a (.slice none 0 0):Sem Value).run P w=.ok (.bool (A.isNone !=ne)) w:=by
  rintro A l c rfl
  have hq:(Op.equal t (.slice A l c) (.slice none 0 0)).run P w=.ok A.isNone w:=zdx 9999 ht A l c
  cases ne<;>simp[Sem.run_bind,zdu,binOp,hq]
 cases x<;>simp only[znv]at h<;>try(cases h;done)
 case sl fl sz es=>
  split at h
  ·cases h
  ·rename_i hne;cases h
   obtain⟨A,cap,vs,h1,h2,h3,_,h4⟩:=hx
   rcases h4 with rfl| ⟨c,off,rfl,_⟩
   ·simp at hne
   ·exact⟨_,key _ _ _ h1,by cases ne<;>rfl⟩
 case nil=>
  cases h;simp only[Rp]at hx
  exact⟨_,key _ _ _ hx,by cases ne<;>rfl⟩
 case sle=>
  cases h
  obtain⟨a,c,h4⟩:=hx
  exact⟨_,key _ _ _ h4,by cases ne<;>rfl⟩
 case ref=>
  split at h
  ·cases h
  rename_i hlen
  cases h
  obtain⟨c,cap,cp,h1,h2,h3,A,h4,h5⟩:=hx
  obtain rfl:=h5.resolve_left (by omega)
  exact⟨_,key _ _ _ h4,by cases ne<;>rfl⟩
theorem z18f{t:TypeId}(ht:(P.underlying t).isSome=true){cs:List PV}{vs:List Value}(hr:RpL G w cs vs){off:Nat}{v:PV}(h:cut (aggT P t) off (P.cellsOf t) cs=some v) :
  ∃v',(part t vs.toArray off).run P w=.ok v' w/\Rp G w v v':=by
 have hl:=hr.length
 unfold cut at h
 split at h
 ·rename_i hle
  cases hag:aggT P t
  ·simp only[hag]at h
   obtain⟨v',h1,h2⟩:=hr.get off h
   refine⟨v',?_,h2⟩
   simp[part,z18c ht,hag,h1]
  ·simp only[hag,if_true]at h
   cases h
   refine⟨.agg ((vs.drop off).take (P.cellsOf t)).toArray,?_,⟨_,rfl,(hr.drop off).take _⟩⟩
   simp only[part,Sem.run_bind,z18c ht,hag,Result.andThen_ok,if_true,z18g ht,Sem.run_pure]
   congr 2
   apply Array.ext'
   simp[List.extract_eq_take_drop]
 ·cases h
theorem zdt : ∀ (fs : List Field) (k : Nat) (ks : List Nat) (cs ds : List PV) (vs us : List Value) (b : Bool) (d : Nat),
    ((fs.zipIdx k).mapM fun p => if p.1.name ≠ "_" /\ p.1.offset = p.2 then (match P.underlying p.1.type with | some (.int _) => some 0 | some .bool => some 1 | some .string => some 2 | _ => none) else none) = some ks ->
    RpL G w cs (vs.drop k) -> RpL G w ds (us.drop k) -> eqL ks cs ds = some b -> (Op.eqFields (d + 1) vs.toArray us.toArray fs).run P w = .ok b w
  | [], k, ks, cs, ds, vs, us, b, d, h, _, _, he => by
    simp at h; subst h
    cases cs <;> cases ds <;> simp [eqL] at he
    subst he; simp [Op.eqFields]
  | f :: fs, k, ks, cs, ds, vs, us, b, d, h, hc, hd, he => by
    rw [List.zipIdx_cons, List.mapM_cons] at h
    simp only [Option.pure_def, Option.bind_eq_bind, L's] at h
    obtain ⟨k0, h1, ks', h2, h3⟩ := h
    cases h3
    split at h1
    case isFalse => cases h1
    rename_i hn
    obtain ⟨hn1, hn2⟩ := hn
    cases cs with
    | nil => simp [eqL] at he
    | cons c cs =>
    cases ds with
    | nil => simp [eqL] at he
    | cons e ds =>
    simp only [eqL, L's, M'0] at he
    obtain ⟨b1, e1, b2, e2, rfl⟩ := he
    obtain ⟨v, vr, hv, hcv, hcr⟩ := hc
    obtain ⟨u, ur, hu, hdv, hdr⟩ := hd
    have hvr : vs.drop (k + 1) = vr := by rw [<- M'l, hv]; rfl
    have hur : us.drop (k + 1) = ur := by rw [<- M'l, hu]; rfl
    have hvk : vs[k]? = some v := by have : (vs.drop k)[0]? = some v := by rw [hv]; rfl
                                     simpa using this
    have huk : us[k]? = some u := by have : (us.drop k)[0]? = some u := by rw [hu]; rfl
                                     simpa using this
    have ih := zdt fs (k + 1) ks' cs ds vs us b2 d h2 (hvr ▸ hcr) (hur ▸ hdr) e2
    have hp : ∀ (xs : List Value) (x : Value), xs[k]? = some x -> (∃ dd, P.underlying f.type = some dd /\ (match dd with | .struct _ | .array _ _ => False | _ => True)) -> (part f.type xs.toArray f.offset).run P w = .ok x w := by
      rintro xs x hx ⟨dd, hdd, hm⟩
      have hag : aggT P f.type = false := by
        simp only [aggT, hdd]; split at hm <;> simp_all
      have hs : (P.underlying f.type).isSome = true := by simp [hdd]
      simp [part, z18c hs, hag, hn2, hx]
    unfold Op.eqFields
    rw [if_pos hn1]
    split at h1
    · rename_i kd hu'
      cases h1
      cases c <;> cases e <;> simp only [eq1] at e1 <;> try (cases e1; done)
      split at e1
      · rename_i hk; subst hk
        cases e1
        cases hcv; cases hdv
        simp only [Sem.run_bind, hp vs _ hvk ⟨_, hu', trivial⟩, hp us _ huk ⟨_, hu', trivial⟩, Result.andThen_ok, run_equalIn_int w d f.type _ _ _ _ hu']
        split
        · rename_i hb; simp_all
        · rename_i hb; simp_all
      · cases e1
    · rename_i hu'
      cases h1
      cases c <;> cases e <;> simp only [eq1] at e1 <;> try (cases e1; done)
      cases e1
      cases hcv; cases hdv
      simp only [Sem.run_bind, hp vs _ hvk ⟨_, hu', trivial⟩, hp us _ huk ⟨_, hu', trivial⟩, Result.andThen_ok, run_equalIn_bool' w d f.type _ _ hu']
      split
      · rename_i hb; simp_all
      · rename_i hb; simp_all
    · rename_i hu'
      cases h1
      cases c <;> cases e <;> simp only [eq1] at e1 <;> try (cases e1; done)
      cases e1
      cases hcv; cases hdv
      simp only [Sem.run_bind, hp vs _ hvk ⟨_, hu', trivial⟩, hp us _ huk ⟨_, hu', trivial⟩, Result.andThen_ok, run_equalIn_string w d f.type _ _ hu', <- beq_toListBytes]
      split
      · rename_i hb; simp_all
      · rename_i hb; simp_all
    · cases h1

theorem zdw{ne:Bool}{ks:List Nat}{cs ds:List PV}{a b:Value}(hx:Rp G w (.agg cs) a)(hy:Rp G w (.agg ds) b){r:Bool}(h:eqL ks cs ds=some r){t:TypeId}{fs:Array Field}(ht:P.underlying t=some (.struct fs))
  (hk:zop P t fs=some ks) (ox oy:Operand) :
  ∃v',(do eqGuard (if ne then .neq else .eql) t ox oy a b;binOp (if ne then .neq else .eql) t a b:Sem Value).run P w=.ok v' w/\Rp G w (.bool (r !=ne)) v':=by
 obtain⟨vs,rfl,h1⟩:=hx
 obtain⟨us,rfl,h2⟩:=hy
 unfold zop at hk
 split at hk
 ·cases hk
 rename_i hno
 simp only[Bool.or_eq_true,not_or,Bool.not_eq_true]at hno
 have hf:P.fieldsOf t=fs:=by simp[Program.fieldsOf,ht]
 have he:=zdt (P:=P) fs.toList 0 ks cs ds vs us r 9998 hk (by simpa using h1) (by simpa using h2) h
 have hq:(Op.equalIn 10000 t (.agg vs.toArray) (.agg us.toArray)).run P w=.ok r w:=by
  rw[run_equalIn_struct w 9999 t _ _ (by rw[hf];exact ht) hno.1,hf];exact he
 refine⟨.bool (r !=ne),?_,rfl⟩
 rw[Sem.run_bind,run_eqGuard_agg w _ t ox oy _ _ hno.2,Result.andThen_ok]
 cases ne
 ·simp[run_eql_struct,hq]
 ·simp[run_neq_struct,hq]
theorem zg6{s:TypeId}{f:Nat}{fd:Field}(h:zg5 P s f=some fd):∃fs,P.underlying s=some (.struct fs)/\fs[f]?=some fd:=by
 unfold zg5 at h
 split at h
 ·rename_i fs hs;exact⟨fs,hs,h⟩
 ·cases h
theorem zdh{t e:TypeId}(h:zdg P t=some e):P.underlying t=some (.slice e):=by
 unfold zdg at h
 split at h
 ·rename_i e' hs;cases h;exact hs
 ·cases h
theorem zg0{s:TypeId}{f:Nat}{fd:Field}(hf:zg5 P s f=some fd)(ht:(P.underlying fd.type).isSome=true)(hp:0<P.cellsOf fd.type){x v:PV}{a:Value}(hx:Rp G w x a)
  (h:zfy fd.offset x=some v) :
  ∃v',(Instr.fieldAt s a f).run P w=.ok v' w/\Rp G w v v':=by
 obtain⟨fs,h1,h2⟩:=zg6 hf
 have key:∀(c o:Nat),(Instr.fieldAt s (.pointer (some ⟨c,o,none⟩)) f).run P w=.ok (.pointer (some ⟨c,o+fd.offset,none⟩)) w:=by
  intro c o
  have hne:¬P.cellsOf fd.type=0:=by omega
  simp[Instr.fieldAt,z18i h1,h2,Instr.sureAddr,fieldPlace,z18g ht,hne,z23]
 cases x<;>simp only[zfy]at h<;>try(cases h;done)
 case ptr b o=>
  cases h
  obtain⟨c,cp,k1,rfl⟩:=hx
  exact⟨_,key c o,c,cp,k1,rfl⟩
 case ep b sz i o=>
  cases h
  obtain⟨c,cp,k1,rfl⟩:=hx
  exact⟨_,key c _,c,cp,k1,by rw[M'k]⟩
 case pv y o=>
  cases h
  obtain⟨c,q,vx,rfl,k2⟩:=hx
  exact⟨_,key c _,c,q,vx,by rw[M'k],k2⟩
theorem zg7{s:TypeId}{f:Nat}{fd:Field}(hf:zg5 P s f=some fd)(ht:(P.underlying fd.type).isSome=true){cs:List PV}{v:PV}{a:Value}(hx:Rp G w (.agg cs) a)
  (h:cut (aggT P fd.type) fd.offset (P.cellsOf fd.type) cs=some v):∃v',(Instr.field s a f).run P w=.ok v' w/\Rp G w v v':=by
 obtain⟨fs,h1,h2⟩:=zg6 hf
 obtain⟨vs,rfl,h3⟩:=hx
 obtain⟨v',h4,h5⟩:=z18f ht h3 h
 exact⟨v',by simp[Instr.field,z18i h1,h2,asAgg,h4],h5⟩
theorem zld{i:Int}{n j:Nat}(h:idx i n=some j):0<=i/\i<n/\i.toNat=j:=by
 unfold idx at h
 split at h
 ·rename_i hc;cases h;exact⟨hc.1,hc.2,rfl⟩
 ·cases h
theorem zkw(hG:Good G w mem){t e:TypeId}(ht:P.underlying t=some (.slice e))(he:(P.underlying e).isSome=true){x i v:PV}{a b:Value}(hx:Rp G w x a)(hi:Rp G w i b)
  (h:zkv mem (P.cellsOf e) x i=some v):∃v',(Instr.indexAt t a b).run P w=.ok v' w/\Rp G w v v':=by
 have key:∀(c o len cap:Nat) (k:IntKind) (n:Int) (j:Nat),0<=n->n<len->n.toNat=j ->
   (Instr.indexAt t (.slice (some ⟨c,o,none⟩) len cap) (.int k n)).run P w=.ok (.pointer (some ⟨c,o+j*P.cellsOf e,none⟩)) w:=by
  intro c o len cap k n j h0 h1 h2
  simp[Instr.indexAt,asIntOf,z18i ht,h0,h1,z18g he,z23,h2]
 unfold zkv at h
 split at h
 ·rename_i fl sz' es k n
  cases hi
  split at h
  ·rename_i hsz;subst hsz
   simp only[L's,M'0]at h
   obtain⟨j,h1,e0,h2,rfl⟩:=h
   obtain⟨h3,h4,h5⟩:=zld h1
   obtain⟨A,cap,vs,rfl,k2,k3,_,k4⟩:=hx
   rcases k4 with rfl| ⟨c,off,rfl,k5,k6⟩
   ·simp at h2
   ·obtain⟨u,m1,m2,m3⟩:=RpEs.get j k3 h2
    refine⟨_,key c off _ cap k n j h3 h4 h5,c,off+j*P.cellsOf e,u,by simp,hG.ST c k5,(RpI.up m2).2 m1,zw9 m2,?_⟩
    exact k6.sub (j*P.cellsOf e) m3
  ·cases h
 ·rename_i b0 sz' off len k n
  cases hi
  split at h
  ·rename_i hsz;subst hsz
   simp only[M'0]at h
   obtain⟨j,h1,rfl⟩:=h
   obtain⟨h3,h4,h5⟩:=zld h1
   obtain⟨c,cap,cp,k1,k2,k3,A,rfl,k4⟩:=hx
   obtain rfl:=k4.resolve_left (by omega)
   exact⟨_,key c _ len cap k n j h3 h4 h5,c,cp,k1,by rw[L'2,M'b]⟩
  ·cases h
 ·rename_i b0 sz' off len k n
  cases hi
  split at h
  ·rename_i hsz;subst hsz
   simp only[M'0]at h
   obtain⟨j,h1,rfl⟩:=h
   obtain⟨h3,h4,h5⟩:=zld h1
   obtain⟨c,o,n',cap,k1,k2,k3,A,rfl,k4⟩:=hx
   obtain rfl:=k4.resolve_left (by omega)
   exact⟨_,key c _ len cap k n j h3 h4 h5,c,o,n',k1,by rw[<-M'k,L'2 (o+off),M'b]⟩
  ·cases h
 ·cases h
theorem z1e2{t:TypeId}(ht:P.underlying t=some .string){s:ByteArray}{k:IntKind}{n:Int}{u:UInt8}(h0:0<=n)(h:s[n.toNat]?=some u) :
  (Instr.index t (.string s) (.int k n)).run P w=.ok (.int .u8 u.toNat) w:=by
 simp[Instr.index,asIntOf,z18i ht,h0,h]
theorem zfx{vs:List PV}{a:Value}(hx:Rp G w (.tup vs) a){i:Nat}{v:PV}(h:vs[i]?=some v):∃v',(Instr.extract a i).run P w=.ok v' w/\Rp G w v v':=by
 obtain⟨us,rfl,h1⟩:=hx
 obtain⟨v',h2,h3⟩:=h1.get i h
 exact⟨v',by simp[Instr.extract,h2],h3⟩
theorem zqe{st:Bool}{x:PV}{a:Value}(hx:Rp G w x a){n:Nat}(h:lenV st x=some n){t ty:TypeId}(ht:if st then P.underlying t=some .string else∃e,P.underlying t=some (.slice e)) :
  (Builtin.len_ #[t] ty #[a]).run P w=.ok (.int .i64 n) w:=by
 cases st
 ·obtain⟨e,ht⟩:=by simpa using ht
  have key:∀A l c,(Builtin.len_ #[t] ty #[.slice A l c]).run P w=.ok (.int .i64 l) w:=by
   intro A l c;simp[Builtin.len_,z18i ht,goInt]
  cases x<;>simp[lenV]at h<;>subst h
  case sl=>obtain⟨A,cap,vs,rfl,_⟩:=hx;exact key _ _ _
  case nil=>simp only[Rp]at hx;subst hx;exact key _ _ _
  case ref=>obtain⟨c,cap,cp,k1,k2,k3,A,rfl,_⟩:=hx;exact key _ _ _
  case qref=>obtain⟨c,o,n',cap,k1,k2,k3,A,rfl,_⟩:=hx;exact key _ _ _
 ·have ht:P.underlying t=some .string:=by simpa using ht
  cases x<;>simp[lenV]at h
  subst h;cases hx
  simp[Builtin.len_,z18i ht,goInt]
end
end Go.Proofs.YtbaclnecajkknaaGreat.Pi

