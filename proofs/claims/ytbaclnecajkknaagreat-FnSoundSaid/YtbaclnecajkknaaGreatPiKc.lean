/- Pi: a region that calls a function on a row that lies in a row. -/
import Derived.Test.YtbaclnecajkknaaGreatPiReg
open Option renaming bind_eq_some_iff->L's,map_eq_some_iff->M'0
open List renaming getElem?_eq_some_iff->L'b,drop_eq_getElem_cons->N'l,getElem?_set->L'k,getElem?_eq_getElem->L'v,length_singleton->N'm
namespace Go.Proofs.YtbaclnecajkknaaGreat.Pi
open Go
set_option linter.all false

section
variable {P:Program}{mf:Md}{N:Nat}{slots:List Nat}{ops:Array Oper}{ord:List Nat}{c:Ctx}{G:Gh}{w:World}{mem:List Blk}{a:Act}{rs fr:List PV}
def z184(orc:Orc):List IOper->(rs fr:List PV)->(mem:List Blk)->Option (List PV×St)
|[],rs,fr,mem=>some (rs,⟨fr,mem⟩)
|o::os,rs,fr,mem=>(z1cq orc rs fr mem o).bind fun x=>z184 orc os (rs++[x.1]) x.2.1 x.2.2
theorem z185{orc:Orc}:∀{l:List IOper}{rs fr:List PV}{mem:List Blk}{x:List PV×St},z184 orc l rs fr mem=some x->x.1.length=rs.length+l.length
 |[],rs,fr,mem,x,h=>by simp only[z184,Option.some.injEq]at h;subst h;simp
 |o::os,rs,fr,mem,x,h=>by
  simp only[z184,L's]at h
  obtain⟨y,_,h2⟩:=h
  have:=z185 h2
  simp at this⊢;omega
theorem z186{orc:Orc}(hor:OrcOk P orc)(hc:RegC P mf N slots ops ord c){ios:List IOper}(hlen:ios.length=ord.length)
  (hios:∀(p k:Nat),ord[p]?=some k->∃o q,ops[k]?=some o/\ios[p]?=some (zzi P mf q c ord o)) {Q:Exit->Act->World->Prop} {rs':List PV} {st':St} :
  ∀(d:Nat) (rs fr:List PV) (mem:List Blk) (G:Gh) (w:World) (a:Act),rs.length+d<=ord.length->Good G w mem->RelO G w c a rs fr->fr.length=slots.length->N<=a.tmps.size->a.defers=[] ->
   z184 orc ((ios.drop rs.length).take d) rs fr mem=some (rs',st') ->
   (∀G' w' a',Ext G w mem G' w' st'.mem->Good G' w' st'.mem->RelO G' w' c a' rs' st'.fr->st'.fr.length=slots.length->N<=a'.tmps.size->a'.defers=[]->wpOps P ops Q (ord.drop (rs.length+d)) a' w')->wpOps P ops Q (ord.drop rs.length) a w
 |0,rs,fr,mem,G,w,a,hd,hG,hr,hfl,hN,hdef,h,hQ=>by
  simp only[List.take_zero,z184,Option.some.injEq,Prod.mk.injEq]at h
  obtain⟨rfl,rfl⟩:=h
  exact hQ G w a (.refl G w mem) hG hr hfl hN hdef
 |d+1,rs,fr,mem,G,w,a,hd,hG,hr,hfl,hN,hdef,h,hQ=>by
  have hp:rs.length<ord.length:=by omega
  have hk:ord[rs.length]?=some ord[rs.length]:=L'v hp
  obtain⟨o,q,ho,hi⟩:=hios _ _ hk
  have hdrop:ios.drop rs.length=zzi P mf q c ord o::ios.drop (rs.length+1):=by
   rw[N'l (by omega)]
   congr 1
   rw[L'v (by omega)]at hi
   exact Option.some.inj hi
  rw[hdrop,List.take_succ_cons]at h
  simp only[z184,L's]at h
  obtain⟨⟨v,fr',mem'⟩,h1,h2⟩:=h
  rw[N'l hp,wpOps_cons]
  refine zzk hor hc hG hr (by omega) (List.getElem_mem hp) ho rfl h1 ?_
  intro G' w' v' g x r
  have hfr':fr'=setFr fr (o.dst.bind c.slots.idxOf?) v:=by
   simp only[z1cq,zzi,L's]at h1
   obtain⟨b,_,h3⟩:=h1
   split at h3
   ·simp only[M'0,Prod.mk.injEq]at h3
    obtain⟨⟨v1,m1⟩,_,h4,h5,_⟩:=h3
    rw[<-h5,<-h4]
   ·simp only[Option.some.injEq,Prod.mk.injEq]at h3
    obtain⟨h4,h5,_⟩:=h3
    rw[<-h5,<-h4]
  subst hfr'
  have hr':=z14x hc hG hr hN hfl ho hk x r
  have:=z186 hor hc hlen hios d (rs++[v]) (setFr fr (o.dst.bind c.slots.idxOf?) v) mem' G' w' (a.put o.dst v') (by simp;omega) g hr' (by rw[z19a];exact hfl) (by rw[z1az];exact hN) (by rw[zco];exact hdef) (by simpa using h2)
   (fun G'' w'' a'' e s r3 f1 f2 f3=>by
    have:=hQ G'' w'' a'' (x.trans e) s r3 f1 f2 f3
    rw[show rs.length+(d+1)=(rs++[v]).length+d by simp;omega]at this
    exact this)
  simpa using this
theorem zxq{k:Nat}{o:Oper}(hc:RegC P mf N slots ops ord c)(hG:Good G w mem)(hr:RelO G w c a rs fr)(hN:N<=a.tmps.size)(hfl:fr.length=slots.length)(ho:ops[k]?=some o)(hk:ord[rs.length]?=some k)(hg:o.guard=none)
  {Q:Exit->Act->World->Prop}{K:Act->World->Prop}(hw:o.wp P a w K Q)(hK:∀a' w',K a' w'->wpOps P ops Q (ord.drop (rs.length+1)) a' w'):wpOps P ops Q (ord.drop rs.length) a w:=by
 obtain⟨hp,he⟩:=L'b.1 hk
 rw[N'l hp,wpOps_cons,he]
 unfold wpOp
 have:Region.wanted o (yielded ops a.tmps)=true:=by simp[Region.wanted,hg]
 simp only[ho,this,if_true]
 exact .inl (Oper.wp_mono hK hw)
/-! ### Operations by their forms -/
theorem zxx{q:Bool}{o:Oper}{ag:Bool}{n:Nat}{x:Opd}(h:opOf P mf q c o=some (.load ag n x)):∃t ad,o.op=.load t ad/\(P.underlying t).isSome=true/\opdOf P c 0 ad=some x/\aggT P t=ag/\P.cellsOf t=n:=by
 obtain⟨dst,op,type,pos,after,guard⟩:=o
 cases op<;>simp only[opOf]at h<;>try(cases h;done)
 case load t ad=>
  split at h
  ·rename_i ht
   simp only[M'0]at h
   obtain⟨ox,h1,h2⟩:=h
   have key:IOp.load (aggT P t) (P.cellsOf t) ox=.load ag n x:=by
    split at h2
    ·split at h2
     ·split at h2<;>cases h2
     ·exact h2
    ·exact h2
   cases key
   exact⟨t,ad,rfl,ht,h1,rfl,rfl⟩
  ·cases h
 all_goals
  exfalso
  (repeat' split at h)
  all_goals first
   |(cases h;done)
   |(simp only[L's,M'0,Option.some.injEq]at h;grind)
   |(simp only[L's]at h;obtain⟨_,_,h⟩:=h;(repeat' split at h)<;>first| (cases h;done)|(simp only[L's,M'0,Option.some.injEq]at h;grind))
theorem zxy{q:Bool}{o:Oper}{x:Opd}(h:opOf P mf q c o=some (.mov x)):∃ad,(o.op=.move ad\/o.op=.assign ad)/\opdOf P c o.type ad=some x:=by
 obtain⟨dst,op,type,pos,after,guard⟩:=o
 cases op<;>simp only[opOf]at h<;>try(cases h;done)
 case move ad=>
  split at h
  ·split at h<;>cases h
  ·simp only[M'0]at h
   obtain⟨ox,h1,h2⟩:=h
   cases h2
   exact⟨ad,.inl rfl,h1⟩
 case assign ad=>
  split at h
  ·split at h<;>cases h
  ·simp only[M'0]at h
   obtain⟨ox,h1,h2⟩:=h
   cases h2
   exact⟨ad,.inr rfl,h1⟩
 all_goals
  exfalso
  (repeat' split at h)
  all_goals first
   |(cases h;done)
   |(simp only[L's,M'0,Option.some.injEq]at h;grind)
   |(simp only[L's]at h;obtain⟨_,_,h⟩:=h;(repeat' split at h)<;>first| (cases h;done)|(simp only[L's,M'0,Option.some.injEq]at h;grind))
theorem zxw{q:Bool}{o:Oper}{f:FuncId}{xs:List Opd}(h:opOf P mf q c o=some (.callm f xs)):∃cl,o.op=.call cl/\cl.callee=.value (.func f)/\cl.args.toList.length=cl.argTypes.toList.length/\((cl.args.toList.zip cl.argTypes.toList).mapM fun p=>opdOf P c p.2 p.1)=some xs:=by
 obtain⟨dst,op,type,pos,after,guard⟩:=o
 cases op<;>simp only[opOf]at h<;>try(cases h;done)
 case call cl=>
  cases hcl:cl.callee with
  |value g=>
   simp only[hcl,L's]at h
   obtain⟨os,h1,h2⟩:=h
   split at h2
   case isFalse=>cases h2
   rename_i hsz
   split at h2
   ·simp only[Option.some.injEq]at h2
    split at h2
    ·cases h2
     exact⟨cl,rfl,hcl,by simpa using hsz,h1⟩
    ·cases h2
   ·simp only[M'0]at h2
    obtain⟨_,_,h2⟩:=h2
    cases h2
  |invoke r m=>simp[hcl]at h
  |builtin b=>
   exfalso
   simp only[hcl]at h
   (repeat' split at h)
   all_goals first
    |(cases h;done)
    |(simp only[L's,M'0,Option.some.injEq]at h;grind)
    |(simp only[L's]at h;obtain⟨_,_,_,_,_,_,_,_,h⟩:=h;(repeat' split at h)<;>first| (cases h;done)|grind)
    |(obtain⟨_,_,h⟩:=L's.1 h;split at h<;>first| (cases h;done)|(simp only[L's,M'0,Option.some.injEq]at h;grind))
 all_goals
  exfalso
  (repeat' split at h)
  all_goals first
   |(cases h;done)
   |(simp only[L's,M'0,Option.some.injEq]at h;grind)
   |(simp only[L's]at h;obtain⟨_,_,h⟩:=h;(repeat' split at h)<;>first| (cases h;done)|(simp only[L's,M'0,Option.some.injEq]at h;grind))
theorem lidx{α:Type}[BEq α][LawfulBEq α]{l:List α}{x:α}{i:Nat}(h:l.idxOf? x=some i):l[i]?=some x:=by
 induction l generalizing i with
 |nil=>simp at h
 |cons y l ih=>
  rw[List.idxOf?_cons]at h
  split at h
  ·rename_i he
   cases h
   have he:y=x:=by simpa using he
   simp[he]
  ·simp only[M'0]at h
   obtain⟨j,h1,rfl⟩:=h
   simpa using ih h1
theorem zy2{t:TypeId}{x:Operand}{j:Nat}(h:opdOf P c t x=some (.r j)):∃s,x=.tmp s/\c.ops[j]?=some (some s):=by
 cases x with
 |tmp s=>
  simp only[opdOf]at h
  split at h
  ·cases h
  ·simp only[M'0]at h
   obtain⟨i,h1,h2⟩:=h
   cases h2
   exact⟨s,rfl,lidx h1⟩
 |const v=>simp only[opdOf,M'0]at h;obtain⟨_,_,h⟩:=h;cases h
 |func f=>simp[opdOf]at h
 |global g=>simp[opdOf]at h
theorem zo9 {orc : Orc} (hor : OrcOk P orc) (hG : Good G w mem) {b cb cp : Nat} {t : TypeId} {sz : Nat} {es : List PV} (hb : mem[b]? = some (.lin t sz es)) (hi : G.ids b = some (cb, cp)) {j off : Nat} {e kv r e' : PV} {f : FuncId} (he : es[j]? = some e)
    (hk : zoa orc f sz off e kv = some (r, e')) :
    ∃ v, w.cell? ⟨cb, j * sz + off, none⟩ = some v /\ z06 P f /\ ∀ kw, Rp G w kv kw -> Calls P f #[v, kw] w fun e1 w1 => match e1 with
      | .returned v' => ∃ G', Good G' w1 (mem.set b (.lin t sz (es.set j e'))) /\ Ext G w mem G' w1 (mem.set b (.lin t sz (es.set j e'))) /\ Rp G' w1 r v'
      | _ => False := by
  unfold zoa at hk
  split at hk
  case h_2 => cases hk
  rename_i s1 es1 kk n hcell
  have h0 : es ≠ [] := by rintro rfl; simp at he
  obtain ⟨arr, vs, fp, e1, e2, e3, e4, e5, e6, e7, e8⟩ := zr3 (hG.blk b _ cb cp hb hi) h0
  have hel := zw7 (e4 e (List.mem_of_getElem? he))
  have hget := zh9 e4 he
  have hoff : off < sz := by rw [<- hel]; exact (L'b.1 hcell).1
  have hx : (es.flatMap PV.cells)[j * sz + off]? = some (.sl true s1 es1) := by
    have := hcell
    rw [<- hget, List.getElem?_take, if_pos hoff, List.getElem?_drop] at this
    exact this
  obtain ⟨v, f1, g, f3, q1, rfl, q3, q4, q5⟩ := e5.at_ _ hx
  have hcl : w.cell? ⟨cb, j * sz + off, none⟩ = some v := by
    have := At.row0 e1 e6 (j * sz + off) v q1
    simpa using this
  have htop : Top G mem cb := ⟨b, _, cp, hb, z100 h0, hi⟩
  have hvl : vs.length = es.length * sz := by rw [e5.length, zha e4]
  refine ⟨v, hcl, ?_⟩
  split at hk
  · -- nothing there
    rename_i hem
    have hem : es1 = [] := by simpa using hem
    subst hem
    simp only [L's] at hk
    obtain ⟨⟨r0, M1⟩, h1, h2⟩ := hk
    split at h2
    case h_2 => cases h2
    rename_i k2 n2 hr0
    simp only at hr0
    subst hr0
    cases h2
    obtain ⟨hent, hcall⟩ := hor _ _ _ _ _ h1
    refine ⟨hent, fun kw hkw => ?_⟩
    have hkw : kw = .int kk n := hkw
    subst hkw
    have hvr : RpI G.S w (.sl true s1 []) v := q3.toI fun x hx => by
      rcases q3 with ⟨rfl, _⟩ | ⟨_, _, _, _, _, _, h3, h4, _⟩
      · cases hx
      · cases h3; exact (h4 rfl).elim
    have gc : Good ⟨G.S, G.T, fun _ => none, fun _ => none⟩ w [] := ⟨fun b p hp => (by cases hp), fun b k c cp hb => (by simp at hb), hG.ST, hG.lt, fun c hc => (zvp (fun _ => rfl) hc).elim, fun b b' k k' c cp cp' hb => (by simp at hb), fun c d hd => (by cases hd), fun c d hd => (by cases hd)⟩
    refine Calls.mono (hcall _ w [v, .int kk n] gc ⟨v, _, rfl, hvr, .int kk n, [], rfl, rfl, rfl⟩) fun e1 w1 hp => ?_
    cases e1 with
    | panicked _ => exact hp
    | outgrown => exact hp
    | returned v' =>
      obtain ⟨G1, us, _, p2, p3, _⟩ := hp
      obtain ⟨g1, g2⟩ := hG.grew (Grew.of_wx (fun _ => rfl) p2)
      have hse : es.set j e = es := by
        apply List.ext_getElem?
        intro i
        rw [L'k]
        split
        · rename_i hij; subst hij; rw [if_pos (L'b.1 he).1, he]
        · rfl
      rw [hse, z19k hb]
      exact ⟨G, g1, g2, p3.2⟩
  · rename_i hem
    have hne : es1 ≠ [] := by simpa using hem
    simp only [L's] at hk
    obtain ⟨⟨r0, M1⟩, h1, h2⟩ := hk
    split at h2
    case h_2 => cases h2
    rename_i k2 n2 t2 s2 es2 hr0 hM1
    simp only at hr0 hM1
    subst hr0 hM1
    split at h2
    case isFalse => cases h2
    rename_i hq
    obtain ⟨rfl, hl2⟩ := hq
    simp only [L's] at h2
    obtain ⟨e0, h3, h4⟩ := h2
    split at h4
    case isFalse => cases h4
    rename_i hok
    cases h4
    obtain ⟨hent, hcall⟩ := hor _ _ _ _ _ h1
    refine ⟨hent, fun kw hkw => ?_⟩
    have hkw : kw = .int kk n := hkw
    subst hkw
    rcases q3 with ⟨_, hq3⟩ | ⟨c', cp', tt, sq, eq, rfl, hxe, hne', rfl, hle, cs, us0, m1, m2, m3, m4⟩
    · exfalso
      rcases hq3 with ⟨h, _⟩ | ⟨_, _, h, _⟩ | ⟨_, _, _, _, h, _⟩
      · cases h
      · cases h
      · cases h; exact hne rfl
    cases hxe
    have hXc : G.X c' = some cb := e8 c' (by simp)
    have hownc : Own G mem c' := .inr ⟨cb, hXc⟩
    have hcc : c' ≠ cb := by rintro rfl; exact hG.xap _ _ hXc htop
    have gc : Good ⟨G.S, G.T, fun i => if i = 0 then some (c', cp') else none, fun _ => none⟩ w [.row 0 true s2 es1] := by
      refine ⟨fun i p hp => ?_, fun i k x y hk hp => ?_, hG.ST, hG.lt, fun x hx => ?_, fun i i' k k' x y y' h1 h2 _ _ _ _ => ?_, fun x d hd => (by cases hd), fun x d hd => (by cases hd)⟩
      · simp only at hp
        split at hp
        · rename_i hi0; subst hi0; simp
        · cases hp
      · simp only at hp
        split at hp
        · rename_i hi0; subst hi0
          cases hp
          simp at hk; subst hk
          exact .inr ⟨hne, tt, cs, us0, m1, m2, hle, m3.mono (fun (_ : Nat) (h : False) => h.elim), m4⟩
        · cases hp
      · rcases hx with ⟨i, k, y, h1, h2, h3⟩ | ⟨d, hd⟩
        · simp only at h3
          split at h3
          · cases h3; exact hG.apart c' hownc
          · cases h3
        · cases hd
      · have l1 := (L'b.1 h1).1
        have l2 := (L'b.1 h2).1
        simp at l1 l2; omega
    refine Calls.mono (hcall _ w [.slice (some ⟨c', 0, none⟩) es1.length cp', .int kk n] gc ⟨_, _, rfl, ⟨c', cp', cp', by simp, by omega, hle, _, rfl, .inr (by simp)⟩, .int kk n, [], rfl, rfl, rfl⟩) fun e1 w1 hp => ?_
    cases e1 with
    | panicked _ => exact hp
    | outgrown => exact hp
    | returned v' =>
      obtain ⟨G1, us, p1, p2, p3, p4, p5, p6, p7⟩ := hp
      have hids : G1.ids 0 = some (c', cp') := by rw [p6 0 (by simp)]; simp
      have hne2 : es2 ≠ [] := by rintro rfl; simp at hl2; exact hne (List.eq_nil_of_length_eq_zero hl2.symm)
      have hO1 : Own G1 [.row t2 true s2 es2] c' := .inl ⟨0, _, cp', rfl, z101 hne2, hids⟩
      have hOc : ∀ x, Own (⟨G.S, G.T, fun i => if i = 0 then some (c', cp') else none, fun _ => none⟩ : Gh) [.row 0 true s2 es1] x -> x = c' := by
        rintro x (⟨i, k, y, h1, h2, h3⟩ | ⟨d, hd⟩)
        · simp only at h3
          split at h3
          · cases h3; rfl
          · cases h3
        · cases hd
      have hsame : ∀ x, x < w.heap.size -> x ≠ c' -> w1.heap[x]? = w.heap[x]? := fun x hx hn => p2.same x hx fun ho => hn (hOc x ho)
      let G' : Gh := ⟨G1.S, G1.T, G.ids, G.X⟩
      have hle' : Le G w G' w1 := ⟨p2.S, p2.T, hG.ST, fun x hx => hsame x (hG.lt x hx) (by rintro rfl; exact hG.apart _ hownc hx), fun _ _ h => h⟩
      have hxs : ∀ x d, G.X x = some d -> x ≠ c' -> w1.heap[x]? = w.heap[x]? := fun x d hd hn => hsame x (hG.xlt x d hd) hn
      have htops : ∀ x, Top G' (mem.set b (.lin t sz (es.set j e'))) x -> Top G mem x := fun x hx => Top.set (G := G) hb (fun _ => z100 h0) hx
      have howns : ∀ x, Own G' (mem.set b (.lin t sz (es.set j e'))) x -> Own G mem x := fun x hx => hx.imp (htops x) id
      have hhb : w1.heap[cb]? = some (.cells arr t (0, 0)) := by rw [hsame cb (hG.ownLt (.inl htop)) hcc.symm]; exact e1
      obtain ⟨tq, cs2, us2, n1, n2', n3, n4, n5⟩ := z176 (p1.blk 0 _ c' cp' rfl hids) hne2
      have hndf : c' ∉ f1 /\ c' ∉ f3 := by
        rw [List.append_assoc, List.nodup_append] at e7
        obtain ⟨_, d2, d3⟩ := e7
        refine ⟨fun h => d3 c' h c' (by simp) rfl, fun h => ?_⟩
        simp at d2
        exact d2.1 h
      refine ⟨G', ⟨fun i p hp => by simpa using hG.bnd i p hp, fun i k x y h1 h2 => ?_, p1.ST, p1.lt, fun x hx hT => ?_, fun i i' k k' x y y' h1 h2 h3 h4 h5 h6 => ?_, fun x d hd => Nat.lt_of_lt_of_le (hG.xlt x d hd) p2.size, fun x d hd ht => hG.xap x d hd (htops x ht)⟩,
        ⟨⟨p2.os, p2.tape, p2.output, p2.size, fun x hx hn => hsame x hx (by rintro rfl; exact hn hownc), fun x hx => .inl (howns x hx), p2.S, p2.T, fun x hx => ?_, fun x hx => ?_⟩, by simp, fun _ _ => rfl, fun i _ hn => ?_⟩, p3.2⟩
      · rw [L'k] at h1
        split at h1
        · rename_i hbi; subst hbi
          split at h1
          · cases h1
            have h2 : G.ids b = some (x, y) := h2
            rw [hi] at h2; cases h2
            have hcells := zhc e4 he (ztw h3) (by rw [N'm]; exact hoff)
            simp only [N'm] at hcells
            refine .inr ⟨by simpa using h0, arr, vs, f1 ++ [c'] ++ f3, hhb, e2, by simpa using e3, fun z hz => ?_, ?_, by simpa using e6, e7, e8⟩
            · rcases List.mem_or_eq_of_mem_set hz with hz | rfl
              · exact e4 z hz
              · exact hok
            · rw [hcells]
              have hvs : vs = vs.take (j * sz + off) ++ [.slice (some ⟨c', 0, none⟩) es1.length cp'] ++ vs.drop (j * sz + off + 1) := by
                obtain ⟨hl, hv⟩ := L'b.1 q1
                conv => lhs; rw [<- List.take_append_drop (j * sz + off) vs, N'l hl, hv]
                simp
              rw [hvs]
              refine ((q4.mono fun z hz => hxs z cb (e8 z (by simp [hz])) (by rintro rfl; exact hndf.1 hz)).append (show RpD w1 [PV.sl true s2 es2] [.slice (some ⟨c', 0, none⟩) es1.length cp'] [c'] from ⟨_, [], [c'], [], rfl, rfl, .inr ⟨c', cp', tq, s2, es2, rfl, rfl, hne2, by rw [hl2], n3, cs2, us2, n1, n2', n4.flat, n5⟩, rfl, rfl⟩)).append (q5.mono fun z hz => hxs z cb (e8 z (by simp [hz])) (by rintro rfl; exact hndf.2 hz))
          · cases h1
        · rename_i hne
          have hbk := hG.blk i k x y h1 h2
          refine hbk.monoX hle' (fun hko => hsame x (hbk.lt hko) ?_) (fun _ hko z hz => ⟨hz, hxs z x hz ?_⟩)
          · rintro rfl; exact hG.xap _ _ hXc ⟨i, k, y, h1, hko, h2⟩
          · rintro rfl
            rw [hXc] at hz
            have hz : cb = x := Option.some.inj hz
            subst hz
            exact hne (hG.inj b i _ k _ cp y hb h1 (z100 h0) hko hi h2)
      · have ho := howns x hx
        rcases p2.newT x hT with hT' | hT' | hT'
        · exact hG.apart x ho hT'
        · have := hOc x hT'; subst this
          exact p1.apart _ hO1 hT
        · have := hG.ownLt ho; omega
      · have conv : ∀ (i : Nat) (k : Blk), (mem.set b (.lin t sz (es.set j e')))[i]? = some k -> k.own = true -> ∃ k0, mem[i]? = some k0 /\ k0.own = true := by
          intro i k h1 h3
          rw [L'k] at h1
          split at h1
          · rename_i he; subst he; exact ⟨_, hb, z100 h0⟩
          · exact ⟨k, h1, h3⟩
        obtain ⟨k1, a1, a2⟩ := conv i k h1 h3
        obtain ⟨k2, a3, a4⟩ := conv i' k' h2 h4
        exact hG.inj i i' k1 k2 x y y' a1 a3 a2 a4 h5 h6
      · rcases p2.newT x hx with hx | hx | hx
        · exact .inl hx
        · rw [hOc x hx]; exact .inr (.inl hownc)
        · exact .inr (.inr hx)
      · rcases p2.newS x hx with hx | hx | hx
        · exact .inl hx
        · rw [hOc x hx]; exact .inr (.inl hownc)
        · exact .inr (.inr hx)
      · rw [List.getElem?_set_ne]
        rintro rfl; rw [hi] at hn; cases hn
end
end Go.Proofs.YtbaclnecajkknaaGreat.Pi

