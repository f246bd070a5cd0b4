/- Pi: rows taken out of rows and put back; rows that grow at their end while they are read. -/
import Derived.Test.YtbaclnecajkknaaGreatPiLin
open Nat renaming add_mul->L'2,le_refl->L'l,mul_le_mul_right->M'1,one_mul->L'3,zero_add->M'6
open List renaming length_append->L'x,getElem?_eq_some_iff->L'b,getElem?_drop->L'q,getElem?_take->L'o,length_take->L'w,length_drop->L'y,getElem?_eq_none->L'r,nodup_append->M't,ext_getElem?->L'u,getElem?_append->M'u,getElem?_set->L'k,length_set->N'9,mem_append->L'j,getElem?_append_left->L'm,length_pos_iff->M'5,size_toArray->M'4,append_assoc->M'c
open Option renaming map_eq_some_iff->M'0,bind_eq_some_iff->L's
namespace Go.Proofs.YtbaclnecajkknaaGreat.Pi
open Go
set_option linter.all false

section
variable {P:Program}{G:Gh}{w:World}{mem:List Blk}
/-! ### A cell of a row of rows -/
theorem RpD.at_:∀{xs:List PV} {vs:List Value} {f:List Nat} (i:Nat) {x:PV},RpD w xs vs f->xs[i]?=some x ->
  ∃v f1 g f3,vs[i]?=some v/\f=f1++g++f3/\RpC w x v g/\RpD w (xs.take i) (vs.take i) f1/\RpD w (xs.drop (i+1)) (vs.drop (i+1)) f3:=by
 intro xs vs f i x h hx
 obtain⟨f1,f2,rfl,d1,d2⟩:=h.split i
 have hxd:xs.drop i=x::xs.drop (i+1):=by
  obtain⟨hl,he⟩:=L'b.1 hx
  rw[List.drop_eq_getElem_cons hl,he]
 rw[hxd]at d2
 obtain⟨v,rest,g,f3,h1,rfl,h3,h4⟩:=d2
 have hv:vs[i]?=some v:=by
  have:=congrArg (fun l=>l[0]?) h1
  simpa using this
 have hr:vs.drop (i+1)=rest:=by
  have:=congrArg List.tail h1
  simpa using this
 exact⟨v,f1,g,f3,hv,by simp,h3,d1,by rw[hr];exact h4⟩
theorem zhc{sz:Nat}{es:List PV}{i:Nat}{e e':PV}{off:Nat}{ys:List PV}(k4:∀x∈es,okE false sz x=true)(he:es[i]?=some e)(h4:e'.cells=splice e.cells off ys)(hoff:off+ys.length<=sz) :
  (es.set i e').flatMap PV.cells=(es.flatMap PV.cells).take (i*sz+off)++ys++(es.flatMap PV.cells).drop (i*sz+off+ys.length):=by
 have hil:i<es.length:=(L'b.1 he).1
 have hLl:=zha k4
 have hmul:(i+1)*sz<=es.length*sz:=M'1 _ hil
 rw[L'2,L'3]at hmul
 have hget:=zh9 k4 he
 rw[zhb k4 hil,h4,splice,<-hget]
 apply L'u
 intro j
 simp only[M'u,L'o,L'q,L'x,L'w,L'y,L'2,L'3]
 repeat' split
 all_goals first
  |rfl
  |omega
  |(congr 1;omega)
  |(rw[L'r (by omega)])
  |(rw[eq_comm,L'r (by omega)])
theorem z18d{t:TypeId}{c o:Nat}{v:Value}(ht:(P.underlying t).isSome=true)(hag:aggT P t=false)(hcl:P.cellsOf t=1)(h:w.cell? ⟨c,o,none⟩=some v) :
  (Instr.loadAt t (.pointer (some ⟨c,o,none⟩))).run P w=.ok v w:=by
 simp[Instr.loadAt,Instr.sureAddr,loadVar,z18c ht,hag,h]
def Gh.cutX(G:Gh)(x:Nat):Gh:={G with X:=fun y=>if y=x then none else G.X y}
theorem zpp (hG : Good G w mem) {x : PV} {a : Value} (hx : Rp G w x a) {t e : TypeId} (ht : (P.underlying t).isSome = true) (hag : aggT P t = false) (hcl : P.cellsOf t = 1) {v : PV} {mem' : List Blk} (h : ldtV e mem x = some (v, mem')) :
    ∃ v' G', (Instr.loadAt t a).run P w = .ok v' w /\ Good G' w mem' /\ Ext G w mem G' w mem' /\ Rp G' w v v' := by
  have dflt : ((loadV mem false 1 x).map fun v => (v, mem)) = some (v, mem') -> ∃ v' G', (Instr.loadAt t a).run P w = .ok v' w /\ Good G' w mem' /\ Ext G w mem G' w mem' /\ Rp G' w v v' := by
    intro h
    simp only [M'0, Prod.mk.injEq] at h
    obtain ⟨r, h1, rfl, rfl⟩ := h
    rw [<- hag, <- hcl] at h1
    obtain ⟨v', f1, f2⟩ := zrz hG hx ht h1
    exact ⟨v', G, f1, hG, .refl G w mem, f2⟩
  unfold ldtV at h
  split at h
  case h_2 => exact dflt h
  rename_i b sz i off
  split at h
  case h_2 => exact dflt h
  rename_i tl sz' es hb
  split at h
  case isFalse => cases h
  rename_i hsz
  subst hsz
  simp only [L's] at h
  obtain ⟨el, he, h⟩ := h
  obtain ⟨c, cp, hi, rfl⟩ := hx
  have h0 : es ≠ [] := by rintro rfl; simp at he
  obtain ⟨arr, vs, f, k1, k2, k3, k4, k5, k6, k7, k8⟩ := zr3 (hG.blk b _ c cp hb hi) h0
  have hel := zw7 (k4 el (List.mem_of_getElem? he))
  have hget := zh9 k4 he
  have hil : i < es.length := (L'b.1 he).1
  have pos : ∀ {y : PV}, el.cells[off]? = some y -> off < sz' /\ (es.flatMap PV.cells)[i * sz' + off]? = some y := by
    intro y hy
    have hoff : off < sz' := by rw [<- hel]; exact (L'b.1 hy).1
    refine ⟨hoff, ?_⟩
    rw [<- hget, L'o, if_pos hoff, L'q] at hy
    exact hy
  split at h
  case h_3 => cases h
  · -- a row
    rename_i s1 xs hc
    obtain ⟨hoff, hxx⟩ := pos hc
    obtain ⟨u, f1, g, f3, q1, rfl, q3, q4, q5⟩ := k5.at_ _ hxx
    have hcell : w.cell? ⟨c, i * sz' + off, none⟩ = some u := by simpa using At.row0 k1 k6 (i * sz' + off) u q1
    split at h
    case isTrue => cases h
    rename_i hne
    have hne : xs ≠ [] := by simpa using hne
    simp only [L's] at h
    obtain ⟨e', h4, h5⟩ := h
    split at h5
    case isFalse => cases h5
    rename_i hok
    cases h5
    obtain ⟨c1, cp1, tt, ys, rfl, rfl, m3, m4, m5, m6⟩ : ∃ c1 cp1 tt, ∃ ys : Unit, g = [c1] /\ u = .slice (some ⟨c1, 0, none⟩) xs.length cp1 /\ xs.length <= cp1 /\ ∃ (cs : Array Value) (us : List Value), w.heap[c1]? = some (.cells cs tt (0, 0)) /\ cs.size = cp1 * s1 /\ RpEs (fun _ => False) w true s1 xs us /\ cs.toList.take (xs.length * s1) = us := by
      rcases q3 with ⟨_, h | ⟨_, _, h, _⟩ | ⟨_, _, _, _, h, _⟩⟩ | ⟨c1, cp1, tt, s2, es2, rfl, h, h3, rfl, h5, cs, us, h6, h7, h8, h9⟩
      · have := h.1; simp [PV.scalar] at this
      · cases h
      · cases h; exact (hne rfl).elim
      · cases h; exact ⟨c1, cp1, tt, (), rfl, rfl, h5, cs, us, h6, h7, h8, h9⟩
    obtain ⟨m6, m7, m8, m9⟩ := m6
    have hX1 : G.X c1 = some c := k8 c1 (by simp)
    have htop : Top G mem c := ⟨b, _, cp, hb, z100 h0, hi⟩
    have hn1 : c1 ∉ f1 /\ c1 ∉ f3 := by
      rw [M't] at k7
      obtain ⟨n1, n2, n3⟩ := k7
      rw [M't] at n1
      exact ⟨fun hm => n1.2.2 c1 hm c1 (by simp) rfl, fun hm => n3 c1 (by simp) c1 hm rfl⟩
    have hholeG : Good (G.cutX c1) w (mem.set b (.hol tl sz' (es.set i e') i off)) /\ Ext G w mem (G.cutX c1) w (mem.set b (.hol tl sz' (es.set i e') i off)) := by
      have hl : Le G w (G.cutX c1) w := ⟨fun _ h => h, fun _ h => h, hG.ST, fun _ _ => rfl, fun _ _ h => h⟩
      have hX' : ∀ y d, (G.cutX c1).X y = some d -> G.X y = some d := by
        intro y d hy
        simp only [Gh.cutX] at hy
        split at hy
        · cases hy
        · exact hy
      have htops : ∀ y, Top (G.cutX c1) (mem.set b (.hol tl sz' (es.set i e') i off)) y -> Top G mem y := fun y hy => Top.set (G := G) hb (fun _ => z100 h0) hy
      have howns : ∀ y, Own (G.cutX c1) (mem.set b (.hol tl sz' (es.set i e') i off)) y -> Own G mem y := fun y hy => hy.elim (fun h => .inl (htops y h)) (fun ⟨d, h⟩ => .inr ⟨d, hX' y d h⟩)
      have hLl := zha k4
      refine ⟨⟨fun b' p hp => by simpa using hG.bnd b' p hp, ?_, hG.ST, hG.lt, fun y hy => hG.apart y (howns y hy), ?_, fun y d hy => hG.xlt y d (hX' y d hy), fun y d hy ht' => hG.xap y d (hX' y d hy) (htops y ht')⟩, ⟨⟨rfl, rfl, rfl, L'l _, fun _ _ _ => rfl, fun y hy => .inl (howns y hy), fun _ h => h, fun _ h => h, fun _ h => .inl h, fun _ h => .inl h⟩, by simp, fun _ _ => rfl, fun b' hb' hn => ?_⟩⟩
      · intro j kj c2 cp2 g1 g2
        rw [L'k] at g1
        split at g1
        · rename_i hj; subst hj
          split at g1
          case isFalse => cases g1
          cases g1
          have hi' : G.ids b = some (c2, cp2) := g2
          rw [hi] at hi'
          cases hi'
          have hcells : (es.set i e').flatMap PV.cells = (es.flatMap PV.cells).take (i * sz' + off) ++ [.int .i64 0] ++ (es.flatMap PV.cells).drop (i * sz' + off + 1) :=
            zhc (ys := [.int .i64 0]) k4 he (ztw h4) (by simp; omega)
          have hpl : i * sz' + off < es.length * sz' := by
            have hmul : (i + 1) * sz' <= es.length * sz' := M'1 _ hil
            rw [L'2, L'3] at hmul; omega
          refine ⟨by simpa using hil, hoff, arr, .int .i64 0, vs.take (i * sz' + off) ++ [.int .i64 0] ++ vs.drop (i * sz' + off + 1), f1 ++ f3, k1, k2, by simpa using k3, fun z hz => ?_, ?_, ?_, ?_, fun z hz => ?_⟩
          · rcases List.mem_or_eq_of_mem_set hz with hz | rfl
            · exact k4 z hz
            · exact hok
          · rw [hcells]
            have : RpD w [PV.int .i64 0] [Value.int .i64 0] [] := ⟨_, [], [], [], rfl, rfl, .inl ⟨rfl, .inl ⟨rfl, rfl⟩⟩, rfl, rfl⟩
            have r := (q4.append this).append q5
            rwa [List.append_nil] at r
          · rw [N'9, <- k6]
            apply L'u
            intro j
            simp only [M'u, L'o, L'q, L'k, L'x, L'w, L'y, List.length_cons, List.length_nil, Array.length_toList]
            have hpa : i * sz' + off < arr.size := by
              have hmul' : es.length * sz' <= cp * sz' := M'1 _ k3
              omega
            by_cases hj : j < i * sz' + off
            · rw [if_pos (by omega), if_neg (by omega), if_pos (by omega), if_pos (by omega), if_pos (by omega), if_pos (by omega)]
            · by_cases hj2 : j = i * sz' + off
              · subst hj2
                rw [if_pos hpl, if_pos rfl, if_pos hpa, if_pos (by omega), if_neg (by omega)]
                rw [show i * sz' + off - min (i * sz' + off) (min (es.length * sz') arr.size) = 0 by omega]; rfl
              · by_cases hj3 : j < es.length * sz'
                · rw [if_pos hj3, if_neg (by omega), if_neg (by omega), if_pos (by omega)]
                  congr 1; omega
                · rw [if_neg hj3, if_neg (by omega), if_neg (by omega)]
          · rw [M't] at k7 ⊢
            obtain ⟨n1, n2, n3⟩ := k7
            rw [M't] at n1
            exact ⟨n1.1, n2, fun p hp q hq => n3 p (by simp [hp]) q hq⟩
          · have hzc : z ≠ c1 := by
              rintro rfl
              rcases L'j.1 hz with hz | hz
              · exact hn1.1 hz
              · exact hn1.2 hz
            simp only [Gh.cutX, hzc, if_false]
            exact k8 z (by rcases L'j.1 hz with hz | hz <;> simp [hz])
        · rename_i hj
          have ho := hG.blk j kj c2 cp2 g1 g2
          refine ho.monoX hl (fun _ => rfl) (fun hkl hko y hy => ⟨?_, rfl⟩)
          have : y ≠ c1 := by
            rintro rfl
            rw [hX1] at hy
            cases hy
            exact hj (hG.inj b j _ kj c cp cp2 hb g1 (z100 h0) hko hi g2)
          simp only [Gh.cutX, this, if_false]
          exact hy
      · intro i1 i2 k1' k2' y cp1' cp2' g1 g2 g3 g4 g5 g6
        have conv : ∀ (i' : Nat) (k' : Blk), (mem.set b (.hol tl sz' (es.set i e') i off))[i']? = some k' -> k'.own = true -> ∃ k0, mem[i']? = some k0 /\ k0.own = true := by
          intro i' k' h1 h3
          rw [L'k] at h1
          split at h1
          · rename_i hh; subst hh; exact ⟨_, hb, z100 h0⟩
          · exact ⟨k', h1, h3⟩
        obtain ⟨a1, e1, o1⟩ := conv i1 k1' g1 g3
        obtain ⟨a2, e2, o2⟩ := conv i2 k2' g2 g4
        exact hG.inj i1 i2 a1 a2 y cp1' cp2' e1 e2 o1 o2 g5 g6
      · rw [List.getElem?_set_ne]
        rintro rfl; rw [hi] at hn; cases hn
    obtain ⟨gh, xh⟩ := hholeG
    obtain ⟨ge, xe⟩ := gh.extend [.row e true s1 xs]
    have hT1 : ¬ (G.cutX c1).T c1 := hG.apart c1 (.inr ⟨c, hX1⟩)
    have hO1 : ¬ Own (G.cutX c1) (mem.set b (.hol tl sz' (es.set i e') i off) ++ [.row e true s1 xs]) c1 := by
      rintro (⟨j, kj, cpj, g1, g2, g3⟩ | ⟨d, hd⟩)
      · by_cases hj : j < mem.length
        · rw [L'm (by simpa using hj)] at g1
          have : Top G mem c1 := Top.set (G := G) hb (fun _ => z100 h0) ⟨j, kj, cpj, g1, g2, g3⟩
          exact hG.xap c1 c hX1 this
        · have := hG.bnd j _ g3
          omega
      · simp [Gh.cutX] at hd
    have hnone : (G.cutX c1).ids mem.length = none := hG.none (L'l _)
    obtain ⟨p1, p2, p3⟩ := ge.name' (b := mem.length) (c := c1) (cp := cp1) (k := .row e true s1 xs) (by simp) hnone (Grew.refl w) hT1 hO1 (fun hl => .inr ⟨hne, tt, m4, m5, m6, m7, m3, m8.flat, m9⟩)
    refine ⟨_, _, z18d ht hag hcl hcell, p1, ⟨⟨rfl, rfl, rfl, L'l _, fun _ _ _ => rfl, fun y hy => .inl ?_, fun _ h => h, fun _ h => h, fun _ h => .inl h, fun _ h => .inl h⟩, by simp, fun b' hb' => Gh.bind_ne (by omega), fun b' hb' hn => ?_⟩, c1, cp1, cp1, Gh.bind_same, by omega, m3, _, rfl, .inr (by simp)⟩
    · rcases p2 y hy with hy | rfl
      · rcases xe.own y hy with hy | hy
        · rcases xh.own y hy with hy | hy
          · exact hy
          · exact absurd (gh.ownLt (by assumption)) (by omega)
        · exact absurd (ge.ownLt (by assumption)) (by omega)
      · exact .inr ⟨c, hX1⟩
    · rw [L'm (by simpa using hb')]
      exact xh.un b' hb' hn
  · -- nothing there
    rename_i fl1 s1 hc
    cases h
    obtain ⟨hoff, hxx⟩ := pos hc
    obtain ⟨u, f1, g, f3, q1, rfl, q3, q4, q5⟩ := k5.at_ _ hxx
    have hcell : w.cell? ⟨c, i * sz' + off, none⟩ = some u := by simpa using At.row0 k1 k6 (i * sz' + off) u q1
    refine ⟨u, G, z18d ht hag hcl hcell, hG, .refl G w mem, ?_⟩
    rcases q3 with ⟨_, h | ⟨_, _, h, h'⟩ | ⟨_, _, _, _, h, _⟩⟩ | ⟨_, _, _, _, _, _, h, _⟩
    · have := h.1; simp [PV.scalar] at this
    · cases h; exact h'
    · cases h
    · cases h
theorem zph(hG:Good G w mem){x:PV}{a:Value}(hx:Rp G w x a){t:TypeId}(ht:(P.underlying t).isSome=true)(hag:aggT P t=false)(hcl:P.cellsOf t=1){v:PV}{mem':List Blk}(h:ldfV mem x=some (v,mem')) :
  ∃v' G',(Instr.loadAt t a).run P w=.ok v' w/\Good G' w mem'/\Ext G w mem G' w mem'/\Rp G' w v v':=by
 have dflt:((loadV mem false 1 x).map fun v=>(v,mem))=some (v,mem')->∃v' G',(Instr.loadAt t a).run P w=.ok v' w/\Good G' w mem'/\Ext G w mem G' w mem'/\Rp G' w v v':=by
  intro h
  simp only[M'0,Prod.mk.injEq]at h
  obtain⟨r,h1,rfl,rfl⟩:=h
  rw[<-hag,<-hcl]at h1
  obtain⟨v',f1,f2⟩:=zrz hG hx ht h1
  exact⟨v',G,f1,hG,.refl G w mem,f2⟩
 unfold ldfV at h
 split at h
 case h_2=>exact dflt h
 rename_i b sz i off
 split at h
 case h_2=>exact dflt h
 rename_i tl sz' es hb
 simp only[M'0,Prod.mk.injEq]at h
 obtain⟨r,h1,rfl,rfl⟩:=h
 obtain⟨c,cp,hi,ha⟩:=id hx
 have hfr:freeze mem b=mem.set b (.fro false sz' es):=by simp[freeze,hb]
 rw[hfr]at h1 ⊢
 have h0:es≠[]:=by
  rintro rfl
  have hlt:=(L'b.1 hb).1
  simp[loadV,hlt]at h1
 obtain⟨g1,g2⟩:=hG.freezeL hb h0 hi
 have h1':loadV (mem.set b (.fro false sz' es)) (aggT P t) (P.cellsOf t) (.ep b sz i off)=some r:=by rw[hag,hcl];exact h1
 obtain⟨v',f1,f2⟩:=zrz g1 (Rp.mono (g2.le hG) hx) ht h1'
 exact⟨v',_,f1,g1,g2,f2⟩
theorem z1bb(hG:Good G w mem){t e:TypeId}(ht:P.underlying t=some (.slice e))(he:(P.underlying e).isSome=true){x lo v:PV}{a vl:Value}(hx:Rp G w x a)(hl:Rp G w lo vl){mem':List Blk}
  (h:slqV mem (P.cellsOf e) x lo=some (v,mem')):∃v' G',(Instr.sliceAt t a (some vl) none none).run P w=.ok v' w/\Good G' w mem'/\Ext G w mem G' w mem'/\Rp G' w v v':=by
 have dflt:∀lo',lo'=lo->((z1b4 mem (P.cellsOf e) x (some lo') none).map fun r=>(r,mem))=some (v,mem')->∃v' G',(Instr.sliceAt t a (some vl) none none).run P w=.ok v' w/\Good G' w mem'/\Ext G w mem G' w mem'/\Rp G' w v v':=by
  intro lo' hlo hd
  rw[hlo]at hd
  simp only[M'0,Prod.mk.injEq]at hd
  obtain⟨r,h1,rfl,rfl⟩:=hd
  obtain⟨v',f1,f2⟩:=z1b6 hG ht he hx (lo:=some lo) (hi:=none) (vl:=some vl) (vh:=none) hl trivial h1
  exact⟨v',G,f1,hG,.refl G w mem,f2⟩
 have key:∀(A:Option Addr) (len cap:Nat) (k:IntKind) (l:Int),lo=.int k l->0<=l->l<=len->len<=cap ->
   (Instr.sliceAt t (.slice A len cap) (some vl) none none).run P w=.ok (.slice (if cap=l.toNat then A else A.map (·.add (l.toNat*P.cellsOf e))) (len-l.toNat) (cap-l.toNat)) w:=by
  intro A len cap k l hlo h3 h4 h5
  subst hlo
  have:=z1b0 (P:=P) (w:=w) (sl:=true) (len:=len) (cap:=cap) (lo:=some (.int k l)) (hi:=none) (vl:=some vl) (vh:=none) (G:=G) hl trivial (l:=l) (h:=(len:Int)) rfl rfl h3 h4 (by omega)
  simp[Instr.sliceAt,Instr.slice,z18i ht,this,z18g he]
 unfold slqV at h
 split at h
 ·rename_i b sz' off len k l
  split at h
  case h_2=>exact dflt _ rfl h
  rename_i t0 sz2 es hb
  split at h
  case isFalse=>cases h
  rename_i hc
  obtain⟨rfl,rfl,c3,c4,c5,c6⟩:=hc
  cases h
  obtain⟨c,cap,cp,k1,k2,k3,A,rfl,hA⟩:=hx
  have h0:es≠[]:=by rintro rfl;simp at c6
  obtain⟨tt,cs,vs,m1,m2,m3,m4,m5⟩:=z176 (hG.blk b _ c cp hb k1) h0
  have hgt:cp≠0:=by have:=M'5.2 h0;omega
  obtain rfl:=hA.resolve_left hgt
  obtain⟨g1,g2⟩:=hG.rename2 (enc 0 cp) (k':=.que t0 (P.cellsOf e) es) hb (z101 h0) k1 ((Grew.refl w).wrote c) (fun G' hl _=>⟨h0,0,cp,tt,cs,vs,rfl,m1,by rw[M'6];exact m2,m3,RpEs.mono hl.I _ _ _ _ m4,by simpa using m5⟩) rfl
  refine⟨_,_,key _ len cap k l rfl c3 (by omega) k3,g1,g2,c,0,cp,cap-l.toNat,Gh.bind_same,by omega,by omega,_,rfl,?_⟩
  by_cases hz:cap=l.toNat
  ·exact .inl (by omega)
  ·right
   simp[hz,z23,L'2]
 ·rename_i b sz' off len k l
  split at h
  case h_2=>cases h
  rename_i t0 sz2 es hb
  split at h
  case isFalse=>cases h
  rename_i hc
  obtain⟨rfl,c3,c4⟩:=hc
  cases h
  obtain⟨c,o,n,cap,k1,k2,k3,A,rfl,hA⟩:=hx
  refine⟨_,_,key _ len cap k l rfl c3 c4 k3,hG,.refl G w mem,c,o,n,cap-l.toNat,k1,by omega,by omega,_,rfl,?_⟩
  by_cases hz:cap=l.toNat
  ·exact .inl (by omega)
  ·right
   obtain rfl:=hA.resolve_left (by omega)
   rw[if_neg hz]
   simp[z23,L'2,Nat.add_assoc]
 ·exact dflt _ rfl h
theorem z3x (hG : Good G w mem) {x y r : PV} {a b : Value} (hx : Rp G w x a) (hy : Rp G w y b) {t e : TypeId} {sz : Nat} {z : PV} (ht : P.underlying t = some (.slice e)) (hz : z1i6 P e = some z) (hzo : okE true sz z = true)
    (hsz : P.cellsOf e = sz) (hby : P.bytesOf e <= 1024) (ty : TypeId) {mem' : List Blk} (h : apqV mem e sz x y = some (r, mem')) :
    ∃ v' w' G', (Builtin.append_ #[t, t] ty #[a, b]).run P w = .ok v' w' /\ Good G' w' mem' /\ Ext G w mem G' w' mem' /\ Rp G' w' r v' := by
  unfold apqV at h
  split at h
  case h_2 => exact z3n hG hx hy ht hz hzo hsz hby ty h
  rename_i b0 sx off len
  obtain ⟨i, zv, h1, h2, h3⟩ := z1i7 hz
  have hb' : i.bytes <= 1024 := by simpa [Program.bytesOf, h1] using hby
  have hs' : i.size = sz := by simpa [Program.cellsOf, h1] using hsz
  have hzi : RpI G.S w z zv := (RpI.up hzo).1 (h3 _ _)
  have hzs : zv.cells.size = sz := by have := zwa hzi hzo; simpa using this
  subst hs'
  simp only [L's] at h
  obtain ⟨⟨fl', sz', es⟩, h4, h5⟩ := h
  split at h5
  case h_2 => cases h5
  rename_i t' szx xs hb
  split at h5
  case isFalse => cases h5
  rename_i hc
  obtain ⟨hc1, hc2, rfl, rfl, rfl, hc6, hc7, hc8, hc9⟩ := hc
  simp only at hc1 hc2 hc8 hc9 h5
  subst hc1 hc2
  cases h5
  obtain ⟨vs, hsh⟩ := z1a5 hG hy h4
  have hvl : vs.length = es.length * i.size := by obtain ⟨A, cap, rfl, h2, h3⟩ := hsh; exact h2.length
  have hes : es ≠ [] := by rintro rfl; simp at hc9
  obtain ⟨c, o, n, cap, k1, k2, k3, A, rfl, hA⟩ := hx
  obtain ⟨h0, o2, n2, tt, arr, us, he, m1, m2, m3, m4, m5⟩ := hG.blk b0 _ c _ hb k1
  obtain ⟨rfl, rfl⟩ := zdq he
  have hul := m4.length
  have hxl : (xs.drop off).length = len := by simp; omega
  have hdne : xs.drop off ++ es ≠ [] := by simp [hes]
  have hmulx : xs.length * i.size = off * i.size + len * i.size := by rw [<- L'2, hc6]
  by_cases hroom : len + es.length <= cap
  · -- the room suffices
    obtain rfl := hA.resolve_left (by have := M'5.2 hes; omega)
    have hmul : (len + es.length) * i.size <= cap * i.size := M'1 _ hroom
    have hsize : arr.size = o * i.size + off * i.size + cap * i.size := by rw [m2, <- k2]; simp only [L'2]; omega
    rw [L'2] at hmul
    have hr := z3l ht h1 ty (o := (o + off) * i.size) (sLen := len) (sCap := cap) m1 hsh hroom (by rw [L'2]; omega)
    obtain ⟨g1, g2⟩ := hG.rename2 (enc (o + off) cap) (k' := .que t' i.size (xs.drop off ++ es)) hb rfl k1 (Wrote.setRow w c (arr.toList.take ((o + off) * i.size + len * i.size) ++ vs ++ arr.toList.drop ((o + off) * i.size + len * i.size + vs.length)).toArray) (fun G' hl _ => by
      obtain ⟨_, _, _, p2, _⟩ := hsh
      refine ⟨hdne, o + off, cap, _, _, us.drop (off * i.size) ++ vs, rfl, setRow_heap w c arr _ tt (0, 0) m1, ?_, ?_, ((RpEs.mono hl.I _ _ _ _ m4).drop _).append (RpEs.mono hl.I _ _ _ _ p2), ?_⟩
      · simp only [M'4, L'x, L'w, L'y, Array.length_toList, L'2]; omega
      · rw [L'x, hxl]; exact hroom
      · rw [L'x, hxl, List.toList_toArray]
        have hus : us.drop (off * i.size) = (arr.toList.drop ((o + off) * i.size)).take (len * i.size) := by
          rw [<- m5, List.drop_take, List.drop_drop, hmulx, L'2]
          congr 1; omega
        rw [hus]
        apply L'u
        intro j
        simp only [M'u, L'o, L'q, L'x, L'w, L'y, Array.length_toList, L'2]
        repeat' split
        all_goals first
          | rfl
          | omega
          | (congr 1; omega)
          | (rw [L'r (by omega)])
          | (rw [eq_comm, L'r (by omega)])) rfl
    exact ⟨_, _, _, hr, g1, g2, c, o + off, cap, cap, Gh.bind_same, by omega, hroom, _, rfl, .inr (by simp)⟩
  · -- a new row, the old one is dead
    obtain ⟨g1, g2⟩ := hG.write (k' := .dead) hb rfl k1 ((Grew.refl w).wrote c) (fun _ _ _ _ => trivial)
    have hshx : Shows G.S w true i.size (xs.drop off) (us.drop (off * i.size)) (.slice A (xs.drop off).length cap) := by
      refine ⟨_, _, rfl, m4.drop off, ?_⟩
      by_cases hz : cap = 0
      · left; rw [<- List.length_eq_zero_iff, hxl]; omega
      · right
        obtain rfl := hA.resolve_left hz
        refine ⟨c, _, rfl, ?_⟩
        have hat : At w c (o * i.size) us := .of_row m1 (o * i.size) _ m5
        have := hat.sub (off * i.size) (us := us.drop (off * i.size)) (fun j u hu => by rwa [L'q] at hu)
        rwa [<- L'2] at this
    have hgt : cap < (xs.drop off).length + es.length := by rw [hxl]; omega
    have hr := z3k ht h1 h2 ty hshx hsh hgt (by rw [hxl]; simp only [zt4] at *; omega) hb'
    have hgrew : Grew w (w.drew.alloc (.cells ((us.drop (off * i.size)).toArray ++ vs.toArray ++ Builtin.zeroCells zv.cells (grownCap w ((xs.drop off).length + es.length) cap t' - ((xs.drop off).length + es.length))) t')) := (Grew.drew w).trans (.alloc w.drew _)
    have hge := grownCap_ge w ((xs.drop off).length + es.length) cap t'
    have hul2 : (us.drop (off * i.size)).length = (xs.drop off).length * i.size := (m4.drop off).length
    have hall : RpEs G.S w true i.size (xs.drop off ++ es) (us.drop (off * i.size) ++ vs) := by
      obtain ⟨_, _, _, q2, _⟩ := hsh
      exact (m4.drop off).append q2
    obtain ⟨p1, p2⟩ := g1.push (c := w.heap.size) (cp := enc 0 (grownCap w ((xs.drop off).length + es.length) cap t')) (k := .que t' i.size (xs.drop off ++ es)) hgrew (L'l _) (fun hl => by
      refine ⟨hdne, 0, _, _, _, us.drop (off * i.size) ++ vs, rfl, heap_alloc_new w.drew _, ?_, by simpa using hge, RpEs.mono hl.I _ _ _ _ hall, ?_⟩
      · simp only [Array.size_append, M'4, size_zeroCells, hzs, hul2, hvl, <- L'2, M'6]
        congr 1; omega
      · simp only [Array.toList_append, M'c, Nat.zero_mul, List.drop_zero]
        rw [<- M'c, List.take_append_of_le_length (by simp only [L'x, hul2, hvl, <- L'2]; exact L'l _), List.take_of_length_le (by simp only [L'x, hul2, hvl, <- L'2]; exact L'l _)])
    rw [hxl] at hr p1 p2 hge
    rw [N'9] at p1 p2
    exact ⟨_, _, _, hr, p1, g2.trans p2, w.heap.size, 0, _, _, Gh.bind_same, by omega, hge, _, rfl, .inr (by simp)⟩
end
end Go.Proofs.YtbaclnecajkknaaGreat.Pi

