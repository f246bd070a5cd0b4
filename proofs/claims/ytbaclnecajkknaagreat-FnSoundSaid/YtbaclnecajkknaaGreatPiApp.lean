/- Pi: append. -/
import Derived.Test.YtbaclnecajkknaaGreatPiNew
open Nat renaming add_mul->L'2,mul_le_mul_right->M'1,zero_add->M'6,add_zero->M'b,le_refl->L'l
open List renaming replicate->L'0,size_toArray->M'4,take_of_length_le->L'e,length_pos_iff->M'5,length_append->L'x,length_nil->M'7,length_take->L'w,length_drop->L'y,toList_toArray->M'9,drop_zero->M'a,append_assoc->M'c,take_zero->M'd,nil_append->M'3,drop_of_length_le->L'a,append_nil->M'e,getElem?_take->L'o,append_eq_nil_iff->M'f,take_append_of_le_length->M'g,take_take->M'h,take_length->M'i,length_replicate->M'j
open Option renaming bind_eq_some_iff->L's
namespace Go.Proofs.YtbaclnecajkknaaGreat.Pi
open Go
set_option linter.all false

section
variable {P:Program}{G:Gh}{w:World}{mem:List Blk}
theorem z19k{mem:List Blk}{b:Nat}{k:Blk}(h:mem[b]?=some k):mem.set b k=mem:=by
 apply List.ext_getElem?
 intro i
 rw[List.getElem?_set]
 split
 ·rename_i hi;subst hi
  rw[if_pos (List.getElem?_eq_some_iff.1 h).1,h]
 ·rfl
def Shows(S:Nat->Prop)(w:World)(fl:Bool)(sz:Nat)(es:List PV)(vs:List Value)(b:Value):Prop:=
∃A cap,b=.slice A es.length cap/\RpEs S w fl sz es vs/\(es=[]\/∃c off,A=some ⟨c,off,none⟩/\At w c off vs)
theorem z16x(hG:Good G w mem){b sz off len c cp:Nat}{fl:Bool}{es:List PV}(hi:G.ids b=some (c,cp))(h:rowAt mem b sz off len=some (fl,es)) :
  es.length=len/\off+len<=cp/\∃vs,RpEs G.S w fl sz es vs/\(es=[]\/At w c (off*sz) vs):=by
 have key:∀(fl:Bool) (es:List PV) (vs:List Value),RpEs G.S w fl sz es vs->At w c 0 vs->off+len<=es.length->es.length<=cp ->
   ((es.drop off).take len).length=len/\off+len<=cp/\∃vs,RpEs G.S w fl sz ((es.drop off).take len) vs/\((es.drop off).take len=[]\/At w c (off*sz) vs):=by
  intro fl es vs e1 e2 e3 e4
  refine⟨by simp;omega,by omega,(vs.drop (off*sz)).take (len*sz),(e1.drop off).take len,.inr ?_⟩
  have:=e2.sub (us:=(vs.drop (off*sz)).take (len*sz)) (off*sz) (fun j u hu=>by
   rw[L'o]at hu
   split at hu
   ·rwa [List.getElem?_drop]at hu
   ·cases hu)
  simpa using this
 unfold rowAt at h
 split at h
 ·rename_i t fl sz' es hb
  split at h
  ·rename_i hc
   obtain⟨hc1,rfl⟩:=hc
   cases h
   by_cases h0:es=[]
   ·subst h0
    have:=z177 (hG.blk b _ c cp hb hi)
    simp at hc1
    obtain⟨rfl,rfl⟩:=hc1
    exact⟨by simp,by simp,[],by simp[RpEs],.inl (by simp)⟩
   obtain⟨tt,arr,vs,k1,k2,k3,k4,k5⟩:=z176 (hG.blk b _ c cp hb hi) h0
   exact key fl es vs k4 (.of_row k1 0 _ (by simpa using k5)) hc1 k3
  ·cases h
 ·rename_i fl sz' es hb
  split at h
  ·rename_i hc
   obtain⟨hc1,rfl⟩:=hc
   cases h
   by_cases h0:es=[]
   ·subst h0
    simp at hc1
    obtain⟨rfl,rfl⟩:=hc1
    exact⟨by simp,by simp,[],by simp[RpEs],.inl (by simp)⟩
   obtain⟨k1,k2,vs,k3,k4⟩:=zi1 (hG.blk b _ c cp hb hi) h0
   exact key fl es vs k3 k4 hc1 k2
  ·cases h
 ·cases h
theorem z1a5(hG:Good G w mem){y:PV}{b:Value}{fl:Bool}{sz:Nat}{es:List PV}(hy:Rp G w y b)(h:shown mem y=some (fl,sz,es)) :
  ∃vs,Shows G.S w fl sz es vs b:=by
 cases y<;>simp only[shown]at h<;>try(cases h;done)
 case sl=>
  cases h
  obtain⟨A,cap,vs,rfl,h2,h3,_,h4⟩:=hy
  exact⟨vs,A,cap,rfl,h3,h4.imp id fun⟨c,off,e1,_,e2⟩=>⟨c,off,e1,e2⟩⟩
 case nil=>
  cases h
  simp only[Rp]at hy;subst hy
  exact⟨[],none,0,rfl,rfl,.inl rfl⟩
 case sle=>
  cases h
  obtain⟨a,c,rfl⟩:=hy
  exact⟨[],some a,c,rfl,rfl,.inl rfl⟩
 case ref b sz' off len=>
  obtain⟨c,cap,cp,h1,h2,h3,A,rfl,hA⟩:=hy
  simp only[Option.map_eq_some_iff]at h
  obtain⟨⟨fl',es'⟩,h4,h5⟩:=h
  simp only[Prod.mk.injEq]at h5
  obtain⟨rfl,rfl,rfl⟩:=h5
  obtain⟨e1,e2,vs,e3,e4⟩:=z16x hG h1 h4
  have e1:es'.length=len:=e1
  refine⟨vs,_,cap,by rw[e1],e3,?_⟩
  rcases hA with hA|rfl
  ·exact .inl (List.eq_nil_of_length_eq_zero (by omega))
  ·exact e4.imp id fun e4=>⟨c,_,rfl,e4⟩
theorem Shows.cells{S:Nat->Prop}{fl:Bool}{sz:Nat}{es:List PV}{vs:List Value}{b:Value}(h:Shows S w fl sz es vs b) :
  (Builtin.firstCells sz es.length b).run P w=.ok vs.toArray w:=by
 obtain⟨A,cap,rfl,h2,h3⟩:=h
 have hl:=h2.length
 rcases h3 with rfl| ⟨c,off,rfl,h4⟩
 ·simp only[RpEs]at h2;subst h2
  cases A<;>simp[Builtin.firstCells,loadCells,loadCellsFrom]
 ·exact run_firstCells_some (P:=P) w sz es.length ⟨c,off,none⟩ es.length cap vs hl (fun j v hv=>by rw[z23];exact h4 j v hv)
theorem Shows.len{S:Nat->Prop}{fl:Bool}{sz:Nat}{es:List PV}{vs:List Value}{b:Value}(h:Shows S w fl sz es vs b):(Builtin.lenOf b).run P w=.ok es.length w:=by
 obtain⟨A,cap,rfl,_⟩:=h
 simp[Builtin.lenOf]
theorem Shows.drew{S:Nat->Prop}{fl:Bool}{sz:Nat}{es:List PV}{vs:List Value}{b:Value}(h:Shows S w fl sz es vs b):Shows S w.drew fl sz es vs b:=by
 obtain⟨A,cap,rfl,h2,h3⟩:=h
 exact⟨A,cap,rfl,RpEs.mono (w:=w) (w':=w.drew) (fun c hc=>⟨hc,rfl⟩) _ _ _ _ h2,h3.imp id fun⟨c,off,e1,e2⟩=>⟨c,off,e1,e2.mono rfl⟩⟩
theorem z3l{t e:TypeId}(ht:P.underlying t=some (.slice e)){i:TypeInfo}(hi:P.info? e=some i)(ty:TypeId){g o sLen sCap:Nat}{cur:Array Value}{e':TypeId}
  (hg:w.heap[g]?=some (.cells cur e' (0,0))) {S:Nat->Prop} {fl:Bool} {es:List PV} {vs:List Value} {b:Value} (hb:Shows S w fl i.size es vs b)
  (hroom:sLen+es.length<=sCap) (hfit:o+sLen*i.size+vs.length<=cur.size) :
  (Builtin.append_ #[t,t] ty #[.slice (some ⟨g,o,none⟩) sLen sCap,b]).run P w =
   .ok (.slice (some ⟨g,o,none⟩) (sLen+es.length) sCap) (w.setRow g (cur.toList.take (o+sLen*i.size)++vs++cur.toList.drop (o+sLen*i.size+vs.length)).toArray):=by
 have hst:=run_storeCells_at P g (o+sLen*i.size) e' vs 0 cur w hg (by simpa using hfit) (by obtain⟨A,cap,rfl,h2,h3⟩:=hb;exact h2.one)
 simp only[M'b]at hst
 simp[Builtin.append_,z18i ht,sizeOf,typeInfo,hi,hb.len,hroom,hb.cells,z23,hst]
theorem z3m{t e:TypeId}(ht:P.underlying t=some (.slice e)){i:TypeInfo}(hi:P.info? e=some i)(ty:TypeId){S:Nat->Prop}{fl:Bool}{vs:List Value}{b:Value}(hb:Shows S w fl i.size [] vs b) :
  (Builtin.append_ #[t,t] ty #[.slice none 0 0,b]).run P w=.ok (.slice none 0 0) w:=by
 have h1:=hb.len (P:=P)
 have h2:=hb.cells (P:=P)
 simp only[M'7]at h1 h2
 simp[Builtin.append_,z18i ht,sizeOf,typeInfo,hi,h1,h2]
theorem z3k{t e:TypeId}(ht:P.underlying t=some (.slice e)){i:TypeInfo}{z:Value}(hi:P.info? e=some i)(hz:i.zero=some z)(ty:TypeId){S S':Nat->Prop}{fl fl':Bool}
  {xs es:List PV} {us vs:List Value} {A:Option Addr} {sCap:Nat} {b:Value} (ha:Shows S w fl i.size xs us (.slice A xs.length sCap)) (hb:Shows S' w fl' i.size es vs b)
  (hg:sCap<xs.length+es.length) (h37:xs.length+es.length<=2*zt4) (hby:i.bytes<=1024) :
  (Builtin.append_ #[t,t] ty #[.slice A xs.length sCap,b]).run P w =
   .ok (.slice (some ⟨w.heap.size,0,none⟩) (xs.length+es.length) (grownCap w (xs.length+es.length) sCap e))
    (w.drew.alloc (.cells (us.toArray++vs.toArray++Builtin.zeroCells z.cells (grownCap w (xs.length+es.length) sCap e-(xs.length+es.length))) e)):=by
 have h37':xs.length+es.length<=137438953472:=h37
 have hn:¬(xs.length+es.length<=sCap):=by omega
 have h63':¬(9223372036854775807<((xs.length:Int)+(es.length:Int))):=by omega
 have hmul:(xs.length+es.length)*i.bytes<=137438953472*1024:=Nat.mul_le_mul h37' hby
 have h48':¬(281474976710656<Builtin.nextslicecap (xs.length+es.length) sCap*i.bytes):=by
  have:=growslice_fits (old:=sCap) (bytes:=i.bytes) hg (by omega)
  omega
 have e1:=ha.drew.cells (P:=P)
 have e2:=hb.drew.cells (P:=P)
 have e3:=hb.len (P:=P)
 simp[Builtin.append_,z18i ht,sizeOf,typeInfo,zeroValue,hi,hz,e3,hn,h63',h48',Question.forced,e1,e2,newRow,grownCap]
 congr 2
 apply Array.ext'
 simp[M'c]
theorem z3n (hG : Good G w mem) {x y r : PV} {a b : Value} (hx : Rp G w x a) (hy : Rp G w y b) {t e : TypeId} {fl : Bool} {sz : Nat} {z : PV} (ht : P.underlying t = some (.slice e)) (hz : z1i6 P e = some z) (hzo : okE fl sz z = true)
    (hsz : P.cellsOf e = sz) (hby : P.bytesOf e <= 1024) (ty : TypeId) {mem' : List Blk} (h : appendV mem e fl sz x y = some (r, mem')) :
    ∃ v' w' G', (Builtin.append_ #[t, t] ty #[a, b]).run P w = .ok v' w' /\ Good G' w' mem' /\ Ext G w mem G' w' mem' /\ Rp G' w' r v' := by
  obtain ⟨i, zv, h1, h2, h3⟩ := z1i7 hz
  have hb' : i.bytes <= 1024 := by simpa [Program.bytesOf, h1] using hby
  have hs' : i.size = sz := by simpa [Program.cellsOf, h1] using hsz
  have hzi : RpI G.S w z zv := (RpI.up hzo).1 (h3 _ _)
  have hzs : zv.cells.size = sz := by have := zwa hzi hzo; simpa using this
  subst hs'
  unfold appendV at h
  simp only [L's] at h
  obtain ⟨⟨fl', sz', es⟩, h4, h5⟩ := h
  split at h5
  case isFalse => cases h5
  rename_i hc
  obtain ⟨hc1, hc2, hc3⟩ := hc
  simp only at hc1 hc2 hc3 h5
  subst hc1 hc2
  obtain ⟨vs, hsh⟩ := z1a5 hG hy h4
  have hvl : vs.length = es.length * i.size := by obtain ⟨A, cap, rfl, h2, h3⟩ := hsh; exact h2.length
  have fresh : ∀ (mem : List Blk) (A : Option Addr) (sCap : Nat) (xs : List PV) (us : List Value), Good G w mem -> Shows G.S w fl' i.size xs us (.slice A xs.length sCap) -> a = .slice A xs.length sCap -> sCap < xs.length + es.length -> xs.length <= zt4 ->
      ∃ v' w' G', (Builtin.append_ #[t, t] ty #[a, b]).run P w = .ok v' w' /\ Good G' w' (mem ++ [.row e fl' i.size (xs ++ es)]) /\ Ext G w mem G' w' (mem ++ [.row e fl' i.size (xs ++ es)]) /\ Rp G' w' (.ref mem.length i.size 0 (xs.length + es.length)) v' := by
    intro mem A sCap xs us hG ha hA hlt hmax
    have hr := z3k ht h1 h2 ty ha hsh hlt (by simp only [zt4] at *; omega) hb'
    have hgrew : Grew w (w.drew.alloc (.cells (us.toArray ++ vs.toArray ++ Builtin.zeroCells zv.cells (grownCap w (xs.length + es.length) sCap e - (xs.length + es.length))) e)) := (Grew.drew w).trans (.alloc w.drew _)
    have hge := grownCap_ge w (xs.length + es.length) sCap e
    have hul : us.length = xs.length * i.size := by obtain ⟨A, cap, _, h2, _⟩ := ha; exact h2.length
    have hall : RpEs G.S w fl' i.size (xs ++ es) (us ++ vs) := by
      obtain ⟨_, _, _, q1, _⟩ := ha
      obtain ⟨_, _, _, q2, _⟩ := hsh
      exact q1.append q2
    obtain ⟨g1, g2⟩ := hG.push (c := w.heap.size) (cp := grownCap w (xs.length + es.length) sCap e) (k := .row e fl' i.size (xs ++ es)) hgrew (L'l _) (fun hl => by
      refine rowOk (fun h => by rw [M'f] at h; obtain ⟨rfl, rfl⟩ := h; simp at hlt) ⟨_, us ++ vs, heap_alloc_new w.drew _, ?_, by simpa using hge, RpEs.mono hl.I _ _ _ _ hall, ?_⟩
      · simp only [Array.size_append, M'4, size_zeroCells, hzs, hul, hvl, <- L'2]
        congr 1; omega
      · simp only [Array.toList_append, M'c]
        rw [<- M'c, M'g (by simp [hul, hvl, L'2]), L'e (by simp [hul, hvl, L'2])])
    exact ⟨_, _, _, hA ▸ hr, g1, g2, w.heap.size, _, _, Gh.bind_same, by omega, hge, _, rfl, .inr (by simp)⟩
  split at h5
  · -- nil
    simp only [Rp] at hx
    cases h5
    by_cases hne : es = []
    · subst hne
      obtain ⟨G', g1, g2, g3⟩ := (zvm (G := G) (w := w) (e := e) (fl := fl') (sz := i.size)).push hG
      exact ⟨_, w, G', by rw [hx]; exact z3m ht h1 ty hsh, g1, g2, g3⟩
    · have hpos : 0 < es.length := M'5.2 hne
      have := fresh mem none 0 [] [] hG ⟨none, 0, rfl, rfl, .inl rfl⟩ hx (by simpa using hpos) (by simp)
      simpa using this
  · -- a row of one's own
    rename_i b0 sx off len
    obtain ⟨c, cap, cp, k1, k2, k3, A, hA, hA'⟩ := hx
    split at h5
    case h_2 => cases h5
    rename_i t' flx szx xs hb
    split at h5
    case isFalse => cases h5
    rename_i hq
    obtain ⟨q1, q2, q3, q4⟩ := hq
    subst q1 q2
    cases q3
    cases q4
    by_cases h0 : xs = []
    · -- nothing there
      subst h0
      have hcp : cp = 0 := by
        rcases hG.blk b0 _ c cp hb k1 with h | ⟨h, _⟩
        · exact h.2
        · exact (h rfl).elim
      obtain ⟨rfl, rfl, rfl⟩ : off = 0 /\ cap = 0 /\ len = 0 := by omega
      simp only [M'7, M'6] at h5
      rw [if_pos ⟨trivial, trivial, by simp⟩] at h5
      cases h5
      obtain ⟨g1, g2⟩ : Good G w (mem.set b0 .dead) /\ Ext G w mem G w (mem.set b0 .dead) := hG.bury hb (by simp [Blk.own]) k1
      by_cases hne : es = []
      · subst hne
        obtain ⟨G', f2, f3, f4⟩ := (zvn (G := G) (w := w) (e := t') (fl := flx) (sz := i.size) A).push g1
        refine ⟨_, w, G', ?_, f2, g2.trans f3, by simpa using f4⟩
        rw [hA]
        have h1 := hsh.len (P := P)
        have h2 := hsh.cells (P := P)
        simp only [M'7] at h1 h2
        have hvs : vs = [] := by obtain ⟨_, _, _, h, _⟩ := hsh; exact h
        subst hvs
        cases A <;> simp [Builtin.append_, z18i ht, sizeOf, typeInfo, storeCells, *]
      · have hpos : 0 < es.length := M'5.2 hne
        obtain ⟨v', w', G', f1, f2, f3, f4⟩ := fresh (mem.set b0 .dead) A 0 [] [] g1 ⟨A, 0, rfl, rfl, .inl rfl⟩ hA (by simpa using hpos) (by simp)
        refine ⟨v', w', G', f1, by simpa using f2, g2.trans (by simpa using f3), by simpa using f4⟩
    obtain ⟨tt, arr, us, m1, m2, m3, m4, m5⟩ := z176 (hG.blk b0 _ c cp hb k1) h0
    have hxs : 0 < xs.length := M'5.2 h0
    obtain rfl := hA'.resolve_left (by omega)
    have hul := m4.length
    have newname : off = 0 -> len <= xs.length -> len <= zt4 -> xs.take len ++ es ≠ [] ->
        ∃ v' w' G', (Builtin.append_ #[t, t] ty #[a, b]).run P w = .ok v' w' /\ Good G' w' (mem.set b0 .dead ++ [.row t' flx i.size (xs.take len ++ es)]) /\ Ext G w mem G' w' (mem.set b0 .dead ++ [.row t' flx i.size (xs.take len ++ es)]) /\ Rp G' w' (.ref mem.length i.size 0 (len + es.length)) v' := by
      intro h0' hq2 hq3 hne
      subst h0'
      have hxl : (xs.take len).length = len := by simp; omega
      by_cases hroom : len + es.length <= cap
      · -- the room suffices
        have hmul : (len + es.length) * i.size <= cp * i.size := M'1 _ (by omega)
        rw [L'2] at hmul
        have hr := z3l ht h1 ty (o := 0) (sLen := len) (sCap := cap) m1 hsh hroom (by omega)
        simp only [M'6] at hr
        rw [hA]
        simp only [Nat.zero_mul]
        have hmul3 : len * i.size <= xs.length * i.size := M'1 _ hq2
        obtain ⟨g1, g2⟩ := hG.rename (k' := .row t' flx i.size (xs.take len ++ es)) hb (z101 h0) k1 (Wrote.setRow w c (arr.toList.take (len * i.size) ++ vs ++ arr.toList.drop (len * i.size + vs.length)).toArray) (fun G' hl _ => by
          obtain ⟨_, _, _, p2, _⟩ := hsh
          refine .inr ⟨hne, _, _, us.take (len * i.size) ++ vs, setRow_heap w c arr _ tt (0, 0) m1, ?_, by simp; omega, ((RpEs.mono hl.I _ _ _ _ m4).take _).append (RpEs.mono hl.I _ _ _ _ p2), ?_⟩
          · simp only [M'4, L'x, L'w, L'y, Array.length_toList]; omega
          · rw [L'x, hxl, M'9, M'g (by simp; rw [L'2]; omega), L'e (by simp; rw [L'2]; omega), <- m5, M'h]
            congr 2
            omega) (z101 hne)
        exact ⟨_, _, _, hr, g1, g2, c, cap, cp, Gh.bind_same, by omega, by omega, _, rfl, .inr (by simp)⟩
      · -- a new row, the old one is dead
        obtain ⟨g1, g2⟩ := hG.write (k' := .dead) hb (z101 h0) k1 ((Grew.refl w).wrote c) (fun _ _ _ _ => trivial)
        have hshx : Shows G.S w flx i.size (xs.take len) (us.take (len * i.size)) (.slice (some ⟨c, 0 * i.size, none⟩) (xs.take len).length cap) := by
          refine ⟨_, _, rfl, m4.take len, .inr ⟨c, _, rfl, ?_⟩⟩
          rw [Nat.zero_mul]
          refine .of_row m1 0 (len * i.size) ?_
          rw [M'a, <- m5, M'h]
          congr 1
          have : len * i.size <= xs.length * i.size := M'1 _ hq2
          omega
        obtain ⟨v', w', G', f1, f2, f3, f4⟩ := fresh (mem.set b0 .dead) _ cap (xs.take len) _ g1 hshx (by rw [hA, hxl]) (by omega) (by omega)
        refine ⟨v', w', G', f1, f2, g2.trans f3, ?_⟩
        rw [hxl] at f4
        simpa using f4
    split at h5
    · rename_i hq
      obtain ⟨q1, rfl, q3⟩ := hq
      cases h5
      have := newname q1 (L'l _) q3 (by rw [M'i]; simp [h0])
      rwa [M'i] at this
    rename_i hnq
    split at h5
    · -- within what the row holds
      rename_i hle
      cases h5
      have hmul : (off + len + es.length) * i.size <= xs.length * i.size := M'1 _ hle
      have hmul2 : xs.length * i.size <= cp * i.size := M'1 _ m3
      simp only [L'2] at hmul
      have hr := z3l ht h1 ty (o := off * i.size) (sLen := len) (sCap := cap) m1 hsh (by omega) (by omega)
      rw [hA]
      obtain ⟨g1, g2⟩ := hG.write (k' := .row t' flx i.size (splice xs (off + len) es)) hb (z101 h0) k1 (Wrote.setRow w c (arr.toList.take (off * i.size + len * i.size) ++ vs ++ arr.toList.drop (off * i.size + len * i.size + vs.length)).toArray) (fun G' hl _ _ => by
        obtain ⟨_, _, _, p2, _⟩ := hsh
        have hsl0 : (splice xs (off + len) es).length = xs.length := by simp [splice]; omega
        refine .inr ⟨fun h => by rw [h] at hsl0; simp at hsl0; omega, _, _, (us.take ((off + len) * i.size) ++ vs) ++ us.drop ((off + len + es.length) * i.size), setRow_heap w c arr _ tt (0, 0) m1, ?_, ?_, ?_, ?_⟩
        · simp only [M'4, L'x, L'w, L'y, Array.length_toList]; omega
        · simp [splice]; omega
        · unfold splice
          exact (((RpEs.mono hl.I _ _ _ _ m4).take _).append (RpEs.mono hl.I _ _ _ _ p2)).append ((RpEs.mono hl.I _ _ _ _ m4).drop _)
        · have hsl : (splice xs (off + len) es).length = xs.length := by simp [splice]; omega
          rw [hsl, M'9, L'2, L'2]
          have := zro arr.toList vs 0 (xs.length * i.size) (xs.length * i.size) (off * i.size + len * i.size) (by omega) (by simp; omega) (by omega)
          simp only [M'6, M'd, M'3, M'a] at this
          have htk : us.take (xs.length * i.size) = us := L'e (by omega)
          rw [this, m5, htk, L'a (l := us) (i := xs.length * i.size) (by omega), M'e, hvl]; simp only [L'2])
      exact ⟨_, _, G, hr, g1, g2, c, cap, cp, k1, k2, by omega, _, rfl, .inr rfl⟩
    · rename_i hnle
      split at h5
      case isFalse => cases h5
      rename_i hq
      obtain ⟨hq1, hq2, hq3⟩ := hq
      cases h5
      refine newname hq1 hq2 hq3 fun h => ?_
      have he := congrArg List.length (M'f.1 h).2
      rw [M'7] at he
      omega
  · cases h5

theorem z1i3(z:Array Value)(n:Nat):(Builtin.zeroCells z n).toList=(L'0 n z.toList).flatten:=by
 have:Builtin.zeroCells z n=madeCells z (n*z.size):=rfl
 rw[this,zs6]
theorem zam(hG:Good G w mem){x:PV}{a:Value}(hx:Rp G w x a){t e:TypeId}{z:PV}(ht:P.underlying t=some (.slice e))(hz:z1i6 P e=some z)(ty:TypeId){mem':List Blk}
  (h:clrV mem z x=some mem'):∃w' G',(Builtin.clear_ #[t] ty #[a]).run P w=.ok (.tuple #[]) w'/\Good G' w' mem'/\Ext G w mem G' w' mem':=by
 obtain⟨i,zv,h1,h2,h3⟩:=z1i7 hz
 cases x<;>simp only[clrV]at h<;>try(cases h;done)
 case nil=>
  cases h
  simp only[Rp]at hx;subst hx
  exact⟨w,G,by simp[Builtin.clear_,z18i ht],hG,.refl G w mem⟩
 case ref b sz off len=>
  obtain⟨c,cap,cp,k1,k2,k3,A,rfl,hA⟩:=hx
  split at h
  ·rename_i hl;cases h;subst hl
   refine⟨w,G,?_,hG,.refl G w mem⟩
   cases A<;>simp[Builtin.clear_,z18i ht]
  rename_i hl
  split at h
  case h_2=>cases h
  rename_i t' fl sz' es hb
  split at h
  case isFalse=>cases h
  rename_i hq
  obtain⟨rfl,hq2,hq3⟩:=hq
  cases h
  have h0:es≠[]:=by rintro rfl;simp at hq2;omega
  obtain⟨tt,arr,vs,m1,m2,m3,m4,m5⟩:=z176 (hG.blk b _ c cp hb k1) h0
  have hes:0<es.length:=M'5.2 h0
  obtain rfl:=hA.resolve_left (by omega)
  have hzi:RpI G.S w z zv:=(RpI.up hq3).1 (h3 _ _)
  have hzs:=zwa hzi hq3
  have hrep:=RpEs.replicate hzi hq3 len
  have hrl:=hrep.length
  simp only[M'j]at hrl
  have hvl:=m4.length
  have hmul:(off+len)*sz'<=es.length*sz':=M'1 _ hq2
  have hmul2:es.length*sz'<=cp*sz':=M'1 _ m3
  rw[L'2]at hmul
  have hst:=run_storeCells_at P c (off*sz') tt (L'0 len zv.cells.toList).flatten 0 arr w m1 (by rw[hrl];omega) hrep.one
  simp only[M'b]at hst
  have hlen:len=len-1+1:=by omega
  have hzc:(Builtin.zeroCells zv.cells len).toList=(L'0 len zv.cells.toList).flatten:=z1i3 _ _
  have hrow:=setRow_heap w c arr (arr.toList.take (off*sz')++(L'0 len zv.cells.toList).flatten++arr.toList.drop (off*sz'+(L'0 len zv.cells.toList).flatten.length)).toArray tt (0,0) m1
  have hsl:(splice es off (L'0 len z)).length=es.length:=by simp[splice];omega
  obtain⟨g1,g2⟩:=hG.write (k':=.row t' fl sz' (splice es off (L'0 len z))) hb (z101 h0) k1 (Wrote.setRow w c _) (fun G' hl' _ _=>by
   refine .inr ⟨fun h=>by rw[h]at hsl;simp at hsl;omega,_,_,(vs.take (off*sz')++(L'0 len zv.cells.toList).flatten)++vs.drop ((off+len)*sz'),hrow,?_,by rw[hsl];exact m3,?_,?_⟩
   ·simp only[M'4,L'x,L'w,L'y,Array.length_toList,hrl];omega
   ·unfold splice
    rw[M'j]
    exact(((RpEs.mono hl'.I _ _ _ _ m4).take _).append (RpEs.mono hl'.I _ _ _ _ hrep)).append ((RpEs.mono hl'.I _ _ _ _ m4).drop _)
   ·rw[hsl,M'9]
    have:=zro arr.toList (L'0 len zv.cells.toList).flatten 0 (es.length*sz') (es.length*sz') (off*sz') (by omega) (by simp;omega) (by rw[hrl];omega)
    simp only[M'6,M'd,M'3,M'a]at this
    have htk:vs.take (es.length*sz')=vs:=L'e (by omega)
    rw[this,m5,htk,L'a (l:=vs) (i:=es.length*sz') (by omega),M'e,hrl,L'2])
  refine⟨_,G,?_,g1,g2⟩
  rw[hlen]
  simp only[Builtin.clear_]
  simp[z18i ht,z18j h1 h2,hzc,<-hlen,hst]
theorem Shows.cellsTo{S:Nat->Prop}{fl:Bool}{sz:Nat}{es:List PV}{vs:List Value}{b:Value}(h:Shows S w fl sz es vs b){n:Nat}(hn:n<=es.length) :
  (Builtin.firstCells sz n b).run P w=.ok (vs.take (n*sz)).toArray w:=by
 obtain⟨A,cap,rfl,h2,h3⟩:=h
 have hl:=h2.length
 have hmul:n*sz<=es.length*sz:=M'1 _ hn
 have hl2:(vs.take (n*sz)).length=n*sz:=by simp;omega
 rcases h3 with rfl| ⟨c,off,rfl,h4⟩
 ·simp at hn;subst hn
  simp only[RpEs]at h2;subst h2
  cases A<;>simp[Builtin.firstCells,loadCells,loadCellsFrom]
 ·refine run_firstCells_some (P:=P) w sz n ⟨c,off,none⟩ es.length cap (vs.take (n*sz)) hl2 (fun j v hv=>by
   rw[z23]
   rw[L'o]at hv
   split at hv
   ·exact h4 j v hv
   ·cases hv)
theorem zbv{sx:Nat}(hG:Good G w mem){x y:PV}{a b:Value}(hx:Rp G w x a)(hy:Rp G w y b){t e:TypeId}{i:TypeInfo}(ht:P.underlying t=some (.slice e))(hi:P.info? e=some i)(hsz:i.size=sx)(ty:TypeId){r:Nat×List Blk}
  (h:copyV mem sx x y=some r):∃w' G',(Builtin.copy_ #[t,t] ty #[a,b]).run P w=.ok (goInt r.1) w'/\Good G' w' r.2/\Ext G w mem G' w' r.2:=by
 cases x<;>simp only[copyV]at h<;>try(cases h;done)
 case ref b0 sz off len=>
  subst hsz
  obtain⟨c,cap,cp,k1,k2,k3,A,rfl,hA⟩:=hx
  simp only[L's]at h
  obtain⟨⟨fl',szx,xs⟩,h4,h5⟩:=h
  split at h5
  case h_2=>cases h5
  rename_i t' fl sz2 es hb
  split at h5
  case isFalse=>cases h5
  rename_i hq
  obtain⟨q0,q1,q2,q3,q4,q5,q6,q7⟩:=hq
  simp only at q2 q3 q6 h5
  subst q0 q1
  cases q2
  subst q3
  cases h5
  obtain⟨vs,hsh⟩:=z1a5 hG hy h4
  have h0:es≠[]:=by rintro rfl;simp at q4;omega
  obtain⟨tt,arr,us,m1,m2,m3,m4,m5⟩:=z176 (hG.blk b0 _ c cp hb k1) h0
  have hes:0<es.length:=M'5.2 h0
  obtain rfl:=hA.resolve_left (by omega)
  have hlb:=hsh.len (P:=P)
  obtain⟨n,hn⟩:∃n,min xs.length len=n:=⟨_,rfl⟩
  have hnx:n<=xs.length:=by omega
  have hnl:n<=len:=by omega
  have hce:=hsh.cellsTo (P:=P) hnx
  obtain⟨A',cap',_,p2,_⟩:=id hsh
  have hvl:=p2.length
  have hul:=m4.length
  have ptk:RpEs G.S w fl' i.size (xs.take n) (vs.take (n*i.size)):=p2.take n
  have hptl:(vs.take (n*i.size)).length=n*i.size:=by
   have:=M'1 i.size hnx
   simp;omega
  have hmul:(off+n)*i.size<=es.length*i.size:=M'1 _ (by omega)
  have hmul2:es.length*i.size<=cp*i.size:=M'1 _ m3
  simp only[L'2]at hmul
  have hst:=run_storeCells_at P c (off*i.size) tt (vs.take (n*i.size)) 0 arr w m1 (by rw[hptl];omega) ptk.one
  simp only[M'b]at hst
  have hxn:(xs.take n).length=n:=by simp;omega
  have hsl:(splice es off (xs.take n)).length=es.length:=by simp[splice];omega
  have hrow:=setRow_heap w c arr (arr.toList.take (off*i.size)++vs.take (n*i.size)++arr.toList.drop (off*i.size+(vs.take (n*i.size)).length)).toArray tt (0,0) m1
  obtain⟨g1,g2⟩:=hG.write (k':=.row t' fl' i.size (splice es off (xs.take n))) hb (z101 h0) k1 (Wrote.setRow w c _) (fun G' hl' _ _=>by
   refine .inr ⟨fun h=>by rw[h]at hsl;simp at hsl;omega,_,_,(us.take (off*i.size)++vs.take (n*i.size))++us.drop ((off+n)*i.size),hrow,?_,by rw[hsl];exact m3,?_,?_⟩
   ·simp only[M'4,L'x,L'w,L'y,Array.length_toList]
    have:n*i.size<=xs.length*i.size:=M'1 _ hnx
    omega
   ·unfold splice
    rw[hxn]
    exact(((RpEs.mono hl'.I _ _ _ _ m4).take _).append (RpEs.mono hl'.I _ _ _ _ ptk)).append ((RpEs.mono hl'.I _ _ _ _ m4).drop _)
   ·rw[hsl,M'9]
    have:=zro arr.toList (vs.take (n*i.size)) 0 (es.length*i.size) (es.length*i.size) (off*i.size) (by omega) (by simp;omega) (by rw[hptl];omega)
    simp only[M'6,M'd,M'3,M'a]at this
    have htk:us.take (es.length*i.size)=us:=L'e (by omega)
    rw[this,m5,htk,L'a (l:=us) (i:=es.length*i.size) (by omega),M'e,hptl,L'2])
  rw[hn]
  refine⟨_,G,?_,g1,g2⟩
  have hn2:Nat.min xs.length len=n:=hn
  simp[Builtin.copy_,z18i ht,hlb,sizeOf,typeInfo,hi,hn2,hce,hst]
end
end Go.Proofs.YtbaclnecajkknaaGreat.Pi

