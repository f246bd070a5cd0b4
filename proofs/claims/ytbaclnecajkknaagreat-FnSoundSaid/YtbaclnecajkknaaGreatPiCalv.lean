/- Pi: calls that write nothing of the caller's. -/
import Derived.Test.YtbaclnecajkknaaGreatPiCall
open List renaming getElem?_set_ne->L'n,mem_map->M's,mem_cons->M'z
open Nat renaming lt_of_lt_of_le->L'i
namespace Go.Proofs.YtbaclnecajkknaaGreat.Pi
open Go
set_option linter.all false

section
variable {P:Program}{G:Gh}{w w':World}{mem:List Blk}
theorem z13w(hG:Good G w mem):∀(d:Nat)(bs:List Nat),(∀b∈bs,∃p,G.ids b=some p)->∀b∈reach mem d bs,∃p,G.ids b=some p
 |0,bs,h,b,hb=>h b hb
 |d+1,bs,h,b,hb=>by
  simp only[reach,List.mem_append]at hb
  rcases hb with hb|hb
  ·exact h b hb
  ·refine z13w hG d _ ?_ b hb
   intro r hr
   simp only[List.mem_flatMap]at hr
   obtain⟨b',hb',hr⟩:=hr
   obtain⟨⟨c,cp⟩,hi⟩:=h b' hb'
   split at hr
   ·rename_i k hk
    cases k<;>simp[Blk.refs]at hr
    rename_i t cs
    obtain⟨arr,k1,k2,k3⟩:=hG.blk b' _ c cp hk hi
    exact RpL.named cs arr.toList k2 r hr
   ·simp at hr
theorem zoo:∀(R:List Nat) {G:Gh} {mem:List Blk},Good G w mem->(∀b∈R,∃p,G.ids b=some p) ->
  ∃G2,Good G2 w (kill mem R)/\Ext G w mem G2 w (kill mem R)/\G2.ids=G.ids/\(∀b∈R,∀t fl sz es c cp,mem[b]?=some (.row t fl sz es)->es≠[]->G.ids b=some (c,cp)->G2.S c) /\
   (∀x d,G2.X x=some d->G.X x=some d)/\(∀b∈R,∀t sz es d cp x,mem[b]?=some (.lin t sz es)->es≠[]->G.ids b=some (d,cp)->x=d\/G.X x=some d->G2.S x)
 |[],G,mem,hG,_=>⟨G,hG,.refl G w mem,rfl,by simp,fun _ _ h=>h,by simp⟩
 |b::R,G,mem,hG,hR=>by
  obtain⟨⟨c,cp⟩,hi⟩:=hR b (by simp)
  have step:∃G1,Good G1 w (freeze mem b)/\Ext G w mem G1 w (freeze mem b)/\G1.ids=G.ids/\(∀t fl sz es,mem[b]?=some (.row t fl sz es)->es≠[]->G1.S c)/\(∀b',b'≠b->(freeze mem b)[b']?=mem[b']?)/\(∀x d,G1.X x=some d->G.X x=some d) /\
    (∀x d,G.X x=some d->G1.X x=some d\/G1.S x)/\(∀t sz es x,mem[b]?=some (.lin t sz es)->es≠[]->x=c\/G.X x=some c->G1.S x):=by
   cases hb:mem[b]? with
   |none=>exact⟨G,by simpa [freeze,hb]using hG,by simpa [freeze,hb]using Ext.refl G w mem,rfl,by simp,by simp [freeze,hb],fun _ _ h=>h,fun _ _ h=>.inl h,by simp⟩
   |some k=>
    cases k with
    |row t fl sz es=>
     by_cases h0:es=[]
     ·subst h0
      have hfr:freeze mem b=mem.set b (.fro fl sz []):=by simp [freeze,hb]
      rw[hfr]
      obtain⟨g1,g2⟩:=hG.bury' (k:=.dead) (.fro fl sz []) hi rfl (.inl rfl)
      refine⟨G,g1,g2,rfl,fun _ _ _ _ h h'=>?_,fun b' hne=>by rw[L'n (fun e=>hne e.symm)],fun _ _ h=>h,fun _ _ h=>.inl h,fun _ _ _ _ h=>by cases h⟩
      cases h;exact(h' rfl).elim
     obtain⟨g1,g2⟩:=hG.freeze hb h0 hi
     have hfr:freeze mem b=mem.set b (.fro fl sz es):=by simp [freeze,hb]
     rw[hfr]
     exact⟨_,g1,g2,rfl,fun _ _ _ _ _ _=>.inr rfl,fun b' hne=>by rw[L'n (fun e=>hne e.symm)],fun _ _ h=>h,fun _ _ h=>.inl h,fun _ _ _ _ h=>by cases h⟩
    |lin t sz es=>
     have hfr:freeze mem b=mem.set b (.fro false sz es):=by simp [freeze,hb]
     rw[hfr]
     by_cases h0:es=[]
     ·subst h0
      obtain⟨g1,g2⟩:=hG.bury' (k:=.dead) (.fro false sz []) hi rfl (.inl rfl)
      refine⟨G,g1,g2,rfl,(fun _ _ _ _ h=>by cases h),fun b' hne=>by rw[L'n (fun e=>hne e.symm)],fun _ _ h=>h,fun _ _ h=>.inl h,fun _ _ _ _ h h'=>?_⟩
      cases h;exact(h' rfl).elim
     obtain⟨g1,g2⟩:=hG.freezeL hb h0 hi
     refine⟨_,g1,g2,rfl,(fun _ _ _ _ h=>by cases h),fun b' hne=>by rw[L'n (fun e=>hne e.symm)],fun x d hx=>?_,fun x d hx=>?_,fun _ _ _ x _ _ hx=>.inr hx⟩
     ·simp only[Gh.frzL]at hx
      split at hx
      ·cases hx
      ·exact hx
     ·by_cases hxc:G.X x=some c
      ·exact .inr (.inr (.inr hxc))
      ·refine .inl ?_
       show(if G.X x=some c then Option.none else G.X x)=some d
       rw[if_neg hxc];exact hx
    |_=>exact⟨G,by simpa [freeze,hb]using hG,by simpa [freeze,hb]using Ext.refl G w mem,rfl,by simp,by simp [freeze,hb],fun _ _ h=>h,fun _ _ h=>.inl h,by simp⟩
  obtain⟨G1,g1,g2,g3,g4,g5,g6,g7,g8⟩:=step
  obtain⟨G2,k1,k2,k3,k4,k5,k6⟩:=zoo R g1 (fun b' hb'=>by rw[g3];exact hR b' (by simp [hb']))
  refine⟨G2,k1,g2.trans k2,k3.trans g3,?_,fun x d hx=>g6 x d (k5 x d hx),?_⟩
  ·intro b' hb' t fl sz es c' cp' hr h0 hi'
   by_cases he:b'=b
   ·subst he
    rw[hi]at hi';cases hi'
    exact k2.S c (g4 t fl sz es hr h0)
   ·rcases M'z.1 hb' with hb'|hb'
    ·exact(he hb').elim
    ·exact k4 b' hb' t fl sz es c' cp' (by rw[g5 b' he];exact hr) h0 (by rw[g3];exact hi')
  ·intro b' hb' t sz es d cp' x hr h0 hi' hx
   by_cases he:b'=b
   ·subst he
    rw[hi]at hi';cases hi'
    exact k2.S x (g8 t sz es x hr h0 hx)
   ·rcases M'z.1 hb' with hb'|hb'
    ·exact(he hb').elim
    ·rcases hx with hx|hx
     ·exact k6 b' hb' t sz es d cp' x (by rw[g5 b' he];exact hr) h0 (by rw[g3];exact hi') (.inl hx)
     ·rcases g7 x d hx with hx|hx
      ·exact k6 b' hb' t sz es d cp' x (by rw[g5 b' he];exact hr) h0 (by rw[g3];exact hi') (.inr hx)
      ·exact k2.S x hx
def Post(G:Gh)(w:World)(M:List Blk)(r:PV)(M1:List Blk)(v:Value)(w1:World):Prop:=
∃G1 us,Good G1 w1 M1/\Wx G w M G1 w1 M1/\RpU G1 w1 r v us/\Free G1 M1 us/\(∀u∈us,Own G M u.1\/w.heap.size<=u.1)/\(∀b,b<M.length->G1.ids b=G.ids b)/\M.length<=M1.length
def z06 (P : Program) (f : FuncId) : Prop := ∃ fn, P.funcs[f]? = some fn /\ fn.body.isNone = false /\ (fn.name == "runtime.NumGoroutine") = false

def OrcOk(P:Program)(orc:Orc):Prop:=
∀f args M r M1,orc f args M=some (r,M1)->z06 P f/\∀G w vargs,Good G w M->RpL G w args vargs ->
 Calls P f (List.toArray vargs) w fun e w1=>match e with| .returned v=>Post G w M r M1 v w1|_=>False
theorem zvp{c:Nat}(hX:∀x,G.X x=none):¬Own G [] c:=by
 rintro(⟨b,k,cp,hb,_⟩|⟨d,hd⟩)
 ·simp at hb
 ·rw[hX]at hd;cases hd
theorem Grew.of_wx{G1:Gh}{M1:List Blk}(hX:∀x,G.X x=none)(h:Wx G w [] G1 w' M1):Grew w w':=⟨h.os,h.tape,h.output,h.size,fun c hc=>h.same c hc (zvp hX)⟩
theorem z8c {orc : Orc} (ho : OrcOk P orc) (hG : Good G w mem) {dr : Bool} {f : FuncId} {args : List PV} {vargs : List Value} (hx : RpL G w args vargs) {r : PV} {mem' : List Blk}
    (h : callV orc dr mem f args = some (r, mem')) :
    z06 P f /\ Calls P f vargs.toArray w fun e w1 => match e with | .returned v => ∃ G', Good G' w1 mem' /\ Ext G w mem G' w1 mem' /\ Rp G' w1 r v | _ => False := by
  simp only [callV, Option.bind_eq_some_iff] at h
  obtain ⟨vs, h1, ⟨r0, M1⟩, h2, h3⟩ := h
  split at h3
  case isFalse => cases h3
  rename_i hres
  have hview := z1gy hG h1 hx
  obtain ⟨hent, hcall⟩ := ho _ _ _ _ _ h2
  refine ⟨hent, Calls.mono (hcall _ w vargs (hG.view _) hview) ?_⟩
  intro e w1 he
  cases e with
  | panicked _ => exact he
  | outgrown => exact he
  | returned v =>
    obtain ⟨G1, us, p1, p2, p3, p4, p5, p6, p7⟩ := he
    have hgrew := Grew.of_wx (fun _ => rfl) p2
    have hfresh : ∀ u ∈ us, w.heap.size <= u.1 := by
      intro u hu
      rcases p5 u hu with hu | hu
      · exact (zvp (fun _ => rfl) hu).elim
      · exact hu
    have hlt := p3.lt
    have fin : ∀ (G2 : Gh) (mem2 : List Blk), Good G2 w mem2 -> Ext G w mem G2 w mem2 -> ∀ (G' : Gh), G'.ids = G2.ids -> G'.X = G2.X -> (∀ c, G2.S c -> G'.S c) -> (∀ c, G2.T c -> G'.T c) -> (∀ c, G'.S c -> G'.T c) ->
        (∀ c, G'.T c -> G2.T c \/ (w.heap.size <= c /\ c < w1.heap.size /\ c ∉ us.map (·.1))) -> (∀ c, G'.S c -> G2.S c \/ w.heap.size <= c) -> RpU G' w1 r0 v us -> (if dr then some (frz r0, mem2) else some (imp mem2 r0)) = some (r, mem') ->
        ∃ G'', Good G'' w1 mem' /\ Ext G w mem G'' w1 mem' /\ Rp G'' w1 r v := by
      intro G2 mem2 g2 x2 G' hi hX hS hT hST hnT hnS hr hd
      have hown : ∀ (G' : Gh), G'.ids = G2.ids -> G'.X = G2.X -> ∀ c, Own G' mem2 c ↔ Own G2 mem2 c := by
        intro G' hi hX c
        simp only [Own, Top, hi, hX]
      have htop : ∀ (G' : Gh), G'.ids = G2.ids -> ∀ c, Top G' mem2 c ↔ Top G2 mem2 c := by
        intro G' hi c
        simp only [Top, hi]
      have hl : Le G2 w G' w1 := ⟨hS, hT, g2.ST, fun c hc => hgrew.same c (g2.lt c hc), fun b p hp => by rw [hi]; exact hp⟩
      have good' : Good G' w1 mem2 := by
        refine ⟨fun b p hp => g2.bnd b p (by rw [<- hi]; exact hp), fun b k c cp hb hc => ?_, hST, fun c hc => ?_, fun c ho hc => ?_, fun b b' k k' c cp cp' e1 e2 e3 e4 e5 e6 => g2.inj b b' k k' c cp cp' e1 e2 e3 e4 (by rw [<- hi]; exact e5) (by rw [<- hi]; exact e6), fun c d hd => L'i (g2.xlt c d (by rw [<- hX]; exact hd)) hgrew.size, fun c d hd ht => g2.xap c d (by rw [<- hX]; exact hd) ((htop G' hi c).1 ht)⟩
        · rw [hi] at hc
          have := g2.blk b k c cp hb hc
          exact this.monoX hl (fun hk => hgrew.same c (this.lt hk)) (fun _ _ x hx => ⟨by rw [hX]; exact hx, hgrew.same x (g2.xlt x _ hx)⟩)
        · rcases hnT c hc with hc | hc
          · exact L'i (g2.lt c hc) hgrew.size
          · exact hc.2.1
        · have ho := (hown G' hi hX c).1 ho
          rcases hnT c hc with hc | hc
          · exact g2.apart c ho hc
          · have := g2.ownLt ho; omega
      have free' : Free G' mem2 us := by
        refine ⟨p4.nodup, fun u hu => ⟨fun hc => ?_, fun hc => ?_⟩⟩
        · rcases hnT _ hc with hc | hc
          · have := g2.lt _ hc; have := hfresh u hu; omega
          · exact hc.2.2 (M's.2 ⟨u, hu, rfl⟩)
        · have := g2.ownLt ((hown G' hi hX _).1 hc); have := hfresh u hu; omega
      cases dr
      · simp only [Bool.false_eq_true, if_false, Option.some.injEq] at hd
        obtain ⟨G'', i1, i2⟩ := zmi good' hr free'
        have e1 : (imp mem2 r0).1 = r := by rw [hd]
        have e2 : (imp mem2 r0).2 = mem' := by rw [hd]
        rw [e1] at i2; rw [e2] at i1
        refine ⟨G'', i1.good, x2.trans ⟨⟨hgrew.os, hgrew.tape, hgrew.output, hgrew.size, fun c hc _ => hgrew.same c hc, fun c hc => ?_, fun c hc => by rw [i1.S]; exact hS c hc, fun c hc => by rw [i1.T]; exact hT c hc, fun c hc => ?_, fun c hc => ?_⟩, i1.len, fun b hb => by rw [i1.ids b hb, hi], fun b hb _ => i1.old b hb⟩, i2⟩
        · rcases i1.own c hc with hc | hc
          · exact .inl ((hown G' hi hX c).1 hc)
          · obtain ⟨u, hu, rfl⟩ := M's.1 hc
            exact .inr (hfresh u hu)
        · rw [i1.T] at hc
          rcases hnT c hc with hc | hc
          · exact .inl hc
          · exact .inr (.inr hc.1)
        · rw [i1.S] at hc
          rcases hnS c hc with hc | hc
          · exact .inl hc
          · exact .inr (.inr hc)
      · simp only [if_true, Option.some.injEq, Prod.mk.injEq] at hd
        obtain ⟨rfl, rfl⟩ := hd
        have hl' : Le G' w1 (G'.frzs us) w1 := ⟨fun c hc => .inl hc, fun c hc => .inl hc, good'.ST, fun _ _ => rfl, fun _ _ h => h⟩
        have hmem : ∀ c, c ∈ us.map (·.1) -> w.heap.size <= c /\ c < w1.heap.size := by
          intro c hc
          obtain ⟨u, hu, rfl⟩ := M's.1 hc
          exact ⟨hfresh u hu, hlt u hu⟩
        have hown2 : ∀ c, Own (G'.frzs us) mem2 c -> Own G2 mem2 c := fun c hc => (hown (G'.frzs us) hi hX c).1 hc
        refine ⟨G'.frzs us, ⟨good'.bnd, fun b k c cp hb hc => (good'.blk b k c cp hb hc).monoX hl' (fun _ => rfl) (fun _ _ x hx => ⟨hx, rfl⟩), ?_, ?_, ?_, good'.inj, good'.xlt, good'.xap⟩, x2.trans ⟨⟨hgrew.os, hgrew.tape, hgrew.output, hgrew.size, fun c hc _ => hgrew.same c hc, fun c hc => .inl (hown2 c hc), fun c hc => .inl (hS c hc), fun c hc => .inl (hT c hc), ?_, ?_⟩, Nat.le_refl _, fun b _ => by show G'.ids b = _; rw [hi], fun _ _ _ => rfl⟩, zie hr good'.ST (fun c hc => hc) (fun c hc => .inl hc) rfl⟩
        · rintro c (hc | hc)
          · exact .inl (hST c hc)
          · exact .inr hc
        · rintro c (hc | hc)
          · exact good'.lt c hc
          · exact (hmem c hc).2
        · rintro c ho (hc | hc)
          · exact good'.apart c ((hown G' hi hX c).2 (hown2 c ho)) hc
          · have := g2.ownLt (hown2 c ho); have := (hmem c hc).1; omega
        · rintro c (hc | hc)
          · rcases hnT c hc with hc | hc
            · exact .inl hc
            · exact .inr (.inr hc.1)
          · exact .inr (.inr (hmem c hc).1)
        · rintro c (hc | hc)
          · rcases hnS c hc with hc | hc
            · exact .inl hc
            · exact .inr (.inr hc)
          · exact .inr (.inr (hmem c hc).1)
    by_cases hal : alias r0 = false
    · have h3' : (if dr then some (frz r0, mem) else some (imp mem r0)) = some (r, mem') := by
        rw [if_pos (.inl hal)] at h3
        cases dr <;> exact h3
      exact fin G mem hG (.refl G w mem) G rfl rfl (fun _ h => h) (fun _ h => h) hG.ST (fun _ h => .inl h) (fun _ h => .inl h) (p3.to hres (.inl hal)) h3'
    · -- what the callee knows is kept
      have hnamed := z13w hG 3 (refsL args) (fun b hb => RpL.named args vargs hx b hb)
      obtain ⟨G2, k1, k2, k3, k4, _, k6⟩ := zoo (w := w) (reach mem 3 (refsL args)) hG hnamed
      have h3' : (if dr then some (frz r0, kill mem (reach mem 3 (refsL args))) else some (imp (kill mem (reach mem 3 (refsL args))) r0)) = some (r, mem') := by
        split at h3
        · rename_i hc
          rcases hc with hc | hc
          · exact (hal hc).elim
          · have : reach mem 3 (refsL args) = [] := by simpa using hc
            rw [this]
            cases dr <;> exact h3
        · cases dr
          · exact h3
          · cases h3
      have hS1 : ∀ c, G1.S c -> G2.S c \/ w.heap.size <= c := by
        intro c hc
        rcases p2.newS c hc with hc | hc | hc
        · rcases hc with hc | ⟨b, hb, t, fl, sz, es, cp, e1, e0, e2⟩ | ⟨b, hb, t, sz, es, d, cp, e1, e0, e2, e3⟩
          · exact .inl (k2.S c hc)
          · exact .inl (k4 b hb t fl sz es c cp e1 e0 e2)
          · exact .inl (k6 b hb t sz es d cp c e1 e0 e2 e3)
        · exact (zvp (fun _ => rfl) hc).elim
        · exact .inr hc
      refine fin G2 _ k1 k2 ⟨fun c => G2.S c \/ G1.S c, fun c => G2.T c \/ G1.S c, G2.ids, G2.X⟩ rfl rfl (fun c hc => .inl hc) (fun c hc => .inl hc) ?_ ?_ ?_ (p3.to hres (.inr fun c hc => .inr hc)) h3'
      · rintro c (hc | hc)
        · exact .inl (k1.ST c hc)
        · exact .inr hc
      · rintro c (hc | hc)
        · exact .inl hc
        · rcases hS1 c hc with hc' | hc'
          · exact .inl (k1.ST c hc')
          · refine .inr ⟨hc', p1.lt c (p1.ST c hc), fun hm => ?_⟩
            obtain ⟨u, hu, rfl⟩ := M's.1 hm
            exact (p4.free u hu).1 (p1.ST _ hc)
      · rintro c (hc | hc)
        · exact .inl hc
        · exact hS1 c hc
end
end Go.Proofs.YtbaclnecajkknaaGreat.Pi

