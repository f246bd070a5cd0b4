/- Pi: regions whose operations come in their order. -/
import Derived.Test.YtbaclnecajkknaaGreatPiOr
open List renaming getElem?_eq_some_iff->L'b,nodup_cons->N'g,filterMap_cons->N'h,mem_of_getElem?->M'v,getElem?_map->N'i,mem_filterMap->N'j,idxOf?_eq_some_iff->N'a,getElem_inj->N'0,drop_of_length_le->L'a,getElem?_eq_getElem->L'v,drop_eq_getElem_cons->N'l
open Option renaming bind_eq_some_iff->L's,map_some->L'z,bind_some->L't,map_eq_some_iff->M'0
open Nat renaming lt_of_lt_of_le->L'i
namespace Go.Proofs.YtbaclnecajkknaaGreat.Pi
open Go
set_option linter.all false

theorem zvr:∀{l:List Nat},zvq l=true->l.Nodup
 |[],_=>by simp
 |x::xs,h=>by
  simp only[zvq,Bool.and_eq_true,Bool.not_eq_true']at h
  rw[N'g]
  exact⟨by simpa using h.1,zvr h.2⟩
structure RegC(P:Program)(mf:Md)(N:Nat)(slots:List Nat)(ops:Array Oper)(ord:List Nat)(c:Ctx):Prop where
cslots:c.slots=slots
cops:c.ops=ord.map fun k=>(ops.toList[k]?).bind (·.dst)
nodup:slots.Nodup
dsts:(ops.toList.filterMap (·.dst)).Nodup
dlt:∀t∈ops.toList.filterMap (·.dst),t<N
ordn:ord.Nodup
guards:∀(k:Nat)(o:Oper)(j:Nat)(b:Bool),k∈ord->ops[k]?=some o->o.guard=some (j,b)->ord.idxOf j<ord.length->((ops.toList[ord.getD (ord.idxOf j) 0]?).bind (·.dst)).isSome=true
theorem zje{a:Act}{N s:Nat}{v:Value}(hN:N<=a.tmps.size)(hs:s<N):(a.put (some s) v).tmps.getD s undef=v:=by
 have:s<a.tmps.size:=L'i hs hN
 simp[Act.put,this]
theorem zjd{a:Act}{s:Nat}{d:Option Nat}{v:Value}(h:d≠some s):(a.put d v).tmps.getD s undef=a.tmps.getD s undef:=by
 cases d with
 |none=>rfl
 |some d=>
  have:d≠s:=fun e=>h (by rw[e])
  simp[Act.put,Array.getElem?_setIfInBounds_ne this]
theorem z1az{a:Act}{d:Option Nat}{v:Value}:(a.put d v).tmps.size=a.tmps.size:=by cases d<;>simp[Act.put]
theorem zco{a:Act}{d:Option Nat}{v:Value}:(a.put d v).defers=a.defers:=by cases d<;>simp[Act.put]
theorem zdf{ops:Array Oper}(h:(ops.toList.filterMap (·.dst)).Nodup):∀{i j:Nat} {s:Nat},(ops.toList[i]?).bind (·.dst)=some s->(ops.toList[j]?).bind (·.dst)=some s->i=j:=by
 generalize ops.toList=l at h
 induction l with
 |nil=>intro i j s hi;simp at hi
 |cons o l ih=>
  intro i j s hi hj
  have h':(l.filterMap (·.dst)).Nodup:=by
   cases hd:o.dst with
   |none=>simpa [N'h,hd]using h
   |some d=>rw[N'h,hd]at h;exact(N'g.1 h).2
  have hnot:∀(j:Nat),o.dst=some s->(l[j]?).bind (·.dst)≠some s:=by
   intro j hd hj
   rw[N'h,hd]at h
   refine(N'g.1 h).1 ?_
   simp only[L's]at hj
   obtain⟨o',h1,h2⟩:=hj
   exact N'j.2 ⟨o',M'v h1,h2⟩
  cases i with
  |zero=>cases j with
   |zero=>rfl
   |succ j=>exact(hnot j (by simpa using hi) (by simpa using hj)).elim
  |succ i=>cases j with
   |zero=>exact(hnot i (by simpa using hj) (by simpa using hi)).elim
   |succ j=>exact congrArg (·+1) (ih h' (by simpa using hi) (by simpa using hj))
section
variable {P:Program}{mf:Md}{N:Nat}{slots:List Nat}{ops:Array Oper}{ord:List Nat}{c:Ctx}{G:Gh}{w:World}{mem:List Blk}{a:Act}{rs fr:List PV}
theorem idxOf?_some{l:List Nat}{s i:Nat}(h:l.idxOf? s=some i):l[i]?=some s:=by
 obtain⟨hl,hb⟩:=N'a.1 h
 simp_all
theorem z1hf(hc:RegC P mf N slots ops ord c)(hrs:∀(j s:Nat)(y:PV),c.ops[j]?=some (some s)->rs[j]?=some y->Rp G w y (a.tmps.getD s undef))(hlen:rs.length<=ord.length){k:Nat}{o:Oper}(hk:k∈ord)(ho:ops[k]?=some o){b:Bool}
  (h:wanted rs (o.guard.map fun g=>(ord.idxOf g.1,g.2))=some b):Region.wanted o (yielded ops a.tmps)=b:=by
 unfold Region.wanted
 cases hg:o.guard with
 |none=>simp[hg,wanted]at h;simp[h]
 |some g=>
  obtain⟨j,want⟩:=g
  simp only[hg,L'z,wanted]at h
  have hcell:∀x,rs[ord.idxOf j]?=some x->∃s,(ops.toList[j]?).bind (·.dst)=some s/\Rp G w x (a.tmps.getD s undef):=by
   intro x hx
   have hi:ord.idxOf j<ord.length:=L'i (L'b.1 hx).1 hlen
   have hj:j∈ord:=List.idxOf_lt_length_iff.1 hi
   have hget:=zla hj
   have hs:=hc.guards k o j want hk ho hg hi
   rw[List.getD_eq_getElem?_getD,hget,Option.getD_some]at hs
   obtain⟨s,hs⟩:=Option.isSome_iff_exists.1 hs
   refine⟨s,hs,hrs _ s x ?_ hx⟩
   rw[hc.cops,N'i,hget,L'z,hs]
  simp only
  split at h
  ·rename_i c' hx
   obtain⟨s,h1,h2⟩:=hcell _ hx
   cases h
   have h1':(ops[j]?).bind (·.dst)=some s:=by simpa using h1
   have hb:a.tmps.getD s undef=.bool c':=h2
   have hv:a.tmps[s]?=some (.bool c'):=by
    rw[Array.getD_eq_getD_getElem?]at hb
    cases ht:a.tmps[s]? with
    |none=>rw[ht]at hb;simp[undef]at hb
    |some u=>rw[ht]at hb;simpa using hb
   simp only[yielded,h1',L't,hv]
   cases c'<;>cases want<;>rfl
  ·rename_i hx
   obtain⟨s,h1,h2⟩:=hcell _ hx
   cases h
   have h1':(ops[j]?).bind (·.dst)=some s:=by simpa using h1
   have hb:a.tmps.getD s undef=undef:=h2
   have hv:yielded ops a.tmps j=none:=by
    simp only[yielded,h1',L't]
    rw[Array.getD_eq_getD_getElem?]at hb
    cases ht:a.tmps[s]? with
    |none=>rfl
    |some u=>rw[ht]at hb;simp[undef]at hb;subst hb;rfl
   rw[hv];rfl
  ·cases h
theorem zzk{orc:Orc}(hor:OrcOk P orc)(hc:RegC P mf N slots ops ord c)(hG:Good G w mem)(hr:RelO G w c a rs fr)(hlen:rs.length<=ord.length){k:Nat}{o:Oper}(hk:k∈ord)(ho:ops[k]?=some o){q:Bool}{io:IOper}(hio:io=zzi P mf q c ord o)
  {v:PV}{fr':List PV}{mem':List Blk}(hs:z1cq orc rs fr mem io=some (v,fr',mem')){K:Act->World->Prop}{Q:Exit->Act->World->Prop}
  (hK:∀G' w' v',Good G' w' mem'->Ext G w mem G' w' mem'->Rp G' w' v v'->K (a.put o.dst v') w'):wpOp P ops Q k K a w:=by
 subst hio
 simp only[z1cq,zzi,L's]at hs
 obtain⟨b,h1,h2⟩:=hs
 have hw:=z1hf hc hr.rs hlen hk ho h1
 unfold wpOp
 simp only[ho,hw]
 split at h2
 ·rename_i hb
  simp only[M'0,Prod.mk.injEq]at h2
  obtain⟨⟨v1,m1⟩,h3,h4,_,h5⟩:=h2
  simp only at h4 h5
  subst h4 h5
  rw[if_pos hb]
  cases hop:opOf P mf q c o with
  |none=>rw[hop]at h3;simp[z1cm]at h3
  |some iop=>
   rw[hop]at h3
   exact .inl (op_ok hor hG hr hop h3 K Q hK)
 ·rename_i hb
  rw[if_neg hb]
  simp only[Option.some.injEq,Prod.mk.injEq]at h2
  obtain⟨rfl,_,rfl⟩:=h2
  exact hK G w undef hG (.refl G w mem) rfl
theorem z14x (hc:RegC P mf N slots ops ord c) (hG:Good G w mem) (hr:RelO G w c a rs fr) (hN:N<=a.tmps.size) (hfl:fr.length=slots.length) {k:Nat} {o:Oper} (ho:ops[k]?=some o) (hk:ord[rs.length]?=some k)
  {v:PV} {mem':List Blk} {G':Gh} {w':World} {v':Value} (hx:Ext G w mem G' w' mem') (hv:Rp G' w' v v'):RelO G' w' c (a.put o.dst v') (rs++[v]) (setFr fr (o.dst.bind c.slots.idxOf?) v):=by
 have hl:=hx.le hG
 have hok:(ops.toList[k]?).bind (·.dst)=o.dst:=by simp[ho]
 have hdlt:∀t,o.dst=some t->t<N:=by
  intro t ht
  refine hc.dlt t (N'j.2 ⟨o,?_,ht⟩)
  exact M'v (i:=k) (by simpa using ho)
 constructor
 ·intro i s y hi hy
  rw[hc.cslots]at hi
  by_cases hd:o.dst=some s
  ·have hidx:c.slots.idxOf? s=some i:=by
    rw[hc.cslots]
    have hm:s∈slots:=M'v hi
    obtain⟨l3,l4⟩:=L'b.1 hi
    refine N'a.2 ⟨l3,l4,fun j hj e=>?_⟩
    have:=(N'0 hc.nodup).1 (l4.trans e.symm)
    omega
   rw[hd,L't,hidx,setFr]at hy
   have hil:i<fr.length:=by rw[hfl];exact(L'b.1 hi).1
   rw[List.getElem?_set_self hil]at hy
   cases hy
   rw[hd,zje hN (hdlt s hd)]
   exact hv
  ·rw[zjd hd]
   have hy':fr[i]?=some y:=by
    cases hd':o.dst with
    |none=>rw[hd']at hy;exact hy
    |some d=>
     rw[hd',L't]at hy
     cases hx':c.slots.idxOf? d with
     |none=>rw[hx']at hy;exact hy
     |some i'=>
      rw[hx',setFr,List.getElem?_set_ne]at hy
      ·exact hy
      ·rintro rfl
       have:=idxOf?_some hx'
       rw[hc.cslots,hi]at this
       exact hd (by rw[hd',this])
   exact Rp.mono hl (hr.fr i s y (by rw[hc.cslots];exact hi) hy')
 ·intro j s y hj hy
  rw[List.getElem?_append]at hy
  split at hy
  ·rename_i hjl
   have hne:o.dst≠some s:=by
    intro hd
    rw[hc.cops,N'i]at hj
    cases hoj:ord[j]? with
    |none=>rw[hoj]at hj;simp at hj
    |some k'=>
     rw[hoj,L'z,Option.some.injEq]at hj
     have:=zdf hc.dsts hj (hok.trans hd)
     subst this
     obtain⟨l1,l2⟩:=L'b.1 hoj
     obtain⟨l3,l4⟩:=L'b.1 hk
     have:=(N'0 hc.ordn).1 (l2.trans l4.symm)
     omega
   rw[zjd hne]
   exact Rp.mono hl (hr.rs j s y hj hy)
  ·rename_i hjl
   have hj0:j=rs.length:=by
    have:=(L'b.1 hy).1
    simp at this
    omega
   subst hj0
   simp at hy
   subst hy
   rw[hc.cops,N'i,hk,L'z,hok,Option.some.injEq]at hj
   rw[hj,zje hN (hdlt s hj)]
   exact hv
structure RelS(slots:List Nat)(N:Nat)(G:Gh)(w:World)(st:St)(a:Act):Prop where
good:Good G w st.mem
fr:∀(i s:Nat)(y:PV),slots[i]?=some s->st.fr[i]?=some y->Rp G w y (a.tmps.getD s undef)
len:st.fr.length=slots.length
size:N<=a.tmps.size
defers:a.defers=[]
theorem z19a(fr:List PV)(d:Option Nat)(v:PV):(setFr fr d v).length=fr.length:=by cases d<;>simp[setFr]
theorem z183{orc:Orc}(hor:OrcOk P orc)(hc:RegC P mf N slots ops ord c)(hord:ord=List.range ops.size){ios:List IOper}(hlen:ios.length=ord.length)
  (hios:∀(p k:Nat),ord[p]?=some k->∃o q,ops[k]?=some o/\ios[p]?=some (zzi P mf q c ord o)) {Q:Exit->Act->World->Prop} {st':St} :
  ∀(d:Nat) (rs fr:List PV) (mem:List Blk) (G:Gh) (w:World) (a:Act),rs.length+d=ord.length->Good G w mem->RelO G w c a rs fr->fr.length=slots.length->N<=a.tmps.size->a.defers=[] ->
   z17z orc (ios.drop rs.length) rs fr mem=some st'->(∀G' w' a',Ext G w mem G' w' st'.mem->RelS slots N G' w' st' a'->Q .normal a' w')->wpOps P ops Q (ord.drop rs.length) a w
 |0,rs,fr,mem,G,w,a,hd,hG,hr,hfl,hN,hdef,h,hQ=>by
  rw[L'a (by omega)]at h
  rw[L'a (by omega)]
  simp only[z17z,Option.some.injEq]at h
  subst h
  exact hQ G w a (.refl G w mem) ⟨hG,fun i s y hi hy=>hr.fr i s y (by rw[hc.cslots];exact hi) hy,hfl,hN,hdef⟩
 |d+1,rs,fr,mem,G,w,a,hd,hG,hr,hfl,hN,hdef,h,hQ=>by
  have hp:rs.length<ord.length:=by omega
  have hk:ord[rs.length]?=some ord[rs.length]:=L'v hp
  obtain⟨o,q,ho,hi⟩:=hios _ _ hk
  have hdrop:ios.drop rs.length=zzi P mf q c ord o::ios.drop (rs.length+1):=by
   rw[N'l (by omega)]
   congr 1
   rw[L'v (by omega)]at hi
   exact Option.some.inj hi
  rw[hdrop]at h
  simp only[z17z,L's]at h
  obtain⟨⟨v,fr',mem'⟩,h1,h2⟩:=h
  rw[N'l hp,wpOps_cons]
  refine zzk hor hc hG hr (by omega) (List.getElem_mem hp) ho rfl h1 ?_
  intro G' w' v' g x r
  have hfr':fr'=setFr fr (o.dst.bind c.slots.idxOf?) v:=by
   simp only[z1cq,zzi,L's]at h1
   obtain⟨b,_,h3⟩:=h1
   split at h3
   ·simp only[M'0,Prod.mk.injEq]at h3
    obtain⟨⟨v1,m1⟩,_,h4,h5,_⟩:=h3
    rw[<-h5,<-h4]
   ·simp only[Option.some.injEq,Prod.mk.injEq]at h3
    obtain⟨h4,h5,_⟩:=h3
    rw[<-h5,<-h4]
  subst hfr'
  have hr':=z14x hc hG hr hN hfl ho hk x r
  have:=z183 hor hc hord hlen hios d (rs++[v]) (setFr fr (o.dst.bind c.slots.idxOf?) v) mem' G' w' (a.put o.dst v') (by simp;omega) g hr' (by rw[z19a];exact hfl) (by rw[z1az];exact hN) (by rw[zco];exact hdef) (by simpa using h2)
   (fun G'' w'' a'' e s=>hQ G'' w'' a'' (x.trans e) s)
  simpa using this
end
end Go.Proofs.YtbaclnecajkknaaGreat.Pi

