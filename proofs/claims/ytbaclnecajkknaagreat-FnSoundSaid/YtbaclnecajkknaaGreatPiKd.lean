/- Pi: a region that calls a function on a row that lies in a row: its run. -/
import Derived.Test.YtbaclnecajkknaaGreatPiKc
open Option renaming bind_eq_some_iff->L's,pure_def->M'p,bind_eq_bind->M'q
open List renaming getElem?_append_right->N'n,mapM_cons->M'm,zip_cons_cons->M'o,length_nil->M'7,getElem?_eq_some_iff->L'b
namespace Go.Proofs.YtbaclnecajkknaaGreat.Pi
open Go
set_option linter.all false

section
variable {P:Program}{mf:Md}{N:Nat}{slots:List Nat}{ops:Array Oper}{ord:List Nat}{c:Ctx}{G:Gh}{w:World}{mem:List Blk}{a:Act}{rs fr:List PV}
theorem zzj{q:Bool}{o:Oper}{d:Option Nat}{iop:IOp}(h:zzi P mf q c ord o=⟨d,iop,none⟩)(hb:iop≠.bad):o.dst.bind c.slots.idxOf?=d/\opOf P mf q c o=some iop/\o.guard=none:=by
 simp only[zzi,IOper.mk.injEq,Option.map_eq_none_iff]at h
 obtain⟨h1,h2,h3⟩:=h
 refine⟨h1,?_,h3⟩
 cases hop:opOf P mf q c o with
 |none=>rw[hop]at h2;exact(hb h2.symm).elim
 |some x=>rw[hop]at h2;simpa using h2
theorem z1gi{cl:Go.Call}(hl:cl.args.toList.length=cl.argTypes.toList.length){x y:Opd}(h:((cl.args.toList.zip cl.argTypes.toList).mapM fun p=>opdOf P c p.2 p.1)=some [x,y]) :
  ∃u v t t',cl.args.toList=[u,v]/\opdOf P c t u=some x/\opdOf P c t' v=some y:=by
 match h1:cl.args.toList,h2:cl.argTypes.toList with
 |[],_=>rw[h1]at h;simp at h
 |[_],[]=>rw[h1,h2]at hl;simp at hl
 |[z],[z']=>rw[h1,h2]at h;cases hz:opdOf P c z' z<;>simp[M'm,hz]at h
 |[_],_::_::_=>rw[h1,h2]at hl;simp at hl
 |[_,_],[]=>rw[h1,h2]at hl;simp at hl
 |[_,_],[_]=>rw[h1,h2]at hl;simp at hl
 |[u,v],[t,t']=>
  rw[h1,h2]at h
  simp only[M'o,List.zip_nil_right,M'm,List.mapM_nil,M'p,M'q,L's,Option.some.injEq]at h
  obtain⟨a,h3,l,⟨b,h4,l2,h5,h6⟩,h7⟩:=h
  subst h5
  subst h6
  cases h7
  exact⟨u,v,t,t',rfl,h3,h4⟩
 |[_,_],_::_::_::_=>rw[h1,h2]at hl;simp at hl
 |_::_::_::_,[]=>rw[h1,h2]at hl;simp at hl
 |_::_::_::_,[_]=>rw[h1,h2]at hl;simp at hl
 |_::_::_::_,[_,_]=>rw[h1,h2]at hl;simp at hl
 |a::b::d::l,t::t'::t''::l'=>
  rw[h1,h2]at h
  simp only[M'o,M'm,M'p,M'q,L's,Option.some.injEq]at h
  obtain⟨_,_,l,⟨_,_,l2,⟨_,_,l3,_,h5⟩,h6⟩,h7⟩:=h
  subst h5
  subst h6
  cases h7
theorem zp1{orc:Orc}(hor:OrcOk P orc)(hc:RegC P mf N slots ops ord c){ios:List IOper}(hlen:ios.length=ord.length)
  (hios:∀(p k:Nat),ord[p]?=some k->∃o q,ops[k]?=some o/\ios[p]?=some (zzi P mf q c ord o)) {pre:List IOper} {p ik d:Nat} {f:FuncId}
  (hi:ios=pre++[⟨none,.load false 1 (.r (p-1)),none⟩,⟨none,.mov (.v ik),none⟩,⟨none,.callm f [.r p,.r (p+1)],none⟩,⟨some d,.mov (.r (p+2)),none⟩]) (hpl:pre.length=p) (hp0:0<p)
  (hG:Good G w mem) (hr:RelO G w c a [] fr) (hfl:fr.length=slots.length) (hN:N<=a.tmps.size) (hdef:a.defers=[]) {rsp:List PV} (hpre:z184 orc pre [] fr mem=some (rsp,⟨fr,mem⟩))
  {b sz j off:Nat} (hadr:rsp[p-1]?=some (.ep b sz j off)) {t:TypeId} {es:List PV} (hmem:mem[b]?=some (.lin t sz es)) {e kv r e':PV} (he:es[j]?=some e) (hkv:fr[ik]?=some kv) (hk:zoa orc f sz off e kv=some (r,e'))
  {Q:Exit->Act->World->Prop} (hQ:∀G' w' a',Ext G w mem G' w' (mem.set b (.lin t sz (es.set j e')))->RelS slots N G' w' ⟨fr.set d r,mem.set b (.lin t sz (es.set j e'))⟩ a'->Q .normal a' w'):wpOps P ops Q ord a w:=by
 have hol:ord.length=p+4:=by rw[<-hlen,hi];simp[hpl]
 have hrl:rsp.length=p:=by have:=z185 hpre;simpa [hpl]using this
 have htake:((ios.drop ([]:List PV).length).take p)=pre:=by
  rw[hi,M'7,List.drop_zero,<-hpl,List.take_left]
 refine z186 (Q:=Q) (rs':=rsp) (st':=⟨fr,mem⟩) hor hc hlen hios p [] fr mem G w a (by simp;omega) hG hr hfl hN hdef (by rw[htake];exact hpre) ?_
 intro G1 w1 a1 x1 g1 r1 f1 n1 d1
 simp only[M'7,Nat.zero_add]at *
 have hkv1:∀q,∃k,ord[p+q]?=some k\/4<=q:=fun q=>by
  by_cases h:q<4
  ·exact⟨ord[p+q],.inl (List.getElem?_eq_getElem (by omega))⟩
  ·exact⟨0,.inr (by omega)⟩
 obtain⟨k1,hk1⟩:=hkv1 0
 replace hk1:=hk1.resolve_right (by omega)
 obtain⟨o1,q1,ho1,hi1⟩:=hios _ _ hk1
 rw[hi,N'n (by omega),hpl]at hi1
 simp at hi1
 obtain⟨e1,e2,e3⟩:=zzj hi1.symm (by simp)
 obtain⟨ty,ad,e4,e5,e6,e7,e8⟩:=zxx e2
 have hadv:=zy3 (y:=.ep b sz j off) r1 e6 (by simp[ev,hadr])
 obtain⟨cb,cp,hid,hade⟩:=hadv
 obtain⟨v,hcell,hent,hcalls⟩:=zo9 hor g1 hmem hid he hk
 have hrun1:(execOp a1.eval o1).run P w1=.ok (.value v) w1:=by
  simp[execOp,e4,hade,Instr.loadAt,Instr.sureAddr,loadVar,z18c e5,e7,hcell]
 rw[Nat.add_zero]at hk1
 have hstep:=fun(K:Act->World->Prop)=>zxq (Q:=Q) (K:=K) (o:=o1) (k:=k1) hc g1 r1 n1 f1 ho1 (by rw[hrl];exact hk1) e3
 rw[hrl]at hstep
 refine hstep (fun a' w'=>a1.put o1.dst v=a'/\w1=w') (by unfold Oper.wp;rw[hrun1];exact⟨rfl,rfl⟩) ?_
 rintro a2 _ ⟨rfl,rfl⟩
 have r2:=z14x (v:=.any) hc g1 r1 n1 f1 ho1 (by rw[hrl];exact hk1) (.refl G1 w1 mem) (v':=v) trivial
 rw[e1,setFr]at r2
 have n2:N<=(a1.put o1.dst v).tmps.size:=by rw[z1az];exact n1
 have d2:(a1.put o1.dst v).defers=[]:=by rw[zco];exact d1
 obtain⟨k2,hk2⟩:=hkv1 1
 replace hk2:=hk2.resolve_right (by omega)
 obtain⟨o2,q2,ho2,hi2⟩:=hios _ _ hk2
 rw[hi,N'n (by omega),hpl]at hi2
 simp at hi2
 obtain⟨m1,m2,m3⟩:=zzj hi2.symm (by simp)
 obtain⟨ad2,m4,m5⟩:=zxy m2
 have hkr:=zy3 (y:=kv) r2 m5 (by simp[ev,hkv])
 generalize hkw:(a1.put o1.dst v).eval ad2=kw at hkr
 have hrun2:(execOp (a1.put o1.dst v).eval o2).run P w1=.ok (.value kw) w1:=by
  rcases m4 with m4|m4<;>simp[execOp,m4,hkw]
 have hrl2:(rsp++[PV.any]).length=p+1:=by simp[hrl]
 have hstep:=fun(K:Act->World->Prop)=>zxq (Q:=Q) (K:=K) (o:=o2) (k:=k2) hc g1 r2 n2 f1 ho2 (by rw[hrl2];exact hk2) m3
 rw[hrl2]at hstep
 refine hstep (fun a' w'=>(a1.put o1.dst v).put o2.dst kw=a'/\w1=w') (by unfold Oper.wp;rw[hrun2];exact⟨rfl,rfl⟩) ?_
 rintro a3 _ ⟨rfl,rfl⟩
 have r3:=z14x hc g1 r2 n2 f1 ho2 (by rw[hrl2];exact hk2) (.refl G1 w1 mem) hkr
 rw[m1,setFr]at r3
 have n3:N<=((a1.put o1.dst v).put o2.dst kw).tmps.size:=by rw[z1az];exact n2
 have d3:((a1.put o1.dst v).put o2.dst kw).defers=[]:=by rw[zco];exact d2
 have hrl3:(rsp++[PV.any]++[kv]).length=p+2:=by simp[hrl]
 obtain⟨k3,hk3⟩:=hkv1 2
 replace hk3:=hk3.resolve_right (by omega)
 obtain⟨o3,q3,ho3,hi3⟩:=hios _ _ hk3
 rw[hi,N'n (by omega),hpl]at hi3
 simp at hi3
 obtain⟨z1,z2,z3⟩:=zzj hi3.symm (by simp)
 obtain⟨cl,z4,z5,z6,z7⟩:=zxw z2
 obtain⟨x0,xb,t0,t1,z8,z9,z10⟩:=z1gi z6 z7
 obtain⟨s0,rfl,hs0⟩:=zy2 z9
 have hkr3:=zy3 (y:=kv) r3 z10 (by simp[ev,hrl])
 have hv0:((a1.put o1.dst v).put o2.dst kw).eval (.tmp s0)=v:=by
  have hdl:∀{o:Oper} {k s:Nat},ops[k]?=some o->o.dst=some s->s<N:=fun {o k s} ho hd=>hc.dlt s (List.mem_filterMap.2 ⟨o,List.mem_of_getElem? (i:=k) (by simpa using ho),hd⟩)
  rw[hc.cops,List.getElem?_map,hk1]at hs0
  have hd1:o1.dst=some s0:=by simpa [ho1]using hs0
  have hne:o2.dst≠some s0:=by
   intro hd2
   have:=zdf hc.dsts (i:=k1) (j:=k2) (s:=s0) (by simpa [ho1]using hd1) (by simpa [ho2]using hd2)
   subst this
   obtain⟨l1,l2⟩:=L'b.1 hk1
   obtain⟨l3,l4⟩:=L'b.1 hk2
   have:=(List.getElem_inj hc.ordn).1 (l2.trans l4.symm)
   omega
  show((a1.put o1.dst v).put o2.dst kw).tmps.getD s0 undef=v
  rw[zjd hne,hd1,zje n1 (hdl ho1 hd1)]
 have hrun3:(execOp ((a1.put o1.dst v).put o2.dst kw).eval o3).run P w1=.ok (.enter f #[v,((a1.put o1.dst v).put o2.dst kw).eval xb]) w1:=by
  rw[z8e z4 z5 (caps:=#[]) rfl hent]
  have:cl.args=#[.tmp s0,xb]:=by apply Array.ext';rw[z8]
  rw[this]
  simp[hv0]
 have hstep:=fun(K:Act->World->Prop)=>zxq (Q:=Q) (K:=K) (o:=o3) (k:=k3) hc g1 r3 n3 f1 ho3 (by rw[hrl3];exact hk3) z3
 rw[hrl3]at hstep
 generalize hM:mem.set b (.lin t sz (es.set j e'))=mem' at *
 refine hstep (fun a' w'=>∃G2 v',Good G2 w' mem'/\Ext G1 w1 mem G2 w' mem'/\Rp G2 w' r v'/\a'=((a1.put o1.dst v).put o2.dst kw).put o3.dst v') ?_ ?_
 ·unfold Oper.wp
  rw[hrun3]
  refine Calls.mono (hcalls _ hkr3) fun e1 w2 hp=>?_
  cases e1 with
  |returned v'=>obtain⟨G2,p1,p2,p3⟩:=hp;exact⟨G2,v',p1,p2,p3,rfl⟩
  |panicked _=>exact hp.elim
  |outgrown=>exact hp.elim
 rintro a4 w2 ⟨G2,v',g4,x4,hr4,rfl⟩
 have r4:=z14x hc g1 r3 n3 f1 ho3 (by rw[hrl3];exact hk3) x4 hr4
 rw[z1,setFr]at r4
 have n4:N<=(((a1.put o1.dst v).put o2.dst kw).put o3.dst v').tmps.size:=by rw[z1az];exact n3
 have d4:(((a1.put o1.dst v).put o2.dst kw).put o3.dst v').defers=[]:=by rw[zco];exact d3
 have hrl4:(rsp++[PV.any]++[kv]++[r]).length=p+3:=by simp[hrl]
 have hlast:((ios.drop (rsp++[PV.any]++[kv]++[r]).length).take 1)=[⟨some d,.mov (.r (p+2)),none⟩]:=by
  have hd:∀(l r:List IOper) n,(l++r).drop (l.length+n)=r.drop n:=fun l r n=>by simp[List.drop_append]
  rw[hrl4,hi,<-hpl,hd];rfl
 have hfin:=z186 (Q:=Q) (rs':=rsp++[PV.any]++[kv]++[r]++[r]) (st':=⟨fr.set d r,mem'⟩) hor hc hlen hios 1 (rsp++[PV.any]++[kv]++[r]) fr mem' G2 w2 _ (by rw[hrl4];omega) g4 r4 f1 n4 d4
  (by
   rw[hlast]
   have:(rsp++[PV.any]++[kv]++[r])[p+2]?=some r:=by
    rw[N'n (by simp[hrl])];simp[hrl]
   simp only[z184,z1cq,wanted,z1cm,ev,this,Option.bind_some,Option.map_some,if_true,setFr])
  (fun G5 w5 a5 x5 g5 r5 f5 n5 d5=>by
   rw[hrl4,List.drop_of_length_le (by omega)]
   exact hQ G5 w5 a5 ((x1.trans x4).trans x5) ⟨g5,fun i s y hi hy=>r5.fr i s y (by rw[hc.cslots];exact hi) hy,f5,n5,d5⟩)
 rw[hrl4]at hfin
 exact hfin
theorem zot{ios:List IOper}{k:KC}(h:zoq ios=some k):∃pre p,ios=pre++[⟨none,.load false 1 (.r (p-1)),none⟩,⟨none,.mov (.v k.ik),none⟩,⟨none,.callm k.f [.r p,.r (p+1)],none⟩,⟨some k.d,.mov (.r (p+2)),none⟩]/\pre.length=p/\0<p /\
  ∀(orc:Orc) (fr:List PV) (mem:List Blk) (b o len:Nat) (kk:IntKind) (i:Int) (j:Nat),fr[k.ia]?=some (.ref b k.sz o len)->fr[k.ii]?=some (.int kk i)->idx i len=some j ->
   ∃rsp,z184 orc pre [] fr mem=some (rsp,⟨fr,mem⟩)/\rsp[p-1]?=some (.ep b k.sz (o+j) k.off):=by
 unfold zoq at h
 split at h
 ·rename_i ia ii sz off ik f d
  cases h
  refine⟨[⟨none,.mov (.v ia),none⟩,⟨none,.mov (.v ii),none⟩,⟨none,.iaddr sz (.r 0) (.r 1),none⟩,⟨none,.faddr off (.r 2),none⟩],4,rfl,rfl,by omega,fun orc fr mem b o len kk i j h1 h2 h3=>?_⟩
  refine⟨[.ref b sz o len,.int kk i,.ep b sz (o+j) 0,.ep b sz (o+j) (0+off)],?_,by simp⟩
  simp[z184,z1cq,wanted,z1cm,ev,h1,h2,setFr,zkv,h3,zfy]
 ·rename_i ia ii sz ik f d
  cases h
  refine⟨[⟨none,.mov (.v ia),none⟩,⟨none,.mov (.v ii),none⟩,⟨none,.iaddr sz (.r 0) (.r 1),none⟩],3,rfl,rfl,by omega,fun orc fr mem b o len kk i j h1 h2 h3=>?_⟩
  refine⟨[.ref b sz o len,.int kk i,.ep b sz (o+j) 0],?_,by simp⟩
  simp[z184,z1cq,wanted,z1cm,ev,h1,h2,setFr,zkv,h3]
 ·cases h
theorem zoe{orc:Orc}{k:KC}{st st':St}(h:kcall orc k st=some st'):∃b o len kk i j kv t es e r e',st.fr[k.ia]?=some (.ref b k.sz o len)/\st.fr[k.ii]?=some (.int kk i)/\st.fr[k.ik]?=some kv/\idx i len=some j /\
  st.mem[b]?=some (.lin t k.sz es)/\es[o+j]?=some e/\zoa orc k.f k.sz k.off e kv=some (r,e')/\st'=⟨st.fr.set k.d r,st.mem.set b (.lin t k.sz (es.set (o+j) e'))⟩:=by
 unfold kcall at h
 split at h
 case h_2=>cases h
 rename_i b s o len kk i kv h1 h2 h3
 split at h
 case isFalse=>cases h
 rename_i hs
 subst hs
 simp only[L's]at h
 obtain⟨j,h4,h5⟩:=h
 split at h5
 case h_2=>cases h5
 rename_i t sz es h6
 split at h5
 case isFalse=>cases h5
 rename_i hs
 subst hs
 simp only[L's,Option.map_eq_some_iff]at h5
 obtain⟨e,h7,⟨r,e'⟩,h8,rfl⟩:=h5
 exact⟨b,o,len,kk,i,j,kv,t,es,e,r,e',h1,h2,h3,h4,h6,h7,h8,rfl⟩
end
end Go.Proofs.YtbaclnecajkknaaGreat.Pi

