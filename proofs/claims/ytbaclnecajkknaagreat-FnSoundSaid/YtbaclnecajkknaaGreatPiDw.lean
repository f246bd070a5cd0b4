/- Pi: drawn regions: the run's trace. -/
import Derived.Test.YtbaclnecajkknaaGreatPiDv
import Derived.Orders
namespace Go.Proofs.YtbaclnecajkknaaGreat.Pi
open Go
set_option linter.all false

structure Trace(orc:Orc)(ios:List IOper)(rs fr:List PV)(mem:List Blk)(V:List PV)(Fr:Nat->List PV)(Mm:Nat->List Blk):Prop where
len:V.length=ios.length
fr0:Fr 0=fr
mm0:Mm 0=mem
step:∀(p:Nat) (io:IOper) (v:PV),ios[p]?=some io->V[p]?=some v->z1cq orc (rs++V.take p) (Fr p) (Mm p) io=some (v,Fr (p+1),Mm (p+1))
theorem z1g7{orc:Orc}:∀(ios:List IOper) (rs fr:List PV) (mem:List Blk) (ft:List (List Nat×List Nat)) (st':St) (ft':List (List Nat×List Nat)),runDr orc ios rs fr mem ft=some (st',ft') ->
  ∃V Fr Mm,Trace orc ios rs fr mem V Fr Mm/\st'=⟨Fr ios.length,Mm ios.length⟩/\(∃r,ft'=ft++r) /\
   ∀(p:Nat) (io:IOper),ios[p]?=some io->ft'[ft.length+p]?=some (foot (rs++V.take p) (Fr p) (Mm p) io.op,footR (rs++V.take p) (Fr p) io.op)
 |[],rs,fr,mem,ft,st',ft',h=>by
  simp only[runDr,Option.some.injEq,Prod.mk.injEq]at h
  obtain⟨rfl,rfl⟩:=h
  exact⟨[],fun _=>fr,fun _=>mem,⟨rfl,rfl,rfl,by simp⟩,rfl,⟨[],by simp⟩,by simp⟩
 |io::ios,rs,fr,mem,ft,st',ft',h=>by
  simp only[runDr,Option.bind_eq_some_iff]at h
  obtain⟨⟨v,fr',mem'⟩,h1,h2⟩:=h
  obtain⟨V,Fr,Mm,t,hs,⟨r,hr⟩,hf⟩:=z1g7 ios _ _ _ _ st' ft' h2
  have keep:ft'[ft.length]?=some (foot rs fr mem io.op,footR rs fr io.op):=by
   rw[hr];simp
  refine⟨v::V,fun|0=>fr|n+1=>Fr n,fun|0=>mem|n+1=>Mm n,⟨by simp[t.len],rfl,rfl,?_⟩,by simpa using hs,⟨_,by rw[hr,List.append_assoc]⟩,?_⟩
  ·intro p io' v' hi hv
   cases p with
   |zero=>
    simp at hi hv;subst hi hv
    simp only[List.take_zero,List.append_nil,t.fr0,t.mm0]
    exact h1
   |succ p=>
    have:=t.step p io' v' (by simpa using hi) (by simpa using hv)
    simpa using this
  ·intro p io' hi
   cases p with
   |zero=>simp at hi;subst hi;simpa using keep
   |succ p=>
    have:=hf p io' (by simpa using hi)
    simp only[List.length_append,List.length_singleton]at this
    rw[show ft.length+1+p=ft.length+(p+1)by omega]at this
    simpa using this
end Go.Proofs.YtbaclnecajkknaaGreat.Pi

