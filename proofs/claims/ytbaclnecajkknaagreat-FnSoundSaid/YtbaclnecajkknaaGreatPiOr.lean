/- Pi: built-in functions; every operation. -/
import Derived.Test.YtbaclnecajkknaaGreatPiOq
open Option renaming map_eq_some_iff->M'0,bind_eq_some_iff->L's
open Bool renaming and_eq_true->L'c
namespace Go.Proofs.YtbaclnecajkknaaGreat.Pi
open Go
set_option linter.all false

section
variable {P:Program}{G:Gh}{w:World}{mem:List Blk}{a:Act}{rs fr:List PV}{c:Ctx}
theorem zf2{o:Oper}{cl:Go.Call}{b:Builtin}(hop:o.op=.call cl)(hcl:cl.callee=.builtin b){w':World}{v':Value}
  (h:(builtin b cl.argTypes o.type (cl.args.map fun|.const _=>true|_=>false) (cl.args.map a.eval)).run P w=.ok (.value v') w'):(execOp a.eval o).run P w=.ok (.value v') w':=by
 simp only[execOp,hop,resolve,hcl,Sem.run_bind,Sem.run_pure,Result.andThen_ok,invoke]
 exact h
theorem z7n {orc : Orc} (hG : Good G w mem) (hr : RelO G w c a rs fr) {mf : Md} {q : Bool} {o : Oper} {cl : Go.Call} {b : Builtin} (hop : o.op = .call cl) (hcl : cl.callee = .builtin b) {iop : IOp}
    (h : opOf P mf q c o = some iop) {v : PV} {mem' : List Blk} (hs : z1cm orc rs fr mem iop = some (v, mem')) : OpOk P o a G w mem v mem' := by
  have two : ∀ {x y : Operand}, cl.args.toList = [x, y] -> cl.args.map a.eval = #[a.eval x, a.eval y] := by
    intro x y he; apply Array.ext'; simp [he]
  have onea : ∀ {x : Operand}, cl.args.toList = [x] -> cl.args.map a.eval = #[a.eval x] := by
    intro x he; apply Array.ext'; simp [he]
  have arr : ∀ {α : Type} {A : Array α} {l : List α}, A.toList = l -> A = l.toArray := by
    intro α A l he; subst he; rfl
  simp only [opOf, hop, hcl] at h
  split at h
  · rename_i hq; cases hq
  · -- len
    rename_i hq; cases hq
    split at h
    · rename_i x t hx ht
      have hT := arr ht
      split at h
      · rename_i hu
        simp only [M'0] at h
        obtain ⟨ox, h1, rfl⟩ := h
        simp only [z1cm, L's, M'0, Prod.mk.injEq] at hs
        obtain ⟨y, e1, n, e2, rfl, rfl⟩ := hs
        have hl := zqe (P := P) (st := true) (zy3 hr h1 e1) e2 (t := t) (ty := o.type) (by simpa using hu)
        refine .same hG (v' := .int .i64 n) (zf2 hop hcl ?_) rfl
        rw [hT, onea hx]
        simp only [builtin, Sem.run_bind, hl, Result.andThen_ok, Sem.run_pure]
      · rename_i e hu
        simp only [M'0] at h
        obtain ⟨ox, h1, rfl⟩ := h
        simp only [z1cm, L's, M'0, Prod.mk.injEq] at hs
        obtain ⟨y, e1, n, e2, rfl, rfl⟩ := hs
        have hl := zqe (P := P) (st := false) (zy3 hr h1 e1) e2 (t := t) (ty := o.type) (by simpa using ⟨e, hu⟩)
        refine .same hG (v' := .int .i64 n) (zf2 hop hcl ?_) rfl
        rw [hT, onea hx]
        simp only [builtin, Sem.run_bind, hl, Result.andThen_ok, Sem.run_pure]
      · cases h
    · cases h
  · -- append
    rename_i hq; cases hq
    split at h
    · rename_i x y t t' hx ht
      have hT := arr ht
      split at h
      case isFalse => cases h
      rename_i htt; subst htt
      simp only [L's] at h
      obtain ⟨e, h1, z, h2, ox, h3, oy, h4, h5⟩ := h
      split at h5
      case isFalse => cases h5
      rename_i hk
      simp only [L'c, decide_eq_true_eq] at hk
      cases h5
      split at hs
      · simp only [z1cm] at hs
        split at hs
        · rename_i u1 u2 e1 e2
          obtain ⟨v', w', G', f1, f2, f3, f4⟩ := z3r hG (zy3 hr h3 e1) (zy3 hr h4 e2) (zdh h1) h2 hk.1 rfl hk.2 o.type hs
          refine .value (zf2 hop hcl ?_) f2 f3 f4
          rw [hT, two hx]
          simp only [builtin, Sem.run_bind, f1, Result.andThen_ok, Sem.run_pure]
        · cases hs
      split at hs
      · rename_i hkf
        simp only [L'c] at hkf
        have hk1 := hk.1
        rw [hkf.2] at hk1
        simp only [z1cm] at hs
        split at hs
        · rename_i u1 u2 e1 e2
          obtain ⟨v', w', G', f1, f2, f3, f4⟩ := z3x hG (zy3 hr h3 e1) (zy3 hr h4 e2) (zdh h1) h2 hk1 rfl hk.2 o.type hs
          refine .value (zf2 hop hcl ?_) f2 f3 f4
          rw [hT, two hx]
          simp only [builtin, Sem.run_bind, f1, Result.andThen_ok, Sem.run_pure]
        · cases hs
      simp only [z1cm] at hs
      split at hs
      · rename_i u1 u2 e1 e2
        obtain ⟨v', w', G', f1, f2, f3, f4⟩ := z3n hG (zy3 hr h3 e1) (zy3 hr h4 e2) (zdh h1) h2 hk.1 rfl hk.2 o.type hs
        refine .value (zf2 hop hcl ?_) f2 f3 f4
        rw [hT, two hx]
        simp only [builtin, Sem.run_bind, f1, Result.andThen_ok, Sem.run_pure]
      · cases hs
    · cases h
  · -- min
    rename_i hq; cases hq
    split at h
    · rename_i x y hx
      simp only [L's, M'0] at h
      obtain ⟨ox, h1, oy, h2, rfl⟩ := h
      simp only [z1cm] at hs
      split at hs
      · rename_i k n k' n' e1 e2
        split at hs
        · rename_i hk; subst hk
          cases hs
          have f1 := (zy3 hr h1 e1).int_inv
          have f2 := (zy3 hr h2 e2).int_inv
          refine .same hG (v' := .int k (if n' < n then n' else n)) (zf2 hop hcl ?_) rfl
          rw [two hx, f1, f2]
          simp [builtin, Builtin.min_, Builtin.min2]
        · cases hs
      · cases hs
    · cases h
  · -- clear
    rename_i hq; cases hq
    split at h
    · rename_i x t hx ht
      have hT := arr ht
      simp only [L's, M'0] at h
      obtain ⟨e, h1, z, h2, ox, h3, rfl⟩ := h
      simp only [z1cm, L's, M'0, Prod.mk.injEq] at hs
      obtain ⟨y, e1, m, e2, rfl, rfl⟩ := hs
      obtain ⟨w', G', f1, f2, f3⟩ := zam hG (zy3 hr h3 e1) (zdh h1) h2 o.type e2
      refine .value (v' := .tuple #[]) (zf2 hop hcl ?_) f2 f3 ⟨[], rfl, rfl⟩
      rw [hT, onea hx]
      simp only [builtin, Sem.run_bind, f1, Result.andThen_ok, Sem.run_pure]
    · cases h
  · -- copy
    rename_i hq; cases hq
    split at h
    · rename_i x y t t' hx ht
      have hT := arr ht
      split at h
      case isFalse => cases h
      rename_i htt; subst htt
      simp only [L's] at h
      obtain ⟨e, h1, h⟩ := h
      split at h
      case isFalse => cases h
      rename_i hinf
      simp only [L's, M'0] at h
      obtain ⟨ox, h3, oy, h4, rfl⟩ := h
      obtain ⟨inf, hinf⟩ := Option.isSome_iff_exists.1 hinf
      simp only [z1cm] at hs
      split at hs
      · rename_i u1 u2 e1 e2
        simp only [M'0, Prod.mk.injEq] at hs
        obtain ⟨r, e3, rfl, rfl⟩ := hs
        obtain ⟨w', G', f1, f2, f3⟩ := zbv hG (zy3 hr h3 e1) (zy3 hr h4 e2) (zdh h1) hinf (by simp [Program.cellsOf, hinf]) o.type e3
        refine .value (v' := goInt r.1) (zf2 hop hcl ?_) f2 f3 rfl
        rw [hT, two hx]
        simp only [builtin, Sem.run_bind, f1, Result.andThen_ok, Sem.run_pure]
      · cases hs
    · cases h
  · -- max
    rename_i hq; cases hq
    split at h
    · rename_i x y hx
      simp only [L's, M'0] at h
      obtain ⟨ox, h1, oy, h2, rfl⟩ := h
      simp only [z1cm] at hs
      split at hs
      · rename_i k n k' n' e1 e2
        split at hs
        · rename_i hk; subst hk
          cases hs
          have f1 := (zy3 hr h1 e1).int_inv
          have f2 := (zy3 hr h2 e2).int_inv
          refine .same hG (v' := .int k (if n' > n then n' else n)) (zf2 hop hcl ?_) rfl
          rw [two hx, f1, f2]
          simp [builtin, Builtin.max_, Builtin.max2]
        · cases hs
      · cases hs
    · cases h
  · cases h

theorem op_ok{orc:Orc}(ho:OrcOk P orc)(hG:Good G w mem)(hr:RelO G w c a rs fr){mf:Md}{q:Bool}{o:Oper}{iop:IOp}
  (h:opOf P mf q c o=some iop) {v:PV} {mem':List Blk} (hs:z1cm orc rs fr mem iop=some (v,mem')):OpOk P o a G w mem v mem':=by
 by_cases hc:∃cl,o.op=.call cl
 ·obtain⟨cl,hc⟩:=hc
  cases hcl:cl.callee with
  |value f=>exact z8h ho hG hr hc hcl h hs
  |invoke r m=>simp[opOf,hc,hcl]at h
  |builtin b=>exact z7n hG hr hc hcl h hs
 ·by_cases hb:∃op t x y ty,o.op=.binOp op t x y ty
  ·obtain⟨op,t,x,y,ty,hb⟩:=hb
   exact z6u hG hr hb h hs
  ·exact zxj hG hr h hs (fun cl e=>hc ⟨cl,e⟩) (fun op t x y ty e=>hb ⟨op,t,x,y,ty,e⟩)
end
end Go.Proofs.YtbaclnecajkknaaGreat.Pi

