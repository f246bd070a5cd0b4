/- The functions that the law reaches: what they answer. Conditions: those that each theorem names. -/
import Derived.Test.YtkkifebmicbbaaaIrFnHome
import Derived.Test.YtkkifebmicbbaaaPlBase
import Derived.Test.YtkkifebmicbbaaaPlNet
import Derived.Test.YtkkifebmicbbaaaPlFire
import Derived.Test.YtkkifebmicbbaaaPlTurn
import Derived.Test.YtkkifebmicbbaaaPlBack
import Derived.Test.YtkkifebmicbbaaaPlFlow
import Derived.Test.YtkkifebmicbbaaaPlSpace
import Derived.Test.YtkkifebmicbbaaaPlWay
import Derived.Test.YtkkifebmicbbaaaPlReach
import Derived.Test.YtkkifebmicbbaaaPlDist
import Derived.Test.YtkkifebmicbbaaaPlFar
import Derived.Test.YtkkifebmicbbaaaFnFnHome0
namespace Go.Proofs.Ytkkifebmicbbaaa.Pi
open Go
set_option linter.all false
set_option maxHeartbeats 40000000
set_option maxRecDepth 20000
theorem spec_l4To_ok (ms : List (List Int)) (ar : List Arc3) (S : List Int) (hm : ms.length < 2^36) (hr : ar.length < 2^40) (hS : S.length < 2^40) (ha : arcsIn ar ms.length) (hk : ∀ k ∈ S, 0 ≤ k ∧ k < ms.length) :
    C f_spec_l4To [.agg [rows ms, .sl true 3 (ar.map encA)], ints S] [] = some (.un t_bool true 1 ((toL ar ms.length S).map PV.bool), []) := by
  refine C_spec_l4To ?_
  simp (maxSteps := 2000000) (disch := (first | omega | (simp only [lenS]; first | done | omega))) only [ir_spec_l4To, go_sem, Nat.reduceAdd, Nat.reduceEqDiff, Nat.reduceLeDiff, Nat.reduceSub]
  generalize hn : ms.length = n at *
  refine W_for S.length (fun k s => s = ⟨[.any, .any, .ptr 0 0, .any, .ref 1 1 0 n, .any, .any, .any, ints S, I S.length, I k, .any, .any, .any, .any, .any, .any, .any], [.box t_impl_Space [rows ms, .sl true 3 (ar.map encA)], .row t_bool true 1 ((putS (List.replicate n false) (S.take k)).map PV.bool)]⟩) ?_ ?_ ?_
  · simp (maxSteps := 2000000) (disch := (first | omega | (simp only [lenS]; first | done | omega))) only [go_sem, Nat.reduceAdd, Nat.reduceEqDiff, Nat.reduceLeDiff, Nat.reduceSub, hn]
    simp [putS]
  · rintro k s hk2 rfl
    have h1 := hk _ (List.getElem_mem hk2)
    have h2 : (putS (List.replicate n false) (S.take k)).length = n := by rw [putS_len, List.length_replicate]
    rw [putS_take hk2]
    generalize putS (List.replicate n false) (S.take k) = c at *
    simp (maxSteps := 2000000) (disch := (first | omega | (simp only [lenS]; first | done | omega))) only [go_sem, Nat.reduceAdd, Nat.reduceEqDiff, Nat.reduceLeDiff, Nat.reduceSub, h2]
    rw [List.map_set]; rfl
  · rintro s rfl
    rw [List.take_length]
    have e1 : (putS (List.replicate n false) S).length = n := by rw [putS_len, List.length_replicate]
    have e2 : hasS S (putS (List.replicate n false) S) := putS_has (fun k hk' => by have := hk k hk'; simp; omega)
    have e3 : sndB ar S (putS (List.replicate n false) S) := putS_snd (fun k hk' => ⟨(hk k hk').1, hk'⟩) snd_none
    generalize putS (List.replicate n false) S = c0 at *
    simp (maxSteps := 2000000) (disch := (first | omega | (simp only [lenS]; first | done | omega))) only [go_sem, Nat.reduceAdd, Nat.reduceEqDiff, Nat.reduceLeDiff, Nat.reduceSub]
    refine W_down (fun j s => ∃ c : List Bool, c.length = n ∧ hasS S c ∧ sndB ar S c ∧ ((j = cntF c + 1 ∧ s = ⟨[.any, .any, .ptr 0 0, .any, .ref 1 1 0 n, .any, .bool true, .any, .any, .any, .any, .any, .any, .any, .any, .any, .any, .any], [.box t_impl_Space [rows ms, .sl true 3 (ar.map encA)], .row t_bool true 1 (c.map PV.bool)]⟩) ∨ (j = 0 ∧ clsB ar c ∧ s = ⟨[.any, .any, .ptr 0 0, .any, .ref 1 1 0 n, .any, .bool false, .any, .any, .any, .any, .any, .any, .any, .any, .any, .any, .any], [.box t_impl_Space [rows ms, .sl true 3 (ar.map encA)], .row t_bool true 1 (c.map PV.bool)]⟩))) (cntF c0 + 1) ?_ ?_
    · refine ⟨c0, e1, e2, e3, .inl ⟨rfl, ?_⟩⟩
      simp (maxSteps := 2000000) (disch := (first | omega | (simp only [lenS]; first | done | omega))) only [go_sem, Nat.reduceAdd, Nat.reduceEqDiff, Nat.reduceLeDiff, Nat.reduceSub]
    · rintro j s ⟨c, h1, h2, h3, ⟨rfl, rfl⟩ | ⟨rfl, h4, rfl⟩⟩
      · simp (maxSteps := 2000000) (disch := (first | omega | (simp only [lenS]; first | done | omega))) only [go_sem, Nat.reduceAdd, Nat.reduceEqDiff, Nat.reduceLeDiff, Nat.reduceSub]
        refine W_for ar.length (fun k s => s = ⟨[.any, .any, .ptr 0 0, .any, .ref 1 1 0 n, .any, .bool (passK ar c k).2, .any, .any, .any, .any, .any, .any, .sl true 3 (ar.map encA), I ar.length, I k, .any, .any], [.box t_impl_Space [rows ms, .sl true 3 (ar.map encA)], .row t_bool true 1 ((passK ar c k).1.map PV.bool)]⟩) ?_ ?_ ?_
        · simp (maxSteps := 2000000) (disch := (first | omega | (simp only [lenS]; first | done | omega))) only [go_sem, Nat.reduceAdd, Nat.reduceEqDiff, Nat.reduceLeDiff, Nat.reduceSub]
          rfl
        · rintro k s hk2 rfl
          obtain ⟨a1, a2, a3, a4⟩ := ha _ (List.getElem_mem hk2)
          have hl := passK_len (ar := ar) (c := c) k
          have y := passK_yes (c := c) hk2
          have z := passK_no (c := c) hk2
          generalize passK ar c (k + 1) = P' at *
          generalize passK ar c k = P at *
          obtain ⟨d, m⟩ := P
          simp only at hl y z
          generalize hA : ar[k] = a at *
          have g1 : d[a.dst.toNat]? = some (d[a.dst.toNat]'(by omega)) := List.getElem?_eq_getElem (by omega)
          have g2 : d[a.src.toNat]? = some (d[a.src.toNat]'(by omega)) := List.getElem?_eq_getElem (by omega)
          rw [g1, g2] at y z
          generalize d[a.dst.toNat]'(by omega) = bd at *
          generalize d[a.src.toNat]'(by omega) = bs at *
          simp (maxSteps := 2000000) (disch := (first | omega | (simp only [lenS]; first | done | omega))) only [go_sem, Nat.reduceAdd, Nat.reduceEqDiff, Nat.reduceLeDiff, Nat.reduceSub, hA, hl, g1, g2]
          refine ⟨fun e => ⟨fun e2 => ?_, fun e2 => ?_⟩, fun e => ?_⟩
          · rw [z (by simp [e2])]; rfl
          · rw [y (by rw [e]) (by rw [e2])]; rfl
          · rw [z (by simp [e])]; rfl
        · rintro s rfl
          simp (maxSteps := 2000000) (disch := (first | omega | (simp only [lenS]; first | done | omega))) only [go_sem, Nat.reduceAdd, Nat.reduceEqDiff, Nat.reduceLeDiff, Nat.reduceSub]
          have p1 := passK_cnt (ar := ar) (c := c) ar.length
          have p2 := passK_len (ar := ar) (c := c) ar.length
          have p3 := passK_has (ar := ar) h2 ar.length
          have p4 := passK_snd ha h3 ar.length
          have p5 := passK_cls h1 ha
          generalize passK ar c ar.length = P at *
          obtain ⟨d, m⟩ := P
          simp only at p1 p2 p3 p4 p5 ⊢
          cases m with
          | true => exact ⟨cntF d + 1, by have := p1.2.1 rfl; omega, d, by omega, p3, p4, .inl ⟨rfl, rfl⟩⟩
          | false => exact ⟨0, by omega, c, h1, h2, h3, .inr ⟨rfl, p5 rfl, by rw [p1.2.2 rfl]⟩⟩
      · simp (maxSteps := 2000000) (disch := (first | omega | (simp only [lenS]; first | done | omega))) only [go_sem, Nat.reduceAdd, Nat.reduceEqDiff, Nat.reduceLeDiff, Nat.reduceSub, h1]
        rw [toL_of h1 hk h3 h2 h4]
theorem spec_l4Everywhere_ok (ms : List (List Int)) (ar : List Arc3) (S : List Int) (hm : ms.length < 2^36) (hr : ar.length < 2^40) (hS : S.length < 2^40) (ha : arcsIn ar ms.length) (hk : ∀ k ∈ S, 0 ≤ k ∧ k < ms.length) :
    C f_spec_l4Everywhere [.agg [rows ms, .sl true 3 (ar.map encA)], ints S] [] = some (.bool (!(toL ar ms.length S).any (fun x => x == false)), []) := by
  have h := spec_l4To_ok ms ar S hm hr hS ha hk
  have hl := toL_len ar ms.length S
  generalize toL ar ms.length S = c at *
  refine C_spec_l4Everywhere ?_
  simp (maxSteps := 2000000) (disch := (first | omega | (simp only [lenS]; first | done | omega))) only [ir_spec_l4Everywhere, go_sem, Nat.reduceAdd, Nat.reduceEqDiff, Nat.reduceLeDiff, Nat.reduceSub]
  simp (maxSteps := 2000000) (disch := (first | omega | (simp only [lenS]; first | done | omega))) only [go_sem, Nat.reduceAdd, Nat.reduceEqDiff, Nat.reduceLeDiff, Nat.reduceSub, h]
  refine W_for c.length (fun k s => s = ⟨[.any, .any, .any, .any, .any, .ref 0 1 0 c.length, I c.length, I k, .any, .any], [.row t_bool true 1 (c.map PV.bool)]⟩ ∧ (c.take k).any (fun x => x == false) = false) ?_ ?_ ?_
  · simp (maxSteps := 2000000) (disch := (first | omega | (simp only [lenS]; first | done | omega))) only [go_sem, Nat.reduceAdd, Nat.reduceEqDiff, Nat.reduceLeDiff, Nat.reduceSub]
    simp
  · rintro k s hk ⟨rfl, h0⟩
    have e1 := any_take (p := fun x : Bool => x == false) hk h0
    have e2 : c[k] = false → c.any (fun x => x == false) = true := fun e => List.any_eq_true.2 ⟨_, List.getElem_mem hk, by simp [e]⟩
    have e3 : c[k]? = some c[k] := List.getElem?_eq_getElem hk
    generalize c[k] = b at *
    cases b with
    | true =>
      simp (maxSteps := 2000000) (disch := (first | omega | (simp only [lenS]; first | done | omega))) only [go_sem, Nat.reduceAdd, Nat.reduceEqDiff, Nat.reduceLeDiff, Nat.reduceSub, e3]
      exact ⟨rfl, e1 rfl⟩
    | false =>
      simp (maxSteps := 2000000) (disch := (first | omega | (simp only [lenS]; first | done | omega))) only [go_sem, Nat.reduceAdd, Nat.reduceEqDiff, Nat.reduceLeDiff, Nat.reduceSub, e3]
      rw [e2 rfl]; rfl
  · rintro s ⟨rfl, h0⟩
    rw [List.take_length] at h0
    simp (maxSteps := 2000000) (disch := (first | omega | (simp only [lenS]; first | done | omega))) only [go_sem, Nat.reduceAdd, Nat.reduceEqDiff, Nat.reduceLeDiff, Nat.reduceSub]
    rw [h0]; rfl
theorem toL_none {ar : List Arc3} {n : Nat} (hn : 0 < n) : (toL ar n []).any (fun x => x == false) = true := by
  have hno : ∀ k, ¬ Rk ar [] k := by
    intro k hk
    induction hk with
    | base h => simp at h
    | step _ _ ih => exact ih
  rw [List.any_eq_true]
  refine ⟨(toL ar n [])[0]'(by rw [toL_len]; exact hn), List.getElem_mem _, ?_⟩
  cases h : (toL ar n [])[0]'(by rw [toL_len]; exact hn) with
  | true => exact absurd ((toL_get hn).1 h) (hno _)
  | false => rfl
theorem spec_IsHome_ok (n : Net) (start : List Int) (b : Int) (m : List Int) (hn : smN n) (hs : start.length < 2^62) (hm : m.length < 2^60) : C f_spec_IsHome [encN n, ints start, I b, ints m] [] = some (.tup [.bool (homeV n start b m), .bool (canV n start b m)], []) := by
  have hx := spec_l4All_ok n start b hn hs
  have hg := spec_GoodMark_ok n.pl m (by omega)
  unfold homeV canV
  unfold wholePV at hx
  cases hw : whole n start b with
  | false =>
    simp only [hw, Bool.false_eq_true, if_false] at hx ⊢
    refine C_spec_IsHome ?_
    simp (maxSteps := 2000000) (disch := (first | omega | (simp only [lenS]; first | done | omega))) only [ir_spec_IsHome, go_sem, Nat.reduceAdd, Nat.reduceEqDiff, Nat.reduceLeDiff, Nat.reduceSub]
    simp (maxSteps := 2000000) (disch := (first | omega | (simp only [lenS]; first | done | omega))) only [go_sem, Nat.reduceAdd, Nat.reduceEqDiff, Nat.reduceLeDiff, Nat.reduceSub, hx]
    first | done | rfl
  | true =>
    obtain ⟨_, _, f1, f2, f3, f4, f5⟩ := whole_facts hw
    simp only [hw, if_true] at hx ⊢
    have fd := spec_l4Find_ok (exAll n start b).sp.ms m (by omega) (whole_lens f1)
    have e : decide (m ∈ (exAll n start b).sp.ms) = decide (0 ≤ findM (exAll n start b).sp.ms m) := by rw [decide_eq_decide]; exact findM_mem.symm
    rw [e]
    have hfg := fun h => (findM_get (l := (exAll n start b).sp.ms) (m := m) h).1
    generalize exAll n start b = R at *
    generalize goodM n.pl m = g at *
    generalize findM R.sp.ms m = z at *
    have hlt := fun hz : 0 ≤ z => spec_l4Everywhere_ok R.sp.ms R.sp.ar [z] (by omega) (by omega) (by simp) f4.inn (by simp only [List.mem_singleton, forall_eq]; exact ⟨hz, by have := hfg hz; omega⟩)
    have hl0 := spec_l4Everywhere_ok R.sp.ms R.sp.ar [] (by omega) (by omega) (by simp) f4.inn (by simp)
    rw [toL_none f5] at hl0
    simp only [ints, List.map_cons, List.map_nil] at hlt hl0
    generalize toL R.sp.ar R.sp.ms.length [z] = c at *
    by_cases ha : R.sp.ar = []
    · simp only [arcPV, ha, if_true] at hx
      simp only [ha, List.map_nil] at hlt hl0
      refine C_spec_IsHome ?_
      simp (maxSteps := 2000000) (disch := (first | omega | (simp only [lenS]; first | done | omega))) only [ir_spec_IsHome, go_sem, Nat.reduceAdd, Nat.reduceEqDiff, Nat.reduceLeDiff, Nat.reduceSub]
      by_cases hz : 0 ≤ z
      · have hz2 := hlt hz
        simp (maxSteps := 2000000) (disch := (first | omega | (simp only [lenS]; first | done | omega))) only [go_sem, Nat.reduceAdd, Nat.reduceEqDiff, Nat.reduceLeDiff, Nat.reduceSub, hx, hg, fd, hz2, hz]
        exact ⟨fun h => ⟨fun h2 => by rw [h, h2]; rfl, fun h2 => by rw [h, h2]; rfl⟩, fun h => by rw [h]; rfl⟩
      · simp (maxSteps := 2000000) (disch := (first | omega | (simp only [lenS]; first | done | omega))) only [go_sem, Nat.reduceAdd, Nat.reduceEqDiff, Nat.reduceLeDiff, Nat.reduceSub, hx, hg, fd, hl0, hz]
        exact ⟨fun h => by rw [h], fun h => by rw [h]⟩
    · simp only [arcPV, ha, if_false] at hx
      refine C_spec_IsHome ?_
      simp (maxSteps := 2000000) (disch := (first | omega | (simp only [lenS]; first | done | omega))) only [ir_spec_IsHome, go_sem, Nat.reduceAdd, Nat.reduceEqDiff, Nat.reduceLeDiff, Nat.reduceSub]
      by_cases hz : 0 ≤ z
      · have hz2 := hlt hz
        simp (maxSteps := 2000000) (disch := (first | omega | (simp only [lenS]; first | done | omega))) only [go_sem, Nat.reduceAdd, Nat.reduceEqDiff, Nat.reduceLeDiff, Nat.reduceSub, hx, hg, fd, hz2, hz]
        exact ⟨fun h => ⟨fun h2 => by rw [h, h2]; rfl, fun h2 => by rw [h, h2]; rfl⟩, fun h => by rw [h]; rfl⟩
      · simp (maxSteps := 2000000) (disch := (first | omega | (simp only [lenS]; first | done | omega))) only [go_sem, Nat.reduceAdd, Nat.reduceEqDiff, Nat.reduceLeDiff, Nat.reduceSub, hx, hg, fd, hl0, hz]
        exact ⟨fun h => by rw [h], fun h => by rw [h]⟩
theorem impl_CanCome_t (n : Net) (start : List Int) (b : Int) (m : List Int) (hn : smN n) (hs : start.length < 2^62) (h : okEx n start b = true) (hc : (exAll n start b).code = 0) (hm : goodM n.pl m = true) : C f_impl_CanCome [encN n, ints start, I b, ints m] [] = some (.tup [.bool (decide (m ∈ (exAll n start b).sp.ms)), .bool true], []) := by
  have hx := impl_wholeSpace_t n start b hn hs h hc
  obtain ⟨h1, hb⟩ := okEx_parts h
  obtain ⟨f1, _⟩ := exAll_facts h1 hb.1
  generalize exAll n start b = R at *
  have hlb := f1.lenb
  have hxs : ∀ x ∈ R.sp.ms, x.length < 2^62 := fun x hx => by have := goodM_len (marked_parts (f1.good x hx)).2; omega
  have fd := fun A => impl_Space_find_ok R.sp.ms A m (by omega) hxs
  have e : decide (m ∈ R.sp.ms) = decide (0 ≤ findM R.sp.ms m) := by rw [decide_eq_decide]; exact findM_mem.symm
  have hml := goodM_len hm
  have hg := impl_GoodMark_ok n.pl m (by omega)
  rw [hm] at hg
  refine C_impl_CanCome ?_
  simp (maxSteps := 2000000) (disch := (first | omega | (simp only [lenS]; first | done | omega))) only [ir_impl_CanCome, go_sem, Nat.reduceAdd, Nat.reduceEqDiff, Nat.reduceLeDiff, Nat.reduceSub]
  by_cases ha : R.sp.ar = []
  · simp only [arcPV, ha, if_true] at hx
    simp (maxSteps := 2000000) (disch := (first | omega | (simp only [lenS]; first | done | omega))) only [go_sem, Nat.reduceAdd, Nat.reduceEqDiff, Nat.reduceLeDiff, Nat.reduceSub, hx, hg, fd]
    rw [e]; grind
  · simp only [arcPV, ha, if_false] at hx
    simp (maxSteps := 2000000) (disch := (first | omega | (simp only [lenS]; first | done | omega))) only [go_sem, Nat.reduceAdd, Nat.reduceEqDiff, Nat.reduceLeDiff, Nat.reduceSub, hx, hg, fd]
    rw [e]; grind
theorem impl_Space_wayTo_1_ok (a : Arc3) (p : Int) : C f_impl_Space_wayTo_1 [encA a, .pv (.agg [I p]) 0] [] = some (.bool (decide (a.dst = p)), []) := by
  refine C_impl_Space_wayTo_1 ?_
  simp (maxSteps := 2000000) (disch := (first | omega | (simp only [lenS]; first | done | omega))) only [ir_impl_Space_wayTo_1, go_sem, Nat.reduceAdd, Nat.reduceEqDiff, Nat.reduceLeDiff, Nat.reduceSub]
  grind
theorem slices_IndexFunc_sl_impl_Arc_impl_Arc_ok (l : List Arc3) (g : FuncId) (caps : List PV) (hc : refsL caps = []) (hcv : ∀ m h, viewLWith [] m h caps = some caps) (p : Arc3 → Bool) (hp : ∀ x ∈ l, C g (encA x :: caps) [] = some (.bool (p x), [])) (hl : l.length < 2^62) :
    C f_slices_IndexFunc_sl_impl_Arc_impl_Arc [.sl true 3 (l.map encA), .clo g caps] [] = some (I (idxI l p), []) := by
  refine C_slices_IndexFunc_sl_impl_Arc_impl_Arc ?_
  simp (maxSteps := 2000000) (disch := (first | omega | (simp only [lenS]; first | done | omega))) only [ir_slices_IndexFunc_sl_impl_Arc_impl_Arc, go_sem, Nat.reduceAdd, Nat.reduceEqDiff, Nat.reduceLeDiff, Nat.reduceSub]
  refine W_for l.length (fun k s => s = ⟨[.sl true 3 (l.map encA), .clo g caps, .any, .any, I l.length, I k, .any, .any], []⟩ ∧ (l.take k).any p = false) ?_ ?_ ?_
  · simp (maxSteps := 2000000) (disch := (first | omega | (simp only [lenS]; first | done | omega))) only [go_sem, Nat.reduceAdd, Nat.reduceEqDiff, Nat.reduceLeDiff, Nat.reduceSub, hc]
    rfl
  · rintro k s hk ⟨rfl, hall⟩
    simp (maxSteps := 2000000) (disch := (first | omega | (simp only [lenS]; first | done | omega))) only [go_sem, Nat.reduceAdd, Nat.reduceEqDiff, Nat.reduceLeDiff, Nat.reduceSub, hc, hcv, hp _ (List.getElem_mem hk)]
    exact ⟨fun h => by rw [idxI_some hk hall h], fun h => ⟨rfl, any_take hk hall h⟩⟩
  · rintro s ⟨rfl, hall⟩
    simp (maxSteps := 2000000) (disch := (first | omega | (simp only [lenS]; first | done | omega))) only [go_sem, Nat.reduceAdd, Nat.reduceEqDiff, Nat.reduceLeDiff, Nat.reduceSub]
    rw [List.take_length] at hall
    rw [idxI_none hall]
theorem slices_Reverse_sl_int_int_ok (l : List Int) (hl : l.length < 2^60) : C f_slices_Reverse_sl_int_int [.ref 0 1 0 l.length] [.row t_int true 1 (l.map I)] = some (.tup [], [.row t_int true 1 (l.reverse.map I)]) := by
  refine C_slices_Reverse_sl_int_int ?_
  simp (maxSteps := 2000000) (disch := (first | omega | (simp only [lenS]; first | done | omega))) only [ir_slices_Reverse_sl_int_int, go_sem, Nat.reduceAdd, Nat.reduceEqDiff, Nat.reduceLeDiff, Nat.reduceSub]
  refine W_down (fun k s => ∃ (i : Nat) (c : List Int), k + 2 * i = l.length + 1 ∧ revI l c i ∧ s = ⟨[.ref 0 1 0 l.length, I i, I (l.length - 1 - i : Int), .any], [.row t_int true 1 (c.map I)]⟩) (l.length + 1) ?_ ?_
  · refine ⟨0, l, by omega, revI_zero l, ?_⟩
    simp (maxSteps := 2000000) (disch := (first | omega | (simp only [lenS]; first | done | omega))) only [go_sem, Nat.reduceAdd, Nat.reduceEqDiff, Nat.reduceLeDiff, Nat.reduceSub]
    simp
  · rintro k s ⟨i, c, hk, hr, rfl⟩
    have hcl := hr.1
    by_cases hi : 2 * i + 1 < l.length
    · have e1 : ((l.length : Int) - 1 - i).toNat = l.length - 1 - i := by omega
      have hst := revI_step hr hi
      simp (maxSteps := 2000000) (disch := (first | omega | (simp only [lenS]; first | done | omega))) only [go_sem, Nat.reduceAdd, Nat.reduceEqDiff, Nat.reduceLeDiff, Nat.reduceSub, e1]
      refine ⟨k - 2, by omega, i + 1, _, by omega, hst, ?_⟩
      rw [show (l.length : Int) - 1 - ((i + 1 : Nat) : Int) = l.length - 1 - i - 1 by omega]
      rfl
    · have := revI_end hr (by omega)
      subst this
      simp (maxSteps := 2000000) (disch := (first | omega | (simp only [lenS]; first | done | omega))) only [go_sem, Nat.reduceAdd, Nat.reduceEqDiff, Nat.reduceLeDiff, Nat.reduceSub]
theorem impl_Space_wayTo_ok (n : Net) (start : List Int) (b : Int) (R : Ex) (hok : ExOk n start b R) (hb : b ≤ 400) (hal : R.sp.ar.length < 2^60) (K : Nat) (hK : K < R.sp.ms.length) : Lw (C f_impl_Space_wayTo [.agg [rows R.sp.ms, .sl true 3 (R.sp.ar.map encA)], ints (R.sp.ms.getD K [])] []) fun r => ∃ W : List Int, r = (.tup [.un t_int true 1 (W.map I), .bool true], []) ∧ pathOk n start W (R.sp.ms.getD K []) ∧ W.length ≤ 400 ∧ ∀ t ∈ W, inB 0 (n.tr.length - 1) t = true := by
  have hlb := hok.lenb
  have hxs : ∀ x ∈ R.sp.ms, x.length < 2^62 := fun x hx => by have := goodM_len (marked_parts (hok.good x hx)).2; omega
  have fd := impl_Space_find_ok R.sp.ms (R.sp.ar.map encA) (R.sp.ms.getD K []) (by omega) hxs
  rw [findM_at hok.nodup hK] at fd
  refine E_impl_Space_wayTo ?_
  simp (maxSteps := 2000000) (disch := (first | omega | (simp only [lenS]; first | done | omega))) only [ir_impl_Space_wayTo, go_sem, Nat.reduceAdd, Nat.reduceEqDiff, Nat.reduceLeDiff, Nat.reduceSub]
  simp (maxSteps := 2000000) (disch := (first | omega | (simp only [lenS]; first | done | omega))) only [go_sem, Nat.reduceAdd, Nat.reduceEqDiff, Nat.reduceLeDiff, Nat.reduceSub, fd]
  refine W_down (fun k s => ∃ (at' : Nat) (W : List Int), k = at' ∧ at' < R.sp.ms.length ∧ s = ⟨[.any, .any, .ptr 0 0, .any, .any, .ptr 1 0, .ref 2 1 0 W.length, .any, .any, .any], [.box t_impl_Space [rows R.sp.ms, .sl true 3 (R.sp.ar.map encA)], .box t_int [I at'], .row t_int true 1 (W.map I)]⟩ ∧ pathOk n (R.sp.ms.getD at' []) W.reverse (R.sp.ms.getD K []) ∧ W.length + at' ≤ 400 ∧ ∀ t ∈ W, inB 0 (n.tr.length - 1) t = true) K ?_ ?_
  · refine ⟨K, [], rfl, hK, ?_, pathOk_nil .., by simp; omega, by simp⟩
    simp (maxSteps := 2000000) (disch := (first | omega | (simp only [lenS]; first | done | omega))) only [go_sem, Nat.reduceAdd, Nat.reduceEqDiff, Nat.reduceLeDiff, Nat.reduceSub]
  · rintro k s ⟨at', W, rfl, hat, rfl, hp, hW, htr⟩
    by_cases h0 : 0 < k
    · obtain ⟨i, hi, a1, a2, a3, a4, a5⟩ := arcTo_back hok h0 hat
      have ix := slices_IndexFunc_sl_impl_Arc_impl_Arc_ok R.sp.ar f_impl_Space_wayTo_1 [.pv (.agg [I k]) 0] rfl (fun _ _ => rfl) (fun a => decide (a.dst = k)) (fun x _ => impl_Space_wayTo_1_ok x k) (by omega)
      rw [show idxI R.sp.ar (fun a => decide (a.dst = k)) = i from a1] at ix
      simp (maxSteps := 2000000) (disch := (first | omega | (simp only [lenS]; first | done | omega))) only [go_sem, Nat.reduceAdd, Nat.reduceEqDiff, Nat.reduceLeDiff, Nat.reduceSub, ix]
      have e2 : ((R.sp.ar[i].src.toNat : Nat) : Int) = R.sp.ar[i].src := by omega
      refine ⟨R.sp.ar[i].src.toNat, by omega, R.sp.ar[i].src.toNat, W ++ [R.sp.ar[i].by_], rfl, by omega, ?_, ?_, by simp only [List.length_append, List.length_cons, List.length_nil]; omega, fun t ht => ?_⟩
      · rw [e2, List.map_append]; simp
      · rw [List.reverse_append]
        show pathOk n _ (R.sp.ar[i].by_ :: W.reverse) _
        exact pathOk_cons a4 (by rw [← a5]; exact hp)
      · rcases List.mem_append.1 ht with ht | ht
        · exact htr t ht
        · simp only [List.mem_singleton] at ht
          subst ht; exact okFire_tr a4
    · have : k = 0 := by omega
      subst this
      have hs : R.sp.ms.getD 0 [] = start := by rw [List.getD_eq_getElem?_getD, hok.first]; rfl
      rw [hs] at hp
      have rv := slices_Reverse_sl_int_int_ok W (by omega)
      have hVl : W.length = W.reverse.length := by simp
      have hVm : ∀ t ∈ W.reverse, inB 0 (n.tr.length - 1) t = true := fun t ht => htr t (List.mem_reverse.1 ht)
      generalize W.reverse = V at *
      simp (maxSteps := 2000000) (disch := (first | omega | (simp only [lenS]; first | done | omega))) only [go_sem, Nat.reduceAdd, Nat.reduceEqDiff, Nat.reduceLeDiff, Nat.reduceSub, rv]
      exact ⟨V, rfl, hp, by omega, hVm⟩
theorem impl_WayTo_t (n : Net) (start : List Int) (b : Int) (hn : smN n) (hs : start.length < 2^62) (h : okEx n start b = true) (hc : (exAll n start b).code = 0) (hal : (exAll n start b).sp.ar.length < 2^60) (K : Nat) (hK : K < (exAll n start b).sp.ms.length) : Lw (C f_impl_WayTo [encN n, ints start, I b, ints ((exAll n start b).sp.ms.getD K [])] []) fun r => r = (.tup [.un t_int true 1 [], .bool false], []) ∨ ∃ W : List Int, r = (.tup [.un t_int true 1 (W.map I), .bool true], []) ∧ pathOk n start W ((exAll n start b).sp.ms.getD K []) ∧ W.length ≤ 60 ∧ ∀ t ∈ W, inB 0 (n.tr.length - 1) t = true := by
  have hx := impl_wholeSpace_t n start b hn hs h hc
  obtain ⟨h1, hb⟩ := okEx_parts h
  obtain ⟨f1, _⟩ := exAll_facts h1 hb.1
  generalize exAll n start b = R at *
  have hlb := f1.lenb
  have hgm := (marked_parts (f1.good _ (getD_mem hK))).2
  have hml := goodM_len hgm
  have hg := impl_GoodMark_ok n.pl (R.sp.ms.getD K []) (by omega)
  rw [hgm] at hg
  obtain ⟨_, hw, W, rfl, w1, w2, w3⟩ := impl_Space_wayTo_ok n start b R f1 hb.2 hal K hK
  refine E_impl_WayTo ?_
  simp (maxSteps := 2000000) (disch := (first | omega | (simp only [lenS]; first | done | omega))) only [ir_impl_WayTo, go_sem, Nat.reduceAdd, Nat.reduceEqDiff, Nat.reduceLeDiff, Nat.reduceSub]
  by_cases ha : R.sp.ar = []
  · simp only [arcPV, ha, if_true] at hx
    simp only [ha, List.map_nil] at hw
    simp (maxSteps := 2000000) (disch := (first | omega | (simp only [lenS]; first | done | omega))) only [go_sem, Nat.reduceAdd, Nat.reduceEqDiff, Nat.reduceLeDiff, Nat.reduceSub, hx, hg, hw]
    refine ⟨fun _ => .inl (by simp), fun _ => .inr ⟨W, by simp, w1, by omega, w3⟩⟩
  · simp only [arcPV, ha, if_false] at hx
    simp (maxSteps := 2000000) (disch := (first | omega | (simp only [lenS]; first | done | omega))) only [go_sem, Nat.reduceAdd, Nat.reduceEqDiff, Nat.reduceLeDiff, Nat.reduceSub, hx, hg, hw]
    refine ⟨fun _ => .inl (by simp), fun _ => .inr ⟨W, by simp, w1, by omega, w3⟩⟩
theorem spec_l4Way_ok (ms : List (List Int)) (ar : List Arc3) (p : Nat) (hm : ms.length < 2^30) (hr : ar.length < 2^35) (hb : Bfs ar ms.length) (hp : p < ms.length) :
    C f_spec_l4Way [.agg [rows ms, .sl true 3 (ar.map encA)], I p] [] = some (.un t_int true 1 ((tw ar p).map I), []) := by
  have hA := hb.inn
  refine C_spec_l4Way ?_
  simp (maxSteps := 2000000) (disch := (first | omega | (simp only [lenS]; first | done | omega))) only [ir_spec_l4Way, go_sem, Nat.reduceAdd, Nat.reduceEqDiff, Nat.reduceLeDiff, Nat.reduceSub]
  generalize hn : ms.length = n at *
  refine W_for n (fun k s => s = ⟨[.any, I p, .ptr 0 0, .any, .ref 1 1 0 n, .any, .any, .any, .any, .any, .any, .any, I n, I k, .any, .any, .any, .any, .any, .any, .any, .any, .any, .any, .any, .any, .any], [.box t_impl_Space [rows ms, .sl true 3 (ar.map encA)], .row t_int true 1 ((List.replicate k (-1 : Int) ++ List.replicate (n - k) 0).map I)]⟩) ?_ ?_ ?_
  · simp (maxSteps := 2000000) (disch := (first | omega | (simp only [lenS]; first | done | omega))) only [go_sem, Nat.reduceAdd, Nat.reduceEqDiff, Nat.reduceLeDiff, Nat.reduceSub, hn]
    simp
  · rintro k s hk rfl
    have e1 : (List.replicate k (-1 : Int) ++ List.replicate (n - k) 0).length = n := by simp; omega
    have e2 : List.replicate (k + 1) (-1 : Int) ++ List.replicate (n - (k + 1)) 0 = (List.replicate k (-1 : Int) ++ List.replicate (n - k) 0).set k (-1) := by
      rw [List.set_append, if_neg (by simp), List.length_replicate, Nat.sub_self, show n - k = (n - (k + 1)) + 1 by omega, List.replicate_succ (n := n - (k + 1)), List.set_cons_zero, List.replicate_succ' (n := k)]
      simp
    rw [e2]
    generalize List.replicate k (-1 : Int) ++ List.replicate (n - k) 0 = c at *
    simp (maxSteps := 2000000) (disch := (first | omega | (simp only [lenS]; first | done | omega))) only [go_sem, Nat.reduceAdd, Nat.reduceEqDiff, Nat.reduceLeDiff, Nat.reduceSub, e1]
    rw [List.map_set]; rfl
  · rintro s rfl
    have hst := FQ.start (ar := ar) (p := (p : Int)) (n := n) hA (by omega)
    have hbs := bndF_start hp
    have e1 : (List.replicate n (-1 : Int)).length = n := List.length_replicate
    rw [Nat.sub_self, List.replicate_zero, List.append_nil]
    have e2 : (List.replicate n (-1 : Int)).set p 0 = (List.replicate n (-1 : Int)).set (p : Int).toNat 0 := rfl
    rw [Int.toNat_natCast] at hst
    generalize List.replicate n (-1 : Int) = F0 at *
    simp (maxSteps := 2000000) (disch := (first | omega | (simp only [lenS]; first | done | omega))) only [go_sem, Nat.reduceAdd, Nat.reduceEqDiff, Nat.reduceLeDiff, Nat.reduceSub, e1]
    refine W_down (fun j s => ∃ (F q : List Int) (V : PV) (K : Blk), ((V = .ref 2 1 0 q.length ∧ K = .row t_int true 1 (q.map I)) ∨ ∃ pre : List Int, V = .qref 2 1 pre.length q.length ∧ K = .que t_int 1 ((pre ++ q).map I)) ∧ FQ ar p n F q (fun _ => False) ∧ bndF n F ∧ j = cntU F + q.length ∧ q.length + cntU F ≤ 2^31 ∧ s = ⟨[.any, I p, .ptr 0 0, .any, .ref 1 1 0 n, .any, V, .any, .any, .any, .any, .any, .any, .any, .any, .any, .any, .any, .any, .any, .any, .any, .any, .any, .any, .any, .any], [.box t_impl_Space [rows ms, .sl true 3 (ar.map encA)], .row t_int true 1 (F.map I), K]⟩) (cntU (F0.set p 0) + 1) ?_ ?_
    · refine ⟨_, [(p : Int)], _, _, .inl ⟨rfl, rfl⟩, hst, hbs, rfl, ?_, ?_⟩
      · have : cntU (F0.set p 0) ≤ (F0.set p 0).length := List.countP_le_length
        rw [List.length_set] at this
        simp only [List.length_cons, List.length_nil]; omega
      · simp (maxSteps := 2000000) (disch := (first | omega | (simp only [lenS]; first | done | omega))) only [go_sem, Nat.reduceAdd, Nat.reduceEqDiff, Nat.reduceLeDiff, Nat.reduceSub]
        first | done | (rw [List.map_set]; rfl)
    · rintro j s ⟨F, q, V, K, hV, hF, hbd, rfl, hle, rfl⟩
      have hFl := hF.len
      cases q with
      | nil =>
        have hfar := hF.end_ hA (by omega)
        have h00 : 0 < n := by omega
        obtain ⟨d0, hd0, hdn⟩ := hfar.begin_ hb hp
        have hnn := hfar.nonneg
        rcases hV with ⟨rfl, rfl⟩ | ⟨pre, rfl, rfl⟩
        all_goals
          simp (maxSteps := 2000000) (disch := (first | omega | (simp only [lenS]; first | done | omega))) only [go_sem, Nat.reduceAdd, Nat.reduceEqDiff, Nat.reduceLeDiff, Nat.reduceSub]
          refine W_down (fun j s => ∃ (t : Nat) (W : List Int), t < n ∧ F[t]? = some (j : Int) ∧ W.length + j ≤ d0 ∧ (∀ V, Gd ar F p t V → Gd ar F p 0 (W ++ V)) ∧ s = ⟨[.any, I p, .ptr 0 0, .any, .ref 1 1 0 n, .any, .any, .any, .any, .ref 2 1 0 W.length, I t, .any, .any, .any, .any, .any, .any, .any, .any, .any, .any, .any, .any, .any, .any, .any, .any], [.box t_impl_Space [rows ms, .sl true 3 (ar.map encA)], .row t_int true 1 (F.map I), .row t_int true 1 (W.map I)]⟩) d0 ?_ ?_
          · refine ⟨0, [], h00, hd0, by simp, fun V h => h, ?_⟩
            simp (maxSteps := 2000000) (disch := (first | omega | (simp only [lenS]; first | done | omega))) only [go_sem, Nat.reduceAdd, Nat.reduceEqDiff, Nat.reduceLeDiff, Nat.reduceSub]
            first | done | rfl
          · rintro j s ⟨t, W, ht, hFt, hWj, hG, rfl⟩
            by_cases htp : t = p
            · subst htp
              have hW := gd_tw hb hp hfar (by simpa using hG [] .refl)
              subst hW
              simp (maxSteps := 2000000) (disch := (first | omega | (simp only [lenS]; first | done | omega))) only [go_sem, Nat.reduceAdd, Nat.reduceEqDiff, Nat.reduceLeDiff, Nat.reduceSub]
            · obtain ⟨i0, hi0, hs0, hf0⟩ := hfar.near hA ht htp hFt
              have hj0 := hfar.pos ht htp hFt
              have htp2 : ¬ ((t : Int) = (p : Int)) := by omega
              simp (maxSteps := 2000000) (disch := (first | omega | (simp only [lenS]; first | done | omega))) only [go_sem, Nat.reduceAdd, Nat.reduceEqDiff, Nat.reduceLeDiff, Nat.reduceSub, htp2]
              refine W_for ar.length (fun k s => (∀ i, i < k → ∀ hi : i < ar.length, ar[i].src = t → F[ar[i].dst.toNat]? ≠ some ((j : Int) - 1)) ∧ s = ⟨[.any, I p, .ptr 0 0, .any, .ref 1 1 0 n, .any, .any, .any, .any, .ref 2 1 0 W.length, I t, .any, .any, .any, .any, .any, .any, .any, .any, .any, .any, .any, .sl true 3 (ar.map encA), I ar.length, I k, .any, .any], [.box t_impl_Space [rows ms, .sl true 3 (ar.map encA)], .row t_int true 1 (F.map I), .row t_int true 1 (W.map I)]⟩) ?_ ?_ ?_
              · simp (maxSteps := 2000000) (disch := (first | omega | (simp only [lenS]; first | done | omega))) only [go_sem, Nat.reduceAdd, Nat.reduceEqDiff, Nat.reduceLeDiff, Nat.reduceSub]
                exact ⟨fun i hi => by omega, rfl⟩
              · rintro k s hk ⟨hno, rfl⟩
                obtain ⟨a1, a2, a3, a4⟩ := hA _ (List.getElem_mem hk)
                have hlt : ar[k].dst.toNat < F.length := by omega
                obtain ⟨u, g1⟩ : ∃ u, F[ar[k].dst.toNat]? = some u := ⟨_, List.getElem?_eq_getElem hlt⟩
                clear hlt
                have hmore : (ar[k].src = t → F[ar[k].dst.toNat]? ≠ some ((j : Int) - 1)) → ∀ i, i < k + 1 → ∀ hi : i < ar.length, ar[i].src = t → F[ar[i].dst.toNat]? ≠ some ((j : Int) - 1) := by
                  intro h i hi hi2 hs
                  by_cases e : i = k
                  · subst e; exact h hs
                  · exact hno i (by omega) hi2 hs
                have htake : ar[k].src = t → F[ar[k].dst.toNat]? = some ((j : Int) - 1) → ∀ V, Gd ar F p ar[k].dst.toNat V → Gd ar F p 0 ((W ++ [ar[k].by_]) ++ V) := by
                  intro hs hf V hV
                  rw [List.append_assoc]
                  refine hG _ (.step htp hk hs (fun u v hu hv => ?_) (fun i hi hs2 u v hu hv e => ?_) hV)
                  · rw [hf] at hu; rw [hFt] at hv
                    have e1 := Option.some.inj hu; have e2 := Option.some.inj hv; omega
                  · rw [hFt] at hv
                    have e2 := Option.some.inj hv
                    exact hno i hi (by omega) hs2 (by rw [hu, e, ← e2])
                rw [g1] at hmore htake
                generalize hak : ar[k] = a at *
                simp (maxSteps := 2000000) (disch := (first | omega | (simp only [lenS]; first | done | omega))) only [go_sem, Nat.reduceAdd, Nat.reduceEqDiff, Nat.reduceLeDiff, Nat.reduceSub, hak, hFt, g1, hFl]
                refine ⟨fun e => ⟨fun e2 => ?_, fun e2 => ?_⟩, fun e => ?_⟩
                · refine ⟨j - 1, by omega, a.dst.toNat, W ++ [a.by_], by omega, by rw [g1, e2]; congr 1; omega, by simp only [List.length_append, List.length_cons, List.length_nil]; omega, htake e (by rw [e2]), ?_⟩
                  rw [List.map_append, List.length_append, Int.toNat_of_nonneg a3]; rfl
                · exact ⟨hmore (fun _ h => e2 (Option.some.inj h)), rfl⟩
                · exact ⟨hmore (fun h => (e h).elim), rfl⟩
              · rintro s ⟨hno, rfl⟩
                exact (hno i0 hi0 hi0 hs0 hf0).elim
      | cons x q =>
        obtain ⟨d, hw⟩ := hF.look
        have hpos := hw.pos
        simp only [List.length_cons] at hle
        rcases hV with ⟨rfl, rfl⟩ | ⟨pre, rfl, rfl⟩
        · simp (maxSteps := 2000000) (disch := (first | omega | (simp only [lenS]; first | done | omega))) only [go_sem, Nat.reduceAdd, Nat.reduceEqDiff, Nat.reduceLeDiff, Nat.reduceSub, Int.toNat_zero, List.getElem_cons_zero, Int.toNat_one, Nat.add_sub_cancel]
          obtain ⟨P, hP⟩ : ∃ P : List Int, P = [x] := ⟨_, rfl⟩
          refine W_for ar.length (fun m s => ∃ (F' pre' q' : List Int), FW ar p n x d m F' q' ∧ bndF n F' ∧ cntU F' + q'.length ≤ cntU F + q.length ∧ s = ⟨[.any, I p, .ptr 0 0, .any, .ref 1 1 0 n, .any, .qref 2 1 pre'.length q'.length, I x, .any, .any, .any, .any, .any, .any, .any, .any, .sl true 3 (ar.map encA), I ar.length, I m, .any, .any, .any, .any, .any, .any, .any, .any], [.box t_impl_Space [rows ms, .sl true 3 (ar.map encA)], .row t_int true 1 (F'.map I), .que t_int 1 ((pre' ++ q').map I)]⟩) ?_ ?_ ?_
          · refine ⟨F, P, q, hw, hbd, Nat.le_refl _, ?_⟩
            simp (maxSteps := 2000000) (disch := (first | omega | (simp only [lenS]; first | done | omega))) only [go_sem, Nat.reduceAdd, Nat.reduceEqDiff, Nat.reduceLeDiff, Nat.reduceSub]
            rw [hP]
            first
              | rfl
              | (rw [List.length_append, hL]; rfl)
          · rintro m s hm2 ⟨F', pre', q', h1, h2, h3, rfl⟩
            obtain ⟨a1, a2, a3, a4⟩ := hA _ (List.getElem_mem hm2)
            have hFl' := h1.len
            have hlt : ar[m].src.toNat < F'.length := by omega
            obtain ⟨u, g1⟩ : ∃ u, F'[ar[m].src.toNat]? = some u := ⟨_, List.getElem?_eq_getElem hlt⟩
            clear hlt
            have g2 := h1.at_
            have hdb := h2 _ _ g2
            have hu := h1.val _ _ g1
            have o1 := h1.old hm2
            have o2 := h1.new hA hm2
            have hcs := cntU_set (F := F') (k := ar[m].src.toNat) (v := (d : Int) + 1)
            have hbs := bndF_set (y := ar[m].src.toNat) h2 g2
            have hdrop : ((pre' ++ q').map I).drop pre'.length = q'.map I := by rw [← List.map_drop, List.drop_left]
            have hLl : (pre' ++ q').length = pre'.length + q'.length := List.length_append
            generalize hL' : pre' ++ q' = L' at *
            generalize hak : ar[m] = a at *
            simp (maxSteps := 2000000) (disch := (first | omega | (simp only [lenS]; first | done | omega))) only [go_sem, Nat.reduceAdd, Nat.reduceEqDiff, Nat.reduceLeDiff, Nat.reduceSub, hak, g1, g2, hFl', hLl, hdrop]
            refine ⟨fun e => ⟨fun hneg => ?_, fun hp' => ?_⟩, fun e => ?_⟩
            · have hu1 : u = -1 := by rcases hu with h | ⟨d', h, _⟩ <;> omega
              subst hu1
              have := hcs g1 (by omega)
              refine ⟨_, [], q' ++ [a.src], o2 e g1, hbs g1, by rw [List.length_append]; simp only [List.length_cons, List.length_nil]; omega, ?_⟩
              rw [List.nil_append, List.map_append, List.map_set, List.length_append]; rfl
            · exact ⟨F', pre', q', o1 (fun _ => ⟨u, g1, hp'⟩), h2, h3, by rw [hL']; rfl⟩
            · exact ⟨F', pre', q', o1 (fun h => (e h).elim), h2, h3, by rw [hL']; rfl⟩
          · rintro s ⟨F', pre', q', h1, h2, h3, rfl⟩
            simp (maxSteps := 2000000) (disch := (first | omega | (simp only [lenS]; first | done | omega))) only [go_sem, Nat.reduceAdd, Nat.reduceEqDiff, Nat.reduceLeDiff, Nat.reduceSub]
            exact ⟨cntU F' + q'.length, by omega, F', q', _, _, .inr ⟨pre', rfl, rfl⟩, h1.next, h2, rfl, by omega, rfl⟩
        · have hx : (pre ++ x :: q)[pre.length]? = some x := by simp
          have hLl : (pre ++ x :: q).length = pre.length + q.length + 1 := by simp; omega
          have hL : (pre ++ x :: q) = (pre ++ [x]) ++ q := by simp
          obtain ⟨P, hP⟩ : ∃ P : List Int, P = pre ++ [x] := ⟨_, rfl⟩
          generalize pre ++ x :: q = L at *
          have hx' : L[pre.length]'(by omega) = x := by rw [List.getElem?_eq_getElem (by omega)] at hx; exact Option.some.inj hx
          simp (maxSteps := 2000000) (disch := (first | omega | (simp only [lenS]; first | done | omega))) only [go_sem, Nat.reduceAdd, Nat.reduceEqDiff, Nat.reduceLeDiff, Nat.reduceSub, Int.toNat_zero, hx, hx', hLl, Int.toNat_one, Nat.add_sub_cancel]
          refine W_for ar.length (fun m s => ∃ (F' pre' q' : List Int), FW ar p n x d m F' q' ∧ bndF n F' ∧ cntU F' + q'.length ≤ cntU F + q.length ∧ s = ⟨[.any, I p, .ptr 0 0, .any, .ref 1 1 0 n, .any, .qref 2 1 pre'.length q'.length, I x, .any, .any, .any, .any, .any, .any, .any, .any, .sl true 3 (ar.map encA), I ar.length, I m, .any, .any, .any, .any, .any, .any, .any, .any], [.box t_impl_Space [rows ms, .sl true 3 (ar.map encA)], .row t_int true 1 (F'.map I), .que t_int 1 ((pre' ++ q').map I)]⟩) ?_ ?_ ?_
          · refine ⟨F, P, q, hw, hbd, Nat.le_refl _, ?_⟩
            simp (maxSteps := 2000000) (disch := (first | omega | (simp only [lenS]; first | done | omega))) only [go_sem, Nat.reduceAdd, Nat.reduceEqDiff, Nat.reduceLeDiff, Nat.reduceSub]
            rw [hP]
            first
              | rfl
              | (rw [List.length_append, hL]; rfl)
          · rintro m s hm2 ⟨F', pre', q', h1, h2, h3, rfl⟩
            obtain ⟨a1, a2, a3, a4⟩ := hA _ (List.getElem_mem hm2)
            have hFl' := h1.len
            have hlt : ar[m].src.toNat < F'.length := by omega
            obtain ⟨u, g1⟩ : ∃ u, F'[ar[m].src.toNat]? = some u := ⟨_, List.getElem?_eq_getElem hlt⟩
            clear hlt
            have g2 := h1.at_
            have hdb := h2 _ _ g2
            have hu := h1.val _ _ g1
            have o1 := h1.old hm2
            have o2 := h1.new hA hm2
            have hcs := cntU_set (F := F') (k := ar[m].src.toNat) (v := (d : Int) + 1)
            have hbs := bndF_set (y := ar[m].src.toNat) h2 g2
            have hdrop : ((pre' ++ q').map I).drop pre'.length = q'.map I := by rw [← List.map_drop, List.drop_left]
            have hLl : (pre' ++ q').length = pre'.length + q'.length := List.length_append
            generalize hL' : pre' ++ q' = L' at *
            generalize hak : ar[m] = a at *
            simp (maxSteps := 2000000) (disch := (first | omega | (simp only [lenS]; first | done | omega))) only [go_sem, Nat.reduceAdd, Nat.reduceEqDiff, Nat.reduceLeDiff, Nat.reduceSub, hak, g1, g2, hFl', hLl, hdrop]
            refine ⟨fun e => ⟨fun hneg => ?_, fun hp' => ?_⟩, fun e => ?_⟩
            · have hu1 : u = -1 := by rcases hu with h | ⟨d', h, _⟩ <;> omega
              subst hu1
              have := hcs g1 (by omega)
              refine ⟨_, [], q' ++ [a.src], o2 e g1, hbs g1, by rw [List.length_append]; simp only [List.length_cons, List.length_nil]; omega, ?_⟩
              rw [List.nil_append, List.map_append, List.map_set, List.length_append]; rfl
            · exact ⟨F', pre', q', o1 (fun _ => ⟨u, g1, hp'⟩), h2, h3, by rw [hL']; rfl⟩
            · exact ⟨F', pre', q', o1 (fun h => (e h).elim), h2, h3, by rw [hL']; rfl⟩
          · rintro s ⟨F', pre', q', h1, h2, h3, rfl⟩
            simp (maxSteps := 2000000) (disch := (first | omega | (simp only [lenS]; first | done | omega))) only [go_sem, Nat.reduceAdd, Nat.reduceEqDiff, Nat.reduceLeDiff, Nat.reduceSub]
            exact ⟨cntU F' + q'.length, by omega, F', q', _, _, .inr ⟨pre', rfl, rfl⟩, h1.next, h2, rfl, by omega, rfl⟩
def wayK (n : Net) (start : List Int) (b : Int) (m : List Int) : Nat := (findM (exAll n start b).sp.ms m).toNat
def wayOk (n : Net) (start : List Int) (b : Int) (m : List Int) : Bool := whole n start b && (decide (m ∈ (exAll n start b).sp.ms) && decide ((tw (exAll n start b).sp.ar (wayK n start b m)).length ≤ 60))
def wayV (n : Net) (start : List Int) (b : Int) (m : List Int) : List Int := if wayOk n start b m then tw (exAll n start b).sp.ar (wayK n start b m) else []
theorem spec_WayTo_ok (n : Net) (start : List Int) (b : Int) (m : List Int) (hn : smN n) (hs : start.length < 2^62) (hm : m.length < 2^60) : C f_spec_WayTo [encN n, ints start, I b, ints m] [] = some (.tup [.un t_int true 1 ((wayV n start b m).map I), .bool (wayOk n start b m)], []) := by
  have hx := spec_l4All_ok n start b hn hs
  unfold wayV wayOk wayK
  unfold wholePV at hx
  cases hw : whole n start b with
  | false =>
    simp only [hw, Bool.false_and, Bool.false_eq_true, if_false] at hx ⊢
    refine C_spec_WayTo ?_
    simp (maxSteps := 2000000) (disch := (first | omega | (simp only [lenS]; first | done | omega))) only [ir_spec_WayTo, go_sem, Nat.reduceAdd, Nat.reduceEqDiff, Nat.reduceLeDiff, Nat.reduceSub]
    simp (maxSteps := 2000000) (disch := (first | omega | (simp only [lenS]; first | done | omega))) only [go_sem, Nat.reduceAdd, Nat.reduceEqDiff, Nat.reduceLeDiff, Nat.reduceSub, hx]
    first | done | rfl
  | true =>
    obtain ⟨_, _, f1, f2, f3, f4, f5⟩ := whole_facts hw
    simp only [hw, if_true] at hx ⊢
    have fd := spec_l4Find_ok (exAll n start b).sp.ms m (by omega) (whole_lens f1)
    have hfg := fun h => findM_get (l := (exAll n start b).sp.ms) (m := m) h
    have hfm := findM_mem (l := (exAll n start b).sp.ms) (m := m)
    generalize exAll n start b = R at *
    by_cases hmm : 0 ≤ findM R.sp.ms m
    · rw [decide_eq_true (hfm.1 hmm)]
      obtain ⟨K, hK⟩ : ∃ K : Nat, findM R.sp.ms m = K := ⟨(findM R.sp.ms m).toNat, (Int.toNat_of_nonneg hmm).symm⟩
      rw [hK] at fd ⊢
      have hKl := (hfg hmm).1
      rw [hK, Int.toNat_natCast] at hKl
      rw [Int.toNat_natCast]
      have hw2 := spec_l4Way_ok R.sp.ms R.sp.ar K (by omega) (by omega) f4 hKl
      have hl := tw_len f4 K hKl
      generalize tw R.sp.ar K = T at *
      by_cases ha : R.sp.ar = []
      · simp only [arcPV, ha, if_true] at hx
        simp only [ha, List.map_nil] at hw2
        refine C_spec_WayTo ?_
        simp (maxSteps := 2000000) (disch := (first | omega | (simp only [lenS]; first | done | omega))) only [ir_spec_WayTo, go_sem, Nat.reduceAdd, Nat.reduceEqDiff, Nat.reduceLeDiff, Nat.reduceSub]
        simp (maxSteps := 2000000) (disch := (first | omega | (simp only [lenS]; first | done | omega))) only [go_sem, Nat.reduceAdd, Nat.reduceEqDiff, Nat.reduceLeDiff, Nat.reduceSub, hx, fd, hw2]
        exact ⟨fun h => by rw [if_neg (by grind), decide_eq_false (by omega)]; rfl, fun h => by rw [if_pos (by grind), decide_eq_true (by omega)]⟩
      · simp only [arcPV, ha, if_false] at hx
        refine C_spec_WayTo ?_
        simp (maxSteps := 2000000) (disch := (first | omega | (simp only [lenS]; first | done | omega))) only [ir_spec_WayTo, go_sem, Nat.reduceAdd, Nat.reduceEqDiff, Nat.reduceLeDiff, Nat.reduceSub]
        simp (maxSteps := 2000000) (disch := (first | omega | (simp only [lenS]; first | done | omega))) only [go_sem, Nat.reduceAdd, Nat.reduceEqDiff, Nat.reduceLeDiff, Nat.reduceSub, hx, fd, hw2]
        exact ⟨fun h => by rw [if_neg (by grind), decide_eq_false (by omega)]; rfl, fun h => by rw [if_pos (by grind), decide_eq_true (by omega)]⟩
    · rw [decide_eq_false (fun h => hmm (hfm.2 h))]
      have hneg : findM R.sp.ms m < 0 := by omega
      generalize findM R.sp.ms m = z at *
      by_cases ha : R.sp.ar = []
      · simp only [arcPV, ha, if_true] at hx
        refine C_spec_WayTo ?_
        simp (maxSteps := 2000000) (disch := (first | omega | (simp only [lenS]; first | done | omega))) only [ir_spec_WayTo, go_sem, Nat.reduceAdd, Nat.reduceEqDiff, Nat.reduceLeDiff, Nat.reduceSub]
        simp (maxSteps := 2000000) (disch := (first | omega | (simp only [lenS]; first | done | omega))) only [go_sem, Nat.reduceAdd, Nat.reduceEqDiff, Nat.reduceLeDiff, Nat.reduceSub, hx, fd, hneg]
        first | done | rfl
      · simp only [arcPV, ha, if_false] at hx
        refine C_spec_WayTo ?_
        simp (maxSteps := 2000000) (disch := (first | omega | (simp only [lenS]; first | done | omega))) only [ir_spec_WayTo, go_sem, Nat.reduceAdd, Nat.reduceEqDiff, Nat.reduceLeDiff, Nat.reduceSub]
        simp (maxSteps := 2000000) (disch := (first | omega | (simp only [lenS]; first | done | omega))) only [go_sem, Nat.reduceAdd, Nat.reduceEqDiff, Nat.reduceLeDiff, Nat.reduceSub, hx, fd, hneg]
        first | done | rfl
theorem laws_sameInts_ok (a b : List Int) (hl : a.length < 2^62) : C f_laws_sameInts [ints a, ints b] [] = some (.bool (decide (a = b)), []) := by
  refine C_laws_sameInts ?_
  simp (maxSteps := 2000000) (disch := (first | omega | (simp only [lenS]; first | done | omega))) only [ir_laws_sameInts, go_sem, Nat.reduceAdd, Nat.reduceEqDiff, Nat.reduceLeDiff, Nat.reduceSub]
  refine ⟨fun h => ?_, fun h => ?_⟩
  · have : a ≠ b := fun e => h (by rw [e])
    simp [this]
  refine W_for a.length (fun k s => s = ⟨[ints a, ints b, .any, .any, .any, I a.length, I k, .any, .any], []⟩ ∧ a.take k = b.take k) ?_ ?_ ?_
  · simp (maxSteps := 2000000) (disch := (first | omega | (simp only [lenS]; first | done | omega))) only [go_sem, Nat.reduceAdd, Nat.reduceEqDiff, Nat.reduceLeDiff, Nat.reduceSub]
    rfl
  · rintro k s hk ⟨rfl, hall⟩
    simp (maxSteps := 2000000) (disch := (first | omega | (simp only [lenS]; first | done | omega))) only [go_sem, Nat.reduceAdd, Nat.reduceEqDiff, Nat.reduceLeDiff, Nat.reduceSub]
    refine ⟨fun h => ?_, fun h => ⟨rfl, ?_⟩⟩
    · have : a ≠ b := fun e => h (by simp [e])
      simp [this]
    · rw [take_snoc hk, take_snoc (show k < b.length by omega), hall, h]
  · rintro s ⟨rfl, hall⟩
    simp (maxSteps := 2000000) (disch := (first | omega | (simp only [lenS]; first | done | omega))) only [go_sem, Nat.reduceAdd, Nat.reduceEqDiff, Nat.reduceLeDiff, Nat.reduceSub]
    rw [List.take_length, List.take_of_length_le (by omega)] at hall
    simp [hall]
theorem impl_areTrans_ok (n : Net) (l : List Int) (hn : n.tr.length < 2^62) (hl : l.length < 2^62) : C f_impl_areTrans [encN n, ints l] [] = some (.bool (areTr n l), []) := by
  refine C_impl_areTrans ?_
  simp (maxSteps := 2000000) (disch := (first | omega | (simp only [lenS]; first | done | omega))) only [ir_impl_areTrans, go_sem, Nat.reduceAdd, Nat.reduceEqDiff, Nat.reduceLeDiff, Nat.reduceSub]
  simp (maxSteps := 2000000) (disch := (first | omega | (simp only [lenS]; first | done | omega))) only [go_sem, Nat.reduceAdd, Nat.reduceEqDiff, Nat.reduceLeDiff, Nat.reduceSub, impl_allWithin_ok l _ _ hl]
  unfold areTr; grind
theorem impl_isTrans_ok (n : Net) (t : Int) (hn : n.tr.length < 2^62) : C f_impl_isTrans [encN n, I t] [] = some (.bool (inB 0 (n.tr.length - 1) t), []) := by
  refine C_impl_isTrans ?_
  simp (maxSteps := 2000000) (disch := (first | omega | (simp only [lenS]; first | done | omega))) only [ir_impl_isTrans, go_sem, Nat.reduceAdd, Nat.reduceEqDiff, Nat.reduceLeDiff, Nat.reduceSub]
  simp (maxSteps := 2000000) (disch := (first | omega | (simp only [lenS]; first | done | omega))) only [go_sem, Nat.reduceAdd, Nat.reduceEqDiff, Nat.reduceLeDiff, Nat.reduceSub, impl_within_ok]
  grind
theorem impl_checkedMark_t (m : List Int) (hm : m.length < 2^62) (h : m.all (inB 0 50) = true) : C f_impl_checkedMark [ints m] [] = some (.tup [ints m, .bool true], []) := by
  refine C_impl_checkedMark ?_
  simp (maxSteps := 2000000) (disch := (first | omega | (simp only [lenS]; first | done | omega))) only [ir_impl_checkedMark, go_sem, Nat.reduceAdd, Nat.reduceEqDiff, Nat.reduceLeDiff, Nat.reduceSub]
  simp (maxSteps := 2000000) (disch := (first | omega | (simp only [lenS]; first | done | omega))) only [go_sem, Nat.reduceAdd, Nat.reduceEqDiff, Nat.reduceLeDiff, Nat.reduceSub, impl_allWithin_ok m _ _ hm, h]
theorem impl_checkedMark_f (m : List Int) (hm : m.length < 2^62) (h : m.all (inB 0 50) = false) : C f_impl_checkedMark [ints m] [] = some (.tup [.un t_int true 1 [], .bool false], []) := by
  refine C_impl_checkedMark ?_
  simp (maxSteps := 2000000) (disch := (first | omega | (simp only [lenS]; first | done | omega))) only [ir_impl_checkedMark, go_sem, Nat.reduceAdd, Nat.reduceEqDiff, Nat.reduceLeDiff, Nat.reduceSub]
  simp (maxSteps := 2000000) (disch := (first | omega | (simp only [lenS]; first | done | omega))) only [go_sem, Nat.reduceAdd, Nat.reduceEqDiff, Nat.reduceLeDiff, Nat.reduceSub, impl_allWithin_ok m _ _ hm, h]
theorem impl_Fire_t (n : Net) (m : List Int) (t : Int) (hn : smN n) (hm : m.length < 2^62) (h : okFire n m t = true) : C f_impl_Fire [encN n, ints m, I t] [] = some (.tup [ints (firedM (trAt n t) m), .bool true], []) := by
  have h0 := hn.1
  obtain ⟨h1, h2⟩ := Bool.and_eq_true .. ▸ h
  obtain ⟨h3, h4, h5, h6, h7, h8⟩ := canN_parts h1
  have hx := goodT_lt h8 (goodM_len h4).2.2.1
  have hy := goodT_lens h8 (by have := goodN_parts h3; omega)
  have hm := (goodM_len h4).2.2.2
  have hz := firedM_len (trAt n t) m
  refine C_impl_Fire ?_
  simp (maxSteps := 2000000) (disch := (first | omega | (simp only [lenS]; first | done | omega))) only [ir_impl_Fire, go_sem, Nat.reduceAdd, Nat.reduceEqDiff, Nat.reduceLeDiff, Nat.reduceSub]
  simp (maxSteps := 2000000) (disch := (first | omega | (simp only [lenS]; first | done | omega))) only [go_sem, Nat.reduceAdd, Nat.reduceEqDiff, Nat.reduceLeDiff, Nat.reduceSub, impl_isMarked_ok n m hn (by omega), impl_isTrans_ok n t (by omega), trAt_eq, impl_isEnabled_ok (trAt n t) m hx.1 (by omega), (show marked n m = true by simp [marked, h3, h4]), (show inB 0 (n.tr.length - 1) t = true by simp [inB]; omega), h7,
    impl_fired_ok (trAt n t) m hx.1 hx.2.1 hx.2.2 ⟨by omega, by omega, by omega⟩ (by omega) hm.2, impl_checkedMark_t (firedM (trAt n t) m) (by omega) h2]
theorem impl_Fire_f (n : Net) (m : List Int) (t : Int) (hn : smN n) (hm : m.length < 2^62) (h : okFire n m t = false) : C f_impl_Fire [encN n, ints m, I t] [] = some (.tup [.un t_int true 1 [], .bool false], []) := by
  have h0 := hn.1
  refine C_impl_Fire ?_
  simp (maxSteps := 2000000) (disch := (first | omega | (simp only [lenS]; first | done | omega))) only [ir_impl_Fire, go_sem, Nat.reduceAdd, Nat.reduceEqDiff, Nat.reduceLeDiff, Nat.reduceSub]
  simp (maxSteps := 2000000) (disch := (first | omega | (simp only [lenS]; first | done | omega))) only [go_sem, Nat.reduceAdd, Nat.reduceEqDiff, Nat.reduceLeDiff, Nat.reduceSub, impl_isMarked_ok n m hn hm, impl_isTrans_ok n t (by omega)]
  intro h1 h2
  obtain ⟨h3, h4⟩ := marked_parts h1
  have h6 : 0 ≤ t ∧ t.toNat < n.tr.length := by simp [inB] at h2; omega
  have h8 := (goodN_parts h3).2.2.2 _ (List.getElem_mem h6.2)
  rw [trAt_eq h6.2] at h8
  have hx := goodT_lt h8 (goodM_len h4).2.2.1
  have hy := goodT_lens h8 (by have := goodN_parts h3; omega)
  have hm := (goodM_len h4).2.2.2
  have hz := firedM_len (trAt n t) m
  simp (maxSteps := 2000000) (disch := (first | omega | (simp only [lenS]; first | done | omega))) only [go_sem, Nat.reduceAdd, Nat.reduceEqDiff, Nat.reduceLeDiff, Nat.reduceSub, trAt_eq, impl_isEnabled_ok (trAt n t) m hx.1 (by omega)]
  intro h7
  have h9 : (firedM (trAt n t) m).all (inB 0 50) = false := by simpa [okFire, canN, h1, h2, h7] using h
  simp (maxSteps := 2000000) (disch := (first | omega | (simp only [lenS]; first | done | omega))) only [go_sem, Nat.reduceAdd, Nat.reduceEqDiff, Nat.reduceLeDiff, Nat.reduceSub, trAt_eq, impl_fired_ok (trAt n t) m hx.1 hx.2.1 hx.2.2 ⟨by omega, by omega, by omega⟩ (by omega) hm.2, impl_checkedMark_f (firedM (trAt n t) m) (by omega) h9]
theorem impl_FireAll_ok (n : Net) (m l : List Int) (hn : smN n) (hm : m.length < 2^62) (hl : l.length < 2^62) : Lw (C f_impl_FireAll [encN n, ints m, ints l] []) fun r => ∃ X, r = (.tup [X, I (if okSeq n m l then many n m l else 0), .bool (okSeq n m l)], []) ∧ ((X = ints (if okSeq n m l then fsq n m (l.take (many n m l)) else []) ∧ okSeq n m l = true ∧ 0 < many n m l) ∨ (X = .un t_int true 1 ((if okSeq n m l then fsq n m (l.take (many n m l)) else []).map I) ∧ (okSeq n m l = true → many n m l = 0))) := by
  have h0 := hn.1
  refine E_impl_FireAll ?_
  simp (maxSteps := 2000000) (disch := (first | omega | (simp only [lenS]; first | done | omega))) only [ir_impl_FireAll, go_sem, Nat.reduceAdd, Nat.reduceEqDiff, Nat.reduceLeDiff, Nat.reduceSub]
  simp (maxSteps := 2000000) (disch := (first | omega | (simp only [lenS]; first | done | omega))) only [go_sem, Nat.reduceAdd, Nat.reduceEqDiff, Nat.reduceLeDiff, Nat.reduceSub, impl_isMarked_ok n m hn hm, impl_areTrans_ok n l (by omega) hl]
  cases h1 : marked n m with
  | false => simp [okSeq, h1]
  | true =>
    cases h2 : areTr n l with
    | false => simp [okSeq, h1, h2]
    | true =>
      have hok : okSeq n m l = true := by simp [okSeq, h1, h2]
      have h3 := (goodM_len (marked_parts h1).2).2.2.2.1
      simp only [go_sem, hok]
      simp (maxSteps := 2000000) (disch := (first | omega | (simp only [lenS]; first | done | omega))) only [go_sem, Nat.reduceAdd, Nat.reduceEqDiff, Nat.reduceLeDiff, Nat.reduceSub, slices_Clone_sl_int_int_ok]
      refine W_for l.length (fun k s => (∀ j, (hj : j < k) → (hjl : j < l.length) → okFire n (fsq n m (l.take j)) l[j] = true) ∧ ((s = ⟨[.any, .ref 0 1 0 m.length, ints l, .ptr 1 0, .any, .any, .any, .any, .any, .any, .any, .any, ints l, I l.length, I k, .any, .any], [.row t_int true 1 (m.map I), .box t_impl_Net [I n.pl, trs n.tr]]⟩ ∧ k = 0) ∨ s = ⟨[.any, ints (fsq n m (l.take k)), ints l, .ptr 0 0, .any, .any, .any, .any, .any, .any, .any, .any, ints l, I l.length, I k, .any, .any], [.box t_impl_Net [I n.pl, trs n.tr]]⟩ ∧ 0 < k)) ?_ ?_ ?_
      · refine ⟨fun j hj => by omega, .inl ⟨?_, rfl⟩⟩
        simp (maxSteps := 2000000) (disch := (first | omega | (simp only [lenS]; first | done | omega))) only [go_sem, Nat.reduceAdd, Nat.reduceEqDiff, Nat.reduceLeDiff, Nat.reduceSub]
        rfl
      · rintro k s hk ⟨hall, ⟨rfl, rfl⟩ | ⟨rfl, hk0⟩⟩
        · cases hf : okFire n m l[0] with
          | true =>
            simp (maxSteps := 2000000) (disch := (first | omega | (simp only [lenS]; first | done | omega))) only [go_sem, Nat.reduceAdd, Nat.reduceEqDiff, Nat.reduceLeDiff, Nat.reduceSub, impl_Fire_t n m l[0] hn hm hf]
            have hq : ∀ j : Nat, j < 1 → ∀ (hjl : j < l.length), okFire n (fsq n m (List.take j l)) l[j] = true := by
              intro j hj hjl
              have : j = 0 := by omega
              subst this; simpa [fsq] using hf
            have hfe : fsq n m (List.take 1 l) = firedM (trAt n l[0]) m := by rw [fsq_take hk, List.take_zero, fsq_nil]
            rw [hfe]
            first | exact ⟨hq, rfl, by omega⟩ | exact ⟨fun _ => ⟨hq, rfl, by omega⟩, fun _ => ⟨hq, rfl, by omega⟩⟩
          | false =>
            have e : many n m l = 0 := many_eq (k := 0) (by omega) (fun j hj => by omega) (fun h => by simpa [fsq] using hf)
            simp (maxSteps := 2000000) (disch := (first | omega | (simp only [lenS]; first | done | omega))) only [go_sem, Nat.reduceAdd, Nat.reduceEqDiff, Nat.reduceLeDiff, Nat.reduceSub, impl_Fire_f n m l[0] hn hm hf]
            simp only [if_true, e, List.take_zero, fsq_nil]
            exact ⟨_, rfl, .inr ⟨rfl, trivial⟩⟩
        · have hlen := fsq_len n m (l.take k)
          cases hf : okFire n (fsq n m (l.take k)) l[k] with
          | true =>
            simp (maxSteps := 2000000) (disch := (first | omega | (simp only [lenS]; first | done | omega))) only [go_sem, Nat.reduceAdd, Nat.reduceEqDiff, Nat.reduceLeDiff, Nat.reduceSub, impl_Fire_t n (fsq n m (l.take k)) l[k] hn (by omega) hf]
            have hq : ∀ j : Nat, j < k + 1 → ∀ (hjl : j < l.length), okFire n (fsq n m (List.take j l)) l[j] = true := by
              intro j hj hjl
              by_cases hjk : j < k
              · exact hall j hjk hjl
              · have : j = k := by omega
                subst this; exact hf
            rw [fsq_take hk]
            first | exact ⟨hq, rfl⟩ | exact ⟨fun _ => ⟨hq, rfl⟩, fun _ => ⟨hq, rfl⟩⟩ | exact ⟨fun _ => ⟨hq, rfl, by omega⟩, fun _ => ⟨hq, rfl, by omega⟩⟩
          | false =>
            have e : many n m l = k := many_eq (by omega) (fun j hj => hall j hj (by omega)) (fun h => hf)
            simp (maxSteps := 2000000) (disch := (first | omega | (simp only [lenS]; first | done | omega))) only [go_sem, Nat.reduceAdd, Nat.reduceEqDiff, Nat.reduceLeDiff, Nat.reduceSub, impl_Fire_f n (fsq n m (l.take k)) l[k] hn (by omega) hf]
            simp only [if_true, e]
            exact ⟨_, rfl, .inl ⟨rfl, hk0⟩⟩
      · rintro s ⟨hall, ⟨rfl, hk⟩ | ⟨rfl, hk0⟩⟩
        · have : l = [] := List.eq_nil_of_length_eq_zero hk
          subst this
          simp (maxSteps := 2000000) (disch := (first | omega | (simp only [lenS]; first | done | omega))) only [go_sem, Nat.reduceAdd, Nat.reduceEqDiff, Nat.reduceLeDiff, Nat.reduceSub]
          simp only [if_true, many, List.take_nil, fsq_nil]
          exact ⟨_, rfl, .inr ⟨rfl, trivial⟩⟩
        · have e : many n m l = l.length := many_eq (Nat.le_refl _) (fun j hj => hall j hj hj) (fun h => by omega)
          simp (maxSteps := 2000000) (disch := (first | omega | (simp only [lenS]; first | done | omega))) only [go_sem, Nat.reduceAdd, Nat.reduceEqDiff, Nat.reduceLeDiff, Nat.reduceSub]
          simp only [if_true, e, List.take_length]
          exact ⟨_, rfl, .inl ⟨rfl, hk0⟩⟩
theorem impl_Space_wayTo_tw (ms : List (List Int)) (ar : List Arc3) (m : List Int) (hm : ms.length < 2^30) (hr : ar.length < 2^35) (hb : Bfs ar ms.length) (hxs : ∀ x ∈ ms, x.length < 2^62) (K : Nat) (hK : K < ms.length) (hf : findM ms m = K) :
    C f_impl_Space_wayTo [.agg [rows ms, .sl true 3 (ar.map encA)], ints m] [] = some (.tup [.un t_int true 1 ((tw ar K).map I), .bool true], []) := by
  have fd := impl_Space_find_ok ms (ar.map encA) m (by omega) hxs
  rw [hf] at fd
  refine C_impl_Space_wayTo ?_
  simp (maxSteps := 2000000) (disch := (first | omega | (simp only [lenS]; first | done | omega))) only [ir_impl_Space_wayTo, go_sem, Nat.reduceAdd, Nat.reduceEqDiff, Nat.reduceLeDiff, Nat.reduceSub]
  simp (maxSteps := 2000000) (disch := (first | omega | (simp only [lenS]; first | done | omega))) only [go_sem, Nat.reduceAdd, Nat.reduceEqDiff, Nat.reduceLeDiff, Nat.reduceSub, fd]
  refine W_down (fun k s => ∃ W : List Int, k < ms.length ∧ tw ar K = tw ar k ++ W.reverse ∧ s = ⟨[.any, .any, .ptr 0 0, .any, .any, .ptr 1 0, .ref 2 1 0 W.length, .any, .any, .any], [.box t_impl_Space [rows ms, .sl true 3 (ar.map encA)], .box t_int [I k], .row t_int true 1 (W.map I)]⟩) K ?_ ?_
  · refine ⟨[], hK, by simp, ?_⟩
    simp (maxSteps := 2000000) (disch := (first | omega | (simp only [lenS]; first | done | omega))) only [go_sem, Nat.reduceAdd, Nat.reduceEqDiff, Nat.reduceLeDiff, Nat.reduceSub]
    first | done | rfl
  · rintro k s ⟨W, hk, hW, rfl⟩
    have hlW := congrArg List.length hW
    rw [List.length_append, List.length_reverse] at hlW
    have hlK := tw_len hb K hK
    by_cases h0 : 0 < k
    · obtain ⟨i, hi, a1, a2, a3, a4, a5⟩ := hb.arc h0 hk
      have ix := slices_IndexFunc_sl_impl_Arc_impl_Arc_ok ar f_impl_Space_wayTo_1 [.pv (.agg [I k]) 0] rfl (fun _ _ => rfl) (fun a => decide (a.dst = k)) (fun x _ => impl_Space_wayTo_1_ok x k) (by omega)
      rw [show idxI ar (fun a => decide (a.dst = k)) = i from a1] at ix
      have hst := tw_step hb h0 hk hi a1
      rw [hst] at hW
      simp (maxSteps := 2000000) (disch := (first | omega | (simp only [lenS]; first | done | omega))) only [go_sem, Nat.reduceAdd, Nat.reduceEqDiff, Nat.reduceLeDiff, Nat.reduceSub, ix]
      have e2 : ((ar[i].src.toNat : Nat) : Int) = ar[i].src := by omega
      refine ⟨ar[i].src.toNat, by omega, W ++ [ar[i].by_], by omega, by rw [hW, List.reverse_append]; simp, ?_⟩
      rw [e2, List.map_append, List.length_append]; rfl
    · have : k = 0 := by omega
      subst this
      rw [tw_zero, List.nil_append] at hW
      have rv := slices_Reverse_sl_int_int_ok W (by omega)
      rw [← hW] at rv
      have hl2 : W.length = (tw ar K).length := by rw [hW, List.length_reverse]
      rw [hl2] at rv
      generalize tw ar K = T at *
      simp (maxSteps := 2000000) (disch := (first | omega | (simp only [lenS]; first | done | omega))) only [go_sem, Nat.reduceAdd, Nat.reduceEqDiff, Nat.reduceLeDiff, Nat.reduceSub, rv, hl2]
theorem impl_Space_wayTo_no (ms : List (List Int)) (ar : List Arc3) (m : List Int) (hm : ms.length < 2^30) (hxs : ∀ x ∈ ms, x.length < 2^62) (hf : findM ms m < 0) :
    C f_impl_Space_wayTo [.agg [rows ms, .sl true 3 (ar.map encA)], ints m] [] = some (.tup [.un t_int true 1 [], .bool false], []) := by
  have fd := impl_Space_find_ok ms (ar.map encA) m (by omega) hxs
  refine C_impl_Space_wayTo ?_
  simp (maxSteps := 2000000) (disch := (first | omega | (simp only [lenS]; first | done | omega))) only [ir_impl_Space_wayTo, go_sem, Nat.reduceAdd, Nat.reduceEqDiff, Nat.reduceLeDiff, Nat.reduceSub]
  simp (maxSteps := 2000000) (disch := (first | omega | (simp only [lenS]; first | done | omega))) only [go_sem, Nat.reduceAdd, Nat.reduceEqDiff, Nat.reduceLeDiff, Nat.reduceSub, fd, hf]
theorem impl_CanCome_ok (n : Net) (start : List Int) (b : Int) (m : List Int) (hn : smN n) (hs : start.length < 2^62) (hm : m.length < 2^60) : C f_impl_CanCome [encN n, ints start, I b, ints m] [] = some (.tup [.bool (canV n start b m && decide (m ∈ (exAll n start b).sp.ms)), .bool (canV n start b m)], []) := by
  have hx := impl_wholeSpace_ok n start b hn hs
  have hg := impl_GoodMark_ok n.pl m (by omega)
  unfold canV
  unfold wholePV at hx
  cases hw : whole n start b with
  | false =>
    simp only [hw, Bool.false_eq_true, if_false] at hx ⊢
    refine C_impl_CanCome ?_
    simp (maxSteps := 2000000) (disch := (first | omega | (simp only [lenS]; first | done | omega))) only [ir_impl_CanCome, go_sem, Nat.reduceAdd, Nat.reduceEqDiff, Nat.reduceLeDiff, Nat.reduceSub]
    simp (maxSteps := 2000000) (disch := (first | omega | (simp only [lenS]; first | done | omega))) only [go_sem, Nat.reduceAdd, Nat.reduceEqDiff, Nat.reduceLeDiff, Nat.reduceSub, hx]
    first | done | rfl
  | true =>
    obtain ⟨_, _, f1, f2, f3, _, _⟩ := whole_facts hw
    simp only [hw, if_true] at hx ⊢
    have fd := fun A => impl_Space_find_ok (exAll n start b).sp.ms A m (by omega) (whole_lens f1)
    have e : decide (m ∈ (exAll n start b).sp.ms) = decide (0 ≤ findM (exAll n start b).sp.ms m) := by rw [decide_eq_decide]; exact findM_mem.symm
    rw [e]
    generalize exAll n start b = R at *
    generalize goodM n.pl m = g at *
    by_cases ha : R.sp.ar = []
    · simp only [arcPV, ha, if_true] at hx
      refine C_impl_CanCome ?_
      simp (maxSteps := 2000000) (disch := (first | omega | (simp only [lenS]; first | done | omega))) only [ir_impl_CanCome, go_sem, Nat.reduceAdd, Nat.reduceEqDiff, Nat.reduceLeDiff, Nat.reduceSub]
      simp (maxSteps := 2000000) (disch := (first | omega | (simp only [lenS]; first | done | omega))) only [go_sem, Nat.reduceAdd, Nat.reduceEqDiff, Nat.reduceLeDiff, Nat.reduceSub, hx, hg, fd]
      grind
    · simp only [arcPV, ha, if_false] at hx
      refine C_impl_CanCome ?_
      simp (maxSteps := 2000000) (disch := (first | omega | (simp only [lenS]; first | done | omega))) only [ir_impl_CanCome, go_sem, Nat.reduceAdd, Nat.reduceEqDiff, Nat.reduceLeDiff, Nat.reduceSub]
      simp (maxSteps := 2000000) (disch := (first | omega | (simp only [lenS]; first | done | omega))) only [go_sem, Nat.reduceAdd, Nat.reduceEqDiff, Nat.reduceLeDiff, Nat.reduceSub, hx, hg, fd]
      grind
theorem impl_WayTo_ok (n : Net) (start : List Int) (b : Int) (m : List Int) (hn : smN n) (hs : start.length < 2^62) (hm : m.length < 2^60) : C f_impl_WayTo [encN n, ints start, I b, ints m] [] = some (.tup [.un t_int true 1 ((wayV n start b m).map I), .bool (wayOk n start b m)], []) := by
  have hx := impl_wholeSpace_ok n start b hn hs
  have hg := impl_GoodMark_ok n.pl m (by omega)
  unfold wayV wayOk wayK
  unfold wholePV at hx
  cases hw : whole n start b with
  | false =>
    simp only [hw, Bool.false_and, Bool.false_eq_true, if_false] at hx ⊢
    refine C_impl_WayTo ?_
    simp (maxSteps := 2000000) (disch := (first | omega | (simp only [lenS]; first | done | omega))) only [ir_impl_WayTo, go_sem, Nat.reduceAdd, Nat.reduceEqDiff, Nat.reduceLeDiff, Nat.reduceSub]
    simp (maxSteps := 2000000) (disch := (first | omega | (simp only [lenS]; first | done | omega))) only [go_sem, Nat.reduceAdd, Nat.reduceEqDiff, Nat.reduceLeDiff, Nat.reduceSub, hx]
    first | done | rfl
  | true =>
    obtain ⟨_, _, f1, f2, f3, f4, f5⟩ := whole_facts hw
    simp only [hw, if_true] at hx ⊢
    have hfg := fun h => findM_get (l := (exAll n start b).sp.ms) (m := m) h
    have hfm := findM_mem (l := (exAll n start b).sp.ms) (m := m)
    have hls := whole_lens f1
    have hgd := fun h : m ∈ (exAll n start b).sp.ms => (marked_parts (f1.good m h)).2
    generalize exAll n start b = R at *
    by_cases hmm : 0 ≤ findM R.sp.ms m
    · rw [decide_eq_true (hfm.1 hmm)]
      rw [hgd (hfm.1 hmm)] at hg
      obtain ⟨K, hK⟩ : ∃ K : Nat, findM R.sp.ms m = K := ⟨(findM R.sp.ms m).toNat, (Int.toNat_of_nonneg hmm).symm⟩
      have hKl := (hfg hmm).1
      rw [hK, Int.toNat_natCast] at hKl
      have hw2 := impl_Space_wayTo_tw R.sp.ms R.sp.ar m (by omega) (by omega) f4 hls K hKl hK
      rw [hK, Int.toNat_natCast]
      have hl := tw_len f4 K hKl
      generalize tw R.sp.ar K = T at *
      by_cases ha : R.sp.ar = []
      · simp only [arcPV, ha, if_true] at hx
        simp only [ha, List.map_nil] at hw2
        refine C_impl_WayTo ?_
        simp (maxSteps := 2000000) (disch := (first | omega | (simp only [lenS]; first | done | omega))) only [ir_impl_WayTo, go_sem, Nat.reduceAdd, Nat.reduceEqDiff, Nat.reduceLeDiff, Nat.reduceSub]
        simp (maxSteps := 2000000) (disch := (first | omega | (simp only [lenS]; first | done | omega))) only [go_sem, Nat.reduceAdd, Nat.reduceEqDiff, Nat.reduceLeDiff, Nat.reduceSub, hx, hg, hw2]
        exact ⟨fun h => by rw [if_neg (by grind), decide_eq_false (by omega)]; rfl, fun h => by rw [if_pos (by grind), decide_eq_true (by omega)]⟩
      · simp only [arcPV, ha, if_false] at hx
        refine C_impl_WayTo ?_
        simp (maxSteps := 2000000) (disch := (first | omega | (simp only [lenS]; first | done | omega))) only [ir_impl_WayTo, go_sem, Nat.reduceAdd, Nat.reduceEqDiff, Nat.reduceLeDiff, Nat.reduceSub]
        simp (maxSteps := 2000000) (disch := (first | omega | (simp only [lenS]; first | done | omega))) only [go_sem, Nat.reduceAdd, Nat.reduceEqDiff, Nat.reduceLeDiff, Nat.reduceSub, hx, hg, hw2]
        exact ⟨fun h => by rw [if_neg (by grind), decide_eq_false (by omega)]; rfl, fun h => by rw [if_pos (by grind), decide_eq_true (by omega)]⟩
    · rw [decide_eq_false (fun h => hmm (hfm.2 h))]
      have hneg : findM R.sp.ms m < 0 := by omega
      have hw2 := impl_Space_wayTo_no R.sp.ms R.sp.ar m (by omega) hls hneg
      generalize findM R.sp.ms m = z at *
      by_cases ha : R.sp.ar = []
      · simp only [arcPV, ha, if_true] at hx
        simp only [ha, List.map_nil] at hw2
        refine C_impl_WayTo ?_
        simp (maxSteps := 2000000) (disch := (first | omega | (simp only [lenS]; first | done | omega))) only [ir_impl_WayTo, go_sem, Nat.reduceAdd, Nat.reduceEqDiff, Nat.reduceLeDiff, Nat.reduceSub]
        simp (maxSteps := 2000000) (disch := (first | omega | (simp only [lenS]; first | done | omega))) only [go_sem, Nat.reduceAdd, Nat.reduceEqDiff, Nat.reduceLeDiff, Nat.reduceSub, hx, hg, hw2]
        first | done | rfl
      · simp only [arcPV, ha, if_false] at hx
        refine C_impl_WayTo ?_
        simp (maxSteps := 2000000) (disch := (first | omega | (simp only [lenS]; first | done | omega))) only [ir_impl_WayTo, go_sem, Nat.reduceAdd, Nat.reduceEqDiff, Nat.reduceLeDiff, Nat.reduceSub]
        simp (maxSteps := 2000000) (disch := (first | omega | (simp only [lenS]; first | done | omega))) only [go_sem, Nat.reduceAdd, Nat.reduceEqDiff, Nat.reduceLeDiff, Nat.reduceSub, hx, hg, hw2]
        first | done | rfl
theorem tw_path {n : Net} {start : List Int} {b : Int} {R : Ex} (hok : ExOk n start b R) (hb : Bfs R.sp.ar R.sp.ms.length) (K : Nat) : ∀ (k : Nat) (W : List Int), k < R.sp.ms.length → pathOk n (R.sp.ms.getD k []) W (R.sp.ms.getD K []) → (∀ t ∈ W, inB 0 (n.tr.length - 1) t = true) → pathOk n start (tw R.sp.ar k ++ W) (R.sp.ms.getD K []) ∧ ∀ t ∈ tw R.sp.ar k ++ W, inB 0 (n.tr.length - 1) t = true := by
  intro k
  induction k using Nat.strongRecOn with
  | _ k ih =>
    intro W hk hp hW
    by_cases h0 : 0 < k
    · obtain ⟨i, hi, a1, a2, a3, a4, a5⟩ := arcTo_back hok h0 hk
      rw [tw_step hb h0 hk hi a1, List.append_assoc]
      refine ih _ (by omega) _ (by omega) (pathOk_cons a4 (by rw [← a5]; exact hp)) fun t ht => ?_
      rcases List.mem_cons.1 ht with rfl | ht
      · exact okFire_tr a4
      · exact hW t ht
    · have : k = 0 := by omega
      subst this
      have hs : R.sp.ms.getD 0 [] = start := by rw [List.getD_eq_getElem?_getD, hok.first]; rfl
      rw [tw_zero, List.nil_append]
      rw [hs] at hp
      exact ⟨hp, hW⟩
theorem way_fire {n : Net} {start : List Int} {b : Int} {m : List Int} (h : wayOk n start b m = true) : pathOk n start (wayV n start b m) m ∧ okSeq n start (wayV n start b m) = true ∧ (wayV n start b m).length ≤ 60 := by
  have h1 := h
  unfold wayOk at h1
  rw [Bool.and_eq_true, Bool.and_eq_true, decide_eq_true_eq, decide_eq_true_eq] at h1
  obtain ⟨hw, hm, hl⟩ := h1
  obtain ⟨ho, _, f1, f2, f3, f4, f5⟩ := whole_facts hw
  unfold wayV
  rw [if_pos h]
  have hf := findM_mem.2 hm
  obtain ⟨g1, g2⟩ := findM_get hf
  have hmk := (okEx_parts ho).1
  unfold wayK at hl ⊢
  generalize exAll n start b = R at *
  generalize (findM R.sp.ms m).toNat = K at *
  have hK : R.sp.ms.getD K [] = m := by rw [List.getD_eq_getElem?_getD, g2]; rfl
  obtain ⟨q1, q2⟩ := tw_path f1 f4 K K [] g1 (pathOk_nil ..) (by simp)
  rw [List.append_nil, hK] at q1
  rw [List.append_nil] at q2
  refine ⟨q1, ?_, hl⟩
  simp only [okSeq, hmk, areTr, Bool.true_and, Bool.and_eq_true, decide_eq_true_eq, List.all_eq_true]
  exact ⟨by omega, q2⟩
theorem laws_FnHome_ok (a b : List Int) (ha2 : ∀ x ∈ a, 0 ≤ x ∧ x < 256) (hb2 : ∀ x ∈ b, 0 ≤ x ∧ x < 256) : C f_laws_FnHome [bys a, bys b] [] = some (.bool true, []) := by
  refine C_laws_FnHome ?_
  simp (maxSteps := 2000000) (disch := (first | omega | (simp only [lenS]; first | done | omega))) only [ir_laws_FnHome, go_sem, Nat.reduceAdd, Nat.reduceEqDiff, Nat.reduceLeDiff, Nat.reduceSub]
  simp (maxSteps := 2000000) (disch := (first | omega | (simp only [lenS]; first | done | omega))) only [go_sem, Nat.reduceAdd, Nat.reduceEqDiff, Nat.reduceLeDiff, Nat.reduceSub, laws_big_ok]
  intro hbig
  simp only [Bool.or_eq_false_iff, decide_eq_false_iff_not] at hbig
  obtain ⟨_, e1, n, m, bg, k, rfl, h1, h2, h3⟩ := spec_DrawIsHome_ok a (by omega) ha2
  obtain ⟨_, e2, n', m', bg', k', rfl, g1, g2, g3⟩ := spec_DrawWayTo_ok b (by omega) hb2
  have i1 := impl_IsHome_ok n m bg k h1.smN (by omega) (by omega)
  have i2 := spec_IsHome_ok n m bg k h1.smN (by omega) (by omega)
  have i3 := impl_CanCome_ok n m bg k h1.smN (by omega) (by omega)
  have i4 := spec_CanCome_ok n m bg k h1.smN (by omega) (by omega)
  have i5 := impl_WayTo_ok n' m' bg' k' g1.smN (by omega) (by omega)
  have i6 := spec_WayTo_ok n' m' bg' k' g1.smN (by omega) (by omega)
  have hhc : homeV n m bg k = true → (canV n m bg k && decide (k ∈ (exAll n m bg).sp.ms)) = true := by
    unfold homeV
    simp only [Bool.and_eq_true]
    exact fun h => ⟨h.1, h.2.1⟩
  have hcc : (canV n m bg k && decide (k ∈ (exAll n m bg).sp.ms)) = true → canV n m bg k = true := by
    simp only [Bool.and_eq_true]
    exact fun h => h.1
  generalize (canV n m bg k && decide (k ∈ (exAll n m bg).sp.ms)) = cc at *
  generalize canV n m bg k = cv at *
  generalize homeV n m bg k = hv at *
  have h4 : (cv = false ∧ cc = false ∧ hv = false) ∨ (cv = true ∧ cc = false ∧ hv = false) ∨ (cv = true ∧ cc = true ∧ hv = false) ∨ (cv = true ∧ cc = true ∧ hv = true) := by
    revert hhc hcc; cases cv <;> cases cc <;> cases hv <;> decide
  clear hhc hcc
  cases hwo : wayOk n' m' bg' k' with
  | false =>
    have hwv : wayV n' m' bg' k' = [] := by unfold wayV; rw [hwo]; rfl
    rw [hwo, hwv] at i5 i6
    have sm := laws_sameInts_ok [] [] (by simp)
    simp only [ints, List.map_nil, decide_true] at sm
    rcases h4 with ⟨rfl, rfl, rfl⟩ | ⟨rfl, rfl, rfl⟩ | ⟨rfl, rfl, rfl⟩ | ⟨rfl, rfl, rfl⟩
    · simp (maxSteps := 2000000) (disch := (first | omega | (simp only [lenS]; first | done | omega))) only [go_sem, Nat.reduceAdd, Nat.reduceEqDiff, Nat.reduceLeDiff, Nat.reduceSub, e1, e2, i1, i2, i3, i4, i5, i6, sm]
    · simp (maxSteps := 2000000) (disch := (first | omega | (simp only [lenS]; first | done | omega))) only [go_sem, Nat.reduceAdd, Nat.reduceEqDiff, Nat.reduceLeDiff, Nat.reduceSub, e1, e2, i1, i2, i3, i4, i5, i6, sm]
    · simp (maxSteps := 2000000) (disch := (first | omega | (simp only [lenS]; first | done | omega))) only [go_sem, Nat.reduceAdd, Nat.reduceEqDiff, Nat.reduceLeDiff, Nat.reduceSub, e1, e2, i1, i2, i3, i4, i5, i6, sm]
    · simp (maxSteps := 2000000) (disch := (first | omega | (simp only [lenS]; first | done | omega))) only [go_sem, Nat.reduceAdd, Nat.reduceEqDiff, Nat.reduceLeDiff, Nat.reduceSub, e1, e2, i1, i2, i3, i4, i5, i6, sm]
  | true =>
    obtain ⟨p1, p2, p3⟩ := way_fire hwo
    rw [hwo] at i5 i6
    generalize wayV n' m' bg' k' = W at *
    have sm := laws_sameInts_ok W W (by omega)
    have sm2 := laws_sameInts_ok k' k' (by omega)
    simp only [decide_true] at sm sm2
    obtain ⟨_, q1, X, rfl, hX⟩ := impl_FireAll_ok n' m' W g1.smN (by omega) (by omega)
    simp only [p2, if_true, p1.1, List.take_length, p1.2] at q1 hX
    have hX2 : X = ints k' ∨ X = .un t_int true 1 (k'.map I) := by
      rcases hX with ⟨h, _⟩ | ⟨h, _⟩
      · exact .inl h
      · exact .inr h
    rcases hX2 with rfl | rfl
    · rcases h4 with ⟨rfl, rfl, rfl⟩ | ⟨rfl, rfl, rfl⟩ | ⟨rfl, rfl, rfl⟩ | ⟨rfl, rfl, rfl⟩
      · simp (maxSteps := 2000000) (disch := (first | omega | (simp only [lenS]; first | done | omega))) only [go_sem, Nat.reduceAdd, Nat.reduceEqDiff, Nat.reduceLeDiff, Nat.reduceSub, e1, e2, i1, i2, i3, i4, i5, i6, sm, q1, sm2]
      · simp (maxSteps := 2000000) (disch := (first | omega | (simp only [lenS]; first | done | omega))) only [go_sem, Nat.reduceAdd, Nat.reduceEqDiff, Nat.reduceLeDiff, Nat.reduceSub, e1, e2, i1, i2, i3, i4, i5, i6, sm, q1, sm2]
      · simp (maxSteps := 2000000) (disch := (first | omega | (simp only [lenS]; first | done | omega))) only [go_sem, Nat.reduceAdd, Nat.reduceEqDiff, Nat.reduceLeDiff, Nat.reduceSub, e1, e2, i1, i2, i3, i4, i5, i6, sm, q1, sm2]
      · simp (maxSteps := 2000000) (disch := (first | omega | (simp only [lenS]; first | done | omega))) only [go_sem, Nat.reduceAdd, Nat.reduceEqDiff, Nat.reduceLeDiff, Nat.reduceSub, e1, e2, i1, i2, i3, i4, i5, i6, sm, q1, sm2]
    · rcases h4 with ⟨rfl, rfl, rfl⟩ | ⟨rfl, rfl, rfl⟩ | ⟨rfl, rfl, rfl⟩ | ⟨rfl, rfl, rfl⟩
      · simp (maxSteps := 2000000) (disch := (first | omega | (simp only [lenS]; first | done | omega))) only [go_sem, Nat.reduceAdd, Nat.reduceEqDiff, Nat.reduceLeDiff, Nat.reduceSub, e1, e2, i1, i2, i3, i4, i5, i6, sm, q1, sm2]
      · simp (maxSteps := 2000000) (disch := (first | omega | (simp only [lenS]; first | done | omega))) only [go_sem, Nat.reduceAdd, Nat.reduceEqDiff, Nat.reduceLeDiff, Nat.reduceSub, e1, e2, i1, i2, i3, i4, i5, i6, sm, q1, sm2]
      · simp (maxSteps := 2000000) (disch := (first | omega | (simp only [lenS]; first | done | omega))) only [go_sem, Nat.reduceAdd, Nat.reduceEqDiff, Nat.reduceLeDiff, Nat.reduceSub, e1, e2, i1, i2, i3, i4, i5, i6, sm, q1, sm2]
      · simp (maxSteps := 2000000) (disch := (first | omega | (simp only [lenS]; first | done | omega))) only [go_sem, Nat.reduceAdd, Nat.reduceEqDiff, Nat.reduceLeDiff, Nat.reduceSub, e1, e2, i1, i2, i3, i4, i5, i6, sm, q1, sm2]
end Go.Proofs.Ytkkifebmicbbaaa.Pi
