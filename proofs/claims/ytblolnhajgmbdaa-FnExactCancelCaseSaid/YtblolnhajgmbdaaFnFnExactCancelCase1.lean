/- The functions that the law reaches: what they answer. Conditions: those that each theorem names. -/
import Derived.Test.YtblolnhajgmbdaaIrFnExactCancelCase
import Derived.Test.YtblolnhajgmbdaaPlBase
import Derived.Test.YtblolnhajgmbdaaPlNet
import Derived.Test.YtblolnhajgmbdaaPlFire
import Derived.Test.YtblolnhajgmbdaaPlTurn
import Derived.Test.YtblolnhajgmbdaaPlBack
import Derived.Test.YtblolnhajgmbdaaPlFlow
import Derived.Test.YtblolnhajgmbdaaPlMask
import Derived.Test.YtblolnhajgmbdaaPlSpec
import Derived.Test.YtblolnhajgmbdaaPlSiph
import Derived.Test.YtblolnhajgmbdaaPlKept
import Derived.Test.YtblolnhajgmbdaaPlCase
import Derived.Test.YtblolnhajgmbdaaPlBusy
import Derived.Test.YtblolnhajgmbdaaFnFnExactCancelCase0
namespace Go.Proofs.Ytblolnhajgmbdaa.Pi
open Go
set_option linter.all false
set_option maxHeartbeats 40000000
set_option maxRecDepth 20000
theorem impl_GoodMark_ok (p : Int) (m : List Int) (hl : m.length < 2^62) : C f_impl_GoodMark [I p, ints m] [] = some (.bool (goodM p m), []) := by
  refine C_impl_GoodMark ?_
  simp (maxSteps := 2000000) (disch := (first | omega | (simp only [List.length_append, List.length_take, List.length_replicate, List.length_map, List.length_set, List.length_cons, List.length_nil, List.length_zipWith, List.length_drop, List.length_range]; first | done | omega))) only [ir_impl_GoodMark, go_sem, Nat.reduceAdd, Nat.reduceEqDiff, Nat.reduceLeDiff, Nat.reduceSub]
  simp (maxSteps := 2000000) (disch := (first | omega | (simp only [List.length_append, List.length_take, List.length_replicate, List.length_map, List.length_set, List.length_cons, List.length_nil, List.length_zipWith, List.length_drop, List.length_range]; first | done | omega))) only [go_sem, Nat.reduceAdd, Nat.reduceEqDiff, Nat.reduceLeDiff, Nat.reduceSub, impl_within_ok, impl_allWithin_ok m _ _ hl]
  unfold goodM; grind
theorem impl_isCase_ok (s : Spc) (c : Cs) (h : okTasks s = true) (hl : c.mark.length < 2^62) : C f_impl_isCase [encS s, encC c] [] = some (.bool (goodC s c), []) := by
  obtain ⟨hc, hn, -⟩ := okTasks_parts h
  have hM := impl_GoodMark_ok (s.conds + s.tasks.length) c.mark hl
  refine C_impl_isCase ?_
  simp (maxSteps := 2000000) (disch := (first | omega | (simp only [List.length_append, List.length_take, List.length_replicate, List.length_map, List.length_set, List.length_cons, List.length_nil, List.length_zipWith, List.length_drop, List.length_range]; first | done | omega))) only [ir_impl_isCase, go_sem, Nat.reduceAdd, Nat.reduceEqDiff, Nat.reduceLeDiff, Nat.reduceSub]
  cases hg : goodM (s.conds + s.tasks.length) c.mark with
  | false =>
    simp (maxSteps := 2000000) (disch := (first | omega | (simp only [List.length_append, List.length_take, List.length_replicate, List.length_map, List.length_set, List.length_cons, List.length_nil, List.length_zipWith, List.length_drop, List.length_range]; first | done | omega))) only [go_sem, Nat.reduceAdd, Nat.reduceEqDiff, Nat.reduceLeDiff, Nat.reduceSub, hM, hg]
    simp [goodC, hg]
  | true =>
    have h2 := goodC_len hg hc.1
    have e : c.mark[1]'h2.2 = at_ c.mark 1 := at_eq (p := 1) h2.2
    simp (maxSteps := 2000000) (disch := (first | omega | (simp only [List.length_append, List.length_take, List.length_replicate, List.length_map, List.length_set, List.length_cons, List.length_nil, List.length_zipWith, List.length_drop, List.length_range]; first | done | omega))) only [go_sem, Nat.reduceAdd, Nat.reduceEqDiff, Nat.reduceLeDiff, Nat.reduceSub, hM, hg]
    simp only [goodC, hg, Bool.true_and]
    grind
theorem impl_CancelCase_ok (s : Spc) (c : Cs) (hs : smSpc s) (hl : c.mark.length < 2^36) : C f_impl_CancelCase [encS s, encC c] [] = some (.tup [if cutB s c = true then .agg [I 3, .un t_int true 1 (List.replicate (s.conds + s.tasks.length).toNat (I 0))] else .agg [I 0, .nil true 1], .bool (cutB s c)], []) := by
  have hG := impl_isSpec_ok s hs
  refine C_impl_CancelCase ?_
  simp (maxSteps := 2000000) (disch := (first | omega | (simp only [List.length_append, List.length_take, List.length_replicate, List.length_map, List.length_set, List.length_cons, List.length_nil, List.length_zipWith, List.length_drop, List.length_range]; first | done | omega))) only [ir_impl_CancelCase, go_sem, Nat.reduceAdd, Nat.reduceEqDiff, Nat.reduceLeDiff, Nat.reduceSub]
  unfold cutB
  cases hg : goodS s with
  | false => simp (maxSteps := 2000000) (disch := (first | omega | (simp only [List.length_append, List.length_take, List.length_replicate, List.length_map, List.length_set, List.length_cons, List.length_nil, List.length_zipWith, List.length_drop, List.length_range]; first | done | omega))) only [go_sem, Nat.reduceAdd, Nat.reduceEqDiff, Nat.reduceLeDiff, Nat.reduceSub, hG, hg]
  | true =>
    have hok := goodS_ok hg
    have hC := impl_isCase_ok s c hok (by omega)
    cases hgc : goodC s c with
    | false => simp (maxSteps := 2000000) (disch := (first | omega | (simp only [List.length_append, List.length_take, List.length_replicate, List.length_map, List.length_set, List.length_cons, List.length_nil, List.length_zipWith, List.length_drop, List.length_range]; first | done | omega))) only [go_sem, Nat.reduceAdd, Nat.reduceEqDiff, Nat.reduceLeDiff, Nat.reduceSub, hG, hg, hC, hgc]
    | true =>
      have hgm : goodM (s.conds + s.tasks.length) c.mark = true := by unfold goodC at hgc; simp only [Bool.and_eq_true] at hgc; exact hgc.1
      have h2 := goodC_len hgm (okTasks_parts hok).1.1
      have h3 : (s.conds + s.tasks.length).toNat = c.mark.length := by omega
      rw [h3]
      cases h1 : c.state == 1 with
      | false =>
        have h1' : ¬ c.state = 1 := by simpa using h1
        simp (maxSteps := 2000000) (disch := (first | omega | (simp only [List.length_append, List.length_take, List.length_replicate, List.length_map, List.length_set, List.length_cons, List.length_nil, List.length_zipWith, List.length_drop, List.length_range]; first | done | omega))) only [go_sem, Nat.reduceAdd, Nat.reduceEqDiff, Nat.reduceLeDiff, Nat.reduceSub, hG, hg, h1', hC, hgc]
      | true =>
        have h1' : c.state = 1 := by simpa using h1
        rw [show encC c = .agg [I 1, ints c.mark] by simp [h1']] at hC
        simp (maxSteps := 2000000) (disch := (first | omega | (simp only [List.length_append, List.length_take, List.length_replicate, List.length_map, List.length_set, List.length_cons, List.length_nil, List.length_zipWith, List.length_drop, List.length_range]; first | done | omega))) only [go_sem, Nat.reduceAdd, Nat.reduceEqDiff, Nat.reduceLeDiff, Nat.reduceSub, hG, hg, h1', hC, hgc]
theorem laws_eqIntS_ok (a b : List Int) (ha : a.length < 2^62) (hb : b.length < 2^62) : C f_laws_eqIntS [ints a, ints b] [] = some (.bool (decide (a = b)), []) := by
  refine C_laws_eqIntS ?_
  simp (maxSteps := 2000000) (disch := (first | omega | (simp only [List.length_append, List.length_take, List.length_replicate, List.length_map, List.length_set, List.length_cons, List.length_nil, List.length_zipWith, List.length_drop, List.length_range]; first | done | omega))) only [ir_laws_eqIntS, go_sem, Nat.reduceAdd, Nat.reduceEqDiff, Nat.reduceLeDiff, Nat.reduceSub]
  refine ⟨fun h => ?_, fun h => ?_⟩
  · rw [decide_eq_false]
    rintro rfl
    omega
  have hl : a.length = b.length := by omega
  refine W_for a.length (fun k s => s = ⟨[ints a, ints b, .any, I k, .any, .any, .any], []⟩ ∧ a.take k = b.take k) ?_ ?_ ?_
  · simp (maxSteps := 2000000) (disch := (first | omega | (simp only [List.length_append, List.length_take, List.length_replicate, List.length_map, List.length_set, List.length_cons, List.length_nil, List.length_zipWith, List.length_drop, List.length_range]; first | done | omega))) only [go_sem, Nat.reduceAdd, Nat.reduceEqDiff, Nat.reduceLeDiff, Nat.reduceSub]
    rfl
  · rintro k s hk ⟨rfl, he⟩
    simp (maxSteps := 2000000) (disch := (first | omega | (simp only [List.length_append, List.length_take, List.length_replicate, List.length_map, List.length_set, List.length_cons, List.length_nil, List.length_zipWith, List.length_drop, List.length_range]; first | done | omega))) only [go_sem, Nat.reduceAdd, Nat.reduceEqDiff, Nat.reduceLeDiff, Nat.reduceSub]
    refine ⟨fun h => ?_, fun h => ⟨rfl, dec_take hk (by omega) he h⟩⟩
    rw [dec_ne hk (by omega) h]
  · rintro s ⟨rfl, he⟩
    simp (maxSteps := 2000000) (disch := (first | omega | (simp only [List.length_append, List.length_take, List.length_replicate, List.length_map, List.length_set, List.length_cons, List.length_nil, List.length_zipWith, List.length_drop, List.length_range]; first | done | omega))) only [go_sem, Nat.reduceAdd, Nat.reduceEqDiff, Nat.reduceLeDiff, Nat.reduceSub]
    rw [List.take_length, take_all (by omega)] at he
    simp [he]
theorem laws_eqCase_ok (a b : Cs) (ha : a.mark.length < 2^62) (hb : b.mark.length < 2^62) : C f_laws_eqCase [encC a, encC b] [] = some (.bool (decide (a = b)), []) := by
  have e : (a = b) ↔ a.state = b.state ∧ a.mark = b.mark := by cases a; cases b; simp
  have hE := laws_eqIntS_ok a.mark b.mark ha hb
  simp only [e]
  refine C_laws_eqCase ?_
  simp (maxSteps := 2000000) (disch := (first | omega | (simp only [List.length_append, List.length_take, List.length_replicate, List.length_map, List.length_set, List.length_cons, List.length_nil, List.length_zipWith, List.length_drop, List.length_range]; first | done | omega))) only [ir_laws_eqCase, go_sem, Nat.reduceAdd, Nat.reduceEqDiff, Nat.reduceLeDiff, Nat.reduceSub]
  refine ⟨fun h => by simp [h], fun h1 => ?_⟩
  simp (maxSteps := 2000000) (disch := (first | omega | (simp only [List.length_append, List.length_take, List.length_replicate, List.length_map, List.length_set, List.length_cons, List.length_nil, List.length_zipWith, List.length_drop, List.length_range]; first | done | omega))) only [go_sem, Nat.reduceAdd, Nat.reduceEqDiff, Nat.reduceLeDiff, Nat.reduceSub, hE]
  grind
theorem laws_eqTask_ok (a b : Tk) (ha : smTk a) (hb : smTk b) : C f_laws_eqTask [encK a, encK b] [] = some (.bool (decide (a = b)), []) := by
  obtain ⟨a1, a2, a3, a4⟩ := ha
  obtain ⟨b1, b2, b3, b4⟩ := hb
  have e : (a = b) ↔ a.join = b.join ∧ a.split = b.split ∧ a.inn = b.inn ∧ a.out = b.out ∧ a.cut = b.cut ∧ a.stop = b.stop ∧ a.role = b.role := by
    cases a; cases b; simp
  simp only [e]
  refine C_laws_eqTask ?_
  simp (maxSteps := 2000000) (disch := (first | omega | (simp only [List.length_append, List.length_take, List.length_replicate, List.length_map, List.length_set, List.length_cons, List.length_nil, List.length_zipWith, List.length_drop, List.length_range]; first | done | omega))) only [ir_laws_eqTask, go_sem, Nat.reduceAdd, Nat.reduceEqDiff, Nat.reduceLeDiff, Nat.reduceSub]
  refine ⟨fun h => by simp [h], fun h1 => ⟨fun h => by simp [h], fun h2 => ?_⟩⟩
  simp (maxSteps := 2000000) (disch := (first | omega | (simp only [List.length_append, List.length_take, List.length_replicate, List.length_map, List.length_set, List.length_cons, List.length_nil, List.length_zipWith, List.length_drop, List.length_range]; first | done | omega))) only [go_sem, Nat.reduceAdd, Nat.reduceEqDiff, Nat.reduceLeDiff, Nat.reduceSub, laws_eqIntS_ok]
  grind
theorem laws_eqTaskS_ok (a b : List Tk) (ha : a.length < 2^62) (hb : b.length < 2^62) (ha2 : ∀ t ∈ a, smTk t) (hb2 : ∀ t ∈ b, smTk t) : C f_laws_eqTaskS [tks a, tks b] [] = some (.bool (decide (a = b)), []) := by
  refine C_laws_eqTaskS ?_
  simp (maxSteps := 2000000) (disch := (first | omega | (simp only [List.length_append, List.length_take, List.length_replicate, List.length_map, List.length_set, List.length_cons, List.length_nil, List.length_zipWith, List.length_drop, List.length_range]; first | done | omega))) only [ir_laws_eqTaskS, go_sem, Nat.reduceAdd, Nat.reduceEqDiff, Nat.reduceLeDiff, Nat.reduceSub]
  refine ⟨fun h => ?_, fun h => ?_⟩
  · rw [decide_eq_false]
    rintro rfl
    omega
  have hl : a.length = b.length := by omega
  refine W_for a.length (fun k s => s = ⟨[tks a, tks b, .any, I k, .any, .any, .any], []⟩ ∧ a.take k = b.take k) ?_ ?_ ?_
  · simp (maxSteps := 2000000) (disch := (first | omega | (simp only [List.length_append, List.length_take, List.length_replicate, List.length_map, List.length_set, List.length_cons, List.length_nil, List.length_zipWith, List.length_drop, List.length_range]; first | done | omega))) only [go_sem, Nat.reduceAdd, Nat.reduceEqDiff, Nat.reduceLeDiff, Nat.reduceSub]
    rfl
  · rintro k s hk ⟨rfl, he⟩
    have hk2 : k < b.length := by omega
    simp (maxSteps := 2000000) (disch := (first | omega | (simp only [List.length_append, List.length_take, List.length_replicate, List.length_map, List.length_set, List.length_cons, List.length_nil, List.length_zipWith, List.length_drop, List.length_range]; first | done | omega))) only [go_sem, Nat.reduceAdd, Nat.reduceEqDiff, Nat.reduceLeDiff, Nat.reduceSub, laws_eqTask_ok _ _ (ha2 _ (List.getElem_mem hk)) (hb2 _ (List.getElem_mem hk2))]
    refine ⟨fun h => ⟨rfl, dec_take hk (by omega) he h⟩, fun h => ?_⟩
    rw [dec_ne hk (by omega) h]
  · rintro s ⟨rfl, he⟩
    simp (maxSteps := 2000000) (disch := (first | omega | (simp only [List.length_append, List.length_take, List.length_replicate, List.length_map, List.length_set, List.length_cons, List.length_nil, List.length_zipWith, List.length_drop, List.length_range]; first | done | omega))) only [go_sem, Nat.reduceAdd, Nat.reduceEqDiff, Nat.reduceLeDiff, Nat.reduceSub]
    rw [List.take_length, take_all (by omega)] at he
    simp [he]
theorem laws_eqSpec_ok (a b : Spc) (ha : smSpc a) (hb : smSpc b) : C f_laws_eqSpec [encS a, encS b] [] = some (.bool (decide (a = b)), []) := by
  obtain ⟨a1, a2⟩ := ha
  obtain ⟨b1, b2⟩ := hb
  have e : (a = b) ↔ a.conds = b.conds ∧ a.tasks = b.tasks := by
    cases a; cases b; simp
  simp only [e]
  refine C_laws_eqSpec ?_
  simp (maxSteps := 2000000) (disch := (first | omega | (simp only [List.length_append, List.length_take, List.length_replicate, List.length_map, List.length_set, List.length_cons, List.length_nil, List.length_zipWith, List.length_drop, List.length_range]; first | done | omega))) only [ir_laws_eqSpec, go_sem, Nat.reduceAdd, Nat.reduceEqDiff, Nat.reduceLeDiff, Nat.reduceSub]
  refine ⟨fun h => by simp [h], fun h1 => ?_⟩
  simp (maxSteps := 2000000) (disch := (first | omega | (simp only [List.length_append, List.length_take, List.length_replicate, List.length_map, List.length_set, List.length_cons, List.length_nil, List.length_zipWith, List.length_drop, List.length_range]; first | done | omega))) only [go_sem, Nat.reduceAdd, Nat.reduceEqDiff, Nat.reduceLeDiff, Nat.reduceSub, laws_eqTaskS_ok a.tasks b.tasks (by omega) (by omega) a2 b2]
  grind
theorem laws_markIntS_ok (l : List Int) (k : Int) (t : TypeId) (hl : l.length ≤ 2^36) (h0 : 0 ≤ k) (h1 : k < 2^61) : C f_laws_markIntS [.ref 0 1 0 l.length, I k] [.row t true 1 (l.map I)] = some (I (k + l.length), [.row t true 1 ((markL k l.length).map I)]) := by
  refine C_laws_markIntS ?_
  simp (maxSteps := 2000000) (disch := (first | omega | (simp only [List.length_append, List.length_take, List.length_replicate, List.length_map, List.length_set, List.length_cons, List.length_nil, List.length_zipWith, List.length_drop, List.length_range]; first | done | omega))) only [ir_laws_markIntS, go_sem, Nat.reduceAdd, Nat.reduceEqDiff, Nat.reduceLeDiff, Nat.reduceSub]
  refine W_for l.length (fun i s => s = ⟨[.ref 0 1 0 l.length, I (k + i), .any, I i, .any], [.row t true 1 ((markP k l i).map I)]⟩) ?_ ?_ ?_
  · simp (maxSteps := 2000000) (disch := (first | omega | (simp only [List.length_append, List.length_take, List.length_replicate, List.length_map, List.length_set, List.length_cons, List.length_nil, List.length_zipWith, List.length_drop, List.length_range]; first | done | omega))) only [go_sem, Nat.reduceAdd, Nat.reduceEqDiff, Nat.reduceLeDiff, Nat.reduceSub]
    rw [markP_zero]
    simp
  · rintro i s hi rfl
    have h2 := markP_len (k := k) (l := l) (i := i) (by omega)
    have h3 := markP_step (k := k) hi
    simp (maxSteps := 2000000) (disch := (first | omega | (simp only [List.length_append, List.length_take, List.length_replicate, List.length_map, List.length_set, List.length_cons, List.length_nil, List.length_zipWith, List.length_drop, List.length_range]; first | done | omega))) only [go_sem, Nat.reduceAdd, Nat.reduceEqDiff, Nat.reduceLeDiff, Nat.reduceSub, h2]
    rw [← h3]
    simp
    omega
  · rintro s rfl
    have h2 := markP_len (k := k) (l := l) (i := l.length) (by omega)
    simp (maxSteps := 2000000) (disch := (first | omega | (simp only [List.length_append, List.length_take, List.length_replicate, List.length_map, List.length_set, List.length_cons, List.length_nil, List.length_zipWith, List.length_drop, List.length_range]; first | done | omega))) only [go_sem, Nat.reduceAdd, Nat.reduceEqDiff, Nat.reduceLeDiff, Nat.reduceSub, h2]
    rw [markP_all]
theorem laws_markIntS_nil (k : Int) : C f_laws_markIntS [.sl true 1 [], I k] [] = some (I k, []) := by
  refine C_laws_markIntS ?_
  simp (maxSteps := 2000000) (disch := (first | omega | (simp only [List.length_append, List.length_take, List.length_replicate, List.length_map, List.length_set, List.length_cons, List.length_nil, List.length_zipWith, List.length_drop, List.length_range]; first | done | omega))) only [ir_laws_markIntS, go_sem, Nat.reduceAdd, Nat.reduceEqDiff, Nat.reduceLeDiff, Nat.reduceSub]
  refine W_for 0 (fun i s => s = ⟨[.sl true 1 [], I k, .any, I 0, .any], []⟩) ?_ ?_ ?_
  · simp (maxSteps := 2000000) (disch := (first | omega | (simp only [List.length_append, List.length_take, List.length_replicate, List.length_map, List.length_set, List.length_cons, List.length_nil, List.length_zipWith, List.length_drop, List.length_range]; first | done | omega))) only [go_sem, Nat.reduceAdd, Nat.reduceEqDiff, Nat.reduceLeDiff, Nat.reduceSub]
  · rintro i s hi rfl
    omega
  · rintro s rfl
    simp (maxSteps := 2000000) (disch := (first | omega | (simp only [List.length_append, List.length_take, List.length_replicate, List.length_map, List.length_set, List.length_cons, List.length_nil, List.length_zipWith, List.length_drop, List.length_range]; first | done | omega))) only [go_sem, Nat.reduceAdd, Nat.reduceEqDiff, Nat.reduceLeDiff, Nat.reduceSub]
/-- ... on a row that lies in a row. -/
theorem laws_markIntS_cell {sz off : Nat} {cs : List PV} (l : List Int) (k : Int) (hc : cs[off]? = some (ints l)) (hs : cs.length = sz) (hok : okE false sz (.agg cs) = true) (hl : l.length ≤ 2^36) (h0 : 0 ≤ k) (h1 : k < 2^61) :
    kcallV C f_laws_markIntS sz off (.agg cs) (I k) = some (I (k + l.length), .agg (cs.set off (ints (markL k l.length)))) := by
  refine kcallV_cell hc hs hok (by simp [markL_len]) (fun h => ?_) (fun h => ⟨0, ?_⟩)
  · have : l = [] := by simpa using h
    subst this
    simpa using laws_markIntS_nil k
  · have := laws_markIntS_ok l k 0 hl h0 h1
    simpa using this
theorem laws_markTaskS_c2 (l q r u : List Int) (x y z k : Int) (hl : l.length ≤ 2^36) (h0 : 0 ≤ k) (h1 : k < 2^61) : kcallV C f_laws_markIntS 7 2 (.agg [I x, I y, ints l, ints q, ints r, ints u, I z]) (I k) = some (I (k + l.length), .agg [I x, I y, ints (markL k l.length), ints q, ints r, ints u, I z]) :=
  laws_markIntS_cell l k rfl rfl rfl hl h0 h1
theorem laws_markTaskS_c3 (l q r u : List Int) (x y z k : Int) (hl : l.length ≤ 2^36) (h0 : 0 ≤ k) (h1 : k < 2^61) : kcallV C f_laws_markIntS 7 3 (.agg [I x, I y, ints q, ints l, ints r, ints u, I z]) (I k) = some (I (k + l.length), .agg [I x, I y, ints q, ints (markL k l.length), ints r, ints u, I z]) :=
  laws_markIntS_cell l k rfl rfl rfl hl h0 h1
theorem laws_markTaskS_c4 (l q r u : List Int) (x y z k : Int) (hl : l.length ≤ 2^36) (h0 : 0 ≤ k) (h1 : k < 2^61) : kcallV C f_laws_markIntS 7 4 (.agg [I x, I y, ints q, ints r, ints l, ints u, I z]) (I k) = some (I (k + l.length), .agg [I x, I y, ints q, ints r, ints (markL k l.length), ints u, I z]) :=
  laws_markIntS_cell l k rfl rfl rfl hl h0 h1
theorem laws_markTaskS_c5 (l q r u : List Int) (x y z k : Int) (hl : l.length ≤ 2^36) (h0 : 0 ≤ k) (h1 : k < 2^61) : kcallV C f_laws_markIntS 7 5 (.agg [I x, I y, ints q, ints r, ints u, ints l, I z]) (I k) = some (I (k + l.length), .agg [I x, I y, ints q, ints r, ints u, ints (markL k l.length), I z]) :=
  laws_markIntS_cell l k rfl rfl rfl hl h0 h1
theorem laws_markTaskS_ok (l : List Tk) (t : TypeId) (k : Int) (hl : l.length ≤ 2^20) (hb : ∀ t ∈ l, mkLen t ≤ 2^30) (h0 : 0 ≤ k) (h1 : k ≤ 1024) : C f_laws_markTaskS [.ref 0 7 0 l.length, I k] [.lin t 7 (l.map encK)] = some (I (k + mkN l l.length), [.lin t 7 ((mkP k l l.length).map encK)]) := by
  refine C_laws_markTaskS ?_
  simp (maxSteps := 2000000) (disch := (first | omega | (simp only [List.length_append, List.length_take, List.length_replicate, List.length_map, List.length_set, List.length_cons, List.length_nil, List.length_zipWith, List.length_drop, List.length_range]; first | done | omega))) only [ir_laws_markTaskS, go_sem, Nat.reduceAdd, Nat.reduceEqDiff, Nat.reduceLeDiff, Nat.reduceSub]
  refine W_for l.length (fun i st => st = ⟨[.ref 0 7 0 l.length, I (k + mkN l i), .any, I i, .any], [.lin t 7 ((mkP k l i).map encK)]⟩) ?_ ?_ ?_
  · simp (maxSteps := 2000000) (disch := (first | omega | (simp only [List.length_append, List.length_take, List.length_replicate, List.length_map, List.length_set, List.length_cons, List.length_nil, List.length_zipWith, List.length_drop, List.length_range]; first | done | omega))) only [go_sem, Nat.reduceAdd, Nat.reduceEqDiff, Nat.reduceLeDiff, Nat.reduceSub]
    simp [mkN, mkP]
  · rintro i st hi rfl
    have e1 : (mkP k l i).length = l.length := mkP_len k l i
    have e2 : (mkP k l i)[i]? = some l[i] := by rw [mkP_get k l i i (by omega), List.getElem?_eq_getElem hi]
    have e3 := mkN_le hb i (by omega)
    have e4 := hb _ (List.getElem_mem hi)
    have e5 := mkN_step hi
    have e6 := mkP_step (k := k) hi
    have e7 : mkLen l[i] = 3 + l[i].inn.length + l[i].out.length + l[i].cut.length + l[i].stop.length := rfl
    have e8 : i * 2^30 ≤ 2^20 * 2^30 := Nat.mul_le_mul_right _ (by omega)
    rw [e6, e5]
    generalize hM : mkP k l i = M at *
    generalize l[i] = t at *
    generalize hK : k + (mkN l i : Int) = K at *
    have e9 : 0 ≤ K ∧ K ≤ 2^51 := by omega
    simp (maxSteps := 2000000) (disch := (first | omega | (simp only [List.length_append, List.length_take, List.length_replicate, List.length_map, List.length_set, List.length_cons, List.length_nil, List.length_zipWith, List.length_drop, List.length_range]; first | done | omega))) only [go_sem, Nat.reduceAdd, Nat.reduceEqDiff, Nat.reduceLeDiff, Nat.reduceSub, e1, e2, laws_markTaskS_c2, laws_markTaskS_c3, laws_markTaskS_c4, laws_markTaskS_c5, List.getElem?_set_self, List.set_set]
    rw [show k + ((mkN l i + mkLen t : Nat) : Int) = K + 1 + 1 + t.inn.length + t.out.length + t.cut.length + t.stop.length + 1 by omega, List.map_set]
    rfl
  · rintro st rfl
    have e1 : (mkP k l l.length).length = l.length := mkP_len k l l.length
    simp (maxSteps := 2000000) (disch := (first | omega | (simp only [List.length_append, List.length_take, List.length_replicate, List.length_map, List.length_set, List.length_cons, List.length_nil, List.length_zipWith, List.length_drop, List.length_range]; first | done | omega))) only [go_sem, Nat.reduceAdd, Nat.reduceEqDiff, Nat.reduceLeDiff, Nat.reduceSub, e1]
theorem laws_markSpec_ok (c : Int) (l : List Tk) (t : TypeId) (k : Int) (hl : l.length ≤ 2^20) (hb : ∀ t ∈ l, mkLen t ≤ 2^30) (h0 : 0 ≤ k) (h1 : k ≤ 1024) : C f_laws_markSpec [.agg [I c, .ref 0 7 0 l.length], I k] [.lin t 7 (l.map encK)] = some (I (k + mkN l l.length), [.lin t 7 ((mkP k l l.length).map encK)]) := by
  have h := laws_markTaskS_ok l t k hl hb h0 h1
  refine C_laws_markSpec ?_
  simp (maxSteps := 2000000) (disch := (first | omega | (simp only [List.length_append, List.length_take, List.length_replicate, List.length_map, List.length_set, List.length_cons, List.length_nil, List.length_zipWith, List.length_drop, List.length_range]; first | done | omega))) only [ir_laws_markSpec, go_sem, Nat.reduceAdd, Nat.reduceEqDiff, Nat.reduceLeDiff, Nat.reduceSub]
  simp (maxSteps := 2000000) (disch := (first | omega | (simp only [List.length_append, List.length_take, List.length_replicate, List.length_map, List.length_set, List.length_cons, List.length_nil, List.length_zipWith, List.length_drop, List.length_range]; first | done | omega))) only [go_sem, Nat.reduceAdd, Nat.reduceEqDiff, Nat.reduceLeDiff, Nat.reduceSub, h]
theorem laws_markCase_ok (x : Int) (l : List Int) (k : Int) (t : TypeId) (hl : l.length ≤ 2^36) (h0 : 0 ≤ k) (h1 : k < 2^61) : C f_laws_markCase [.agg [I x, .ref 0 1 0 l.length], I k] [.row t true 1 (l.map I)] = some (I (k + l.length), [.row t true 1 ((markL k l.length).map I)]) := by
  have h := laws_markIntS_ok l k t hl h0 h1
  refine C_laws_markCase ?_
  simp (maxSteps := 2000000) (disch := (first | omega | (simp only [List.length_append, List.length_take, List.length_replicate, List.length_map, List.length_set, List.length_cons, List.length_nil, List.length_zipWith, List.length_drop, List.length_range]; first | done | omega))) only [ir_laws_markCase, go_sem, Nat.reduceAdd, Nat.reduceEqDiff, Nat.reduceLeDiff, Nat.reduceSub]
  simp (maxSteps := 2000000) (disch := (first | omega | (simp only [List.length_append, List.length_take, List.length_replicate, List.length_map, List.length_set, List.length_cons, List.length_nil, List.length_zipWith, List.length_drop, List.length_range]; first | done | omega))) only [go_sem, Nat.reduceAdd, Nat.reduceEqDiff, Nat.reduceLeDiff, Nat.reduceSub, h, markL_len]
theorem laws_markIntS_nil2 (k : Int) : C f_laws_markIntS [.nil true 1, I k] [] = some (I k, []) := by
  refine C_laws_markIntS ?_
  simp (maxSteps := 2000000) (disch := (first | omega | (simp only [List.length_append, List.length_take, List.length_replicate, List.length_map, List.length_set, List.length_cons, List.length_nil, List.length_zipWith, List.length_drop, List.length_range]; first | done | omega))) only [ir_laws_markIntS, go_sem, Nat.reduceAdd, Nat.reduceEqDiff, Nat.reduceLeDiff, Nat.reduceSub]
  refine W_for 0 (fun i s => s = ⟨[.nil true 1, I k, .any, I 0, .any], []⟩) ?_ ?_ ?_
  · simp (maxSteps := 2000000) (disch := (first | omega | (simp only [List.length_append, List.length_take, List.length_replicate, List.length_map, List.length_set, List.length_cons, List.length_nil, List.length_zipWith, List.length_drop, List.length_range]; first | done | omega))) only [go_sem, Nat.reduceAdd, Nat.reduceEqDiff, Nat.reduceLeDiff, Nat.reduceSub]
  · rintro i s hi rfl
    omega
  · rintro s rfl
    simp (maxSteps := 2000000) (disch := (first | omega | (simp only [List.length_append, List.length_take, List.length_replicate, List.length_map, List.length_set, List.length_cons, List.length_nil, List.length_zipWith, List.length_drop, List.length_range]; first | done | omega))) only [go_sem, Nat.reduceAdd, Nat.reduceEqDiff, Nat.reduceLeDiff, Nat.reduceSub]
theorem laws_markCase_nil (x k : Int) : C f_laws_markCase [.agg [I x, .nil true 1], I k] [] = some (I k, []) := by
  have h := laws_markIntS_nil2 k
  refine C_laws_markCase ?_
  simp (maxSteps := 2000000) (disch := (first | omega | (simp only [List.length_append, List.length_take, List.length_replicate, List.length_map, List.length_set, List.length_cons, List.length_nil, List.length_zipWith, List.length_drop, List.length_range]; first | done | omega))) only [ir_laws_markCase, go_sem, Nat.reduceAdd, Nat.reduceEqDiff, Nat.reduceLeDiff, Nat.reduceSub]
  simp (maxSteps := 2000000) (disch := (first | omega | (simp only [List.length_append, List.length_take, List.length_replicate, List.length_map, List.length_set, List.length_cons, List.length_nil, List.length_zipWith, List.length_drop, List.length_range]; first | done | omega))) only [go_sem, Nat.reduceAdd, Nat.reduceEqDiff, Nat.reduceLeDiff, Nat.reduceSub, h]
theorem laws_heldIntS_ok (k : Int) (n : Nat) (hl : n < 2^60) (h0 : 0 ≤ k) (h1 : k < 2^61) : C f_laws_heldIntS [ints (markL k n), I k] [] = some (I (k + n), []) := by
  have hn := markL_len k n
  refine C_laws_heldIntS ?_
  simp (maxSteps := 2000000) (disch := (first | omega | (simp only [List.length_append, List.length_take, List.length_replicate, List.length_map, List.length_set, List.length_cons, List.length_nil, List.length_zipWith, List.length_drop, List.length_range]; first | done | omega))) only [ir_laws_heldIntS, go_sem, Nat.reduceAdd, Nat.reduceEqDiff, Nat.reduceLeDiff, Nat.reduceSub]
  refine W_for n (fun i s => s = ⟨[ints (markL k n), I (k + i), .any, I i, .any, .any], []⟩) ?_ ?_ ?_
  · simp (maxSteps := 2000000) (disch := (first | omega | (simp only [List.length_append, List.length_take, List.length_replicate, List.length_map, List.length_set, List.length_cons, List.length_nil, List.length_zipWith, List.length_drop, List.length_range]; first | done | omega))) only [go_sem, Nat.reduceAdd, Nat.reduceEqDiff, Nat.reduceLeDiff, Nat.reduceSub]
    simp
  · rintro i s hi rfl
    have e : (markL k n)[i]? = some (k + i) := by simp [markL, hi]
    simp (maxSteps := 2000000) (disch := (first | omega | (simp only [List.length_append, List.length_take, List.length_replicate, List.length_map, List.length_set, List.length_cons, List.length_nil, List.length_zipWith, List.length_drop, List.length_range]; first | done | omega))) only [go_sem, Nat.reduceAdd, Nat.reduceEqDiff, Nat.reduceLeDiff, Nat.reduceSub, hn, e]
    rw [show k + ((i + 1 : Nat) : Int) = k + i + 1 by omega]
    rfl
  · rintro s rfl
    simp (maxSteps := 2000000) (disch := (first | omega | (simp only [List.length_append, List.length_take, List.length_replicate, List.length_map, List.length_set, List.length_cons, List.length_nil, List.length_zipWith, List.length_drop, List.length_range]; first | done | omega))) only [go_sem, Nat.reduceAdd, Nat.reduceEqDiff, Nat.reduceLeDiff, Nat.reduceSub, hn]
theorem laws_heldCase_ok (x k : Int) (n : Nat) (hl : n < 2^60) (h0 : 0 ≤ k) (h1 : k < 2^61) : C f_laws_heldCase [.agg [I x, ints (markL k n)], I k] [] = some (I (k + n), []) := by
  have h := laws_heldIntS_ok k n hl h0 h1
  refine C_laws_heldCase ?_
  simp (maxSteps := 2000000) (disch := (first | omega | (simp only [List.length_append, List.length_take, List.length_replicate, List.length_map, List.length_set, List.length_cons, List.length_nil, List.length_zipWith, List.length_drop, List.length_range]; first | done | omega))) only [ir_laws_heldCase, go_sem, Nat.reduceAdd, Nat.reduceEqDiff, Nat.reduceLeDiff, Nat.reduceSub]
  simp (maxSteps := 2000000) (disch := (first | omega | (simp only [List.length_append, List.length_take, List.length_replicate, List.length_map, List.length_set, List.length_cons, List.length_nil, List.length_zipWith, List.length_drop, List.length_range]; first | done | omega))) only [go_sem, Nat.reduceAdd, Nat.reduceEqDiff, Nat.reduceLeDiff, Nat.reduceSub, h]
theorem laws_FnExactCancelCase_ok (s : Spc) (c : Cs) (hl : s.tasks.length < 2^63) (ht : ∀ t ∈ s.tasks, t.inn.length < 2^63 ∧ t.out.length < 2^63 ∧ t.cut.length < 2^63 ∧ t.stop.length < 2^63) (hm : c.mark.length < 2^63) : C f_laws_FnExactCancelCase [encS s, encC c] [] = some (.bool true, []) := by
  have hsz := laws_szSpec_ok s 1048576 (by omega) (by omega) hl ht
  refine C_laws_FnExactCancelCase ?_
  simp (maxSteps := 2000000) (disch := (first | omega | (simp only [List.length_append, List.length_take, List.length_replicate, List.length_map, List.length_set, List.length_cons, List.length_nil, List.length_zipWith, List.length_drop, List.length_range]; first | done | omega))) only [ir_laws_FnExactCancelCase, go_sem, Nat.reduceAdd, Nat.reduceEqDiff, Nat.reduceLeDiff, Nat.reduceSub]
  simp (maxSteps := 2000000) (disch := (first | omega | (simp only [List.length_append, List.length_take, List.length_replicate, List.length_map, List.length_set, List.length_cons, List.length_nil, List.length_zipWith, List.length_drop, List.length_range]; first | done | omega))) only [go_sem, Nat.reduceAdd, Nat.reduceEqDiff, Nat.reduceLeDiff, Nat.reduceSub, hsz]
  refine fun h => ?_
  have hs := szS_smSpc h (by omega)
  have hsm := szS_small h (by omega)
  have hle : szS s 1048576 ≤ 1048576 := (szL_le _ _ (by omega)).2
  have hsc := laws_szCase_ok c (szS s 1048576) h hle hm
  by_cases hneg : szS s 1048576 - c.mark.length < 0
  · rw [if_pos hneg] at hsc
    simp (maxSteps := 2000000) (disch := (first | omega | (simp only [List.length_append, List.length_take, List.length_replicate, List.length_map, List.length_set, List.length_cons, List.length_nil, List.length_zipWith, List.length_drop, List.length_range]; first | done | omega))) only [go_sem, Nat.reduceAdd, Nat.reduceEqDiff, Nat.reduceLeDiff, Nat.reduceSub, hsc]
  rw [if_neg hneg] at hsc
  have hto := laws_toSpec_ok s (by omega) (fun t h => by have := hsm.2 t h; omega)
  have htc := laws_toCase_ok c (by omega)
  have hec := laws_eqCase_ok c c (by omega) (by omega)
  have hmk := laws_markSpec_ok s.conds s.tasks t_impl_Task 1 (by omega) (fun t h => by have := hsm.2 t h; unfold mkLen; omega) (by omega) (by omega)
  have hmn := mkN_le (l := s.tasks) (fun t h => by have := hsm.2 t h; unfold mkLen; omega) s.tasks.length (by omega)
  have hmn2 : s.tasks.length * 2^30 ≤ 1048576 * 2^30 := Nat.mul_le_mul_right _ (by omega)
  have hmc := laws_markCase_ok c.state c.mark (1 + mkN s.tasks s.tasks.length) t_int (by omega) (by omega) (by omega)
  have h1 := spec_CancelCase_ok s c hs (by omega)
  have h2 := impl_CancelCase_ok s c hs (by omega)
  cases hg : cutB s c with
  | false =>
    rw [hg, if_neg (by simp)] at h1 h2
    have h0 : C f_laws_eqCase [.agg [I 0, .sl true 1 []], .agg [I 0, .sl true 1 []]] [] = some (.bool true, []) := by
      have := laws_eqCase_ok ⟨0, []⟩ ⟨0, []⟩ (by simp) (by simp)
      rw [decide_eq_true rfl] at this
      exact this
    have hm0 := laws_markCase_nil 0 1
    have hh0 : C f_laws_heldCase [.agg [I 0, .sl true 1 []], I 1] [] = some (I 1, []) := laws_heldCase_ok 0 1 0 (by omega) (by omega) (by omega)
    generalize mkP 1 s.tasks s.tasks.length = P at *
    generalize markL (1 + (mkN s.tasks s.tasks.length : Int)) c.mark.length = X at *
    simp (maxSteps := 2000000) (disch := (first | omega | (simp only [List.length_append, List.length_take, List.length_replicate, List.length_map, List.length_set, List.length_cons, List.length_nil, List.length_zipWith, List.length_drop, List.length_range]; first | done | omega))) only [go_sem, Nat.reduceAdd, Nat.reduceEqDiff, Nat.reduceLeDiff, Nat.reduceSub, hsc, hto, htc, h1, h2, laws_eqSpec_ok s s hs hs, hec, hmk, hmc, h0, hm0, hh0]
  | true =>
    rw [hg, if_pos rfl] at h1 h2
    have hok : okTasks s = true := by unfold cutB at hg; simp only [Bool.and_eq_true] at hg; exact goodS_ok hg.1.1
    obtain ⟨hc, hn, -⟩ := okTasks_parts hok
    have hR : List.replicate (s.conds + s.tasks.length).toNat (I 0) = (List.replicate (s.conds + s.tasks.length).toNat 0).map I := by simp
    rw [hR] at h1 h2
    have hL : (List.replicate (s.conds + s.tasks.length).toNat (0 : Int)).length ≤ 20 := by simp; omega
    generalize List.replicate (s.conds + s.tasks.length).toNat (0 : Int) = R at *
    have h0 : C f_laws_eqCase [.agg [I 3, ints R], .agg [I 3, ints R]] [] = some (.bool true, []) := by
      have := laws_eqCase_ok ⟨3, R⟩ ⟨3, R⟩ (by simp only; omega) (by simp only; omega)
      rw [decide_eq_true rfl] at this
      exact this
    have hm0 := laws_markCase_ok 3 R 1 t_int (by omega) (by omega) (by omega)
    have hh0 := laws_heldCase_ok 3 1 R.length (by omega) (by omega) (by omega)
    have hml := markL_len 1 R.length
    generalize mkP 1 s.tasks s.tasks.length = P at *
    generalize markL (1 + (mkN s.tasks s.tasks.length : Int)) c.mark.length = X at *
    simp (maxSteps := 2000000) (disch := (first | omega | (simp only [List.length_append, List.length_take, List.length_replicate, List.length_map, List.length_set, List.length_cons, List.length_nil, List.length_zipWith, List.length_drop, List.length_range]; first | done | omega))) only [go_sem, Nat.reduceAdd, Nat.reduceEqDiff, Nat.reduceLeDiff, Nat.reduceSub, hsc, hto, htc, h1, h2, laws_eqSpec_ok s s hs hs, hec, hmk, hmc, h0, hm0, hh0, hml]
end Go.Proofs.Ytblolnhajgmbdaa.Pi
