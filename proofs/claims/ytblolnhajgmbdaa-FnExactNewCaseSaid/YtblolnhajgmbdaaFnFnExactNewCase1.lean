/- The functions that the law reaches: what they answer. Conditions: those that each theorem names. -/
import Derived.Test.YtblolnhajgmbdaaIrFnExactNewCase
import Derived.Test.YtblolnhajgmbdaaPlBase
import Derived.Test.YtblolnhajgmbdaaPlNet
import Derived.Test.YtblolnhajgmbdaaPlFire
import Derived.Test.YtblolnhajgmbdaaPlTurn
import Derived.Test.YtblolnhajgmbdaaPlBack
import Derived.Test.YtblolnhajgmbdaaPlFlow
import Derived.Test.YtblolnhajgmbdaaPlMask
import Derived.Test.YtblolnhajgmbdaaPlSpec
import Derived.Test.YtblolnhajgmbdaaPlSiph
import Derived.Test.YtblolnhajgmbdaaPlKept
import Derived.Test.YtblolnhajgmbdaaFnFnExactNewCase0
namespace Go.Proofs.Ytblolnhajgmbdaa.Pi
open Go
set_option linter.all false
set_option maxHeartbeats 40000000
set_option maxRecDepth 20000
theorem laws_eqTaskS_ok (a b : List Tk) (ha : a.length < 2^62) (hb : b.length < 2^62) (ha2 : ∀ t ∈ a, smTk t) (hb2 : ∀ t ∈ b, smTk t) : C f_laws_eqTaskS [tks a, tks b] [] = some (.bool (decide (a = b)), []) := by
  refine C_laws_eqTaskS ?_
  simp (maxSteps := 2000000) (disch := (first | omega | (simp only [List.length_append, List.length_take, List.length_replicate, List.length_map, List.length_set, List.length_cons, List.length_nil, List.length_zipWith, List.length_drop, List.length_range]; first | done | omega))) only [ir_laws_eqTaskS, go_sem, Nat.reduceAdd, Nat.reduceEqDiff, Nat.reduceLeDiff, Nat.reduceSub]
  refine ⟨fun h => ?_, fun h => ?_⟩
  · rw [decide_eq_false]
    rintro rfl
    omega
  have hl : a.length = b.length := by omega
  refine W_for a.length (fun k s => s = ⟨[tks a, tks b, .any, I k, .any, .any, .any], []⟩ ∧ a.take k = b.take k) ?_ ?_ ?_
  · simp (maxSteps := 2000000) (disch := (first | omega | (simp only [List.length_append, List.length_take, List.length_replicate, List.length_map, List.length_set, List.length_cons, List.length_nil, List.length_zipWith, List.length_drop, List.length_range]; first | done | omega))) only [go_sem, Nat.reduceAdd, Nat.reduceEqDiff, Nat.reduceLeDiff, Nat.reduceSub]
    rfl
  · rintro k s hk ⟨rfl, he⟩
    have hk2 : k < b.length := by omega
    simp (maxSteps := 2000000) (disch := (first | omega | (simp only [List.length_append, List.length_take, List.length_replicate, List.length_map, List.length_set, List.length_cons, List.length_nil, List.length_zipWith, List.length_drop, List.length_range]; first | done | omega))) only [go_sem, Nat.reduceAdd, Nat.reduceEqDiff, Nat.reduceLeDiff, Nat.reduceSub, laws_eqTask_ok _ _ (ha2 _ (List.getElem_mem hk)) (hb2 _ (List.getElem_mem hk2))]
    refine ⟨fun h => ⟨rfl, dec_take hk (by omega) he h⟩, fun h => ?_⟩
    rw [dec_ne hk (by omega) h]
  · rintro s ⟨rfl, he⟩
    simp (maxSteps := 2000000) (disch := (first | omega | (simp only [List.length_append, List.length_take, List.length_replicate, List.length_map, List.length_set, List.length_cons, List.length_nil, List.length_zipWith, List.length_drop, List.length_range]; first | done | omega))) only [go_sem, Nat.reduceAdd, Nat.reduceEqDiff, Nat.reduceLeDiff, Nat.reduceSub]
    rw [List.take_length, take_all (by omega)] at he
    simp [he]
theorem laws_eqSpec_ok (a b : Spc) (ha : smSpc a) (hb : smSpc b) : C f_laws_eqSpec [encS a, encS b] [] = some (.bool (decide (a = b)), []) := by
  obtain ⟨a1, a2⟩ := ha
  obtain ⟨b1, b2⟩ := hb
  have e : (a = b) ↔ a.conds = b.conds ∧ a.tasks = b.tasks := by
    cases a; cases b; simp
  simp only [e]
  refine C_laws_eqSpec ?_
  simp (maxSteps := 2000000) (disch := (first | omega | (simp only [List.length_append, List.length_take, List.length_replicate, List.length_map, List.length_set, List.length_cons, List.length_nil, List.length_zipWith, List.length_drop, List.length_range]; first | done | omega))) only [ir_laws_eqSpec, go_sem, Nat.reduceAdd, Nat.reduceEqDiff, Nat.reduceLeDiff, Nat.reduceSub]
  refine ⟨fun h => by simp [h], fun h1 => ?_⟩
  simp (maxSteps := 2000000) (disch := (first | omega | (simp only [List.length_append, List.length_take, List.length_replicate, List.length_map, List.length_set, List.length_cons, List.length_nil, List.length_zipWith, List.length_drop, List.length_range]; first | done | omega))) only [go_sem, Nat.reduceAdd, Nat.reduceEqDiff, Nat.reduceLeDiff, Nat.reduceSub, laws_eqTaskS_ok a.tasks b.tasks (by omega) (by omega) a2 b2]
  grind
theorem laws_markIntS_ok (l : List Int) (k : Int) (t : TypeId) (hl : l.length ≤ 2^36) (h0 : 0 ≤ k) (h1 : k < 2^61) : C f_laws_markIntS [.ref 0 1 0 l.length, I k] [.row t true 1 (l.map I)] = some (I (k + l.length), [.row t true 1 ((markL k l.length).map I)]) := by
  refine C_laws_markIntS ?_
  simp (maxSteps := 2000000) (disch := (first | omega | (simp only [List.length_append, List.length_take, List.length_replicate, List.length_map, List.length_set, List.length_cons, List.length_nil, List.length_zipWith, List.length_drop, List.length_range]; first | done | omega))) only [ir_laws_markIntS, go_sem, Nat.reduceAdd, Nat.reduceEqDiff, Nat.reduceLeDiff, Nat.reduceSub]
  refine W_for l.length (fun i s => s = ⟨[.ref 0 1 0 l.length, I (k + i), .any, I i, .any], [.row t true 1 ((markP k l i).map I)]⟩) ?_ ?_ ?_
  · simp (maxSteps := 2000000) (disch := (first | omega | (simp only [List.length_append, List.length_take, List.length_replicate, List.length_map, List.length_set, List.length_cons, List.length_nil, List.length_zipWith, List.length_drop, List.length_range]; first | done | omega))) only [go_sem, Nat.reduceAdd, Nat.reduceEqDiff, Nat.reduceLeDiff, Nat.reduceSub]
    rw [markP_zero]
    simp
  · rintro i s hi rfl
    have h2 := markP_len (k := k) (l := l) (i := i) (by omega)
    have h3 := markP_step (k := k) hi
    simp (maxSteps := 2000000) (disch := (first | omega | (simp only [List.length_append, List.length_take, List.length_replicate, List.length_map, List.length_set, List.length_cons, List.length_nil, List.length_zipWith, List.length_drop, List.length_range]; first | done | omega))) only [go_sem, Nat.reduceAdd, Nat.reduceEqDiff, Nat.reduceLeDiff, Nat.reduceSub, h2]
    rw [← h3]
    simp
    omega
  · rintro s rfl
    have h2 := markP_len (k := k) (l := l) (i := l.length) (by omega)
    simp (maxSteps := 2000000) (disch := (first | omega | (simp only [List.length_append, List.length_take, List.length_replicate, List.length_map, List.length_set, List.length_cons, List.length_nil, List.length_zipWith, List.length_drop, List.length_range]; first | done | omega))) only [go_sem, Nat.reduceAdd, Nat.reduceEqDiff, Nat.reduceLeDiff, Nat.reduceSub, h2]
    rw [markP_all]
theorem laws_markIntS_nil (k : Int) : C f_laws_markIntS [.sl true 1 [], I k] [] = some (I k, []) := by
  refine C_laws_markIntS ?_
  simp (maxSteps := 2000000) (disch := (first | omega | (simp only [List.length_append, List.length_take, List.length_replicate, List.length_map, List.length_set, List.length_cons, List.length_nil, List.length_zipWith, List.length_drop, List.length_range]; first | done | omega))) only [ir_laws_markIntS, go_sem, Nat.reduceAdd, Nat.reduceEqDiff, Nat.reduceLeDiff, Nat.reduceSub]
  refine W_for 0 (fun i s => s = ⟨[.sl true 1 [], I k, .any, I 0, .any], []⟩) ?_ ?_ ?_
  · simp (maxSteps := 2000000) (disch := (first | omega | (simp only [List.length_append, List.length_take, List.length_replicate, List.length_map, List.length_set, List.length_cons, List.length_nil, List.length_zipWith, List.length_drop, List.length_range]; first | done | omega))) only [go_sem, Nat.reduceAdd, Nat.reduceEqDiff, Nat.reduceLeDiff, Nat.reduceSub]
  · rintro i s hi rfl
    omega
  · rintro s rfl
    simp (maxSteps := 2000000) (disch := (first | omega | (simp only [List.length_append, List.length_take, List.length_replicate, List.length_map, List.length_set, List.length_cons, List.length_nil, List.length_zipWith, List.length_drop, List.length_range]; first | done | omega))) only [go_sem, Nat.reduceAdd, Nat.reduceEqDiff, Nat.reduceLeDiff, Nat.reduceSub]
/-- ... on a row that lies in a row. -/
theorem laws_markIntS_cell {sz off : Nat} {cs : List PV} (l : List Int) (k : Int) (hc : cs[off]? = some (ints l)) (hs : cs.length = sz) (hok : okE false sz (.agg cs) = true) (hl : l.length ≤ 2^36) (h0 : 0 ≤ k) (h1 : k < 2^61) :
    kcallV C f_laws_markIntS sz off (.agg cs) (I k) = some (I (k + l.length), .agg (cs.set off (ints (markL k l.length)))) := by
  refine kcallV_cell hc hs hok (by simp [markL_len]) (fun h => ?_) (fun h => ⟨0, ?_⟩)
  · have : l = [] := by simpa using h
    subst this
    simpa using laws_markIntS_nil k
  · have := laws_markIntS_ok l k 0 hl h0 h1
    simpa using this
theorem laws_markTaskS_c2 (l q r u : List Int) (x y z k : Int) (hl : l.length ≤ 2^36) (h0 : 0 ≤ k) (h1 : k < 2^61) : kcallV C f_laws_markIntS 7 2 (.agg [I x, I y, ints l, ints q, ints r, ints u, I z]) (I k) = some (I (k + l.length), .agg [I x, I y, ints (markL k l.length), ints q, ints r, ints u, I z]) :=
  laws_markIntS_cell l k rfl rfl rfl hl h0 h1
theorem laws_markTaskS_c3 (l q r u : List Int) (x y z k : Int) (hl : l.length ≤ 2^36) (h0 : 0 ≤ k) (h1 : k < 2^61) : kcallV C f_laws_markIntS 7 3 (.agg [I x, I y, ints q, ints l, ints r, ints u, I z]) (I k) = some (I (k + l.length), .agg [I x, I y, ints q, ints (markL k l.length), ints r, ints u, I z]) :=
  laws_markIntS_cell l k rfl rfl rfl hl h0 h1
theorem laws_markTaskS_c4 (l q r u : List Int) (x y z k : Int) (hl : l.length ≤ 2^36) (h0 : 0 ≤ k) (h1 : k < 2^61) : kcallV C f_laws_markIntS 7 4 (.agg [I x, I y, ints q, ints r, ints l, ints u, I z]) (I k) = some (I (k + l.length), .agg [I x, I y, ints q, ints r, ints (markL k l.length), ints u, I z]) :=
  laws_markIntS_cell l k rfl rfl rfl hl h0 h1
theorem laws_markTaskS_c5 (l q r u : List Int) (x y z k : Int) (hl : l.length ≤ 2^36) (h0 : 0 ≤ k) (h1 : k < 2^61) : kcallV C f_laws_markIntS 7 5 (.agg [I x, I y, ints q, ints r, ints u, ints l, I z]) (I k) = some (I (k + l.length), .agg [I x, I y, ints q, ints r, ints u, ints (markL k l.length), I z]) :=
  laws_markIntS_cell l k rfl rfl rfl hl h0 h1
theorem laws_markTaskS_ok (l : List Tk) (t : TypeId) (k : Int) (hl : l.length ≤ 2^20) (hb : ∀ t ∈ l, mkLen t ≤ 2^30) (h0 : 0 ≤ k) (h1 : k ≤ 1024) : C f_laws_markTaskS [.ref 0 7 0 l.length, I k] [.lin t 7 (l.map encK)] = some (I (k + mkN l l.length), [.lin t 7 ((mkP k l l.length).map encK)]) := by
  refine C_laws_markTaskS ?_
  simp (maxSteps := 2000000) (disch := (first | omega | (simp only [List.length_append, List.length_take, List.length_replicate, List.length_map, List.length_set, List.length_cons, List.length_nil, List.length_zipWith, List.length_drop, List.length_range]; first | done | omega))) only [ir_laws_markTaskS, go_sem, Nat.reduceAdd, Nat.reduceEqDiff, Nat.reduceLeDiff, Nat.reduceSub]
  refine W_for l.length (fun i st => st = ⟨[.ref 0 7 0 l.length, I (k + mkN l i), .any, I i, .any], [.lin t 7 ((mkP k l i).map encK)]⟩) ?_ ?_ ?_
  · simp (maxSteps := 2000000) (disch := (first | omega | (simp only [List.length_append, List.length_take, List.length_replicate, List.length_map, List.length_set, List.length_cons, List.length_nil, List.length_zipWith, List.length_drop, List.length_range]; first | done | omega))) only [go_sem, Nat.reduceAdd, Nat.reduceEqDiff, Nat.reduceLeDiff, Nat.reduceSub]
    simp [mkN, mkP]
  · rintro i st hi rfl
    have e1 : (mkP k l i).length = l.length := mkP_len k l i
    have e2 : (mkP k l i)[i]? = some l[i] := by rw [mkP_get k l i i (by omega), List.getElem?_eq_getElem hi]
    have e3 := mkN_le hb i (by omega)
    have e4 := hb _ (List.getElem_mem hi)
    have e5 := mkN_step hi
    have e6 := mkP_step (k := k) hi
    have e7 : mkLen l[i] = 3 + l[i].inn.length + l[i].out.length + l[i].cut.length + l[i].stop.length := rfl
    have e8 : i * 2^30 ≤ 2^20 * 2^30 := Nat.mul_le_mul_right _ (by omega)
    rw [e6, e5]
    generalize hM : mkP k l i = M at *
    generalize l[i] = t at *
    generalize hK : k + (mkN l i : Int) = K at *
    have e9 : 0 ≤ K ∧ K ≤ 2^51 := by omega
    simp (maxSteps := 2000000) (disch := (first | omega | (simp only [List.length_append, List.length_take, List.length_replicate, List.length_map, List.length_set, List.length_cons, List.length_nil, List.length_zipWith, List.length_drop, List.length_range]; first | done | omega))) only [go_sem, Nat.reduceAdd, Nat.reduceEqDiff, Nat.reduceLeDiff, Nat.reduceSub, e1, e2, laws_markTaskS_c2, laws_markTaskS_c3, laws_markTaskS_c4, laws_markTaskS_c5, List.getElem?_set_self, List.set_set]
    rw [show k + ((mkN l i + mkLen t : Nat) : Int) = K + 1 + 1 + t.inn.length + t.out.length + t.cut.length + t.stop.length + 1 by omega, List.map_set]
    rfl
  · rintro st rfl
    have e1 : (mkP k l l.length).length = l.length := mkP_len k l l.length
    simp (maxSteps := 2000000) (disch := (first | omega | (simp only [List.length_append, List.length_take, List.length_replicate, List.length_map, List.length_set, List.length_cons, List.length_nil, List.length_zipWith, List.length_drop, List.length_range]; first | done | omega))) only [go_sem, Nat.reduceAdd, Nat.reduceEqDiff, Nat.reduceLeDiff, Nat.reduceSub, e1]
theorem laws_markSpec_ok (c : Int) (l : List Tk) (t : TypeId) (k : Int) (hl : l.length ≤ 2^20) (hb : ∀ t ∈ l, mkLen t ≤ 2^30) (h0 : 0 ≤ k) (h1 : k ≤ 1024) : C f_laws_markSpec [.agg [I c, .ref 0 7 0 l.length], I k] [.lin t 7 (l.map encK)] = some (I (k + mkN l l.length), [.lin t 7 ((mkP k l l.length).map encK)]) := by
  have h := laws_markTaskS_ok l t k hl hb h0 h1
  refine C_laws_markSpec ?_
  simp (maxSteps := 2000000) (disch := (first | omega | (simp only [List.length_append, List.length_take, List.length_replicate, List.length_map, List.length_set, List.length_cons, List.length_nil, List.length_zipWith, List.length_drop, List.length_range]; first | done | omega))) only [ir_laws_markSpec, go_sem, Nat.reduceAdd, Nat.reduceEqDiff, Nat.reduceLeDiff, Nat.reduceSub]
  simp (maxSteps := 2000000) (disch := (first | omega | (simp only [List.length_append, List.length_take, List.length_replicate, List.length_map, List.length_set, List.length_cons, List.length_nil, List.length_zipWith, List.length_drop, List.length_range]; first | done | omega))) only [go_sem, Nat.reduceAdd, Nat.reduceEqDiff, Nat.reduceLeDiff, Nat.reduceSub, h]
theorem laws_markCase_ok (x : Int) (l : List Int) (k : Int) (t : TypeId) (hl : l.length ≤ 2^36) (h0 : 0 ≤ k) (h1 : k < 2^61) : C f_laws_markCase [.agg [I x, .ref 0 1 0 l.length], I k] [.row t true 1 (l.map I)] = some (I (k + l.length), [.row t true 1 ((markL k l.length).map I)]) := by
  have h := laws_markIntS_ok l k t hl h0 h1
  refine C_laws_markCase ?_
  simp (maxSteps := 2000000) (disch := (first | omega | (simp only [List.length_append, List.length_take, List.length_replicate, List.length_map, List.length_set, List.length_cons, List.length_nil, List.length_zipWith, List.length_drop, List.length_range]; first | done | omega))) only [ir_laws_markCase, go_sem, Nat.reduceAdd, Nat.reduceEqDiff, Nat.reduceLeDiff, Nat.reduceSub]
  simp (maxSteps := 2000000) (disch := (first | omega | (simp only [List.length_append, List.length_take, List.length_replicate, List.length_map, List.length_set, List.length_cons, List.length_nil, List.length_zipWith, List.length_drop, List.length_range]; first | done | omega))) only [go_sem, Nat.reduceAdd, Nat.reduceEqDiff, Nat.reduceLeDiff, Nat.reduceSub, h, markL_len]
theorem laws_markIntS_nil2 (k : Int) : C f_laws_markIntS [.nil true 1, I k] [] = some (I k, []) := by
  refine C_laws_markIntS ?_
  simp (maxSteps := 2000000) (disch := (first | omega | (simp only [List.length_append, List.length_take, List.length_replicate, List.length_map, List.length_set, List.length_cons, List.length_nil, List.length_zipWith, List.length_drop, List.length_range]; first | done | omega))) only [ir_laws_markIntS, go_sem, Nat.reduceAdd, Nat.reduceEqDiff, Nat.reduceLeDiff, Nat.reduceSub]
  refine W_for 0 (fun i s => s = ⟨[.nil true 1, I k, .any, I 0, .any], []⟩) ?_ ?_ ?_
  · simp (maxSteps := 2000000) (disch := (first | omega | (simp only [List.length_append, List.length_take, List.length_replicate, List.length_map, List.length_set, List.length_cons, List.length_nil, List.length_zipWith, List.length_drop, List.length_range]; first | done | omega))) only [go_sem, Nat.reduceAdd, Nat.reduceEqDiff, Nat.reduceLeDiff, Nat.reduceSub]
  · rintro i s hi rfl
    omega
  · rintro s rfl
    simp (maxSteps := 2000000) (disch := (first | omega | (simp only [List.length_append, List.length_take, List.length_replicate, List.length_map, List.length_set, List.length_cons, List.length_nil, List.length_zipWith, List.length_drop, List.length_range]; first | done | omega))) only [go_sem, Nat.reduceAdd, Nat.reduceEqDiff, Nat.reduceLeDiff, Nat.reduceSub]
theorem laws_markCase_nil (x k : Int) : C f_laws_markCase [.agg [I x, .nil true 1], I k] [] = some (I k, []) := by
  have h := laws_markIntS_nil2 k
  refine C_laws_markCase ?_
  simp (maxSteps := 2000000) (disch := (first | omega | (simp only [List.length_append, List.length_take, List.length_replicate, List.length_map, List.length_set, List.length_cons, List.length_nil, List.length_zipWith, List.length_drop, List.length_range]; first | done | omega))) only [ir_laws_markCase, go_sem, Nat.reduceAdd, Nat.reduceEqDiff, Nat.reduceLeDiff, Nat.reduceSub]
  simp (maxSteps := 2000000) (disch := (first | omega | (simp only [List.length_append, List.length_take, List.length_replicate, List.length_map, List.length_set, List.length_cons, List.length_nil, List.length_zipWith, List.length_drop, List.length_range]; first | done | omega))) only [go_sem, Nat.reduceAdd, Nat.reduceEqDiff, Nat.reduceLeDiff, Nat.reduceSub, h]
theorem laws_heldIntS_ok (k : Int) (n : Nat) (hl : n < 2^60) (h0 : 0 ≤ k) (h1 : k < 2^61) : C f_laws_heldIntS [ints (markL k n), I k] [] = some (I (k + n), []) := by
  have hn := markL_len k n
  refine C_laws_heldIntS ?_
  simp (maxSteps := 2000000) (disch := (first | omega | (simp only [List.length_append, List.length_take, List.length_replicate, List.length_map, List.length_set, List.length_cons, List.length_nil, List.length_zipWith, List.length_drop, List.length_range]; first | done | omega))) only [ir_laws_heldIntS, go_sem, Nat.reduceAdd, Nat.reduceEqDiff, Nat.reduceLeDiff, Nat.reduceSub]
  refine W_for n (fun i s => s = ⟨[ints (markL k n), I (k + i), .any, I i, .any, .any], []⟩) ?_ ?_ ?_
  · simp (maxSteps := 2000000) (disch := (first | omega | (simp only [List.length_append, List.length_take, List.length_replicate, List.length_map, List.length_set, List.length_cons, List.length_nil, List.length_zipWith, List.length_drop, List.length_range]; first | done | omega))) only [go_sem, Nat.reduceAdd, Nat.reduceEqDiff, Nat.reduceLeDiff, Nat.reduceSub]
    simp
  · rintro i s hi rfl
    have e : (markL k n)[i]? = some (k + i) := by simp [markL, hi]
    simp (maxSteps := 2000000) (disch := (first | omega | (simp only [List.length_append, List.length_take, List.length_replicate, List.length_map, List.length_set, List.length_cons, List.length_nil, List.length_zipWith, List.length_drop, List.length_range]; first | done | omega))) only [go_sem, Nat.reduceAdd, Nat.reduceEqDiff, Nat.reduceLeDiff, Nat.reduceSub, hn, e]
    rw [show k + ((i + 1 : Nat) : Int) = k + i + 1 by omega]
    rfl
  · rintro s rfl
    simp (maxSteps := 2000000) (disch := (first | omega | (simp only [List.length_append, List.length_take, List.length_replicate, List.length_map, List.length_set, List.length_cons, List.length_nil, List.length_zipWith, List.length_drop, List.length_range]; first | done | omega))) only [go_sem, Nat.reduceAdd, Nat.reduceEqDiff, Nat.reduceLeDiff, Nat.reduceSub, hn]
theorem laws_heldCase_ok (x k : Int) (n : Nat) (hl : n < 2^60) (h0 : 0 ≤ k) (h1 : k < 2^61) : C f_laws_heldCase [.agg [I x, ints (markL k n)], I k] [] = some (I (k + n), []) := by
  have h := laws_heldIntS_ok k n hl h0 h1
  refine C_laws_heldCase ?_
  simp (maxSteps := 2000000) (disch := (first | omega | (simp only [List.length_append, List.length_take, List.length_replicate, List.length_map, List.length_set, List.length_cons, List.length_nil, List.length_zipWith, List.length_drop, List.length_range]; first | done | omega))) only [ir_laws_heldCase, go_sem, Nat.reduceAdd, Nat.reduceEqDiff, Nat.reduceLeDiff, Nat.reduceSub]
  simp (maxSteps := 2000000) (disch := (first | omega | (simp only [List.length_append, List.length_take, List.length_replicate, List.length_map, List.length_set, List.length_cons, List.length_nil, List.length_zipWith, List.length_drop, List.length_range]; first | done | omega))) only [go_sem, Nat.reduceAdd, Nat.reduceEqDiff, Nat.reduceLeDiff, Nat.reduceSub, h]
theorem laws_FnExactNewCase_ok (s : Spc) (hl : s.tasks.length < 2^63) (ht : ∀ t ∈ s.tasks, t.inn.length < 2^63 ∧ t.out.length < 2^63 ∧ t.cut.length < 2^63 ∧ t.stop.length < 2^63) : C f_laws_FnExactNewCase [encS s] [] = some (.bool true, []) := by
  have hsz := laws_szSpec_ok s 1048576 (by omega) (by omega) hl ht
  refine C_laws_FnExactNewCase ?_
  simp (maxSteps := 2000000) (disch := (first | omega | (simp only [List.length_append, List.length_take, List.length_replicate, List.length_map, List.length_set, List.length_cons, List.length_nil, List.length_zipWith, List.length_drop, List.length_range]; first | done | omega))) only [ir_laws_FnExactNewCase, go_sem, Nat.reduceAdd, Nat.reduceEqDiff, Nat.reduceLeDiff, Nat.reduceSub]
  simp (maxSteps := 2000000) (disch := (first | omega | (simp only [List.length_append, List.length_take, List.length_replicate, List.length_map, List.length_set, List.length_cons, List.length_nil, List.length_zipWith, List.length_drop, List.length_range]; first | done | omega))) only [go_sem, Nat.reduceAdd, Nat.reduceEqDiff, Nat.reduceLeDiff, Nat.reduceSub, hsz]
  refine fun h => ?_
  have hs := szS_smSpc h (by omega)
  have hsm := szS_small h (by omega)
  have hto := laws_toSpec_ok s (by omega) (fun t h => by have := hsm.2 t h; omega)
  have h1 := spec_NewCase_ok s hs
  have h2 := impl_NewCase_ok s hs
  have hmk := laws_markSpec_ok s.conds s.tasks t_impl_Task 1 (by omega) (fun t h => by have := hsm.2 t h; unfold mkLen; omega) (by omega) (by omega)
  have hmn := mkN_le (l := s.tasks) (fun t h => by have := hsm.2 t h; unfold mkLen; omega) s.tasks.length (by omega)
  cases hg : goodS s with
  | false =>
    rw [hg, if_neg (by simp)] at h1 h2
    have h0 : C f_laws_eqCase [.agg [I 0, .sl true 1 []], .agg [I 0, .sl true 1 []]] [] = some (.bool true, []) := by
      have := laws_eqCase_ok ⟨0, []⟩ ⟨0, []⟩ (by simp) (by simp)
      rw [decide_eq_true rfl] at this
      exact this
    have hm0 := laws_markCase_nil 0 1
    have hh0 : C f_laws_heldCase [.agg [I 0, .sl true 1 []], I 1] [] = some (I 1, []) := laws_heldCase_ok 0 1 0 (by omega) (by omega) (by omega)
    generalize mkP 1 s.tasks s.tasks.length = P at *
    simp (maxSteps := 2000000) (disch := (first | omega | (simp only [List.length_append, List.length_take, List.length_replicate, List.length_map, List.length_set, List.length_cons, List.length_nil, List.length_zipWith, List.length_drop, List.length_range]; first | done | omega))) only [go_sem, Nat.reduceAdd, Nat.reduceEqDiff, Nat.reduceLeDiff, Nat.reduceSub, hto, h1, h2, laws_eqSpec_ok s s hs hs, hmk, h0, hm0, hh0]
  | true =>
    rw [hg, if_pos rfl] at h1 h2
    obtain ⟨hc, hn, -⟩ := okTasks_parts (goodS_ok hg)
    have hL : (oneM (s.conds + s.tasks.length).toNat 0).length ≤ 20 := by simp [oneM]; omega
    generalize oneM (s.conds + s.tasks.length).toNat 0 = R at *
    have h0 : C f_laws_eqCase [.agg [I 1, ints R], .agg [I 1, ints R]] [] = some (.bool true, []) := by
      have := laws_eqCase_ok ⟨1, R⟩ ⟨1, R⟩ (by simp only; omega) (by simp only; omega)
      rw [decide_eq_true rfl] at this
      exact this
    have hm0 := laws_markCase_ok 1 R 1 t_int (by omega) (by omega) (by omega)
    have hh0 := laws_heldCase_ok 1 1 R.length (by omega) (by omega) (by omega)
    have hml := markL_len 1 R.length
    generalize mkP 1 s.tasks s.tasks.length = P at *
    simp (maxSteps := 2000000) (disch := (first | omega | (simp only [List.length_append, List.length_take, List.length_replicate, List.length_map, List.length_set, List.length_cons, List.length_nil, List.length_zipWith, List.length_drop, List.length_range]; first | done | omega))) only [go_sem, Nat.reduceAdd, Nat.reduceEqDiff, Nat.reduceLeDiff, Nat.reduceSub, hto, h1, h2, laws_eqSpec_ok s s hs hs, hmk, h0, hm0, hh0, hml]
end Go.Proofs.Ytblolnhajgmbdaa.Pi
