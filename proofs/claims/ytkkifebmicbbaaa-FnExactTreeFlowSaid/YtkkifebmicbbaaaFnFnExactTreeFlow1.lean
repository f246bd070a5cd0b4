/- The functions that the law reaches: what they answer. Conditions: those that each theorem names. -/
import Derived.Test.YtkkifebmicbbaaaIrFnExactTreeFlow
import Derived.Test.YtkkifebmicbbaaaPlBase
import Derived.Test.YtkkifebmicbbaaaPlNet
import Derived.Test.YtkkifebmicbbaaaPlFire
import Derived.Test.YtkkifebmicbbaaaPlTurn
import Derived.Test.YtkkifebmicbbaaaPlBack
import Derived.Test.YtkkifebmicbbaaaPlFlow
import Derived.Test.YtkkifebmicbbaaaPlMask
import Derived.Test.YtkkifebmicbbaaaPlSpec
import Derived.Test.YtkkifebmicbbaaaPlArg
import Derived.Test.YtkkifebmicbbaaaPlTree
import Derived.Test.YtkkifebmicbbaaaPlText
import Derived.Test.YtkkifebmicbbaaaPlTf
import Derived.Test.YtkkifebmicbbaaaFnFnExactTreeFlow0
namespace Go.Proofs.Ytkkifebmicbbaaa.Pi
open Go
set_option linter.all false
set_option maxHeartbeats 40000000
set_option maxRecDepth 20000
theorem laws_eqBranch_ok (a b : Br) : C f_laws_eqBranch [encB a, encB b] [] = some (.bool (decide (a = b)), []) := by
  have e : (a = b) ↔ a.op = b.op ∧ a.n = b.n := by cases a; cases b; simp
  simp only [e]
  refine C_laws_eqBranch ?_
  simp (maxSteps := 2000000) (disch := (first | omega | (simp only [List.length_append, List.length_take, List.length_replicate, List.length_map, List.length_set, List.length_cons, List.length_nil, List.length_zipWith, List.length_drop, List.length_range]; first | done | omega))) only [ir_laws_eqBranch, go_sem, Nat.reduceAdd, Nat.reduceEqDiff, Nat.reduceLeDiff, Nat.reduceSub]
  grind
theorem laws_eqBranchS_ok (a b : List Br) (ha : a.length < 2^62) (hb : b.length < 2^62) : C f_laws_eqBranchS [brs a, brs b] [] = some (.bool (decide (a = b)), []) := by
  refine C_laws_eqBranchS ?_
  simp (maxSteps := 2000000) (disch := (first | omega | (simp only [List.length_append, List.length_take, List.length_replicate, List.length_map, List.length_set, List.length_cons, List.length_nil, List.length_zipWith, List.length_drop, List.length_range]; first | done | omega))) only [ir_laws_eqBranchS, go_sem, Nat.reduceAdd, Nat.reduceEqDiff, Nat.reduceLeDiff, Nat.reduceSub]
  refine ⟨fun h => ?_, fun h => ?_⟩
  · rw [decide_eq_false]
    rintro rfl
    omega
  have hl : a.length = b.length := by omega
  refine W_for a.length (fun k s => s = ⟨[brs a, brs b, .any, I k, .any, .any, .any], []⟩ ∧ a.take k = b.take k) ?_ ?_ ?_
  · simp (maxSteps := 2000000) (disch := (first | omega | (simp only [List.length_append, List.length_take, List.length_replicate, List.length_map, List.length_set, List.length_cons, List.length_nil, List.length_zipWith, List.length_drop, List.length_range]; first | done | omega))) only [go_sem, Nat.reduceAdd, Nat.reduceEqDiff, Nat.reduceLeDiff, Nat.reduceSub]
    rfl
  · rintro k s hk ⟨rfl, he⟩
    have hk2 : k < b.length := by omega
    simp (maxSteps := 2000000) (disch := (first | omega | (simp only [List.length_append, List.length_take, List.length_replicate, List.length_map, List.length_set, List.length_cons, List.length_nil, List.length_zipWith, List.length_drop, List.length_range]; first | done | omega))) only [go_sem, Nat.reduceAdd, Nat.reduceEqDiff, Nat.reduceLeDiff, Nat.reduceSub, laws_eqBranch_ok]
    refine ⟨fun h => ⟨rfl, dec_take hk (by omega) he h⟩, fun h => ?_⟩
    rw [dec_ne hk (by omega) h]
  · rintro s ⟨rfl, he⟩
    simp (maxSteps := 2000000) (disch := (first | omega | (simp only [List.length_append, List.length_take, List.length_replicate, List.length_map, List.length_set, List.length_cons, List.length_nil, List.length_zipWith, List.length_drop, List.length_range]; first | done | omega))) only [go_sem, Nat.reduceAdd, Nat.reduceEqDiff, Nat.reduceLeDiff, Nat.reduceSub]
    rw [List.take_length, take_all (by omega)] at he
    simp [he]
theorem laws_markBranchS_ok (l : List Br) (k : Int) (t : TypeId) (hl : l.length ≤ 2^36) (h0 : 0 ≤ k) (h1 : k < 2^60) : C f_laws_markBranchS [.ref 0 2 0 l.length, I k] [.row t true 2 (l.map encB)] = some (I (k + 2 * (l.length : Int)), [.row t true 2 ((mkBrs k l.length).map encB)]) := by
  refine C_laws_markBranchS ?_
  simp (maxSteps := 2000000) (disch := (first | omega | (simp only [List.length_append, List.length_take, List.length_replicate, List.length_map, List.length_set, List.length_cons, List.length_nil, List.length_zipWith, List.length_drop, List.length_range]; first | done | omega))) only [ir_laws_markBranchS, go_sem, Nat.reduceAdd, Nat.reduceEqDiff, Nat.reduceLeDiff, Nat.reduceSub]
  refine W_for l.length (fun i st => st = ⟨[.ref 0 2 0 l.length, I (k + 2 * (i : Int)), .any, I i, .any], [.row t true 2 ((mkBrP k l i).map encB)]⟩) ?_ ?_ ?_
  · simp (maxSteps := 2000000) (disch := (first | omega | (simp only [List.length_append, List.length_take, List.length_replicate, List.length_map, List.length_set, List.length_cons, List.length_nil, List.length_zipWith, List.length_drop, List.length_range]; first | done | omega))) only [go_sem, Nat.reduceAdd, Nat.reduceEqDiff, Nat.reduceLeDiff, Nat.reduceSub]
    simp [mkBrP_zero]
  · rintro i st hi rfl
    have e1 := mkBrP_len (k := k) (l := l) (i := i) (by omega)
    have e2 := mkBrP_get (k := k) hi
    have e3 := mkBrP_step (k := k) hi
    rw [← e3]
    generalize mkBrP k l i = M at *
    simp (maxSteps := 2000000) (disch := (first | omega | (simp only [List.length_append, List.length_take, List.length_replicate, List.length_map, List.length_set, List.length_cons, List.length_nil, List.length_zipWith, List.length_drop, List.length_range]; first | done | omega))) only [go_sem, Nat.reduceAdd, Nat.reduceEqDiff, Nat.reduceLeDiff, Nat.reduceSub, e1, e2, List.getElem?_set_self, List.set_set]
    rw [List.map_set]
    unfold mkBr
    have ek : k + 2 * ((i + 1 : Nat) : Int) = k + 2 * (i : Int) + 1 + 1 := by omega
    rw [ek]
    rfl
  · rintro st rfl
    have e1 := mkBrP_len (k := k) (l := l) (i := l.length) (by omega)
    simp (maxSteps := 2000000) (disch := (first | omega | (simp only [List.length_append, List.length_take, List.length_replicate, List.length_map, List.length_set, List.length_cons, List.length_nil, List.length_zipWith, List.length_drop, List.length_range]; first | done | omega))) only [go_sem, Nat.reduceAdd, Nat.reduceEqDiff, Nat.reduceLeDiff, Nat.reduceSub, e1]
    rw [mkBrP_all]
theorem laws_markIntS_ok (l : List Int) (k : Int) (t : TypeId) (hl : l.length ≤ 2^36) (h0 : 0 ≤ k) (h1 : k < 2^61) : C f_laws_markIntS [.ref 0 1 0 l.length, I k] [.row t true 1 (l.map I)] = some (I (k + l.length), [.row t true 1 ((markL k l.length).map I)]) := by
  refine C_laws_markIntS ?_
  simp (maxSteps := 2000000) (disch := (first | omega | (simp only [List.length_append, List.length_take, List.length_replicate, List.length_map, List.length_set, List.length_cons, List.length_nil, List.length_zipWith, List.length_drop, List.length_range]; first | done | omega))) only [ir_laws_markIntS, go_sem, Nat.reduceAdd, Nat.reduceEqDiff, Nat.reduceLeDiff, Nat.reduceSub]
  refine W_for l.length (fun i s => s = ⟨[.ref 0 1 0 l.length, I (k + i), .any, I i, .any], [.row t true 1 ((markP k l i).map I)]⟩) ?_ ?_ ?_
  · simp (maxSteps := 2000000) (disch := (first | omega | (simp only [List.length_append, List.length_take, List.length_replicate, List.length_map, List.length_set, List.length_cons, List.length_nil, List.length_zipWith, List.length_drop, List.length_range]; first | done | omega))) only [go_sem, Nat.reduceAdd, Nat.reduceEqDiff, Nat.reduceLeDiff, Nat.reduceSub]
    rw [markP_zero]
    simp
  · rintro i s hi rfl
    have h2 := markP_len (k := k) (l := l) (i := i) (by omega)
    have h3 := markP_step (k := k) hi
    simp (maxSteps := 2000000) (disch := (first | omega | (simp only [List.length_append, List.length_take, List.length_replicate, List.length_map, List.length_set, List.length_cons, List.length_nil, List.length_zipWith, List.length_drop, List.length_range]; first | done | omega))) only [go_sem, Nat.reduceAdd, Nat.reduceEqDiff, Nat.reduceLeDiff, Nat.reduceSub, h2]
    rw [← h3]
    simp
    omega
  · rintro s rfl
    have h2 := markP_len (k := k) (l := l) (i := l.length) (by omega)
    simp (maxSteps := 2000000) (disch := (first | omega | (simp only [List.length_append, List.length_take, List.length_replicate, List.length_map, List.length_set, List.length_cons, List.length_nil, List.length_zipWith, List.length_drop, List.length_range]; first | done | omega))) only [go_sem, Nat.reduceAdd, Nat.reduceEqDiff, Nat.reduceLeDiff, Nat.reduceSub, h2]
    rw [markP_all]
theorem laws_markIntS_nil (k : Int) : C f_laws_markIntS [.sl true 1 [], I k] [] = some (I k, []) := by
  refine C_laws_markIntS ?_
  simp (maxSteps := 2000000) (disch := (first | omega | (simp only [List.length_append, List.length_take, List.length_replicate, List.length_map, List.length_set, List.length_cons, List.length_nil, List.length_zipWith, List.length_drop, List.length_range]; first | done | omega))) only [ir_laws_markIntS, go_sem, Nat.reduceAdd, Nat.reduceEqDiff, Nat.reduceLeDiff, Nat.reduceSub]
  refine W_for 0 (fun i s => s = ⟨[.sl true 1 [], I k, .any, I 0, .any], []⟩) ?_ ?_ ?_
  · simp (maxSteps := 2000000) (disch := (first | omega | (simp only [List.length_append, List.length_take, List.length_replicate, List.length_map, List.length_set, List.length_cons, List.length_nil, List.length_zipWith, List.length_drop, List.length_range]; first | done | omega))) only [go_sem, Nat.reduceAdd, Nat.reduceEqDiff, Nat.reduceLeDiff, Nat.reduceSub]
  · rintro i s hi rfl
    omega
  · rintro s rfl
    simp (maxSteps := 2000000) (disch := (first | omega | (simp only [List.length_append, List.length_take, List.length_replicate, List.length_map, List.length_set, List.length_cons, List.length_nil, List.length_zipWith, List.length_drop, List.length_range]; first | done | omega))) only [go_sem, Nat.reduceAdd, Nat.reduceEqDiff, Nat.reduceLeDiff, Nat.reduceSub]
/-- ... on a row that lies in a row. -/
theorem laws_markIntS_cell {sz off : Nat} {cs : List PV} (l : List Int) (k : Int) (hc : cs[off]? = some (ints l)) (hs : cs.length = sz) (hok : okE false sz (.agg cs) = true) (hl : l.length ≤ 2^36) (h0 : 0 ≤ k) (h1 : k < 2^61) :
    kcallV C f_laws_markIntS sz off (.agg cs) (I k) = some (I (k + l.length), .agg (cs.set off (ints (markL k l.length)))) := by
  refine kcallV_cell hc hs hok (by simp [markL_len]) (fun h => ?_) (fun h => ⟨0, ?_⟩)
  · have : l = [] := by simpa using h
    subst this
    simpa using laws_markIntS_nil k
  · have := laws_markIntS_ok l k 0 hl h0 h1
    simpa using this
theorem laws_markTransS_c0 (l q r : List Int) (k : Int) (hl : l.length ≤ 2^36) (h0 : 0 ≤ k) (h1 : k < 2^61) : kcallV C f_laws_markIntS 3 0 (.agg [ints l, ints q, ints r]) (I k) = some (I (k + l.length), .agg [ints (markL k l.length), ints q, ints r]) :=
  laws_markIntS_cell l k rfl rfl rfl hl h0 h1
theorem laws_markTransS_c1 (l q r : List Int) (k : Int) (hl : l.length ≤ 2^36) (h0 : 0 ≤ k) (h1 : k < 2^61) : kcallV C f_laws_markIntS 3 1 (.agg [ints q, ints l, ints r]) (I k) = some (I (k + l.length), .agg [ints q, ints (markL k l.length), ints r]) :=
  laws_markIntS_cell l k rfl rfl rfl hl h0 h1
theorem laws_markTransS_c2 (l q r : List Int) (k : Int) (hl : l.length ≤ 2^36) (h0 : 0 ≤ k) (h1 : k < 2^61) : kcallV C f_laws_markIntS 3 2 (.agg [ints q, ints r, ints l]) (I k) = some (I (k + l.length), .agg [ints q, ints r, ints (markL k l.length)]) :=
  laws_markIntS_cell l k rfl rfl rfl hl h0 h1
theorem laws_markTransS_ok (l : List Tr) (t : TypeId) (k : Int) (hl : l.length ≤ 2^20) (hb : ∀ t ∈ l, mtLen t ≤ 2^30) (h0 : 0 ≤ k) (h1 : k ≤ 2^40) : C f_laws_markTransS [.ref 0 3 0 l.length, I k] [.lin t 3 (l.map encT)] = some (I (k + mtN l l.length), [.lin t 3 ((mtP k l l.length).map encT)]) := by
  refine C_laws_markTransS ?_
  simp (maxSteps := 2000000) (disch := (first | omega | (simp only [List.length_append, List.length_take, List.length_replicate, List.length_map, List.length_set, List.length_cons, List.length_nil, List.length_zipWith, List.length_drop, List.length_range]; first | done | omega))) only [ir_laws_markTransS, go_sem, Nat.reduceAdd, Nat.reduceEqDiff, Nat.reduceLeDiff, Nat.reduceSub]
  refine W_for l.length (fun i st => st = ⟨[.ref 0 3 0 l.length, I (k + mtN l i), .any, I i, .any], [.lin t 3 ((mtP k l i).map encT)]⟩) ?_ ?_ ?_
  · simp (maxSteps := 2000000) (disch := (first | omega | (simp only [List.length_append, List.length_take, List.length_replicate, List.length_map, List.length_set, List.length_cons, List.length_nil, List.length_zipWith, List.length_drop, List.length_range]; first | done | omega))) only [go_sem, Nat.reduceAdd, Nat.reduceEqDiff, Nat.reduceLeDiff, Nat.reduceSub]
    simp [mtN, mtP]
  · rintro i st hi rfl
    have e1 : (mtP k l i).length = l.length := mtP_len k l i
    have e2 : (mtP k l i)[i]? = some l[i] := by rw [mtP_get k l i i (by omega), List.getElem?_eq_getElem hi]
    have e3 := mtN_le hb i (by omega)
    have e4 := hb _ (List.getElem_mem hi)
    have e5 := mtN_step hi
    have e6 := mtP_step (k := k) hi
    have e7 : mtLen l[i] = l[i].inn.length + l[i].out.length + l[i].rst.length := rfl
    have e8 : i * 2^30 ≤ 2^20 * 2^30 := Nat.mul_le_mul_right _ (by omega)
    rw [e6, e5]
    generalize hM : mtP k l i = M at *
    generalize l[i] = t at *
    generalize hK : k + (mtN l i : Int) = K at *
    have e9 : 0 ≤ K ∧ K ≤ 2^52 := by omega
    simp (maxSteps := 2000000) (disch := (first | omega | (simp only [List.length_append, List.length_take, List.length_replicate, List.length_map, List.length_set, List.length_cons, List.length_nil, List.length_zipWith, List.length_drop, List.length_range]; first | done | omega))) only [go_sem, Nat.reduceAdd, Nat.reduceEqDiff, Nat.reduceLeDiff, Nat.reduceSub, e1, e2, laws_markTransS_c0, laws_markTransS_c1, laws_markTransS_c2, List.getElem?_set_self, List.set_set]
    rw [show k + ((mtN l i + mtLen t : Nat) : Int) = K + t.inn.length + t.out.length + t.rst.length by omega, List.map_set]
    rfl
  · rintro st rfl
    have e1 : (mtP k l l.length).length = l.length := mtP_len k l l.length
    simp (maxSteps := 2000000) (disch := (first | omega | (simp only [List.length_append, List.length_take, List.length_replicate, List.length_map, List.length_set, List.length_cons, List.length_nil, List.length_zipWith, List.length_drop, List.length_range]; first | done | omega))) only [go_sem, Nat.reduceAdd, Nat.reduceEqDiff, Nat.reduceLeDiff, Nat.reduceSub, e1]
theorem laws_markTransS_nil (k : Int) : C f_laws_markTransS [.nil false 3, I k] [] = some (I k, []) := by
  refine C_laws_markTransS ?_
  simp (maxSteps := 2000000) (disch := (first | omega | (simp only [List.length_append, List.length_take, List.length_replicate, List.length_map, List.length_set, List.length_cons, List.length_nil, List.length_zipWith, List.length_drop, List.length_range]; first | done | omega))) only [ir_laws_markTransS, go_sem, Nat.reduceAdd, Nat.reduceEqDiff, Nat.reduceLeDiff, Nat.reduceSub]
  refine W_for 0 (fun i s => s = ⟨[.nil false 3, I k, .any, I 0, .any], []⟩) ?_ ?_ ?_
  · simp (maxSteps := 2000000) (disch := (first | omega | (simp only [List.length_append, List.length_take, List.length_replicate, List.length_map, List.length_set, List.length_cons, List.length_nil, List.length_zipWith, List.length_drop, List.length_range]; first | done | omega))) only [go_sem, Nat.reduceAdd, Nat.reduceEqDiff, Nat.reduceLeDiff, Nat.reduceSub]
  · rintro i s hi rfl
    omega
  · rintro s rfl
    simp (maxSteps := 2000000) (disch := (first | omega | (simp only [List.length_append, List.length_take, List.length_replicate, List.length_map, List.length_set, List.length_cons, List.length_nil, List.length_zipWith, List.length_drop, List.length_range]; first | done | omega))) only [go_sem, Nat.reduceAdd, Nat.reduceEqDiff, Nat.reduceLeDiff, Nat.reduceSub]
theorem laws_markNet_ok (c : Int) (l : List Tr) (t : TypeId) (k : Int) (hl : l.length ≤ 2^20) (hb : ∀ t ∈ l, mtLen t ≤ 2^30) (h0 : 0 ≤ k) (h1 : k ≤ 2^40) : C f_laws_markNet [.agg [I c, .ref 0 3 0 l.length], I k] [.lin t 3 (l.map encT)] = some (I (k + mtN l l.length), [.lin t 3 ((mtP k l l.length).map encT)]) := by
  have h := laws_markTransS_ok l t k hl hb h0 h1
  refine C_laws_markNet ?_
  simp (maxSteps := 2000000) (disch := (first | omega | (simp only [List.length_append, List.length_take, List.length_replicate, List.length_map, List.length_set, List.length_cons, List.length_nil, List.length_zipWith, List.length_drop, List.length_range]; first | done | omega))) only [ir_laws_markNet, go_sem, Nat.reduceAdd, Nat.reduceEqDiff, Nat.reduceLeDiff, Nat.reduceSub]
  simp (maxSteps := 2000000) (disch := (first | omega | (simp only [List.length_append, List.length_take, List.length_replicate, List.length_map, List.length_set, List.length_cons, List.length_nil, List.length_zipWith, List.length_drop, List.length_range]; first | done | omega))) only [go_sem, Nat.reduceAdd, Nat.reduceEqDiff, Nat.reduceLeDiff, Nat.reduceSub, h]
theorem laws_markNet_nil (c k : Int) : C f_laws_markNet [.agg [I c, .nil false 3], I k] [] = some (I k, []) := by
  have h := laws_markTransS_nil k
  refine C_laws_markNet ?_
  simp (maxSteps := 2000000) (disch := (first | omega | (simp only [List.length_append, List.length_take, List.length_replicate, List.length_map, List.length_set, List.length_cons, List.length_nil, List.length_zipWith, List.length_drop, List.length_range]; first | done | omega))) only [ir_laws_markNet, go_sem, Nat.reduceAdd, Nat.reduceEqDiff, Nat.reduceLeDiff, Nat.reduceSub]
  simp (maxSteps := 2000000) (disch := (first | omega | (simp only [List.length_append, List.length_take, List.length_replicate, List.length_map, List.length_set, List.length_cons, List.length_nil, List.length_zipWith, List.length_drop, List.length_range]; first | done | omega))) only [go_sem, Nat.reduceAdd, Nat.reduceEqDiff, Nat.reduceLeDiff, Nat.reduceSub, h]
theorem laws_markFlow_ok (c x y : Int) (l : List Tr) (t : TypeId) (k : Int) (hl : l.length ≤ 2^20) (hb : ∀ t ∈ l, mtLen t ≤ 2^30) (h0 : 0 ≤ k) (h1 : k ≤ 2^40) : C f_laws_markFlow [.agg [I c, .ref 0 3 0 l.length, I x, I y], I k] [.lin t 3 (l.map encT)] = some (I (k + mtN l l.length), [.lin t 3 ((mtP k l l.length).map encT)]) := by
  have h := laws_markNet_ok c l t k hl hb h0 h1
  refine C_laws_markFlow ?_
  simp (maxSteps := 2000000) (disch := (first | omega | (simp only [List.length_append, List.length_take, List.length_replicate, List.length_map, List.length_set, List.length_cons, List.length_nil, List.length_zipWith, List.length_drop, List.length_range]; first | done | omega))) only [ir_laws_markFlow, go_sem, Nat.reduceAdd, Nat.reduceEqDiff, Nat.reduceLeDiff, Nat.reduceSub]
  simp (maxSteps := 2000000) (disch := (first | omega | (simp only [List.length_append, List.length_take, List.length_replicate, List.length_map, List.length_set, List.length_cons, List.length_nil, List.length_zipWith, List.length_drop, List.length_range]; first | done | omega))) only [go_sem, Nat.reduceAdd, Nat.reduceEqDiff, Nat.reduceLeDiff, Nat.reduceSub, h]
theorem laws_markFlow_nil (c x y k : Int) : C f_laws_markFlow [.agg [I c, .nil false 3, I x, I y], I k] [] = some (I k, []) := by
  have h := laws_markNet_nil c k
  refine C_laws_markFlow ?_
  simp (maxSteps := 2000000) (disch := (first | omega | (simp only [List.length_append, List.length_take, List.length_replicate, List.length_map, List.length_set, List.length_cons, List.length_nil, List.length_zipWith, List.length_drop, List.length_range]; first | done | omega))) only [ir_laws_markFlow, go_sem, Nat.reduceAdd, Nat.reduceEqDiff, Nat.reduceLeDiff, Nat.reduceSub]
  simp (maxSteps := 2000000) (disch := (first | omega | (simp only [List.length_append, List.length_take, List.length_replicate, List.length_map, List.length_set, List.length_cons, List.length_nil, List.length_zipWith, List.length_drop, List.length_range]; first | done | omega))) only [go_sem, Nat.reduceAdd, Nat.reduceEqDiff, Nat.reduceLeDiff, Nat.reduceSub, h]
theorem laws_heldIntS_ok (k : Int) (n : Nat) (hl : n < 2^60) (h0 : 0 ≤ k) (h1 : k < 2^61) : C f_laws_heldIntS [ints (markL k n), I k] [] = some (I (k + n), []) := by
  have hn := markL_len k n
  refine C_laws_heldIntS ?_
  simp (maxSteps := 2000000) (disch := (first | omega | (simp only [List.length_append, List.length_take, List.length_replicate, List.length_map, List.length_set, List.length_cons, List.length_nil, List.length_zipWith, List.length_drop, List.length_range]; first | done | omega))) only [ir_laws_heldIntS, go_sem, Nat.reduceAdd, Nat.reduceEqDiff, Nat.reduceLeDiff, Nat.reduceSub]
  refine W_for n (fun i s => s = ⟨[ints (markL k n), I (k + i), .any, I i, .any, .any], []⟩) ?_ ?_ ?_
  · simp (maxSteps := 2000000) (disch := (first | omega | (simp only [List.length_append, List.length_take, List.length_replicate, List.length_map, List.length_set, List.length_cons, List.length_nil, List.length_zipWith, List.length_drop, List.length_range]; first | done | omega))) only [go_sem, Nat.reduceAdd, Nat.reduceEqDiff, Nat.reduceLeDiff, Nat.reduceSub]
    simp
  · rintro i s hi rfl
    have e : (markL k n)[i]? = some (k + i) := by simp [markL, hi]
    simp (maxSteps := 2000000) (disch := (first | omega | (simp only [List.length_append, List.length_take, List.length_replicate, List.length_map, List.length_set, List.length_cons, List.length_nil, List.length_zipWith, List.length_drop, List.length_range]; first | done | omega))) only [go_sem, Nat.reduceAdd, Nat.reduceEqDiff, Nat.reduceLeDiff, Nat.reduceSub, hn, e]
    rw [show k + ((i + 1 : Nat) : Int) = k + i + 1 by omega]
    rfl
  · rintro s rfl
    simp (maxSteps := 2000000) (disch := (first | omega | (simp only [List.length_append, List.length_take, List.length_replicate, List.length_map, List.length_set, List.length_cons, List.length_nil, List.length_zipWith, List.length_drop, List.length_range]; first | done | omega))) only [go_sem, Nat.reduceAdd, Nat.reduceEqDiff, Nat.reduceLeDiff, Nat.reduceSub, hn]
theorem laws_heldTransS_ok (l : List Tr) (k : Int) (hl : l.length ≤ 2^20) (hb : ∀ t ∈ l, mtLen t ≤ 2^30) (h0 : 0 ≤ k) (h1 : k ≤ 2^40) : C f_laws_heldTransS [trs (mtP k l l.length), I k] [] = some (I (k + mtN l l.length), []) := by
  have hn := mtP_len k l l.length
  refine C_laws_heldTransS ?_
  simp (maxSteps := 2000000) (disch := (first | omega | (simp only [List.length_append, List.length_take, List.length_replicate, List.length_map, List.length_set, List.length_cons, List.length_nil, List.length_zipWith, List.length_drop, List.length_range]; first | done | omega))) only [ir_laws_heldTransS, go_sem, Nat.reduceAdd, Nat.reduceEqDiff, Nat.reduceLeDiff, Nat.reduceSub]
  refine W_for l.length (fun i st => st = ⟨[trs (mtP k l l.length), I (k + mtN l i), .any, I i, .any, .any, .any, .any], []⟩) ?_ ?_ ?_
  · simp (maxSteps := 2000000) (disch := (first | omega | (simp only [List.length_append, List.length_take, List.length_replicate, List.length_map, List.length_set, List.length_cons, List.length_nil, List.length_zipWith, List.length_drop, List.length_range]; first | done | omega))) only [go_sem, Nat.reduceAdd, Nat.reduceEqDiff, Nat.reduceLeDiff, Nat.reduceSub]
    simp [mtN]
  · rintro i st hi rfl
    have e := mtP_got k l l.length i hi hi
    have e3 := mtN_le hb i (by omega)
    have e4 := hb _ (List.getElem_mem hi)
    have e5 := mtN_step hi
    have e7 := mtLen_eq l[i]
    have e8 : i * 2^30 ≤ 2^20 * 2^30 := Nat.mul_le_mul_right _ (by omega)
    rw [e5]
    generalize mtP k l l.length = M at *
    generalize l[i] = t at *
    generalize hK : k + (mtN l i : Int) = K at *
    have e9 : 0 ≤ K ∧ K ≤ 2^52 := by omega
    have d1 := laws_heldIntS_ok K t.inn.length (by omega) (by omega) (by omega)
    have d2 := laws_heldIntS_ok (K + t.inn.length) t.out.length (by omega) (by omega) (by omega)
    have d3 := laws_heldIntS_ok (K + t.inn.length + t.out.length) t.rst.length (by omega) (by omega) (by omega)
    unfold mtTr at e
    simp (maxSteps := 2000000) (disch := (first | omega | (simp only [List.length_append, List.length_take, List.length_replicate, List.length_map, List.length_set, List.length_cons, List.length_nil, List.length_zipWith, List.length_drop, List.length_range]; first | done | omega))) only [go_sem, Nat.reduceAdd, Nat.reduceEqDiff, Nat.reduceLeDiff, Nat.reduceSub, hn, e, d1, d2, d3]
    rw [show k + ((mtN l i + mtLen t : Nat) : Int) = K + t.inn.length + t.out.length + t.rst.length by omega]
    rfl
  · rintro st rfl
    simp (maxSteps := 2000000) (disch := (first | omega | (simp only [List.length_append, List.length_take, List.length_replicate, List.length_map, List.length_set, List.length_cons, List.length_nil, List.length_zipWith, List.length_drop, List.length_range]; first | done | omega))) only [go_sem, Nat.reduceAdd, Nat.reduceEqDiff, Nat.reduceLeDiff, Nat.reduceSub, hn]
theorem laws_heldNet_ok (c : Int) (l : List Tr) (k : Int) (hl : l.length ≤ 2^20) (hb : ∀ t ∈ l, mtLen t ≤ 2^30) (h0 : 0 ≤ k) (h1 : k ≤ 2^40) : C f_laws_heldNet [.agg [I c, trs (mtP k l l.length)], I k] [] = some (I (k + mtN l l.length), []) := by
  have h := laws_heldTransS_ok l k hl hb h0 h1
  have hN := mtN_le hb l.length (by omega)
  have e8 : l.length * 2^30 ≤ 2^20 * 2^30 := Nat.mul_le_mul_right _ (by omega)
  refine C_laws_heldNet ?_
  simp (maxSteps := 2000000) (disch := (first | omega | (simp only [List.length_append, List.length_take, List.length_replicate, List.length_map, List.length_set, List.length_cons, List.length_nil, List.length_zipWith, List.length_drop, List.length_range]; first | done | omega))) only [ir_laws_heldNet, go_sem, Nat.reduceAdd, Nat.reduceEqDiff, Nat.reduceLeDiff, Nat.reduceSub]
  simp (maxSteps := 2000000) (disch := (first | omega | (simp only [List.length_append, List.length_take, List.length_replicate, List.length_map, List.length_set, List.length_cons, List.length_nil, List.length_zipWith, List.length_drop, List.length_range]; first | done | omega))) only [go_sem, Nat.reduceAdd, Nat.reduceEqDiff, Nat.reduceLeDiff, Nat.reduceSub, h]
theorem laws_heldFlow_ok (c x y : Int) (l : List Tr) (k : Int) (hl : l.length ≤ 2^20) (hb : ∀ t ∈ l, mtLen t ≤ 2^30) (h0 : 0 ≤ k) (h1 : k ≤ 2^40) : C f_laws_heldFlow [.agg [I c, trs (mtP k l l.length), I x, I y], I k] [] = some (I (k + mtN l l.length), []) := by
  have h := laws_heldNet_ok c l k hl hb h0 h1
  have hN := mtN_le hb l.length (by omega)
  have e8 : l.length * 2^30 ≤ 2^20 * 2^30 := Nat.mul_le_mul_right _ (by omega)
  refine C_laws_heldFlow ?_
  simp (maxSteps := 2000000) (disch := (first | omega | (simp only [List.length_append, List.length_take, List.length_replicate, List.length_map, List.length_set, List.length_cons, List.length_nil, List.length_zipWith, List.length_drop, List.length_range]; first | done | omega))) only [ir_laws_heldFlow, go_sem, Nat.reduceAdd, Nat.reduceEqDiff, Nat.reduceLeDiff, Nat.reduceSub]
  simp (maxSteps := 2000000) (disch := (first | omega | (simp only [List.length_append, List.length_take, List.length_replicate, List.length_map, List.length_set, List.length_cons, List.length_nil, List.length_zipWith, List.length_drop, List.length_range]; first | done | omega))) only [go_sem, Nat.reduceAdd, Nat.reduceEqDiff, Nat.reduceLeDiff, Nat.reduceSub, h]
theorem laws_FnExactTreeFlow_ok (l : List Br) (hl : l.length < 2^63) : C f_laws_FnExactTreeFlow [brs l] [] = some (.bool true, []) := by
  have hsz := laws_szBranchS_ok l 1048576 (by omega) (by omega) hl
  refine C_laws_FnExactTreeFlow ?_
  simp (maxSteps := 2000000) (disch := (first | omega | (simp only [List.length_append, List.length_take, List.length_replicate, List.length_map, List.length_set, List.length_cons, List.length_nil, List.length_zipWith, List.length_drop, List.length_range]; first | done | omega))) only [ir_laws_FnExactTreeFlow, go_sem, Nat.reduceAdd, Nat.reduceEqDiff, Nat.reduceLeDiff, Nat.reduceSub]
  by_cases hneg : (1048576 : Int) - l.length < 0
  · rw [if_pos hneg] at hsz
    simp (maxSteps := 2000000) (disch := (first | omega | (simp only [List.length_append, List.length_take, List.length_replicate, List.length_map, List.length_set, List.length_cons, List.length_nil, List.length_zipWith, List.length_drop, List.length_range]; first | done | omega))) only [go_sem, Nat.reduceAdd, Nat.reduceEqDiff, Nat.reduceLeDiff, Nat.reduceSub, hsz]
  rw [if_neg hneg] at hsz
  have hto := laws_toBranchS_ok l (by omega)
  have h1 := spec_TreeFlow_ok l (by omega)
  have h2 := impl_TreeFlow_ok l (by omega)
  have h3 := laws_eqBranchS_ok l l (by omega) (by omega)
  have h4 := laws_markBranchS_ok l 1 t_impl_Branch (by omega) (by omega) (by omega)
  have hV : ∀ r, tfV l = some r → ∃ T : PT, T.post.length ≤ 15 ∧ r = (T.flow, T.all.lt) := by
    intro r hr
    cases g : goodTree l with
    | false => rw [tfV_bad g] at hr; cases hr
    | true =>
      obtain ⟨h15, T, hw, hp, hT⟩ := goodTree_ok g
      rw [tfV_good g hT] at hr
      split at hr
      · exact ⟨T, by rw [hp]; exact h15, (Option.some.inj hr).symm⟩
      · cases hr
  cases hv : tfV l with
  | none =>
    rw [hv] at h1 h2
    have h5 : C f_laws_eqFlow [.agg [I 0, .sl false 3 [], I 0, I 0], .agg [I 0, .sl false 3 [], I 0, I 0]] [] = some (.bool true, []) := by
      have := laws_eqFlow_ok ⟨⟨0, []⟩, 0, 0⟩ ⟨⟨0, []⟩, 0, 0⟩ ⟨by simp, by simp⟩ ⟨by simp, by simp⟩
      rw [decide_eq_true ⟨rfl, rfl, rfl⟩] at this
      exact this
    have h6 := laws_markFlow_nil 0 0 0 1
    have h7 : C f_laws_heldFlow [.agg [I 0, .sl false 3 [], I 0, I 0], I 1] [] = some (I 1, []) := laws_heldFlow_ok 0 0 0 [] 1 (by simp) (by simp) (by omega) (by omega)
    have h8 : C f_laws_eqIntS [.sl true 1 [], .sl true 1 []] [] = some (.bool true, []) := laws_eqIntS_ok [] [] (by simp) (by simp)
    have h9 : C f_laws_markIntS [.ref 0 1 0 0, I 1] [.row t_int true 1 []] = some (I 1, [.row t_int true 1 []]) := laws_markIntS_ok [] 1 t_int (by simp) (by omega) (by omega)
    have h10 : C f_laws_heldIntS [.sl true 1 [], I 1] [] = some (I 1, []) := laws_heldIntS_ok 1 0 (by omega) (by omega) (by omega)
    simp (maxSteps := 2000000) (disch := (first | omega | (simp only [List.length_append, List.length_take, List.length_replicate, List.length_map, List.length_set, List.length_cons, List.length_nil, List.length_zipWith, List.length_drop, List.length_range]; first | done | omega))) only [go_sem, Nat.reduceAdd, Nat.reduceEqDiff, Nat.reduceLeDiff, Nat.reduceSub, hsz, hto, h1, h2, h3, h4, h5, h6, h7, h8, h9, h10]
  | some r =>
    obtain ⟨T, hT, rfl⟩ := hV r hv
    rw [hv] at h1 h2
    have sm := T.flow_sm hT
    have ok := T.all_ok
    have small := T.all_small
    unfold PT.flow at h1 h2 sm
    generalize T.all = B at *
    obtain ⟨p1, t1, l1⟩ := B
    simp only at ok small h1 h2 sm
    have hb : ∀ t ∈ t1, mtLen t ≤ 2^30 := fun t ht => by have := small t ht; unfold mtLen; omega
    have hmn := mtN_le hb t1.length (by omega)
    have hmn2 : t1.length * 2^30 ≤ 1048576 * 2^30 := Nat.mul_le_mul_right _ (by omega)
    have h5 := laws_eqFlow_ok ⟨⟨p1, t1⟩, 0, 1⟩ ⟨⟨p1, t1⟩, 0, 1⟩ sm sm
    rw [decide_eq_true ⟨rfl, rfl, rfl⟩] at h5
    unfold encF at h5
    have h6 := laws_markFlow_ok p1 0 1 t1 t_impl_Trans 1 (by omega) hb (by omega) (by omega)
    have h7 := laws_heldFlow_ok p1 0 1 t1 1 (by omega) hb (by omega) (by omega)
    have h8 := laws_eqIntS_ok l1 l1 (by omega) (by omega)
    have h9 := laws_markIntS_ok l1 (1 + mtN t1 t1.length) t_int (by omega) (by omega) (by omega)
    have h10 := laws_heldIntS_ok (1 + mtN t1 t1.length) l1.length (by omega) (by omega) (by omega)
    have h11 := mtP_len 1 t1 t1.length
    have h12 := markL_len (1 + mtN t1 t1.length) l1.length
    generalize mtP 1 t1 t1.length = M at *
    generalize markL (1 + mtN t1 t1.length) l1.length = K at *
    generalize mtN t1 t1.length = m at *
    simp (maxSteps := 2000000) (disch := (first | omega | (simp only [List.length_append, List.length_take, List.length_replicate, List.length_map, List.length_set, List.length_cons, List.length_nil, List.length_zipWith, List.length_drop, List.length_range]; first | done | omega))) only [go_sem, Nat.reduceAdd, Nat.reduceEqDiff, Nat.reduceLeDiff, Nat.reduceSub, hsz, hto, h1, h2, h3, h4, h5, h6, h7, h8, h9, h10, h11, h12]
end Go.Proofs.Ytkkifebmicbbaaa.Pi
