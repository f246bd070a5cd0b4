/- The functions that the law reaches: what they answer. Conditions: those that each theorem names. -/
import Derived.Test.YtoimodnlefadhaaIrFnExactSpecFlow
import Derived.Test.YtoimodnlefadhaaPlBase
import Derived.Test.YtoimodnlefadhaaPlNet
import Derived.Test.YtoimodnlefadhaaPlFire
import Derived.Test.YtoimodnlefadhaaPlTurn
import Derived.Test.YtoimodnlefadhaaPlBack
import Derived.Test.YtoimodnlefadhaaPlFlow
import Derived.Test.YtoimodnlefadhaaPlMask
import Derived.Test.YtoimodnlefadhaaPlSpec
import Derived.Test.YtoimodnlefadhaaPlArg
import Derived.Test.YtoimodnlefadhaaPlSiph
import Derived.Test.YtoimodnlefadhaaPlKept
import Derived.Test.YtoimodnlefadhaaFnFnExactSpecFlow0
namespace Go.Proofs.Ytoimodnlefadhaa.Pi
open Go
set_option linter.all false
set_option maxHeartbeats 40000000
set_option maxRecDepth 20000
theorem laws_eqTask_ok (a b : Tk) (ha : smTk a) (hb : smTk b) : C f_laws_eqTask [encK a, encK b] [] = some (.bool (decide (a = b)), []) := by
  obtain ⟨a1, a2, a3, a4⟩ := ha
  obtain ⟨b1, b2, b3, b4⟩ := hb
  have e : (a = b) ↔ a.join = b.join ∧ a.split = b.split ∧ a.inn = b.inn ∧ a.out = b.out ∧ a.cut = b.cut ∧ a.stop = b.stop ∧ a.role = b.role := by
    cases a; cases b; simp
  simp only [e]
  refine C_laws_eqTask ?_
  simp (maxSteps := 2000000) (disch := (first | omega | (simp only [List.length_append, List.length_take, List.length_replicate, List.length_map, List.length_set, List.length_cons, List.length_nil, List.length_zipWith, List.length_drop, List.length_range]; first | done | omega))) only [ir_laws_eqTask, go_sem, Nat.reduceAdd, Nat.reduceEqDiff, Nat.reduceLeDiff, Nat.reduceSub]
  refine ⟨fun h => by simp [h], fun h1 => ⟨fun h => by simp [h], fun h2 => ?_⟩⟩
  simp (maxSteps := 2000000) (disch := (first | omega | (simp only [List.length_append, List.length_take, List.length_replicate, List.length_map, List.length_set, List.length_cons, List.length_nil, List.length_zipWith, List.length_drop, List.length_range]; first | done | omega))) only [go_sem, Nat.reduceAdd, Nat.reduceEqDiff, Nat.reduceLeDiff, Nat.reduceSub, laws_eqIntS_ok]
  grind
theorem laws_eqTaskS_ok (a b : List Tk) (ha : a.length < 2^62) (hb : b.length < 2^62) (ha2 : ∀ t ∈ a, smTk t) (hb2 : ∀ t ∈ b, smTk t) : C f_laws_eqTaskS [tks a, tks b] [] = some (.bool (decide (a = b)), []) := by
  refine C_laws_eqTaskS ?_
  simp (maxSteps := 2000000) (disch := (first | omega | (simp only [List.length_append, List.length_take, List.length_replicate, List.length_map, List.length_set, List.length_cons, List.length_nil, List.length_zipWith, List.length_drop, List.length_range]; first | done | omega))) only [ir_laws_eqTaskS, go_sem, Nat.reduceAdd, Nat.reduceEqDiff, Nat.reduceLeDiff, Nat.reduceSub]
  refine ⟨fun h => ?_, fun h => ?_⟩
  · rw [decide_eq_false]
    rintro rfl
    omega
  have hl : a.length = b.length := by omega
  refine W_for a.length (fun k s => s = ⟨[tks a, tks b, .any, I k, .any, .any, .any], []⟩ ∧ a.take k = b.take k) ?_ ?_ ?_
  · simp (maxSteps := 2000000) (disch := (first | omega | (simp only [List.length_append, List.length_take, List.length_replicate, List.length_map, List.length_set, List.length_cons, List.length_nil, List.length_zipWith, List.length_drop, List.length_range]; first | done | omega))) only [go_sem, Nat.reduceAdd, Nat.reduceEqDiff, Nat.reduceLeDiff, Nat.reduceSub]
    rfl
  · rintro k s hk ⟨rfl, he⟩
    have hk2 : k < b.length := by omega
    simp (maxSteps := 2000000) (disch := (first | omega | (simp only [List.length_append, List.length_take, List.length_replicate, List.length_map, List.length_set, List.length_cons, List.length_nil, List.length_zipWith, List.length_drop, List.length_range]; first | done | omega))) only [go_sem, Nat.reduceAdd, Nat.reduceEqDiff, Nat.reduceLeDiff, Nat.reduceSub, laws_eqTask_ok _ _ (ha2 _ (List.getElem_mem hk)) (hb2 _ (List.getElem_mem hk2))]
    refine ⟨fun h => ⟨rfl, dec_take hk (by omega) he h⟩, fun h => ?_⟩
    rw [dec_ne hk (by omega) h]
  · rintro s ⟨rfl, he⟩
    simp (maxSteps := 2000000) (disch := (first | omega | (simp only [List.length_append, List.length_take, List.length_replicate, List.length_map, List.length_set, List.length_cons, List.length_nil, List.length_zipWith, List.length_drop, List.length_range]; first | done | omega))) only [go_sem, Nat.reduceAdd, Nat.reduceEqDiff, Nat.reduceLeDiff, Nat.reduceSub]
    rw [List.take_length, take_all (by omega)] at he
    simp [he]
theorem laws_eqSpec_ok (a b : Spc) (ha : smSpc a) (hb : smSpc b) : C f_laws_eqSpec [encS a, encS b] [] = some (.bool (decide (a = b)), []) := by
  obtain ⟨a1, a2⟩ := ha
  obtain ⟨b1, b2⟩ := hb
  have e : (a = b) ↔ a.conds = b.conds ∧ a.tasks = b.tasks := by
    cases a; cases b; simp
  simp only [e]
  refine C_laws_eqSpec ?_
  simp (maxSteps := 2000000) (disch := (first | omega | (simp only [List.length_append, List.length_take, List.length_replicate, List.length_map, List.length_set, List.length_cons, List.length_nil, List.length_zipWith, List.length_drop, List.length_range]; first | done | omega))) only [ir_laws_eqSpec, go_sem, Nat.reduceAdd, Nat.reduceEqDiff, Nat.reduceLeDiff, Nat.reduceSub]
  refine ⟨fun h => by simp [h], fun h1 => ?_⟩
  simp (maxSteps := 2000000) (disch := (first | omega | (simp only [List.length_append, List.length_take, List.length_replicate, List.length_map, List.length_set, List.length_cons, List.length_nil, List.length_zipWith, List.length_drop, List.length_range]; first | done | omega))) only [go_sem, Nat.reduceAdd, Nat.reduceEqDiff, Nat.reduceLeDiff, Nat.reduceSub, laws_eqTaskS_ok a.tasks b.tasks (by omega) (by omega) a2 b2]
  grind
theorem laws_markIntS_ok (l : List Int) (k : Int) (t : TypeId) (hl : l.length ≤ 2^36) (h0 : 0 ≤ k) (h1 : k < 2^61) : C f_laws_markIntS [.ref 0 1 0 l.length, I k] [.row t true 1 (l.map I)] = some (I (k + l.length), [.row t true 1 ((markL k l.length).map I)]) := by
  refine C_laws_markIntS ?_
  simp (maxSteps := 2000000) (disch := (first | omega | (simp only [List.length_append, List.length_take, List.length_replicate, List.length_map, List.length_set, List.length_cons, List.length_nil, List.length_zipWith, List.length_drop, List.length_range]; first | done | omega))) only [ir_laws_markIntS, go_sem, Nat.reduceAdd, Nat.reduceEqDiff, Nat.reduceLeDiff, Nat.reduceSub]
  refine W_for l.length (fun i s => s = ⟨[.ref 0 1 0 l.length, I (k + i), .any, I i, .any], [.row t true 1 ((markP k l i).map I)]⟩) ?_ ?_ ?_
  · simp (maxSteps := 2000000) (disch := (first | omega | (simp only [List.length_append, List.length_take, List.length_replicate, List.length_map, List.length_set, List.length_cons, List.length_nil, List.length_zipWith, List.length_drop, List.length_range]; first | done | omega))) only [go_sem, Nat.reduceAdd, Nat.reduceEqDiff, Nat.reduceLeDiff, Nat.reduceSub]
    rw [markP_zero]
    simp
  · rintro i s hi rfl
    have h2 := markP_len (k := k) (l := l) (i := i) (by omega)
    have h3 := markP_step (k := k) hi
    simp (maxSteps := 2000000) (disch := (first | omega | (simp only [List.length_append, List.length_take, List.length_replicate, List.length_map, List.length_set, List.length_cons, List.length_nil, List.length_zipWith, List.length_drop, List.length_range]; first | done | omega))) only [go_sem, Nat.reduceAdd, Nat.reduceEqDiff, Nat.reduceLeDiff, Nat.reduceSub, h2]
    rw [← h3]
    simp
    omega
  · rintro s rfl
    have h2 := markP_len (k := k) (l := l) (i := l.length) (by omega)
    simp (maxSteps := 2000000) (disch := (first | omega | (simp only [List.length_append, List.length_take, List.length_replicate, List.length_map, List.length_set, List.length_cons, List.length_nil, List.length_zipWith, List.length_drop, List.length_range]; first | done | omega))) only [go_sem, Nat.reduceAdd, Nat.reduceEqDiff, Nat.reduceLeDiff, Nat.reduceSub, h2]
    rw [markP_all]
theorem laws_markIntS_nil (k : Int) : C f_laws_markIntS [.sl true 1 [], I k] [] = some (I k, []) := by
  refine C_laws_markIntS ?_
  simp (maxSteps := 2000000) (disch := (first | omega | (simp only [List.length_append, List.length_take, List.length_replicate, List.length_map, List.length_set, List.length_cons, List.length_nil, List.length_zipWith, List.length_drop, List.length_range]; first | done | omega))) only [ir_laws_markIntS, go_sem, Nat.reduceAdd, Nat.reduceEqDiff, Nat.reduceLeDiff, Nat.reduceSub]
  refine W_for 0 (fun i s => s = ⟨[.sl true 1 [], I k, .any, I 0, .any], []⟩) ?_ ?_ ?_
  · simp (maxSteps := 2000000) (disch := (first | omega | (simp only [List.length_append, List.length_take, List.length_replicate, List.length_map, List.length_set, List.length_cons, List.length_nil, List.length_zipWith, List.length_drop, List.length_range]; first | done | omega))) only [go_sem, Nat.reduceAdd, Nat.reduceEqDiff, Nat.reduceLeDiff, Nat.reduceSub]
  · rintro i s hi rfl
    omega
  · rintro s rfl
    simp (maxSteps := 2000000) (disch := (first | omega | (simp only [List.length_append, List.length_take, List.length_replicate, List.length_map, List.length_set, List.length_cons, List.length_nil, List.length_zipWith, List.length_drop, List.length_range]; first | done | omega))) only [go_sem, Nat.reduceAdd, Nat.reduceEqDiff, Nat.reduceLeDiff, Nat.reduceSub]
/-- ... on a row that lies in a row. -/
theorem laws_markIntS_cell {sz off : Nat} {cs : List PV} (l : List Int) (k : Int) (hc : cs[off]? = some (ints l)) (hs : cs.length = sz) (hok : okE false sz (.agg cs) = true) (hl : l.length ≤ 2^36) (h0 : 0 ≤ k) (h1 : k < 2^61) :
    kcallV C f_laws_markIntS sz off (.agg cs) (I k) = some (I (k + l.length), .agg (cs.set off (ints (markL k l.length)))) := by
  refine kcallV_cell hc hs hok (by simp [markL_len]) (fun h => ?_) (fun h => ⟨0, ?_⟩)
  · have : l = [] := by simpa using h
    subst this
    simpa using laws_markIntS_nil k
  · have := laws_markIntS_ok l k 0 hl h0 h1
    simpa using this
theorem laws_markTaskS_c2 (l q r u : List Int) (x y z k : Int) (hl : l.length ≤ 2^36) (h0 : 0 ≤ k) (h1 : k < 2^61) : kcallV C f_laws_markIntS 7 2 (.agg [I x, I y, ints l, ints q, ints r, ints u, I z]) (I k) = some (I (k + l.length), .agg [I x, I y, ints (markL k l.length), ints q, ints r, ints u, I z]) :=
  laws_markIntS_cell l k rfl rfl rfl hl h0 h1
theorem laws_markTaskS_c3 (l q r u : List Int) (x y z k : Int) (hl : l.length ≤ 2^36) (h0 : 0 ≤ k) (h1 : k < 2^61) : kcallV C f_laws_markIntS 7 3 (.agg [I x, I y, ints q, ints l, ints r, ints u, I z]) (I k) = some (I (k + l.length), .agg [I x, I y, ints q, ints (markL k l.length), ints r, ints u, I z]) :=
  laws_markIntS_cell l k rfl rfl rfl hl h0 h1
theorem laws_markTaskS_c4 (l q r u : List Int) (x y z k : Int) (hl : l.length ≤ 2^36) (h0 : 0 ≤ k) (h1 : k < 2^61) : kcallV C f_laws_markIntS 7 4 (.agg [I x, I y, ints q, ints r, ints l, ints u, I z]) (I k) = some (I (k + l.length), .agg [I x, I y, ints q, ints r, ints (markL k l.length), ints u, I z]) :=
  laws_markIntS_cell l k rfl rfl rfl hl h0 h1
theorem laws_markTaskS_c5 (l q r u : List Int) (x y z k : Int) (hl : l.length ≤ 2^36) (h0 : 0 ≤ k) (h1 : k < 2^61) : kcallV C f_laws_markIntS 7 5 (.agg [I x, I y, ints q, ints r, ints u, ints l, I z]) (I k) = some (I (k + l.length), .agg [I x, I y, ints q, ints r, ints u, ints (markL k l.length), I z]) :=
  laws_markIntS_cell l k rfl rfl rfl hl h0 h1
theorem laws_markTaskS_ok (l : List Tk) (t : TypeId) (k : Int) (hl : l.length ≤ 2^20) (hb : ∀ t ∈ l, mkLen t ≤ 2^30) (h0 : 0 ≤ k) (h1 : k ≤ 1024) : C f_laws_markTaskS [.ref 0 7 0 l.length, I k] [.lin t 7 (l.map encK)] = some (I (k + mkN l l.length), [.lin t 7 ((mkP k l l.length).map encK)]) := by
  refine C_laws_markTaskS ?_
  simp (maxSteps := 2000000) (disch := (first | omega | (simp only [List.length_append, List.length_take, List.length_replicate, List.length_map, List.length_set, List.length_cons, List.length_nil, List.length_zipWith, List.length_drop, List.length_range]; first | done | omega))) only [ir_laws_markTaskS, go_sem, Nat.reduceAdd, Nat.reduceEqDiff, Nat.reduceLeDiff, Nat.reduceSub]
  refine W_for l.length (fun i st => st = ⟨[.ref 0 7 0 l.length, I (k + mkN l i), .any, I i, .any], [.lin t 7 ((mkP k l i).map encK)]⟩) ?_ ?_ ?_
  · simp (maxSteps := 2000000) (disch := (first | omega | (simp only [List.length_append, List.length_take, List.length_replicate, List.length_map, List.length_set, List.length_cons, List.length_nil, List.length_zipWith, List.length_drop, List.length_range]; first | done | omega))) only [go_sem, Nat.reduceAdd, Nat.reduceEqDiff, Nat.reduceLeDiff, Nat.reduceSub]
    simp [mkN, mkP]
  · rintro i st hi rfl
    have e1 : (mkP k l i).length = l.length := mkP_len k l i
    have e2 : (mkP k l i)[i]? = some l[i] := by rw [mkP_get k l i i (by omega), List.getElem?_eq_getElem hi]
    have e3 := mkN_le hb i (by omega)
    have e4 := hb _ (List.getElem_mem hi)
    have e5 := mkN_step hi
    have e6 := mkP_step (k := k) hi
    have e7 : mkLen l[i] = 3 + l[i].inn.length + l[i].out.length + l[i].cut.length + l[i].stop.length := rfl
    have e8 : i * 2^30 ≤ 2^20 * 2^30 := Nat.mul_le_mul_right _ (by omega)
    rw [e6, e5]
    generalize hM : mkP k l i = M at *
    generalize l[i] = t at *
    generalize hK : k + (mkN l i : Int) = K at *
    have e9 : 0 ≤ K ∧ K ≤ 2^51 := by omega
    simp (maxSteps := 2000000) (disch := (first | omega | (simp only [List.length_append, List.length_take, List.length_replicate, List.length_map, List.length_set, List.length_cons, List.length_nil, List.length_zipWith, List.length_drop, List.length_range]; first | done | omega))) only [go_sem, Nat.reduceAdd, Nat.reduceEqDiff, Nat.reduceLeDiff, Nat.reduceSub, e1, e2, laws_markTaskS_c2, laws_markTaskS_c3, laws_markTaskS_c4, laws_markTaskS_c5, List.getElem?_set_self, List.set_set]
    rw [show k + ((mkN l i + mkLen t : Nat) : Int) = K + 1 + 1 + t.inn.length + t.out.length + t.cut.length + t.stop.length + 1 by omega, List.map_set]
    rfl
  · rintro st rfl
    have e1 : (mkP k l l.length).length = l.length := mkP_len k l l.length
    simp (maxSteps := 2000000) (disch := (first | omega | (simp only [List.length_append, List.length_take, List.length_replicate, List.length_map, List.length_set, List.length_cons, List.length_nil, List.length_zipWith, List.length_drop, List.length_range]; first | done | omega))) only [go_sem, Nat.reduceAdd, Nat.reduceEqDiff, Nat.reduceLeDiff, Nat.reduceSub, e1]
theorem laws_markSpec_ok (c : Int) (l : List Tk) (t : TypeId) (k : Int) (hl : l.length ≤ 2^20) (hb : ∀ t ∈ l, mkLen t ≤ 2^30) (h0 : 0 ≤ k) (h1 : k ≤ 1024) : C f_laws_markSpec [.agg [I c, .ref 0 7 0 l.length], I k] [.lin t 7 (l.map encK)] = some (I (k + mkN l l.length), [.lin t 7 ((mkP k l l.length).map encK)]) := by
  have h := laws_markTaskS_ok l t k hl hb h0 h1
  refine C_laws_markSpec ?_
  simp (maxSteps := 2000000) (disch := (first | omega | (simp only [List.length_append, List.length_take, List.length_replicate, List.length_map, List.length_set, List.length_cons, List.length_nil, List.length_zipWith, List.length_drop, List.length_range]; first | done | omega))) only [ir_laws_markSpec, go_sem, Nat.reduceAdd, Nat.reduceEqDiff, Nat.reduceLeDiff, Nat.reduceSub]
  simp (maxSteps := 2000000) (disch := (first | omega | (simp only [List.length_append, List.length_take, List.length_replicate, List.length_map, List.length_set, List.length_cons, List.length_nil, List.length_zipWith, List.length_drop, List.length_range]; first | done | omega))) only [go_sem, Nat.reduceAdd, Nat.reduceEqDiff, Nat.reduceLeDiff, Nat.reduceSub, h]
theorem laws_markTransS_c0 (l q r : List Int) (k : Int) (hl : l.length ≤ 2^36) (h0 : 0 ≤ k) (h1 : k < 2^61) : kcallV C f_laws_markIntS 3 0 (.agg [ints l, ints q, ints r]) (I k) = some (I (k + l.length), .agg [ints (markL k l.length), ints q, ints r]) :=
  laws_markIntS_cell l k rfl rfl rfl hl h0 h1
theorem laws_markTransS_c1 (l q r : List Int) (k : Int) (hl : l.length ≤ 2^36) (h0 : 0 ≤ k) (h1 : k < 2^61) : kcallV C f_laws_markIntS 3 1 (.agg [ints q, ints l, ints r]) (I k) = some (I (k + l.length), .agg [ints q, ints (markL k l.length), ints r]) :=
  laws_markIntS_cell l k rfl rfl rfl hl h0 h1
theorem laws_markTransS_c2 (l q r : List Int) (k : Int) (hl : l.length ≤ 2^36) (h0 : 0 ≤ k) (h1 : k < 2^61) : kcallV C f_laws_markIntS 3 2 (.agg [ints q, ints r, ints l]) (I k) = some (I (k + l.length), .agg [ints q, ints r, ints (markL k l.length)]) :=
  laws_markIntS_cell l k rfl rfl rfl hl h0 h1
theorem laws_markTransS_ok (l : List Tr) (t : TypeId) (k : Int) (hl : l.length ≤ 2^20) (hb : ∀ t ∈ l, mtLen t ≤ 2^30) (h0 : 0 ≤ k) (h1 : k ≤ 2^40) : C f_laws_markTransS [.ref 0 3 0 l.length, I k] [.lin t 3 (l.map encT)] = some (I (k + mtN l l.length), [.lin t 3 ((mtP k l l.length).map encT)]) := by
  refine C_laws_markTransS ?_
  simp (maxSteps := 2000000) (disch := (first | omega | (simp only [List.length_append, List.length_take, List.length_replicate, List.length_map, List.length_set, List.length_cons, List.length_nil, List.length_zipWith, List.length_drop, List.length_range]; first | done | omega))) only [ir_laws_markTransS, go_sem, Nat.reduceAdd, Nat.reduceEqDiff, Nat.reduceLeDiff, Nat.reduceSub]
  refine W_for l.length (fun i st => st = ⟨[.ref 0 3 0 l.length, I (k + mtN l i), .any, I i, .any], [.lin t 3 ((mtP k l i).map encT)]⟩) ?_ ?_ ?_
  · simp (maxSteps := 2000000) (disch := (first | omega | (simp only [List.length_append, List.length_take, List.length_replicate, List.length_map, List.length_set, List.length_cons, List.length_nil, List.length_zipWith, List.length_drop, List.length_range]; first | done | omega))) only [go_sem, Nat.reduceAdd, Nat.reduceEqDiff, Nat.reduceLeDiff, Nat.reduceSub]
    simp [mtN, mtP]
  · rintro i st hi rfl
    have e1 : (mtP k l i).length = l.length := mtP_len k l i
    have e2 : (mtP k l i)[i]? = some l[i] := by rw [mtP_get k l i i (by omega), List.getElem?_eq_getElem hi]
    have e3 := mtN_le hb i (by omega)
    have e4 := hb _ (List.getElem_mem hi)
    have e5 := mtN_step hi
    have e6 := mtP_step (k := k) hi
    have e7 : mtLen l[i] = l[i].inn.length + l[i].out.length + l[i].rst.length := rfl
    have e8 : i * 2^30 ≤ 2^20 * 2^30 := Nat.mul_le_mul_right _ (by omega)
    rw [e6, e5]
    generalize hM : mtP k l i = M at *
    generalize l[i] = t at *
    generalize hK : k + (mtN l i : Int) = K at *
    have e9 : 0 ≤ K ∧ K ≤ 2^52 := by omega
    simp (maxSteps := 2000000) (disch := (first | omega | (simp only [List.length_append, List.length_take, List.length_replicate, List.length_map, List.length_set, List.length_cons, List.length_nil, List.length_zipWith, List.length_drop, List.length_range]; first | done | omega))) only [go_sem, Nat.reduceAdd, Nat.reduceEqDiff, Nat.reduceLeDiff, Nat.reduceSub, e1, e2, laws_markTransS_c0, laws_markTransS_c1, laws_markTransS_c2, List.getElem?_set_self, List.set_set]
    rw [show k + ((mtN l i + mtLen t : Nat) : Int) = K + t.inn.length + t.out.length + t.rst.length by omega, List.map_set]
    rfl
  · rintro st rfl
    have e1 : (mtP k l l.length).length = l.length := mtP_len k l l.length
    simp (maxSteps := 2000000) (disch := (first | omega | (simp only [List.length_append, List.length_take, List.length_replicate, List.length_map, List.length_set, List.length_cons, List.length_nil, List.length_zipWith, List.length_drop, List.length_range]; first | done | omega))) only [go_sem, Nat.reduceAdd, Nat.reduceEqDiff, Nat.reduceLeDiff, Nat.reduceSub, e1]
theorem laws_markTransS_nil (k : Int) : C f_laws_markTransS [.nil false 3, I k] [] = some (I k, []) := by
  refine C_laws_markTransS ?_
  simp (maxSteps := 2000000) (disch := (first | omega | (simp only [List.length_append, List.length_take, List.length_replicate, List.length_map, List.length_set, List.length_cons, List.length_nil, List.length_zipWith, List.length_drop, List.length_range]; first | done | omega))) only [ir_laws_markTransS, go_sem, Nat.reduceAdd, Nat.reduceEqDiff, Nat.reduceLeDiff, Nat.reduceSub]
  refine W_for 0 (fun i s => s = ⟨[.nil false 3, I k, .any, I 0, .any], []⟩) ?_ ?_ ?_
  · simp (maxSteps := 2000000) (disch := (first | omega | (simp only [List.length_append, List.length_take, List.length_replicate, List.length_map, List.length_set, List.length_cons, List.length_nil, List.length_zipWith, List.length_drop, List.length_range]; first | done | omega))) only [go_sem, Nat.reduceAdd, Nat.reduceEqDiff, Nat.reduceLeDiff, Nat.reduceSub]
  · rintro i s hi rfl
    omega
  · rintro s rfl
    simp (maxSteps := 2000000) (disch := (first | omega | (simp only [List.length_append, List.length_take, List.length_replicate, List.length_map, List.length_set, List.length_cons, List.length_nil, List.length_zipWith, List.length_drop, List.length_range]; first | done | omega))) only [go_sem, Nat.reduceAdd, Nat.reduceEqDiff, Nat.reduceLeDiff, Nat.reduceSub]
theorem laws_markNet_ok (c : Int) (l : List Tr) (t : TypeId) (k : Int) (hl : l.length ≤ 2^20) (hb : ∀ t ∈ l, mtLen t ≤ 2^30) (h0 : 0 ≤ k) (h1 : k ≤ 2^40) : C f_laws_markNet [.agg [I c, .ref 0 3 0 l.length], I k] [.lin t 3 (l.map encT)] = some (I (k + mtN l l.length), [.lin t 3 ((mtP k l l.length).map encT)]) := by
  have h := laws_markTransS_ok l t k hl hb h0 h1
  refine C_laws_markNet ?_
  simp (maxSteps := 2000000) (disch := (first | omega | (simp only [List.length_append, List.length_take, List.length_replicate, List.length_map, List.length_set, List.length_cons, List.length_nil, List.length_zipWith, List.length_drop, List.length_range]; first | done | omega))) only [ir_laws_markNet, go_sem, Nat.reduceAdd, Nat.reduceEqDiff, Nat.reduceLeDiff, Nat.reduceSub]
  simp (maxSteps := 2000000) (disch := (first | omega | (simp only [List.length_append, List.length_take, List.length_replicate, List.length_map, List.length_set, List.length_cons, List.length_nil, List.length_zipWith, List.length_drop, List.length_range]; first | done | omega))) only [go_sem, Nat.reduceAdd, Nat.reduceEqDiff, Nat.reduceLeDiff, Nat.reduceSub, h]
theorem laws_markNet_nil (c k : Int) : C f_laws_markNet [.agg [I c, .nil false 3], I k] [] = some (I k, []) := by
  have h := laws_markTransS_nil k
  refine C_laws_markNet ?_
  simp (maxSteps := 2000000) (disch := (first | omega | (simp only [List.length_append, List.length_take, List.length_replicate, List.length_map, List.length_set, List.length_cons, List.length_nil, List.length_zipWith, List.length_drop, List.length_range]; first | done | omega))) only [ir_laws_markNet, go_sem, Nat.reduceAdd, Nat.reduceEqDiff, Nat.reduceLeDiff, Nat.reduceSub]
  simp (maxSteps := 2000000) (disch := (first | omega | (simp only [List.length_append, List.length_take, List.length_replicate, List.length_map, List.length_set, List.length_cons, List.length_nil, List.length_zipWith, List.length_drop, List.length_range]; first | done | omega))) only [go_sem, Nat.reduceAdd, Nat.reduceEqDiff, Nat.reduceLeDiff, Nat.reduceSub, h]
theorem laws_markFlow_ok (c x y : Int) (l : List Tr) (t : TypeId) (k : Int) (hl : l.length ≤ 2^20) (hb : ∀ t ∈ l, mtLen t ≤ 2^30) (h0 : 0 ≤ k) (h1 : k ≤ 2^40) : C f_laws_markFlow [.agg [I c, .ref 0 3 0 l.length, I x, I y], I k] [.lin t 3 (l.map encT)] = some (I (k + mtN l l.length), [.lin t 3 ((mtP k l l.length).map encT)]) := by
  have h := laws_markNet_ok c l t k hl hb h0 h1
  refine C_laws_markFlow ?_
  simp (maxSteps := 2000000) (disch := (first | omega | (simp only [List.length_append, List.length_take, List.length_replicate, List.length_map, List.length_set, List.length_cons, List.length_nil, List.length_zipWith, List.length_drop, List.length_range]; first | done | omega))) only [ir_laws_markFlow, go_sem, Nat.reduceAdd, Nat.reduceEqDiff, Nat.reduceLeDiff, Nat.reduceSub]
  simp (maxSteps := 2000000) (disch := (first | omega | (simp only [List.length_append, List.length_take, List.length_replicate, List.length_map, List.length_set, List.length_cons, List.length_nil, List.length_zipWith, List.length_drop, List.length_range]; first | done | omega))) only [go_sem, Nat.reduceAdd, Nat.reduceEqDiff, Nat.reduceLeDiff, Nat.reduceSub, h]
theorem laws_markFlow_nil (c x y k : Int) : C f_laws_markFlow [.agg [I c, .nil false 3, I x, I y], I k] [] = some (I k, []) := by
  have h := laws_markNet_nil c k
  refine C_laws_markFlow ?_
  simp (maxSteps := 2000000) (disch := (first | omega | (simp only [List.length_append, List.length_take, List.length_replicate, List.length_map, List.length_set, List.length_cons, List.length_nil, List.length_zipWith, List.length_drop, List.length_range]; first | done | omega))) only [ir_laws_markFlow, go_sem, Nat.reduceAdd, Nat.reduceEqDiff, Nat.reduceLeDiff, Nat.reduceSub]
  simp (maxSteps := 2000000) (disch := (first | omega | (simp only [List.length_append, List.length_take, List.length_replicate, List.length_map, List.length_set, List.length_cons, List.length_nil, List.length_zipWith, List.length_drop, List.length_range]; first | done | omega))) only [go_sem, Nat.reduceAdd, Nat.reduceEqDiff, Nat.reduceLeDiff, Nat.reduceSub, h]
theorem laws_heldIntS_ok (k : Int) (n : Nat) (hl : n < 2^60) (h0 : 0 ≤ k) (h1 : k < 2^61) : C f_laws_heldIntS [ints (markL k n), I k] [] = some (I (k + n), []) := by
  have hn := markL_len k n
  refine C_laws_heldIntS ?_
  simp (maxSteps := 2000000) (disch := (first | omega | (simp only [List.length_append, List.length_take, List.length_replicate, List.length_map, List.length_set, List.length_cons, List.length_nil, List.length_zipWith, List.length_drop, List.length_range]; first | done | omega))) only [ir_laws_heldIntS, go_sem, Nat.reduceAdd, Nat.reduceEqDiff, Nat.reduceLeDiff, Nat.reduceSub]
  refine W_for n (fun i s => s = ⟨[ints (markL k n), I (k + i), .any, I i, .any, .any], []⟩) ?_ ?_ ?_
  · simp (maxSteps := 2000000) (disch := (first | omega | (simp only [List.length_append, List.length_take, List.length_replicate, List.length_map, List.length_set, List.length_cons, List.length_nil, List.length_zipWith, List.length_drop, List.length_range]; first | done | omega))) only [go_sem, Nat.reduceAdd, Nat.reduceEqDiff, Nat.reduceLeDiff, Nat.reduceSub]
    simp
  · rintro i s hi rfl
    have e : (markL k n)[i]? = some (k + i) := by simp [markL, hi]
    simp (maxSteps := 2000000) (disch := (first | omega | (simp only [List.length_append, List.length_take, List.length_replicate, List.length_map, List.length_set, List.length_cons, List.length_nil, List.length_zipWith, List.length_drop, List.length_range]; first | done | omega))) only [go_sem, Nat.reduceAdd, Nat.reduceEqDiff, Nat.reduceLeDiff, Nat.reduceSub, hn, e]
    rw [show k + ((i + 1 : Nat) : Int) = k + i + 1 by omega]
    rfl
  · rintro s rfl
    simp (maxSteps := 2000000) (disch := (first | omega | (simp only [List.length_append, List.length_take, List.length_replicate, List.length_map, List.length_set, List.length_cons, List.length_nil, List.length_zipWith, List.length_drop, List.length_range]; first | done | omega))) only [go_sem, Nat.reduceAdd, Nat.reduceEqDiff, Nat.reduceLeDiff, Nat.reduceSub, hn]
theorem laws_heldTransS_ok (l : List Tr) (k : Int) (hl : l.length ≤ 2^20) (hb : ∀ t ∈ l, mtLen t ≤ 2^30) (h0 : 0 ≤ k) (h1 : k ≤ 2^40) : C f_laws_heldTransS [trs (mtP k l l.length), I k] [] = some (I (k + mtN l l.length), []) := by
  have hn := mtP_len k l l.length
  refine C_laws_heldTransS ?_
  simp (maxSteps := 2000000) (disch := (first | omega | (simp only [List.length_append, List.length_take, List.length_replicate, List.length_map, List.length_set, List.length_cons, List.length_nil, List.length_zipWith, List.length_drop, List.length_range]; first | done | omega))) only [ir_laws_heldTransS, go_sem, Nat.reduceAdd, Nat.reduceEqDiff, Nat.reduceLeDiff, Nat.reduceSub]
  refine W_for l.length (fun i st => st = ⟨[trs (mtP k l l.length), I (k + mtN l i), .any, I i, .any, .any, .any, .any], []⟩) ?_ ?_ ?_
  · simp (maxSteps := 2000000) (disch := (first | omega | (simp only [List.length_append, List.length_take, List.length_replicate, List.length_map, List.length_set, List.length_cons, List.length_nil, List.length_zipWith, List.length_drop, List.length_range]; first | done | omega))) only [go_sem, Nat.reduceAdd, Nat.reduceEqDiff, Nat.reduceLeDiff, Nat.reduceSub]
    simp [mtN]
  · rintro i st hi rfl
    have e := mtP_got k l l.length i hi hi
    have e3 := mtN_le hb i (by omega)
    have e4 := hb _ (List.getElem_mem hi)
    have e5 := mtN_step hi
    have e7 := mtLen_eq l[i]
    have e8 : i * 2^30 ≤ 2^20 * 2^30 := Nat.mul_le_mul_right _ (by omega)
    rw [e5]
    generalize mtP k l l.length = M at *
    generalize l[i] = t at *
    generalize hK : k + (mtN l i : Int) = K at *
    have e9 : 0 ≤ K ∧ K ≤ 2^52 := by omega
    have d1 := laws_heldIntS_ok K t.inn.length (by omega) (by omega) (by omega)
    have d2 := laws_heldIntS_ok (K + t.inn.length) t.out.length (by omega) (by omega) (by omega)
    have d3 := laws_heldIntS_ok (K + t.inn.length + t.out.length) t.rst.length (by omega) (by omega) (by omega)
    unfold mtTr at e
    simp (maxSteps := 2000000) (disch := (first | omega | (simp only [List.length_append, List.length_take, List.length_replicate, List.length_map, List.length_set, List.length_cons, List.length_nil, List.length_zipWith, List.length_drop, List.length_range]; first | done | omega))) only [go_sem, Nat.reduceAdd, Nat.reduceEqDiff, Nat.reduceLeDiff, Nat.reduceSub, hn, e, d1, d2, d3]
    rw [show k + ((mtN l i + mtLen t : Nat) : Int) = K + t.inn.length + t.out.length + t.rst.length by omega]
    rfl
  · rintro st rfl
    simp (maxSteps := 2000000) (disch := (first | omega | (simp only [List.length_append, List.length_take, List.length_replicate, List.length_map, List.length_set, List.length_cons, List.length_nil, List.length_zipWith, List.length_drop, List.length_range]; first | done | omega))) only [go_sem, Nat.reduceAdd, Nat.reduceEqDiff, Nat.reduceLeDiff, Nat.reduceSub, hn]
theorem laws_heldNet_ok (c : Int) (l : List Tr) (k : Int) (hl : l.length ≤ 2^20) (hb : ∀ t ∈ l, mtLen t ≤ 2^30) (h0 : 0 ≤ k) (h1 : k ≤ 2^40) : C f_laws_heldNet [.agg [I c, trs (mtP k l l.length)], I k] [] = some (I (k + mtN l l.length), []) := by
  have h := laws_heldTransS_ok l k hl hb h0 h1
  have hN := mtN_le hb l.length (by omega)
  have e8 : l.length * 2^30 ≤ 2^20 * 2^30 := Nat.mul_le_mul_right _ (by omega)
  refine C_laws_heldNet ?_
  simp (maxSteps := 2000000) (disch := (first | omega | (simp only [List.length_append, List.length_take, List.length_replicate, List.length_map, List.length_set, List.length_cons, List.length_nil, List.length_zipWith, List.length_drop, List.length_range]; first | done | omega))) only [ir_laws_heldNet, go_sem, Nat.reduceAdd, Nat.reduceEqDiff, Nat.reduceLeDiff, Nat.reduceSub]
  simp (maxSteps := 2000000) (disch := (first | omega | (simp only [List.length_append, List.length_take, List.length_replicate, List.length_map, List.length_set, List.length_cons, List.length_nil, List.length_zipWith, List.length_drop, List.length_range]; first | done | omega))) only [go_sem, Nat.reduceAdd, Nat.reduceEqDiff, Nat.reduceLeDiff, Nat.reduceSub, h]
theorem laws_heldFlow_ok (c x y : Int) (l : List Tr) (k : Int) (hl : l.length ≤ 2^20) (hb : ∀ t ∈ l, mtLen t ≤ 2^30) (h0 : 0 ≤ k) (h1 : k ≤ 2^40) : C f_laws_heldFlow [.agg [I c, trs (mtP k l l.length), I x, I y], I k] [] = some (I (k + mtN l l.length), []) := by
  have h := laws_heldNet_ok c l k hl hb h0 h1
  have hN := mtN_le hb l.length (by omega)
  have e8 : l.length * 2^30 ≤ 2^20 * 2^30 := Nat.mul_le_mul_right _ (by omega)
  refine C_laws_heldFlow ?_
  simp (maxSteps := 2000000) (disch := (first | omega | (simp only [List.length_append, List.length_take, List.length_replicate, List.length_map, List.length_set, List.length_cons, List.length_nil, List.length_zipWith, List.length_drop, List.length_range]; first | done | omega))) only [ir_laws_heldFlow, go_sem, Nat.reduceAdd, Nat.reduceEqDiff, Nat.reduceLeDiff, Nat.reduceSub]
  simp (maxSteps := 2000000) (disch := (first | omega | (simp only [List.length_append, List.length_take, List.length_replicate, List.length_map, List.length_set, List.length_cons, List.length_nil, List.length_zipWith, List.length_drop, List.length_range]; first | done | omega))) only [go_sem, Nat.reduceAdd, Nat.reduceEqDiff, Nat.reduceLeDiff, Nat.reduceSub, h]
theorem laws_FnExactSpecFlow_ok (s : Spc) (hl : s.tasks.length < 2^63) (ht : ∀ t ∈ s.tasks, t.inn.length < 2^63 ∧ t.out.length < 2^63 ∧ t.cut.length < 2^63 ∧ t.stop.length < 2^63) : C f_laws_FnExactSpecFlow [encS s] [] = some (.bool true, []) := by
  have hsz := laws_szSpec_ok s 1048576 (by omega) (by omega) hl ht
  refine C_laws_FnExactSpecFlow ?_
  simp (maxSteps := 2000000) (disch := (first | omega | (simp only [List.length_append, List.length_take, List.length_replicate, List.length_map, List.length_set, List.length_cons, List.length_nil, List.length_zipWith, List.length_drop, List.length_range]; first | done | omega))) only [ir_laws_FnExactSpecFlow, go_sem, Nat.reduceAdd, Nat.reduceEqDiff, Nat.reduceLeDiff, Nat.reduceSub]
  simp (maxSteps := 2000000) (disch := (first | omega | (simp only [List.length_append, List.length_take, List.length_replicate, List.length_map, List.length_set, List.length_cons, List.length_nil, List.length_zipWith, List.length_drop, List.length_range]; first | done | omega))) only [go_sem, Nat.reduceAdd, Nat.reduceEqDiff, Nat.reduceLeDiff, Nat.reduceSub, hsz]
  refine fun h => ?_
  have hs := szS_smSpc h (by omega)
  have hsm := szS_small h (by omega)
  have hto := laws_toSpec_ok s (by omega) (fun t h => by have := hsm.2 t h; omega)
  have hmk := laws_markSpec_ok s.conds s.tasks t_impl_Task 1 (by omega) (fun t h => by have := hsm.2 t h; unfold mkLen; omega) (by omega) (by omega)
  have hmn := mkN_le (l := s.tasks) (fun t h => by have := hsm.2 t h; unfold mkLen; omega) s.tasks.length (by omega)
  have hmn2 : s.tasks.length * 2^30 ≤ 1048576 * 2^30 := Nat.mul_le_mul_right _ (by omega)
  generalize mkP 1 s.tasks s.tasks.length = P at *
  cases hg : goodS s with
  | false =>
    have h1 := spec_SpecFlow_no s hs hg
    have h2 := impl_SpecFlow_no s hs hg
    have h3 : C f_laws_eqFlow [.agg [I 0, .sl false 3 [], I 0, I 0], .agg [I 0, .sl false 3 [], I 0, I 0]] [] = some (.bool true, []) := by
      have := laws_eqFlow_ok ⟨⟨0, []⟩, 0, 0⟩ ⟨⟨0, []⟩, 0, 0⟩ ⟨by simp, by simp⟩ ⟨by simp, by simp⟩
      rw [decide_eq_true ⟨rfl, rfl, rfl⟩] at this
      exact this
    have h4 := laws_markFlow_nil 0 0 0 1
    have h5 : C f_laws_heldFlow [.agg [I 0, .sl false 3 [], I 0, I 0], I 1] [] = some (I 1, []) := laws_heldFlow_ok 0 0 0 [] 1 (by simp) (by simp) (by omega) (by omega)
    simp (maxSteps := 2000000) (disch := (first | omega | (simp only [List.length_append, List.length_take, List.length_replicate, List.length_map, List.length_set, List.length_cons, List.length_nil, List.length_zipWith, List.length_drop, List.length_range]; first | done | omega))) only [go_sem, Nat.reduceAdd, Nat.reduceEqDiff, Nat.reduceLeDiff, Nat.reduceSub, hto, h1, h2, laws_eqSpec_ok s s hs hs, hmk, h3, h4, h5]
  | true =>
    have h1 := spec_SpecFlow_ok s hs hg
    have h2 := impl_SpecFlow_ok s hs hg
    have hfl := flS_sm (goodS_ok hg)
    have h3 := laws_eqFlow_ok (flS s) (flS s) hfl hfl
    rw [decide_eq_true ⟨rfl, rfl, rfl⟩] at h3
    unfold encF at h3
    rw [show (flS s).src = 0 from rfl, show (flS s).dst = 1 from rfl] at h3
    have hb : ∀ t ∈ (flS s).net.tr, mtLen t ≤ 2^30 := by
      intro t ht
      have hgf : goodFl (flS s) = true := by simp only [goodS, Bool.and_eq_true] at hg; exact hg.2
      have hgn := (goodFl_parts hgf).1
      have hgT := (goodN_parts hgn).2.2.2 t ht
      have := goodT_lens hgT ⟨by have := (goodN_parts hgn).1; omega, (goodN_parts hgn).2.1⟩
      unfold mtLen; omega
    have hlt : (flS s).net.tr.length ≤ 60 := by
      have e : (trS s).length = (mvS s).length := trU_len s s.tasks.length
      have h3 := mvU_len (goodS_ok hg) s.tasks.length (by omega)
      have := (okTasks_parts (goodS_ok hg)).2.1
      unfold mvS at e
      show (trS s).length ≤ 60
      omega
    have h4 := laws_markFlow_ok (flS s).net.pl 0 1 (flS s).net.tr t_impl_Trans 1 (by omega) hb (by omega) (by omega)
    have h5 := laws_heldFlow_ok (flS s).net.pl 0 1 (flS s).net.tr 1 (by omega) hb (by omega) (by omega)
    have h6 := mtP_len 1 (flS s).net.tr (flS s).net.tr.length
    have h7 := mtN_le hb (flS s).net.tr.length (by omega)
    generalize mtP 1 (flS s).net.tr (flS s).net.tr.length = M at *
    generalize (flS s).net.tr = T at *
    generalize (flS s).net.pl = p at *
    simp (maxSteps := 2000000) (disch := (first | omega | (simp only [List.length_append, List.length_take, List.length_replicate, List.length_map, List.length_set, List.length_cons, List.length_nil, List.length_zipWith, List.length_drop, List.length_range]; first | done | omega))) only [go_sem, Nat.reduceAdd, Nat.reduceEqDiff, Nat.reduceLeDiff, Nat.reduceSub, hto, h1, h2, laws_eqSpec_ok s s hs hs, hmk, h3, h4, h5, h6]
end Go.Proofs.Ytoimodnlefadhaa.Pi
