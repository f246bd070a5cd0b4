/- The functions that the law reaches: what they answer. Conditions: those that each theorem names. -/
import Derived.Test.YtkkifebmicbbaaaIrFnExactFusePlaces
import Derived.Test.YtkkifebmicbbaaaPlBase
import Derived.Test.YtkkifebmicbbaaaPlNet
import Derived.Test.YtkkifebmicbbaaaPlFire
import Derived.Test.YtkkifebmicbbaaaPlTurn
import Derived.Test.YtkkifebmicbbaaaPlBack
import Derived.Test.YtkkifebmicbbaaaPlFlow
import Derived.Test.YtkkifebmicbbaaaPlMask
import Derived.Test.YtkkifebmicbbaaaPlSpec
import Derived.Test.YtkkifebmicbbaaaPlArg
import Derived.Test.YtkkifebmicbbaaaPlDrop
import Derived.Test.YtkkifebmicbbaaaPlFuse
import Derived.Test.YtkkifebmicbbaaaPlFus
import Derived.Test.YtkkifebmicbbaaaPlSiph
namespace Go.Proofs.Ytkkifebmicbbaaa.Pi
open Go
set_option linter.all false
set_option maxHeartbeats 4000000
set_option maxRecDepth 20000
theorem laws_szIntS_ok (l : List Int) (left : Int) (h0 : 0 ≤ left) (h1 : left ≤ 1048576) (hl : l.length < 2^63) : C f_laws_szIntS [ints l, I left] [] = some (I (if left - l.length < 0 then -1 else left - l.length), []) := by
  refine C_laws_szIntS ?_
  simp (maxSteps := 2000000) (disch := (first | omega | (simp only [List.length_append, List.length_take, List.length_replicate, List.length_map, List.length_set, List.length_cons, List.length_nil, List.length_zipWith, List.length_drop, List.length_range]; first | done | omega))) only [ir_laws_szIntS, go_sem, Nat.reduceAdd, Nat.reduceEqDiff, Nat.reduceLeDiff, Nat.reduceSub]
  refine ⟨fun h => by rw [if_pos h], fun h => by rw [if_neg (by omega)]⟩
theorem laws_szTrans_ok (t : Tr) (left : Int) (h0 : 0 ≤ left) (h1 : left ≤ 1048576) (ht : t.inn.length < 2^63 ∧ t.out.length < 2^63 ∧ t.rst.length < 2^63) : C f_laws_szTrans [encT t, I left] [] = some (I (szT t left), []) := by
  obtain ⟨a, b, c⟩ := ht
  refine C_laws_szTrans ?_
  simp (maxSteps := 2000000) (disch := (first | omega | (simp only [List.length_append, List.length_take, List.length_replicate, List.length_map, List.length_set, List.length_cons, List.length_nil, List.length_zipWith, List.length_drop, List.length_range]; first | done | omega))) only [ir_laws_szTrans, go_sem, Nat.reduceAdd, Nat.reduceEqDiff, Nat.reduceLeDiff, Nat.reduceSub]
  by_cases e1 : left - t.inn.length < 0
  · simp (maxSteps := 2000000) (disch := (first | omega | (simp only [List.length_append, List.length_take, List.length_replicate, List.length_map, List.length_set, List.length_cons, List.length_nil, List.length_zipWith, List.length_drop, List.length_range]; first | done | omega))) only [go_sem, Nat.reduceAdd, Nat.reduceEqDiff, Nat.reduceLeDiff, Nat.reduceSub, laws_szIntS_ok, e1]
    simp [szT, szL, lensT, e1]
  by_cases e2 : left - t.inn.length - t.out.length < 0
  · simp (maxSteps := 2000000) (disch := (first | omega | (simp only [List.length_append, List.length_take, List.length_replicate, List.length_map, List.length_set, List.length_cons, List.length_nil, List.length_zipWith, List.length_drop, List.length_range]; first | done | omega))) only [go_sem, Nat.reduceAdd, Nat.reduceEqDiff, Nat.reduceLeDiff, Nat.reduceSub, laws_szIntS_ok, e1, e2]
    simp [szT, szL, lensT, e1, e2]
  by_cases e3 : left - t.inn.length - t.out.length - t.rst.length < 0
  · simp (maxSteps := 2000000) (disch := (first | omega | (simp only [List.length_append, List.length_take, List.length_replicate, List.length_map, List.length_set, List.length_cons, List.length_nil, List.length_zipWith, List.length_drop, List.length_range]; first | done | omega))) only [go_sem, Nat.reduceAdd, Nat.reduceEqDiff, Nat.reduceLeDiff, Nat.reduceSub, laws_szIntS_ok, e1, e2, e3]
    simp [szT, szL, lensT, e1, e2, e3]
  simp (maxSteps := 2000000) (disch := (first | omega | (simp only [List.length_append, List.length_take, List.length_replicate, List.length_map, List.length_set, List.length_cons, List.length_nil, List.length_zipWith, List.length_drop, List.length_range]; first | done | omega))) only [go_sem, Nat.reduceAdd, Nat.reduceEqDiff, Nat.reduceLeDiff, Nat.reduceSub, laws_szIntS_ok, e1, e2, e3]
  simp [szT, szL, lensT, e1, e2, e3]
theorem laws_szTransS_ok (l : List Tr) (left : Int) (h0 : 0 ≤ left) (h1 : left ≤ 1048576) (hl : l.length < 2^63) (ht : ∀ t ∈ l, t.inn.length < 2^63 ∧ t.out.length < 2^63 ∧ t.rst.length < 2^63) :
    C f_laws_szTransS [trs l, I left] [] = some (I (if left - l.length < 0 then -1 else szTs l (left - l.length)), []) := by
  refine C_laws_szTransS ?_
  simp (maxSteps := 2000000) (disch := (first | omega | (simp only [List.length_append, List.length_take, List.length_replicate, List.length_map, List.length_set, List.length_cons, List.length_nil, List.length_zipWith, List.length_drop, List.length_range]; first | done | omega))) only [ir_laws_szTransS, go_sem, Nat.reduceAdd, Nat.reduceEqDiff, Nat.reduceLeDiff, Nat.reduceSub]
  refine ⟨fun h => by rw [if_pos h], fun h => ?_⟩
  rw [if_neg (by omega)]
  refine W_for l.length (fun k s => s = ⟨[trs l, I (szTs (l.take k) (left - l.length)), .any, I k, .any, .any, .any], []⟩ ∧ 0 ≤ szTs (l.take k) (left - l.length)) ?_ ?_ ?_
  · simp (maxSteps := 2000000) (disch := (first | omega | (simp only [List.length_append, List.length_take, List.length_replicate, List.length_map, List.length_set, List.length_cons, List.length_nil, List.length_zipWith, List.length_drop, List.length_range]; first | done | omega))) only [go_sem, Nat.reduceAdd, Nat.reduceEqDiff, Nat.reduceLeDiff, Nat.reduceSub]
    simp [szTs, szL]
    omega
  · rintro k s hk ⟨rfl, hp⟩
    have h2 := szTs_step hk (l := left - l.length) (by omega)
    rw [if_neg (by omega)] at h2
    have h3 := szL_le ((l.take k).flatMap lensT) (left - l.length) (by omega)
    have h5 : szTs (l.take k) (left - l.length) ≤ left - l.length := h3.2
    have h4 := laws_szTrans_ok l[k] (szTs (l.take k) (left - l.length)) hp (by omega) (ht _ (List.getElem_mem hk))
    simp (maxSteps := 2000000) (disch := (first | omega | (simp only [List.length_append, List.length_take, List.length_replicate, List.length_map, List.length_set, List.length_cons, List.length_nil, List.length_zipWith, List.length_drop, List.length_range]; first | done | omega))) only [go_sem, Nat.reduceAdd, Nat.reduceEqDiff, Nat.reduceLeDiff, Nat.reduceSub, h4]
    rw [← h2]
    refine ⟨fun h => ?_, fun h => ⟨rfl, by omega⟩⟩
    rw [szTs_neg (by omega) h]
  · rintro s ⟨rfl, hp⟩
    simp (maxSteps := 2000000) (disch := (first | omega | (simp only [List.length_append, List.length_take, List.length_replicate, List.length_map, List.length_set, List.length_cons, List.length_nil, List.length_zipWith, List.length_drop, List.length_range]; first | done | omega))) only [go_sem, Nat.reduceAdd, Nat.reduceEqDiff, Nat.reduceLeDiff, Nat.reduceSub]
theorem laws_szNet_ok (n : Net) (left : Int) (h0 : 0 ≤ left) (h1 : left ≤ 1048576) (hl : n.tr.length < 2^63) (ht : ∀ t ∈ n.tr, t.inn.length < 2^63 ∧ t.out.length < 2^63 ∧ t.rst.length < 2^63) :
    C f_laws_szNet [encN n, I left] [] = some (I (szNt n left), []) := by
  have h2 := laws_szTransS_ok n.tr left h0 h1 hl ht
  rw [← szNt_eq] at h2
  refine C_laws_szNet ?_
  simp (maxSteps := 2000000) (disch := (first | omega | (simp only [List.length_append, List.length_take, List.length_replicate, List.length_map, List.length_set, List.length_cons, List.length_nil, List.length_zipWith, List.length_drop, List.length_range]; first | done | omega))) only [ir_laws_szNet, go_sem, Nat.reduceAdd, Nat.reduceEqDiff, Nat.reduceLeDiff, Nat.reduceSub]
  simp (maxSteps := 2000000) (disch := (first | omega | (simp only [List.length_append, List.length_take, List.length_replicate, List.length_map, List.length_set, List.length_cons, List.length_nil, List.length_zipWith, List.length_drop, List.length_range]; first | done | omega))) only [go_sem, Nat.reduceAdd, Nat.reduceEqDiff, Nat.reduceLeDiff, Nat.reduceSub, h2]
  have := (szL_le (n.tr.length :: n.tr.flatMap lensT) left (by omega)).1
  refine fun h => ?_
  rw [show szNt n left = -1 by unfold szNt at h ⊢; omega]
theorem laws_szFlow_ok (f : Fl) (left : Int) (h0 : 0 ≤ left) (h1 : left ≤ 1048576) (hl : f.net.tr.length < 2^63) (ht : ∀ t ∈ f.net.tr, t.inn.length < 2^63 ∧ t.out.length < 2^63 ∧ t.rst.length < 2^63) : C f_laws_szFlow [encF f, I left] [] = some (I (szNt f.net left), []) := by
  have h2 := laws_szNet_ok f.net left h0 h1 hl ht
  refine C_laws_szFlow ?_
  simp (maxSteps := 2000000) (disch := (first | omega | (simp only [List.length_append, List.length_take, List.length_replicate, List.length_map, List.length_set, List.length_cons, List.length_nil, List.length_zipWith, List.length_drop, List.length_range]; first | done | omega))) only [ir_laws_szFlow, go_sem, Nat.reduceAdd, Nat.reduceEqDiff, Nat.reduceLeDiff, Nat.reduceSub]
  simp (maxSteps := 2000000) (disch := (first | omega | (simp only [List.length_append, List.length_take, List.length_replicate, List.length_map, List.length_set, List.length_cons, List.length_nil, List.length_zipWith, List.length_drop, List.length_range]; first | done | omega))) only [go_sem, Nat.reduceAdd, Nat.reduceEqDiff, Nat.reduceLeDiff, Nat.reduceSub, h2]
  have := (szL_le (f.net.tr.length :: f.net.tr.flatMap lensT) left (by omega)).1
  refine fun h => ?_
  rw [show szNt f.net left = -1 by unfold szNt at h ⊢; omega]
theorem laws_toIntS_ok (l : List Int) (hl : l.length ≤ 2^36) : C f_laws_toIntS [ints l] [] = some (.un t_int true 1 (l.map I), []) := by
  refine C_laws_toIntS ?_
  simp (maxSteps := 2000000) (disch := (first | omega | (simp only [List.length_append, List.length_take, List.length_replicate, List.length_map, List.length_set, List.length_cons, List.length_nil, List.length_zipWith, List.length_drop, List.length_range]; first | done | omega))) only [ir_laws_toIntS, go_sem, Nat.reduceAdd, Nat.reduceEqDiff, Nat.reduceLeDiff, Nat.reduceSub]
  refine W_for l.length (fun k s => s = ⟨[ints l, .any, .ref 0 1 0 l.length, I k, .any], [.row t_int true 1 ((padI l k).map I)]⟩) ?_ ?_ ?_
  · simp (maxSteps := 2000000) (disch := (first | omega | (simp only [List.length_append, List.length_take, List.length_replicate, List.length_map, List.length_set, List.length_cons, List.length_nil, List.length_zipWith, List.length_drop, List.length_range]; first | done | omega))) only [go_sem, Nat.reduceAdd, Nat.reduceEqDiff, Nat.reduceLeDiff, Nat.reduceSub]
    rw [padI_zero]; simp
  · rintro k s hk rfl
    have h1 := padI_len (l := l) (k := k) (by omega)
    have h2 := padI_step hk
    simp (maxSteps := 2000000) (disch := (first | omega | (simp only [List.length_append, List.length_take, List.length_replicate, List.length_map, List.length_set, List.length_cons, List.length_nil, List.length_zipWith, List.length_drop, List.length_range]; first | done | omega))) only [go_sem, Nat.reduceAdd, Nat.reduceEqDiff, Nat.reduceLeDiff, Nat.reduceSub, h1]
    rw [← h2]
    simp
  · rintro s rfl
    have h1 := padI_len (l := l) (k := l.length) (by omega)
    simp (maxSteps := 2000000) (disch := (first | omega | (simp only [List.length_append, List.length_take, List.length_replicate, List.length_map, List.length_set, List.length_cons, List.length_nil, List.length_zipWith, List.length_drop, List.length_range]; first | done | omega))) only [go_sem, Nat.reduceAdd, Nat.reduceEqDiff, Nat.reduceLeDiff, Nat.reduceSub, h1]
    rw [padI_all]
theorem laws_toTrans_ok (t : Tr) (ht : t.inn.length ≤ 2^36 ∧ t.out.length ≤ 2^36 ∧ t.rst.length ≤ 2^36) : C f_laws_toTrans [encT t] [] = some (.agg [.un t_int true 1 (t.inn.map I), .un t_int true 1 (t.out.map I), .un t_int true 1 (t.rst.map I)], []) := by
  obtain ⟨a, b, c⟩ := ht
  refine C_laws_toTrans ?_
  simp (maxSteps := 2000000) (disch := (first | omega | (simp only [List.length_append, List.length_take, List.length_replicate, List.length_map, List.length_set, List.length_cons, List.length_nil, List.length_zipWith, List.length_drop, List.length_range]; first | done | omega))) only [ir_laws_toTrans, go_sem, Nat.reduceAdd, Nat.reduceEqDiff, Nat.reduceLeDiff, Nat.reduceSub]
  simp (maxSteps := 2000000) (disch := (first | omega | (simp only [List.length_append, List.length_take, List.length_replicate, List.length_map, List.length_set, List.length_cons, List.length_nil, List.length_zipWith, List.length_drop, List.length_range]; first | done | omega))) only [go_sem, Nat.reduceAdd, Nat.reduceEqDiff, Nat.reduceLeDiff, Nat.reduceSub, laws_toIntS_ok]
theorem laws_toTransS_ok (l : List Tr) (hl : l.length ≤ 2^36) (ht : ∀ t ∈ l, t.inn.length ≤ 2^36 ∧ t.out.length ≤ 2^36 ∧ t.rst.length ≤ 2^36) : C f_laws_toTransS [trs l] [] = some (.unn t_impl_Trans 3 (l.map encT), []) := by
  refine C_laws_toTransS ?_
  simp (maxSteps := 2000000) (disch := (first | omega | (simp only [List.length_append, List.length_take, List.length_replicate, List.length_map, List.length_set, List.length_cons, List.length_nil, List.length_zipWith, List.length_drop, List.length_range]; first | done | omega))) only [ir_laws_toTransS, go_sem, Nat.reduceAdd, Nat.reduceEqDiff, Nat.reduceLeDiff, Nat.reduceSub]
  refine W_for l.length (fun k s => s = ⟨[trs l, .any, .ref 0 3 0 l.length, I k, .any], [.lin t_impl_Trans 3 (padT l k)]⟩) ?_ ?_ ?_
  · simp (maxSteps := 2000000) (disch := (first | omega | (simp only [List.length_append, List.length_take, List.length_replicate, List.length_map, List.length_set, List.length_cons, List.length_nil, List.length_zipWith, List.length_drop, List.length_range]; first | done | omega))) only [go_sem, Nat.reduceAdd, Nat.reduceEqDiff, Nat.reduceLeDiff, Nat.reduceSub]
    rw [padT_zero]
    rfl
  · rintro k s hk rfl
    have h1 := padT_len (l := l) (k := k) (by omega)
    have h2 := padT_step hk
    have h3 := padT_at hk
    simp (maxSteps := 2000000) (disch := (first | omega | (simp only [List.length_append, List.length_take, List.length_replicate, List.length_map, List.length_set, List.length_cons, List.length_nil, List.length_zipWith, List.length_drop, List.length_range]; first | done | omega))) only [go_sem, Nat.reduceAdd, Nat.reduceEqDiff, Nat.reduceLeDiff, Nat.reduceSub, laws_toTrans_ok _ (ht _ (List.getElem_mem hk)), h1, h3]
    rw [← h2]
    rfl
  · rintro s rfl
    have h1 := padT_len (l := l) (k := l.length) (by omega)
    simp (maxSteps := 2000000) (disch := (first | omega | (simp only [List.length_append, List.length_take, List.length_replicate, List.length_map, List.length_set, List.length_cons, List.length_nil, List.length_zipWith, List.length_drop, List.length_range]; first | done | omega))) only [go_sem, Nat.reduceAdd, Nat.reduceEqDiff, Nat.reduceLeDiff, Nat.reduceSub, h1]
    rw [padT_all]
theorem laws_toNet_ok (n : Net) (hl : n.tr.length ≤ 2^36) (ht : ∀ t ∈ n.tr, t.inn.length ≤ 2^36 ∧ t.out.length ≤ 2^36 ∧ t.rst.length ≤ 2^36) : C f_laws_toNet [encN n] [] = some (.agg [I n.pl, .unn t_impl_Trans 3 (n.tr.map encT)], []) := by
  refine C_laws_toNet ?_
  simp (maxSteps := 2000000) (disch := (first | omega | (simp only [List.length_append, List.length_take, List.length_replicate, List.length_map, List.length_set, List.length_cons, List.length_nil, List.length_zipWith, List.length_drop, List.length_range]; first | done | omega))) only [ir_laws_toNet, go_sem, Nat.reduceAdd, Nat.reduceEqDiff, Nat.reduceLeDiff, Nat.reduceSub]
  simp (maxSteps := 2000000) (disch := (first | omega | (simp only [List.length_append, List.length_take, List.length_replicate, List.length_map, List.length_set, List.length_cons, List.length_nil, List.length_zipWith, List.length_drop, List.length_range]; first | done | omega))) only [go_sem, Nat.reduceAdd, Nat.reduceEqDiff, Nat.reduceLeDiff, Nat.reduceSub, laws_toTransS_ok n.tr hl ht]
theorem laws_toFlow_ok (f : Fl) (hl : f.net.tr.length ≤ 2^36) (ht : ∀ t ∈ f.net.tr, t.inn.length ≤ 2^36 ∧ t.out.length ≤ 2^36 ∧ t.rst.length ≤ 2^36) : C f_laws_toFlow [encF f] [] = some (.agg [I f.net.pl, .unn t_impl_Trans 3 (f.net.tr.map encT), I f.src, I f.dst], []) := by
  have h := laws_toNet_ok f.net hl ht
  refine C_laws_toFlow ?_
  simp (maxSteps := 2000000) (disch := (first | omega | (simp only [List.length_append, List.length_take, List.length_replicate, List.length_map, List.length_set, List.length_cons, List.length_nil, List.length_zipWith, List.length_drop, List.length_range]; first | done | omega))) only [ir_laws_toFlow, go_sem, Nat.reduceAdd, Nat.reduceEqDiff, Nat.reduceLeDiff, Nat.reduceSub]
  simp (maxSteps := 2000000) (disch := (first | omega | (simp only [List.length_append, List.length_take, List.length_replicate, List.length_map, List.length_set, List.length_cons, List.length_nil, List.length_zipWith, List.length_drop, List.length_range]; first | done | omega))) only [go_sem, Nat.reduceAdd, Nat.reduceEqDiff, Nat.reduceLeDiff, Nat.reduceSub, h]
theorem spec_l1In_ok (n lo hi : Int) : C f_spec_l1In [I n, I lo, I hi] [] = some (.bool (inB lo hi n), []) := by
  refine C_spec_l1In ?_
  simp (maxSteps := 2000000) (disch := (first | omega | (simp only [List.length_append, List.length_take, List.length_replicate, List.length_map, List.length_set, List.length_cons, List.length_nil, List.length_zipWith, List.length_drop, List.length_range]; first | done | omega))) only [ir_spec_l1In, go_sem, Nat.reduceAdd, Nat.reduceEqDiff, Nat.reduceLeDiff, Nat.reduceSub]
  unfold inB; grind
theorem spec_l1Places_ok (n : Int) : C f_spec_l1Places [I n] [] = some (.bool (inB 1 16 n), []) := by
  refine C_spec_l1Places ?_
  simp (maxSteps := 2000000) (disch := (first | omega | (simp only [List.length_append, List.length_take, List.length_replicate, List.length_map, List.length_set, List.length_cons, List.length_nil, List.length_zipWith, List.length_drop, List.length_range]; first | done | omega))) only [ir_spec_l1Places, go_sem, Nat.reduceAdd, Nat.reduceEqDiff, Nat.reduceLeDiff, Nat.reduceSub]
  simp (maxSteps := 2000000) (disch := (first | omega | (simp only [List.length_append, List.length_take, List.length_replicate, List.length_map, List.length_set, List.length_cons, List.length_nil, List.length_zipWith, List.length_drop, List.length_range]; first | done | omega))) only [go_sem, Nat.reduceAdd, Nat.reduceEqDiff, Nat.reduceLeDiff, Nat.reduceSub, spec_l1In_ok]
  grind
theorem spec_l1Rising_ok (l : List Int) (lo hi : Int) (hl : l.length < 2^62) : C f_spec_l1Rising [ints l, I lo, I hi] [] = some (.bool (incr l && l.all (inB lo hi)), []) := by
  refine C_spec_l1Rising ?_
  simp (maxSteps := 2000000) (disch := (first | omega | (simp only [List.length_append, List.length_take, List.length_replicate, List.length_map, List.length_set, List.length_cons, List.length_nil, List.length_zipWith, List.length_drop, List.length_range]; first | done | omega))) only [ir_spec_l1Rising, go_sem, Nat.reduceAdd, Nat.reduceEqDiff, Nat.reduceLeDiff, Nat.reduceSub]
  refine W_for l.length (fun k s => s = ⟨[ints l, I lo, I hi, .any, .any, .any, ints l, I l.length, I k, .any, .any], []⟩ ∧ (l.take k).Pairwise (· < ·) ∧ (l.take k).all (inB lo hi) = true) ?_ ?_ ?_
  · simp (maxSteps := 2000000) (disch := (first | omega | (simp only [List.length_append, List.length_take, List.length_replicate, List.length_map, List.length_set, List.length_cons, List.length_nil, List.length_zipWith, List.length_drop, List.length_range]; first | done | omega))) only [go_sem, Nat.reduceAdd, Nat.reduceEqDiff, Nat.reduceLeDiff, Nat.reduceSub]
    exact ⟨rfl, List.Pairwise.nil⟩
  · rintro k s hk ⟨rfl, hp, hall⟩
    simp (maxSteps := 2000000) (disch := (first | omega | (simp only [List.length_append, List.length_take, List.length_replicate, List.length_map, List.length_set, List.length_cons, List.length_nil, List.length_zipWith, List.length_drop, List.length_range]; first | done | omega))) only [go_sem, Nat.reduceAdd, Nat.reduceEqDiff, Nat.reduceLeDiff, Nat.reduceSub, spec_l1In_ok]
    refine ⟨fun h => ⟨fun h2 => ?_, fun h2 => ?_⟩, fun h => by rw [all_false hk h]; simp⟩
    · simp (maxSteps := 2000000) (disch := (first | omega | (simp only [List.length_append, List.length_take, List.length_replicate, List.length_map, List.length_set, List.length_cons, List.length_nil, List.length_zipWith, List.length_drop, List.length_range]; first | done | omega))) only [go_sem, Nat.reduceAdd, Nat.reduceEqDiff, Nat.reduceLeDiff, Nat.reduceSub]
      obtain ⟨j, rfl⟩ : ∃ j, k = j + 1 := ⟨k - 1, by omega⟩
      have e : (((j + 1 : Nat) : Int) - 1).toNat = j := by omega
      refine ⟨fun h3 => ?_, fun h3 => ⟨rfl, ?_, all_take hk hall h⟩⟩
      · rw [incr_not hk (by simp only [e] at h3; omega)]; rfl
      · exact incr_step hk hp (by simp only [e] at h3; omega)
    · obtain rfl : k = 0 := by omega
      exact ⟨rfl, incr_one, all_take hk hall h⟩
  · rintro s ⟨rfl, hp, hall⟩
    simp (maxSteps := 2000000) (disch := (first | omega | (simp only [List.length_append, List.length_take, List.length_replicate, List.length_map, List.length_set, List.length_cons, List.length_nil, List.length_zipWith, List.length_drop, List.length_range]; first | done | omega))) only [go_sem, Nat.reduceAdd, Nat.reduceEqDiff, Nat.reduceLeDiff, Nat.reduceSub]
    rw [List.take_length] at hp hall
    rw [hall, show incr l = true by simpa [incr] using hp]
    rfl
theorem spec_GoodNet_ok (n : Net) (hn : smN n) : C f_spec_GoodNet [encN n] [] = some (.bool (goodN n), []) := by
  have h0 := hn.1
  refine C_spec_GoodNet ?_
  simp (maxSteps := 2000000) (disch := (first | omega | (simp only [List.length_append, List.length_take, List.length_replicate, List.length_map, List.length_set, List.length_cons, List.length_nil, List.length_zipWith, List.length_drop, List.length_range]; first | done | omega))) only [ir_spec_GoodNet, go_sem, Nat.reduceAdd, Nat.reduceEqDiff, Nat.reduceLeDiff, Nat.reduceSub]
  simp (maxSteps := 2000000) (disch := (first | omega | (simp only [List.length_append, List.length_take, List.length_replicate, List.length_map, List.length_set, List.length_cons, List.length_nil, List.length_zipWith, List.length_drop, List.length_range]; first | done | omega))) only [go_sem, Nat.reduceAdd, Nat.reduceEqDiff, Nat.reduceLeDiff, Nat.reduceSub, spec_l1Places_ok]
  refine ⟨fun h => ⟨fun h2 => ?_, fun h2 => ?_⟩, fun h => by simp [goodN, h]⟩
  · have : ¬ n.tr.length ≤ 24 := by omega
    simp [goodN, this]
  have hb : 1 ≤ n.pl ∧ n.pl ≤ 16 := by simpa [inB] using h
  refine W_for n.tr.length (fun k s => s = ⟨[.any, .ptr 0 0, .any, .any, .any, trs n.tr, I n.tr.length, I k, .any, .any], [.box t_impl_Net [I n.pl, trs n.tr]]⟩ ∧ (n.tr.take k).all (goodT n.pl) = true) ?_ ?_ ?_
  · simp (maxSteps := 2000000) (disch := (first | omega | (simp only [List.length_append, List.length_take, List.length_replicate, List.length_map, List.length_set, List.length_cons, List.length_nil, List.length_zipWith, List.length_drop, List.length_range]; first | done | omega))) only [go_sem, Nat.reduceAdd, Nat.reduceEqDiff, Nat.reduceLeDiff, Nat.reduceSub]
    rfl
  · rintro k s hk ⟨rfl, hall⟩
    obtain ⟨h3, h4, h5⟩ := hn.2 _ (List.getElem_mem hk)
    simp (maxSteps := 2000000) (disch := (first | omega | (simp only [List.length_append, List.length_take, List.length_replicate, List.length_map, List.length_set, List.length_cons, List.length_nil, List.length_zipWith, List.length_drop, List.length_range]; first | done | omega))) only [go_sem, Nat.reduceAdd, Nat.reduceEqDiff, Nat.reduceLeDiff, Nat.reduceSub, spec_l1Rising_ok]
    simp only [places_eq]
    refine ⟨fun h6 => by rw [goodN_not hk (goodT_nil (by omega))], fun h6 => ⟨fun h7 => ⟨fun h8 => ⟨fun h9 => ⟨rfl, all_take hk hall (goodT_all (by omega) h7 h8 h9)⟩, fun h9 => by rw [goodN_not hk (by simp [goodT, h9])]⟩, fun h8 => by rw [goodN_not hk (by simp [goodT, h8])]⟩, fun h7 => by rw [goodN_not hk (by simp [goodT, h7])]⟩⟩
  · rintro s ⟨rfl, hall⟩
    simp (maxSteps := 2000000) (disch := (first | omega | (simp only [List.length_append, List.length_take, List.length_replicate, List.length_map, List.length_set, List.length_cons, List.length_nil, List.length_zipWith, List.length_drop, List.length_range]; first | done | omega))) only [go_sem, Nat.reduceAdd, Nat.reduceEqDiff, Nat.reduceLeDiff, Nat.reduceSub]
    rw [List.take_length] at hall
    simp [goodN, hall, h, show n.tr.length ≤ 24 by omega]
theorem spec_l3Forward_ok (n : Net) (p : Int) (hg : goodN n = true) (hp : 0 ≤ p ∧ p < n.pl) : C f_spec_l3Forward [encN n, I p] [] = some (.tup [.un t_bool true 1 ((reachC n false p).pl.map PV.bool), .un t_bool true 1 ((reachC n false p).tr.map PV.bool)], []) := by
  have hb := goodN_parts hg
  have hlen := reachC_len n false p
  rw [reachC_eq] at hlen ⊢
  refine C_spec_l3Forward ?_
  simp (maxSteps := 2000000) (disch := (first | omega | (simp only [List.length_append, List.length_take, List.length_replicate, List.length_map, List.length_set, List.length_cons, List.length_nil, List.length_zipWith, List.length_drop, List.length_range]; first | done | omega))) only [ir_spec_l3Forward, go_sem, Nat.reduceAdd, Nat.reduceEqDiff, Nat.reduceLeDiff, Nat.reduceSub]
  simp (maxSteps := 2000000) (disch := (first | omega | (simp only [List.length_append, List.length_take, List.length_replicate, List.length_map, List.length_set, List.length_cons, List.length_nil, List.length_zipWith, List.length_drop, List.length_range]; first | done | omega))) only [go_sem, Nat.reduceAdd, Nat.reduceEqDiff, Nat.reduceLeDiff, Nat.reduceSub, List.getElem_replicate]
  generalize hR : clRun n false (cntF (List.replicate n.tr.length false) + 1) ⟨(List.replicate n.pl.toNat false).set p.toNat true, List.replicate n.tr.length false, true⟩ = R at *
  refine W_down (fun k s => ∃ c : Cl, c.pl.length = n.pl.toNat ∧ c.tr.length = n.tr.length ∧ ((k = cntF c.tr + 1 ∧ s = ⟨[.any, .any, .ptr 0 0, .any, .any, .ref 1 1 0 n.pl.toNat, .ref 2 1 0 n.tr.length, .bool true, .any, .any, .any, .any, .any, .any, .any, .any, .any, .any, .any, .any, .any, .any, .any, .any, .any, .any, .any], [.box t_impl_Net [I n.pl, trs n.tr], .row t_bool true 1 (c.pl.map PV.bool), .row t_bool true 1 (c.tr.map PV.bool)]⟩ ∧ clRun n false (cntF c.tr + 1) c = R) ∨ (k = 0 ∧ s = ⟨[.any, .any, .ptr 0 0, .any, .any, .ref 1 1 0 n.pl.toNat, .ref 2 1 0 n.tr.length, .bool false, .any, .any, .any, .any, .any, .any, .any, .any, .any, .any, .any, .any, .any, .any, .any, .any, .any, .any, .any], [.box t_impl_Net [I n.pl, trs n.tr], .row t_bool true 1 (c.pl.map PV.bool), .row t_bool true 1 (c.tr.map PV.bool)]⟩ ∧ c = R))) (cntF (List.replicate n.tr.length false) + 1) ?_ ?_
  · refine ⟨⟨(List.replicate n.pl.toNat false).set p.toNat true, List.replicate n.tr.length false, true⟩, by simp, by simp, .inl ⟨rfl, ?_, hR⟩⟩
    simp (maxSteps := 2000000) (disch := (first | omega | (simp only [List.length_append, List.length_take, List.length_replicate, List.length_map, List.length_set, List.length_cons, List.length_nil, List.length_zipWith, List.length_drop, List.length_range]; first | done | omega))) only [go_sem, Nat.reduceAdd, Nat.reduceEqDiff, Nat.reduceLeDiff, Nat.reduceSub]
    simp
  · rintro k0 s ⟨c, hc1, hc2, ⟨rfl, rfl, hc⟩ | ⟨rfl, rfl, rfl⟩⟩
    · have hcl := fun k => clK_len n false c k
      simp (maxSteps := 2000000) (disch := (first | omega | (simp only [List.length_append, List.length_take, List.length_replicate, List.length_map, List.length_set, List.length_cons, List.length_nil, List.length_zipWith, List.length_drop, List.length_range]; first | done | omega))) only [go_sem, Nat.reduceAdd, Nat.reduceEqDiff, Nat.reduceLeDiff, Nat.reduceSub]
      refine W_for n.tr.length (fun k s => s = ⟨[.any, .any, .ptr 0 0, .any, .any, .ref 1 1 0 n.pl.toNat, .ref 2 1 0 n.tr.length, .bool (clK n false c k).ch, .any, .any, .any, .any, .any, .any, trs n.tr, I n.tr.length, I k, .any, .any, .any, .any, .any, .any, .any, .any, .any, .any], [.box t_impl_Net [I n.pl, trs n.tr], .row t_bool true 1 ((clK n false c k).pl.map PV.bool), .row t_bool true 1 ((clK n false c k).tr.map PV.bool)]⟩) ?_ ?_ ?_
      · simp (maxSteps := 2000000) (disch := (first | omega | (simp only [List.length_append, List.length_take, List.length_replicate, List.length_map, List.length_set, List.length_cons, List.length_nil, List.length_zipWith, List.length_drop, List.length_range]; first | done | omega))) only [go_sem, Nat.reduceAdd, Nat.reduceEqDiff, Nat.reduceLeDiff, Nat.reduceSub]
        rfl
      · rintro k s hk rfl
        have hT := hb.2.2.2 _ (List.getElem_mem hk)
        have hLs := goodT_lens hT (by omega)
        obtain ⟨_, g1, g2, g3⟩ := goodT_parts hT
        have p1 := places_in g1
        have p2 := places_in g2
        have hd := hcl k
        have hstep := clK_succ n false c k
        have htr : n.tr[k] = trN n k := (trN_eq hk).symm
        rw [htr] at hLs p1 p2
        have s1 : (clK n false c k).tr.getD k false = true → clK n false c (k + 1) = clK n false c k := fun h => hstep.trans (clStep_no (.inl h))
        have s2 : hitB (clK n false c k).pl (sideI false (trN n k)) = false → clK n false c (k + 1) = clK n false c k := fun h => hstep.trans (clStep_no (.inr h))
        have s3 : (clK n false c k).tr.getD k false = false → hitB (clK n false c k).pl (sideI false (trN n k)) = true → clK n false c (k + 1) = ⟨markB (clK n false c k).pl (sideO false (trN n k)), (clK n false c k).tr.set k true, true⟩ := fun h h2 => hstep.trans (clStep_yes h h2)
        simp only [sideI, sideO, Bool.false_eq_true, if_false, if_true] at s2 s3
        clear hstep
        generalize clK n false c k = d at *
        generalize clK n false c (k + 1) = d' at *
        simp (maxSteps := 2000000) (disch := (first | omega | (simp only [List.length_append, List.length_take, List.length_replicate, List.length_map, List.length_set, List.length_cons, List.length_nil, List.length_zipWith, List.length_drop, List.length_range]; first | done | omega))) only [go_sem, Nat.reduceAdd, Nat.reduceEqDiff, Nat.reduceLeDiff, Nat.reduceSub]
        simp only [htr]
        generalize trN n k = tr at *
        refine W_for tr.inn.length (fun j s => s = ⟨[.any, .any, .ptr 0 0, .any, .any, .ref 1 1 0 n.pl.toNat, .ref 2 1 0 n.tr.length, .bool d.ch, I k, .ptr 3 0, .bool ((tr.inn.take j).any fun p => d.pl.getD p.toNat false), .any, .any, .any, trs n.tr, I n.tr.length, I k, .any, ints tr.inn, I tr.inn.length, I j, .any, .any, .any, .any, .any, .any], [.box t_impl_Net [I n.pl, trs n.tr], .row t_bool true 1 (d.pl.map PV.bool), .row t_bool true 1 (d.tr.map PV.bool), .box t_impl_Trans [ints tr.inn, ints tr.out, ints tr.rst]]⟩) ?_ ?_ ?_
        · simp (maxSteps := 2000000) (disch := (first | omega | (simp only [List.length_append, List.length_take, List.length_replicate, List.length_map, List.length_set, List.length_cons, List.length_nil, List.length_zipWith, List.length_drop, List.length_range]; first | done | omega))) only [go_sem, Nat.reduceAdd, Nat.reduceEqDiff, Nat.reduceLeDiff, Nat.reduceSub]
          rfl
        · rintro j s hj rfl
          have h1 := p1 _ (List.getElem_mem hj)
          have h2 : tr.inn[j].toNat < d.pl.length := by omega
          simp (maxSteps := 2000000) (disch := (first | omega | (simp only [List.length_append, List.length_take, List.length_replicate, List.length_map, List.length_set, List.length_cons, List.length_nil, List.length_zipWith, List.length_drop, List.length_range]; first | done | omega))) only [go_sem, Nat.reduceAdd, Nat.reduceEqDiff, Nat.reduceLeDiff, Nat.reduceSub]
          refine ⟨fun h => ?_, fun h => ⟨fun h3 => ?_, fun h3 => ?_⟩⟩
          · rw [any_more hj h]; rfl
          · rw [any_here hj (by rw [← getD_eq h2]; exact h3)]; rfl
          · rw [any_take hj h (by rw [← getD_eq h2]; exact h3)]; rfl
        · rintro s rfl
          have hkd : k < d.tr.length := by omega
          simp (maxSteps := 2000000) (disch := (first | omega | (simp only [List.length_append, List.length_take, List.length_replicate, List.length_map, List.length_set, List.length_cons, List.length_nil, List.length_zipWith, List.length_drop, List.length_range]; first | done | omega))) only [go_sem, Nat.reduceAdd, Nat.reduceEqDiff, Nat.reduceLeDiff, Nat.reduceSub, List.take_length]
          refine ⟨fun h => ⟨fun h3 => ?_, fun h3 => ?_⟩, fun h => ?_⟩
          · rw [s1 (by rw [← getD_eq hkd]; exact h3)]; rfl
          · have e := s3 (by rw [← getD_eq hkd]; exact h3) h
            subst e
            refine W_for tr.out.length (fun j s => s = ⟨[.any, .any, .ptr 0 0, .any, .any, .ref 1 1 0 n.pl.toNat, .ref 2 1 0 n.tr.length, .bool true, .any, .any, .any, .any, .any, .any, trs n.tr, I n.tr.length, I k, .any, .any, .any, .any, .any, .any, ints tr.out, I tr.out.length, I j, .any], [.box t_impl_Net [I n.pl, trs n.tr], .row t_bool true 1 ((markB d.pl (tr.out.take j)).map PV.bool), .row t_bool true 1 ((d.tr.set k true).map PV.bool)]⟩) ?_ ?_ ?_
            · simp (maxSteps := 2000000) (disch := (first | omega | (simp only [List.length_append, List.length_take, List.length_replicate, List.length_map, List.length_set, List.length_cons, List.length_nil, List.length_zipWith, List.length_drop, List.length_range]; first | done | omega))) only [go_sem, Nat.reduceAdd, Nat.reduceEqDiff, Nat.reduceLeDiff, Nat.reduceSub]
              rfl
            · rintro j s hj rfl
              have h1 := p2 _ (List.getElem_mem hj)
              have h2 : tr.out[j].toNat < d.pl.length := by omega
              have h4 := markB_len d.pl (tr.out.take j)
              simp (maxSteps := 2000000) (disch := (first | omega | (simp only [List.length_append, List.length_take, List.length_replicate, List.length_map, List.length_set, List.length_cons, List.length_nil, List.length_zipWith, List.length_drop, List.length_range]; first | done | omega))) only [go_sem, Nat.reduceAdd, Nat.reduceEqDiff, Nat.reduceLeDiff, Nat.reduceSub]
              rw [markB_take hj]; rfl
            · rintro s rfl
              simp (maxSteps := 2000000) (disch := (first | omega | (simp only [List.length_append, List.length_take, List.length_replicate, List.length_map, List.length_set, List.length_cons, List.length_nil, List.length_zipWith, List.length_drop, List.length_range]; first | done | omega))) only [go_sem, Nat.reduceAdd, Nat.reduceEqDiff, Nat.reduceLeDiff, Nat.reduceSub, List.take_length]
              rfl
          · rw [s2 h]; rfl
      · rintro s rfl
        simp (maxSteps := 2000000) (disch := (first | omega | (simp only [List.length_append, List.length_take, List.length_replicate, List.length_map, List.length_set, List.length_cons, List.length_nil, List.length_zipWith, List.length_drop, List.length_range]; first | done | omega))) only [go_sem, Nat.reduceAdd, Nat.reduceEqDiff, Nat.reduceLeDiff, Nat.reduceSub]
        have hn := clRun_next (n := n) (bk := false) hc2
        rw [hc] at hn
        cases e : (clRound n false c).ch with
        | true =>
          have h1 := (clK_cnt (n := n) (bk := false) (s := c) (k := n.tr.length) (by omega)).2 e
          simp only [e, if_true] at hn
          refine ⟨cntF (clRound n false c).tr + 1, by unfold clRound; omega, clRound n false c, by unfold clRound; have := hcl n.tr.length; omega, by unfold clRound; have := hcl n.tr.length; omega, .inl ⟨rfl, ?_, hn.symm⟩⟩
          unfold clRound at e ⊢
          rw [e]
        | false =>
          simp only [e, Bool.false_eq_true, if_false] at hn
          refine ⟨0, by omega, clRound n false c, by unfold clRound; have := hcl n.tr.length; omega, by unfold clRound; have := hcl n.tr.length; omega, .inr ⟨rfl, ?_, hn.symm⟩⟩
          unfold clRound at e ⊢
          rw [e]
    · simp (maxSteps := 2000000) (disch := (first | omega | (simp only [List.length_append, List.length_take, List.length_replicate, List.length_map, List.length_set, List.length_cons, List.length_nil, List.length_zipWith, List.length_drop, List.length_range]; first | done | omega))) only [go_sem, Nat.reduceAdd, Nat.reduceEqDiff, Nat.reduceLeDiff, Nat.reduceSub]
theorem spec_l3Back_ok (n : Net) (p : Int) (hg : goodN n = true) (hp : 0 ≤ p ∧ p < n.pl) : C f_spec_l3Back [encN n, I p] [] = some (.tup [.un t_bool true 1 ((reachC n true p).pl.map PV.bool), .un t_bool true 1 ((reachC n true p).tr.map PV.bool)], []) := by
  have hb := goodN_parts hg
  have hlen := reachC_len n true p
  rw [reachC_eq] at hlen ⊢
  refine C_spec_l3Back ?_
  simp (maxSteps := 2000000) (disch := (first | omega | (simp only [List.length_append, List.length_take, List.length_replicate, List.length_map, List.length_set, List.length_cons, List.length_nil, List.length_zipWith, List.length_drop, List.length_range]; first | done | omega))) only [ir_spec_l3Back, go_sem, Nat.reduceAdd, Nat.reduceEqDiff, Nat.reduceLeDiff, Nat.reduceSub]
  simp (maxSteps := 2000000) (disch := (first | omega | (simp only [List.length_append, List.length_take, List.length_replicate, List.length_map, List.length_set, List.length_cons, List.length_nil, List.length_zipWith, List.length_drop, List.length_range]; first | done | omega))) only [go_sem, Nat.reduceAdd, Nat.reduceEqDiff, Nat.reduceLeDiff, Nat.reduceSub, List.getElem_replicate]
  generalize hR : clRun n true (cntF (List.replicate n.tr.length false) + 1) ⟨(List.replicate n.pl.toNat false).set p.toNat true, List.replicate n.tr.length false, true⟩ = R at *
  refine W_down (fun k s => ∃ c : Cl, c.pl.length = n.pl.toNat ∧ c.tr.length = n.tr.length ∧ ((k = cntF c.tr + 1 ∧ s = ⟨[.any, .any, .ptr 0 0, .any, .any, .ref 1 1 0 n.pl.toNat, .ref 2 1 0 n.tr.length, .bool true, .any, .any, .any, .any, .any, .any, .any, .any, .any, .any, .any, .any, .any, .any, .any, .any, .any, .any, .any], [.box t_impl_Net [I n.pl, trs n.tr], .row t_bool true 1 (c.pl.map PV.bool), .row t_bool true 1 (c.tr.map PV.bool)]⟩ ∧ clRun n true (cntF c.tr + 1) c = R) ∨ (k = 0 ∧ s = ⟨[.any, .any, .ptr 0 0, .any, .any, .ref 1 1 0 n.pl.toNat, .ref 2 1 0 n.tr.length, .bool false, .any, .any, .any, .any, .any, .any, .any, .any, .any, .any, .any, .any, .any, .any, .any, .any, .any, .any, .any], [.box t_impl_Net [I n.pl, trs n.tr], .row t_bool true 1 (c.pl.map PV.bool), .row t_bool true 1 (c.tr.map PV.bool)]⟩ ∧ c = R))) (cntF (List.replicate n.tr.length false) + 1) ?_ ?_
  · refine ⟨⟨(List.replicate n.pl.toNat false).set p.toNat true, List.replicate n.tr.length false, true⟩, by simp, by simp, .inl ⟨rfl, ?_, hR⟩⟩
    simp (maxSteps := 2000000) (disch := (first | omega | (simp only [List.length_append, List.length_take, List.length_replicate, List.length_map, List.length_set, List.length_cons, List.length_nil, List.length_zipWith, List.length_drop, List.length_range]; first | done | omega))) only [go_sem, Nat.reduceAdd, Nat.reduceEqDiff, Nat.reduceLeDiff, Nat.reduceSub]
    simp
  · rintro k0 s ⟨c, hc1, hc2, ⟨rfl, rfl, hc⟩ | ⟨rfl, rfl, rfl⟩⟩
    · have hcl := fun k => clK_len n true c k
      simp (maxSteps := 2000000) (disch := (first | omega | (simp only [List.length_append, List.length_take, List.length_replicate, List.length_map, List.length_set, List.length_cons, List.length_nil, List.length_zipWith, List.length_drop, List.length_range]; first | done | omega))) only [go_sem, Nat.reduceAdd, Nat.reduceEqDiff, Nat.reduceLeDiff, Nat.reduceSub]
      refine W_for n.tr.length (fun k s => s = ⟨[.any, .any, .ptr 0 0, .any, .any, .ref 1 1 0 n.pl.toNat, .ref 2 1 0 n.tr.length, .bool (clK n true c k).ch, .any, .any, .any, .any, .any, .any, trs n.tr, I n.tr.length, I k, .any, .any, .any, .any, .any, .any, .any, .any, .any, .any], [.box t_impl_Net [I n.pl, trs n.tr], .row t_bool true 1 ((clK n true c k).pl.map PV.bool), .row t_bool true 1 ((clK n true c k).tr.map PV.bool)]⟩) ?_ ?_ ?_
      · simp (maxSteps := 2000000) (disch := (first | omega | (simp only [List.length_append, List.length_take, List.length_replicate, List.length_map, List.length_set, List.length_cons, List.length_nil, List.length_zipWith, List.length_drop, List.length_range]; first | done | omega))) only [go_sem, Nat.reduceAdd, Nat.reduceEqDiff, Nat.reduceLeDiff, Nat.reduceSub]
        rfl
      · rintro k s hk rfl
        have hT := hb.2.2.2 _ (List.getElem_mem hk)
        have hLs := goodT_lens hT (by omega)
        obtain ⟨_, g1, g2, g3⟩ := goodT_parts hT
        have p1 := places_in g2
        have p2 := places_in g1
        have hd := hcl k
        have hstep := clK_succ n true c k
        have htr : n.tr[k] = trN n k := (trN_eq hk).symm
        rw [htr] at hLs p1 p2
        have s1 : (clK n true c k).tr.getD k false = true → clK n true c (k + 1) = clK n true c k := fun h => hstep.trans (clStep_no (.inl h))
        have s2 : hitB (clK n true c k).pl (sideI true (trN n k)) = false → clK n true c (k + 1) = clK n true c k := fun h => hstep.trans (clStep_no (.inr h))
        have s3 : (clK n true c k).tr.getD k false = false → hitB (clK n true c k).pl (sideI true (trN n k)) = true → clK n true c (k + 1) = ⟨markB (clK n true c k).pl (sideO true (trN n k)), (clK n true c k).tr.set k true, true⟩ := fun h h2 => hstep.trans (clStep_yes h h2)
        simp only [sideI, sideO, Bool.false_eq_true, if_false, if_true] at s2 s3
        clear hstep
        generalize clK n true c k = d at *
        generalize clK n true c (k + 1) = d' at *
        simp (maxSteps := 2000000) (disch := (first | omega | (simp only [List.length_append, List.length_take, List.length_replicate, List.length_map, List.length_set, List.length_cons, List.length_nil, List.length_zipWith, List.length_drop, List.length_range]; first | done | omega))) only [go_sem, Nat.reduceAdd, Nat.reduceEqDiff, Nat.reduceLeDiff, Nat.reduceSub]
        simp only [htr]
        generalize trN n k = tr at *
        refine W_for tr.out.length (fun j s => s = ⟨[.any, .any, .ptr 0 0, .any, .any, .ref 1 1 0 n.pl.toNat, .ref 2 1 0 n.tr.length, .bool d.ch, I k, .ptr 3 0, .bool ((tr.out.take j).any fun p => d.pl.getD p.toNat false), .any, .any, .any, trs n.tr, I n.tr.length, I k, .any, ints tr.out, I tr.out.length, I j, .any, .any, .any, .any, .any, .any], [.box t_impl_Net [I n.pl, trs n.tr], .row t_bool true 1 (d.pl.map PV.bool), .row t_bool true 1 (d.tr.map PV.bool), .box t_impl_Trans [ints tr.inn, ints tr.out, ints tr.rst]]⟩) ?_ ?_ ?_
        · simp (maxSteps := 2000000) (disch := (first | omega | (simp only [List.length_append, List.length_take, List.length_replicate, List.length_map, List.length_set, List.length_cons, List.length_nil, List.length_zipWith, List.length_drop, List.length_range]; first | done | omega))) only [go_sem, Nat.reduceAdd, Nat.reduceEqDiff, Nat.reduceLeDiff, Nat.reduceSub]
          rfl
        · rintro j s hj rfl
          have h1 := p1 _ (List.getElem_mem hj)
          have h2 : tr.out[j].toNat < d.pl.length := by omega
          simp (maxSteps := 2000000) (disch := (first | omega | (simp only [List.length_append, List.length_take, List.length_replicate, List.length_map, List.length_set, List.length_cons, List.length_nil, List.length_zipWith, List.length_drop, List.length_range]; first | done | omega))) only [go_sem, Nat.reduceAdd, Nat.reduceEqDiff, Nat.reduceLeDiff, Nat.reduceSub]
          refine ⟨fun h => ?_, fun h => ⟨fun h3 => ?_, fun h3 => ?_⟩⟩
          · rw [any_more hj h]; rfl
          · rw [any_here hj (by rw [← getD_eq h2]; exact h3)]; rfl
          · rw [any_take hj h (by rw [← getD_eq h2]; exact h3)]; rfl
        · rintro s rfl
          have hkd : k < d.tr.length := by omega
          simp (maxSteps := 2000000) (disch := (first | omega | (simp only [List.length_append, List.length_take, List.length_replicate, List.length_map, List.length_set, List.length_cons, List.length_nil, List.length_zipWith, List.length_drop, List.length_range]; first | done | omega))) only [go_sem, Nat.reduceAdd, Nat.reduceEqDiff, Nat.reduceLeDiff, Nat.reduceSub, List.take_length]
          refine ⟨fun h => ⟨fun h3 => ?_, fun h3 => ?_⟩, fun h => ?_⟩
          · rw [s1 (by rw [← getD_eq hkd]; exact h3)]; rfl
          · have e := s3 (by rw [← getD_eq hkd]; exact h3) h
            subst e
            refine W_for tr.inn.length (fun j s => s = ⟨[.any, .any, .ptr 0 0, .any, .any, .ref 1 1 0 n.pl.toNat, .ref 2 1 0 n.tr.length, .bool true, .any, .any, .any, .any, .any, .any, trs n.tr, I n.tr.length, I k, .any, .any, .any, .any, .any, .any, ints tr.inn, I tr.inn.length, I j, .any], [.box t_impl_Net [I n.pl, trs n.tr], .row t_bool true 1 ((markB d.pl (tr.inn.take j)).map PV.bool), .row t_bool true 1 ((d.tr.set k true).map PV.bool)]⟩) ?_ ?_ ?_
            · simp (maxSteps := 2000000) (disch := (first | omega | (simp only [List.length_append, List.length_take, List.length_replicate, List.length_map, List.length_set, List.length_cons, List.length_nil, List.length_zipWith, List.length_drop, List.length_range]; first | done | omega))) only [go_sem, Nat.reduceAdd, Nat.reduceEqDiff, Nat.reduceLeDiff, Nat.reduceSub]
              rfl
            · rintro j s hj rfl
              have h1 := p2 _ (List.getElem_mem hj)
              have h2 : tr.inn[j].toNat < d.pl.length := by omega
              have h4 := markB_len d.pl (tr.inn.take j)
              simp (maxSteps := 2000000) (disch := (first | omega | (simp only [List.length_append, List.length_take, List.length_replicate, List.length_map, List.length_set, List.length_cons, List.length_nil, List.length_zipWith, List.length_drop, List.length_range]; first | done | omega))) only [go_sem, Nat.reduceAdd, Nat.reduceEqDiff, Nat.reduceLeDiff, Nat.reduceSub]
              rw [markB_take hj]; rfl
            · rintro s rfl
              simp (maxSteps := 2000000) (disch := (first | omega | (simp only [List.length_append, List.length_take, List.length_replicate, List.length_map, List.length_set, List.length_cons, List.length_nil, List.length_zipWith, List.length_drop, List.length_range]; first | done | omega))) only [go_sem, Nat.reduceAdd, Nat.reduceEqDiff, Nat.reduceLeDiff, Nat.reduceSub, List.take_length]
              rfl
          · rw [s2 h]; rfl
      · rintro s rfl
        simp (maxSteps := 2000000) (disch := (first | omega | (simp only [List.length_append, List.length_take, List.length_replicate, List.length_map, List.length_set, List.length_cons, List.length_nil, List.length_zipWith, List.length_drop, List.length_range]; first | done | omega))) only [go_sem, Nat.reduceAdd, Nat.reduceEqDiff, Nat.reduceLeDiff, Nat.reduceSub]
        have hn := clRun_next (n := n) (bk := true) hc2
        rw [hc] at hn
        cases e : (clRound n true c).ch with
        | true =>
          have h1 := (clK_cnt (n := n) (bk := true) (s := c) (k := n.tr.length) (by omega)).2 e
          simp only [e, if_true] at hn
          refine ⟨cntF (clRound n true c).tr + 1, by unfold clRound; omega, clRound n true c, by unfold clRound; have := hcl n.tr.length; omega, by unfold clRound; have := hcl n.tr.length; omega, .inl ⟨rfl, ?_, hn.symm⟩⟩
          unfold clRound at e ⊢
          rw [e]
        | false =>
          simp only [e, Bool.false_eq_true, if_false] at hn
          refine ⟨0, by omega, clRound n true c, by unfold clRound; have := hcl n.tr.length; omega, by unfold clRound; have := hcl n.tr.length; omega, .inr ⟨rfl, ?_, hn.symm⟩⟩
          unfold clRound at e ⊢
          rw [e]
    · simp (maxSteps := 2000000) (disch := (first | omega | (simp only [List.length_append, List.length_take, List.length_replicate, List.length_map, List.length_set, List.length_cons, List.length_nil, List.length_zipWith, List.length_drop, List.length_range]; first | done | omega))) only [go_sem, Nat.reduceAdd, Nat.reduceEqDiff, Nat.reduceLeDiff, Nat.reduceSub]
theorem spec_l3Both_ok (a b : List Bool) (ha : a.length < 2^30) (hab : a.length ≤ b.length) : C f_spec_l3Both [bls a, bls b] [] = some (.un t_int true 1 ((bothL a b).map I), []) := by
  refine C_spec_l3Both ?_
  simp (maxSteps := 2000000) (disch := (first | omega | (simp only [List.length_append, List.length_take, List.length_replicate, List.length_map, List.length_set, List.length_cons, List.length_nil, List.length_zipWith, List.length_drop, List.length_range]; first | done | omega))) only [ir_spec_l3Both, go_sem, Nat.reduceAdd, Nat.reduceEqDiff, Nat.reduceLeDiff, Nat.reduceSub]
  refine W_for a.length (fun k s => s = ⟨[bls a, bls b, .any, .ref 0 1 0 (bothK a b k).length, .any, I a.length, I k, .any, .any], [.row t_int true 1 ((bothK a b k).map I)]⟩) ?_ ?_ ?_
  · simp (maxSteps := 2000000) (disch := (first | omega | (simp only [List.length_append, List.length_take, List.length_replicate, List.length_map, List.length_set, List.length_cons, List.length_nil, List.length_zipWith, List.length_drop, List.length_range]; first | done | omega))) only [go_sem, Nat.reduceAdd, Nat.reduceEqDiff, Nat.reduceLeDiff, Nat.reduceSub]
    rfl
  · rintro k s hk rfl
    have h2 := bothK_len a b k
    have hkb : k < b.length := by omega
    have e1 := getD_eq hk
    have e2 := getD_eq hkb
    simp (maxSteps := 2000000) (disch := (first | omega | (simp only [List.length_append, List.length_take, List.length_replicate, List.length_map, List.length_set, List.length_cons, List.length_nil, List.length_zipWith, List.length_drop, List.length_range]; first | done | omega))) only [go_sem, Nat.reduceAdd, Nat.reduceEqDiff, Nat.reduceLeDiff, Nat.reduceSub]
    rw [e1, e2]
    refine ⟨fun h => ⟨fun h3 => ?_, fun h3 => ?_⟩, fun h => ?_⟩
    · rw [bothK_t h h3, List.map_append]; simp
    · rw [bothK_f (by rw [h, h3]; rfl)]; rfl
    · rw [bothK_f (by rw [h]; rfl)]; rfl
  · rintro s rfl
    simp (maxSteps := 2000000) (disch := (first | omega | (simp only [List.length_append, List.length_take, List.length_replicate, List.length_map, List.length_set, List.length_cons, List.length_nil, List.length_zipWith, List.length_drop, List.length_range]; first | done | omega))) only [go_sem, Nat.reduceAdd, Nat.reduceEqDiff, Nat.reduceLeDiff, Nat.reduceSub]
    rfl
theorem spec_OnWay_ok (n : Net) (a b : Int) (hn : smN n) : C f_spec_OnWay [encN n, I a, I b] [] = some (.tup [.un t_int true 1 ((if okWay n a b then wayP n a b else []).map I), .un t_int true 1 ((if okWay n a b then wayT n a b else []).map I), .bool (okWay n a b)], []) := by
  refine C_spec_OnWay ?_
  simp (maxSteps := 2000000) (disch := (first | omega | (simp only [List.length_append, List.length_take, List.length_replicate, List.length_map, List.length_set, List.length_cons, List.length_nil, List.length_zipWith, List.length_drop, List.length_range]; first | done | omega))) only [ir_spec_OnWay, go_sem, Nat.reduceAdd, Nat.reduceEqDiff, Nat.reduceLeDiff, Nat.reduceSub]
  simp (maxSteps := 2000000) (disch := (first | omega | (simp only [List.length_append, List.length_take, List.length_replicate, List.length_map, List.length_set, List.length_cons, List.length_nil, List.length_zipWith, List.length_drop, List.length_range]; first | done | omega))) only [go_sem, Nat.reduceAdd, Nat.reduceEqDiff, Nat.reduceLeDiff, Nat.reduceSub, spec_GoodNet_ok n hn, spec_l1In_ok]
  cases hg : goodN n with
  | false => simp [okWay, hg]
  | true =>
    have hb := goodN_parts hg
    cases h1 : inB 0 (n.pl - 1) a with
    | false => simp (maxSteps := 2000000) (disch := (first | omega | (simp only [List.length_append, List.length_take, List.length_replicate, List.length_map, List.length_set, List.length_cons, List.length_nil, List.length_zipWith, List.length_drop, List.length_range]; first | done | omega))) only [go_sem, Nat.reduceAdd, Nat.reduceEqDiff, Nat.reduceLeDiff, Nat.reduceSub, h1]; simp [okWay, hg, h1]
    | true =>
      cases h2 : inB 0 (n.pl - 1) b with
      | false => simp (maxSteps := 2000000) (disch := (first | omega | (simp only [List.length_append, List.length_take, List.length_replicate, List.length_map, List.length_set, List.length_cons, List.length_nil, List.length_zipWith, List.length_drop, List.length_range]; first | done | omega))) only [go_sem, Nat.reduceAdd, Nat.reduceEqDiff, Nat.reduceLeDiff, Nat.reduceSub, h1, h2]; simp [okWay, hg, h1, h2]
      | true =>
        have hok : okWay n a b = true := by simp [okWay, hg, h1, h2]
        have ha : 0 ≤ a ∧ a < n.pl := by simp [inB] at h1; omega
        have hb2 : 0 ≤ b ∧ b < n.pl := by simp [inB] at h2; omega
        have l1 := reachC_len n false a
        have l2 := reachC_len n true b
        simp (maxSteps := 2000000) (disch := (first | omega | (simp only [List.length_append, List.length_take, List.length_replicate, List.length_map, List.length_set, List.length_cons, List.length_nil, List.length_zipWith, List.length_drop, List.length_range]; first | done | omega))) only [go_sem, Nat.reduceAdd, Nat.reduceEqDiff, Nat.reduceLeDiff, Nat.reduceSub, h1, h2, spec_l3Forward_ok n a hg ha, spec_l3Back_ok n b hg hb2, hok]
        simp (maxSteps := 2000000) (disch := (first | omega | (simp only [List.length_append, List.length_take, List.length_replicate, List.length_map, List.length_set, List.length_cons, List.length_nil, List.length_zipWith, List.length_drop, List.length_range]; first | done | omega))) only [go_sem, Nat.reduceAdd, Nat.reduceEqDiff, Nat.reduceLeDiff, Nat.reduceSub, spec_l3Both_ok (reachC n false a).pl (reachC n true b).pl (by omega) (by omega), spec_l3Both_ok (reachC n false a).tr (reachC n true b).tr (by omega) (by omega)]
        rfl
theorem spec_l1Has_ok (l : List Int) (x : Int) (hl : l.length < 2^62) : C f_spec_l1Has [ints l, I x] [] = some (.bool (hasB l x), []) := by
  refine C_spec_l1Has ?_
  simp (maxSteps := 2000000) (disch := (first | omega | (simp only [List.length_append, List.length_take, List.length_replicate, List.length_map, List.length_set, List.length_cons, List.length_nil, List.length_zipWith, List.length_drop, List.length_range]; first | done | omega))) only [ir_spec_l1Has, go_sem, Nat.reduceAdd, Nat.reduceEqDiff, Nat.reduceLeDiff, Nat.reduceSub]
  refine W_for l.length (fun k s => s = ⟨[.any, I x, .any, .any, ints l, I l.length, I k, .any, .any], []⟩ ∧ (l.take k).any (fun y => y == x) = false) ?_ ?_ ?_
  · simp (maxSteps := 2000000) (disch := (first | omega | (simp only [List.length_append, List.length_take, List.length_replicate, List.length_map, List.length_set, List.length_cons, List.length_nil, List.length_zipWith, List.length_drop, List.length_range]; first | done | omega))) only [go_sem, Nat.reduceAdd, Nat.reduceEqDiff, Nat.reduceLeDiff, Nat.reduceSub]
    rfl
  · rintro k s hk ⟨rfl, hall⟩
    simp (maxSteps := 2000000) (disch := (first | omega | (simp only [List.length_append, List.length_take, List.length_replicate, List.length_map, List.length_set, List.length_cons, List.length_nil, List.length_zipWith, List.length_drop, List.length_range]; first | done | omega))) only [go_sem, Nat.reduceAdd, Nat.reduceEqDiff, Nat.reduceLeDiff, Nat.reduceSub]
    refine ⟨fun h => ?_, fun h => ⟨rfl, any_take hk hall (by simpa using h)⟩⟩
    rw [hasB_yes hk h]
  · rintro s ⟨rfl, hall⟩
    simp (maxSteps := 2000000) (disch := (first | omega | (simp only [List.length_append, List.length_take, List.length_replicate, List.length_map, List.length_set, List.length_cons, List.length_nil, List.length_zipWith, List.length_drop, List.length_range]; first | done | omega))) only [go_sem, Nat.reduceAdd, Nat.reduceEqDiff, Nat.reduceLeDiff, Nat.reduceSub]
    rw [List.take_length] at hall
    rw [hasB_no hall]
theorem spec_GoodFlow_ok (f : Fl) (hf : smN f.net) : C f_spec_GoodFlow [encF f] [] = some (.bool (goodFl f), []) := by
  have hl := hf.1
  have hw := spec_OnWay_ok f.net f.src f.dst hf
  have hP : (wayP f.net f.src f.dst).length < 2^62 ∨ goodN f.net = false := by
    cases hg : goodN f.net with
    | false => exact .inr rfl
    | true =>
      have := goodN_parts hg
      have h1 := bothK_len (reachC f.net false f.src).pl (reachC f.net true f.dst).pl (reachC f.net false f.src).pl.length
      have h2 := reachC_len f.net false f.src
      exact .inl (by unfold wayP bothL; omega)
  have hT : (wayT f.net f.src f.dst).length < 2^62 := by
    have h1 := bothK_len (reachC f.net false f.src).tr (reachC f.net true f.dst).tr (reachC f.net false f.src).tr.length
    have h2 := reachC_len f.net false f.src
    unfold wayT bothL; omega
  refine C_spec_GoodFlow ?_
  simp (maxSteps := 2000000) (disch := (first | omega | (simp only [List.length_append, List.length_take, List.length_replicate, List.length_map, List.length_set, List.length_cons, List.length_nil, List.length_zipWith, List.length_drop, List.length_range]; first | done | omega))) only [ir_spec_GoodFlow, go_sem, Nat.reduceAdd, Nat.reduceEqDiff, Nat.reduceLeDiff, Nat.reduceSub]
  cases hok : okWay f.net f.src f.dst with
  | false =>
    simp only [hok] at hw
    simp (maxSteps := 2000000) (disch := (first | omega | (simp only [List.length_append, List.length_take, List.length_replicate, List.length_map, List.length_set, List.length_cons, List.length_nil, List.length_zipWith, List.length_drop, List.length_range]; first | done | omega))) only [go_sem, Nat.reduceAdd, Nat.reduceEqDiff, Nat.reduceLeDiff, Nat.reduceSub, hw]
    simp [goodFl, hok]
  | true =>
    have hg : goodN f.net = true := by simp only [okWay, Bool.and_eq_true] at hok; exact hok.1.1
    have hb := goodN_parts hg
    have hP : (wayP f.net f.src f.dst).length < 2^62 := by
      rcases hP with h | h
      · exact h
      · rw [hg] at h; cases h
    simp only [hok, if_true] at hw
    simp (maxSteps := 2000000) (disch := (first | omega | (simp only [List.length_append, List.length_take, List.length_replicate, List.length_map, List.length_set, List.length_cons, List.length_nil, List.length_zipWith, List.length_drop, List.length_range]; first | done | omega))) only [go_sem, Nat.reduceAdd, Nat.reduceEqDiff, Nat.reduceLeDiff, Nat.reduceSub, hw]
    refine ⟨fun h => by simp [goodFl, h], fun h => ⟨fun h2 => by simp [goodFl, h2], fun h2 => ⟨fun h3 => ?_, fun h3 => ?_⟩⟩⟩
    · have : ¬ (wayT f.net f.src f.dst).length = f.net.tr.length := by omega
      simp [goodFl, this]
    refine W_for f.net.tr.length (fun k s => s = ⟨[.any, .ptr 0 0, .any, .any, .any, .any, .any, .any, trs f.net.tr, I f.net.tr.length, I k, .any, .any], [.box t_impl_Flow [I f.net.pl, trs f.net.tr, I f.src, I f.dst]]⟩ ∧ (f.net.tr.take k).all (fun t => !spoils f t) = true) ?_ ?_ ?_
    · simp (maxSteps := 2000000) (disch := (first | omega | (simp only [List.length_append, List.length_take, List.length_replicate, List.length_map, List.length_set, List.length_cons, List.length_nil, List.length_zipWith, List.length_drop, List.length_range]; first | done | omega))) only [go_sem, Nat.reduceAdd, Nat.reduceEqDiff, Nat.reduceLeDiff, Nat.reduceSub]
      rfl
    · rintro k s hk ⟨rfl, hall⟩
      have hT := hb.2.2.2 _ (List.getElem_mem hk)
      have hLs := goodT_lens hT (by omega)
      simp (maxSteps := 2000000) (disch := (first | omega | (simp only [List.length_append, List.length_take, List.length_replicate, List.length_map, List.length_set, List.length_cons, List.length_nil, List.length_zipWith, List.length_drop, List.length_range]; first | done | omega))) only [go_sem, Nat.reduceAdd, Nat.reduceEqDiff, Nat.reduceLeDiff, Nat.reduceSub, spec_l1Has_ok]
      have gs : spoils f f.net.tr[k] = true → goodFl f = false := fun hs => by
        have : (f.net.tr.all fun t => !spoils f t) = false := all_false hk (by simp [hs])
        simp [goodFl, this]
      exact ⟨fun a => by rw [gs (by simp [spoils, a])], fun a => ⟨fun b => by rw [gs (by simp [spoils, b])], fun b => ⟨fun c => by rw [gs (by simp [spoils, c])], fun c => ⟨fun d => by rw [gs (by simp [spoils, d])], fun d => ⟨rfl, all_take hk hall (by simp [spoils, a, b, c, d])⟩⟩⟩⟩⟩
    · rintro s ⟨rfl, hall⟩
      simp (maxSteps := 2000000) (disch := (first | omega | (simp only [List.length_append, List.length_take, List.length_replicate, List.length_map, List.length_set, List.length_cons, List.length_nil, List.length_zipWith, List.length_drop, List.length_range]; first | done | omega))) only [go_sem, Nat.reduceAdd, Nat.reduceEqDiff, Nat.reduceLeDiff, Nat.reduceSub]
      rw [List.take_length] at hall
      have h4 : (wayT f.net f.src f.dst).length = f.net.tr.length := by omega
      simp [goodFl, hok, h, h2, h4]
      simpa using hall
theorem spec_l2Resets_ok (n : Net) (hl : n.tr.length < 2^62) : C f_spec_l2Resets [encN n] [] = some (.bool (hasR n), []) := by
  refine C_spec_l2Resets ?_
  simp (maxSteps := 2000000) (disch := (first | omega | (simp only [List.length_append, List.length_take, List.length_replicate, List.length_map, List.length_set, List.length_cons, List.length_nil, List.length_zipWith, List.length_drop, List.length_range]; first | done | omega))) only [ir_spec_l2Resets, go_sem, Nat.reduceAdd, Nat.reduceEqDiff, Nat.reduceLeDiff, Nat.reduceSub]
  refine W_for n.tr.length (fun k s => s = ⟨[.any, .any, .any, .any, trs n.tr, I n.tr.length, I k, .any, .any], []⟩ ∧ (n.tr.take k).any (fun t => decide (0 < t.rst.length)) = false) ?_ ?_ ?_
  · simp (maxSteps := 2000000) (disch := (first | omega | (simp only [List.length_append, List.length_take, List.length_replicate, List.length_map, List.length_set, List.length_cons, List.length_nil, List.length_zipWith, List.length_drop, List.length_range]; first | done | omega))) only [go_sem, Nat.reduceAdd, Nat.reduceEqDiff, Nat.reduceLeDiff, Nat.reduceSub]
    rfl
  · rintro k s hk ⟨rfl, hall⟩
    simp (maxSteps := 2000000) (disch := (first | omega | (simp only [List.length_append, List.length_take, List.length_replicate, List.length_map, List.length_set, List.length_cons, List.length_nil, List.length_zipWith, List.length_drop, List.length_range]; first | done | omega))) only [go_sem, Nat.reduceAdd, Nat.reduceEqDiff, Nat.reduceLeDiff, Nat.reduceSub]
    refine ⟨fun h => ?_, fun h => ⟨rfl, any_take hk hall (decide_eq_false (by omega))⟩⟩
    have : hasR n = true := any_true hk (decide_eq_true (by omega))
    rw [this]
  · rintro s ⟨rfl, hall⟩
    simp (maxSteps := 2000000) (disch := (first | omega | (simp only [List.length_append, List.length_take, List.length_replicate, List.length_map, List.length_set, List.length_cons, List.length_nil, List.length_zipWith, List.length_drop, List.length_range]; first | done | omega))) only [go_sem, Nat.reduceAdd, Nat.reduceEqDiff, Nat.reduceLeDiff, Nat.reduceSub]
    rw [List.take_length] at hall
    unfold hasR; rw [hall]
theorem spec_l10Asked_ok (f : Fl) (hn : smN f.net) : C f_spec_l10Asked [encF f] [] = some (.bool (okRed f), []) := by
  have hG := spec_GoodFlow_ok f hn
  have hl := hn.1
  have hR := spec_l2Resets_ok f.net (by omega)
  unfold encF at hG
  refine C_spec_l10Asked ?_
  simp (maxSteps := 2000000) (disch := (first | omega | (simp only [List.length_append, List.length_take, List.length_replicate, List.length_map, List.length_set, List.length_cons, List.length_nil, List.length_zipWith, List.length_drop, List.length_range]; first | done | omega))) only [ir_spec_l10Asked, go_sem, Nat.reduceAdd, Nat.reduceEqDiff, Nat.reduceLeDiff, Nat.reduceSub]
  cases hg : goodFl f with
  | false =>
    simp (maxSteps := 2000000) (disch := (first | omega | (simp only [List.length_append, List.length_take, List.length_replicate, List.length_map, List.length_set, List.length_cons, List.length_nil, List.length_zipWith, List.length_drop, List.length_range]; first | done | omega))) only [go_sem, Nat.reduceAdd, Nat.reduceEqDiff, Nat.reduceLeDiff, Nat.reduceSub, hG, hg]
    simp [okRed, hg]
  | true =>
    simp (maxSteps := 2000000) (disch := (first | omega | (simp only [List.length_append, List.length_take, List.length_replicate, List.length_map, List.length_set, List.length_cons, List.length_nil, List.length_zipWith, List.length_drop, List.length_range]; first | done | omega))) only [go_sem, Nat.reduceAdd, Nat.reduceEqDiff, Nat.reduceLeDiff, Nat.reduceSub, hG, hg, hR]
    simp [okRed, hg]
theorem spec_l2Takers_ok (n : Net) (p : Int) (hg : goodN n = true) : C f_spec_l2Takers [encN n, I p] [] = some (.un t_int true 1 ((idxL (fun t => hasB t.inn p) n).map I), []) := by
  have hb := goodN_parts hg
  refine C_spec_l2Takers ?_
  simp (maxSteps := 2000000) (disch := (first | omega | (simp only [List.length_append, List.length_take, List.length_replicate, List.length_map, List.length_set, List.length_cons, List.length_nil, List.length_zipWith, List.length_drop, List.length_range]; first | done | omega))) only [ir_spec_l2Takers, go_sem, Nat.reduceAdd, Nat.reduceEqDiff, Nat.reduceLeDiff, Nat.reduceSub]
  refine W_for n.tr.length (fun k s => s = ⟨[.any, I p, .any, .any, .ref 0 1 0 (idxK (fun t => hasB t.inn p) n k).length, .any, .any, trs n.tr, I n.tr.length, I k, .any, .any], [.row t_int true 1 ((idxK (fun t => hasB t.inn p) n k).map I)]⟩) ?_ ?_ ?_
  · simp (maxSteps := 2000000) (disch := (first | omega | (simp only [List.length_append, List.length_take, List.length_replicate, List.length_map, List.length_set, List.length_cons, List.length_nil, List.length_zipWith, List.length_drop, List.length_range]; first | done | omega))) only [go_sem, Nat.reduceAdd, Nat.reduceEqDiff, Nat.reduceLeDiff, Nat.reduceSub]
    rfl
  · rintro k s hk rfl
    have h2 := idxK_len (fun t => hasB t.inn p) n k
    have h3 := goodT_lens (hb.2.2.2 _ (List.getElem_mem hk)) (by omega)
    simp (maxSteps := 2000000) (disch := (first | omega | (simp only [List.length_append, List.length_take, List.length_replicate, List.length_map, List.length_set, List.length_cons, List.length_nil, List.length_zipWith, List.length_drop, List.length_range]; first | done | omega))) only [go_sem, Nat.reduceAdd, Nat.reduceEqDiff, Nat.reduceLeDiff, Nat.reduceSub, spec_l1Has_ok]
    refine ⟨fun h => ?_, fun h => ?_⟩
    · rw [idxK_t hk h, List.map_append]; simp
    · rw [idxK_f hk h]; rfl
  · rintro s rfl
    simp (maxSteps := 2000000) (disch := (first | omega | (simp only [List.length_append, List.length_take, List.length_replicate, List.length_map, List.length_set, List.length_cons, List.length_nil, List.length_zipWith, List.length_drop, List.length_range]; first | done | omega))) only [go_sem, Nat.reduceAdd, Nat.reduceEqDiff, Nat.reduceLeDiff, Nat.reduceSub]
    rfl
theorem spec_l10Apart_ok (f : Fl) (p q : Int) (hl : f.net.tr.length < 2^62) (ht : ∀ t ∈ f.net.tr, t.out.length < 2^62) : C f_spec_l10Apart [encF f, I p, I q] [] = some (.bool (!(f.net.tr.any fun u => hasB u.out p && hasB u.out q)), []) := by
  refine C_spec_l10Apart ?_
  simp (maxSteps := 2000000) (disch := (first | omega | (simp only [List.length_append, List.length_take, List.length_replicate, List.length_map, List.length_set, List.length_cons, List.length_nil, List.length_zipWith, List.length_drop, List.length_range]; first | done | omega))) only [ir_spec_l10Apart, go_sem, Nat.reduceAdd, Nat.reduceEqDiff, Nat.reduceLeDiff, Nat.reduceSub]
  refine W_for f.net.tr.length (fun k st => st = ⟨[.any, I p, I q, .any, .any, .any, trs f.net.tr, I f.net.tr.length, I k, .any, .any], []⟩ ∧ ∀ j, j < k → (hasB (trN f.net j).out p && hasB (trN f.net j).out q) = false) ?_ ?_ ?_
  · simp (maxSteps := 2000000) (disch := (first | omega | (simp only [List.length_append, List.length_take, List.length_replicate, List.length_map, List.length_set, List.length_cons, List.length_nil, List.length_zipWith, List.length_drop, List.length_range]; first | done | omega))) only [go_sem, Nat.reduceAdd, Nat.reduceEqDiff, Nat.reduceLeDiff, Nat.reduceSub]
    exact ⟨rfl, fun q' h => by omega⟩
  · rintro k st hk ⟨rfl, hall⟩
    have h1 := spec_l1Has_ok f.net.tr[k].out p (ht _ (List.getElem_mem hk))
    have h2 := spec_l1Has_ok f.net.tr[k].out q (ht _ (List.getElem_mem hk))
    have next : (hasB f.net.tr[k].out p && hasB f.net.tr[k].out q) = false → ∀ j, j < k + 1 → (hasB (trN f.net j).out p && hasB (trN f.net j).out q) = false := by
      intro h j hj
      rcases Nat.lt_or_ge j k with h5 | h5
      · exact hall j h5
      · rw [show j = k by omega, trN_eq hk]; exact h
    cases b1 : hasB f.net.tr[k].out p with
    | false =>
      simp (maxSteps := 2000000) (disch := (first | omega | (simp only [List.length_append, List.length_take, List.length_replicate, List.length_map, List.length_set, List.length_cons, List.length_nil, List.length_zipWith, List.length_drop, List.length_range]; first | done | omega))) only [go_sem, Nat.reduceAdd, Nat.reduceEqDiff, Nat.reduceLeDiff, Nat.reduceSub, h1, h2, b1]
      exact ⟨rfl, next (by rw [b1]; rfl)⟩
    | true =>
      cases b2 : hasB f.net.tr[k].out q with
      | false =>
        simp (maxSteps := 2000000) (disch := (first | omega | (simp only [List.length_append, List.length_take, List.length_replicate, List.length_map, List.length_set, List.length_cons, List.length_nil, List.length_zipWith, List.length_drop, List.length_range]; first | done | omega))) only [go_sem, Nat.reduceAdd, Nat.reduceEqDiff, Nat.reduceLeDiff, Nat.reduceSub, h1, h2, b1, b2]
        exact ⟨rfl, next (by rw [b2]; simp)⟩
      | true =>
        simp (maxSteps := 2000000) (disch := (first | omega | (simp only [List.length_append, List.length_take, List.length_replicate, List.length_map, List.length_set, List.length_cons, List.length_nil, List.length_zipWith, List.length_drop, List.length_range]; first | done | omega))) only [go_sem, Nat.reduceAdd, Nat.reduceEqDiff, Nat.reduceLeDiff, Nat.reduceSub, h1, h2, b1, b2]
        rw [List.any_eq_true.2 ⟨f.net.tr[k], List.getElem_mem hk, by rw [b1, b2]; rfl⟩]
        rfl
  · rintro st ⟨rfl, hall⟩
    simp (maxSteps := 2000000) (disch := (first | omega | (simp only [List.length_append, List.length_take, List.length_replicate, List.length_map, List.length_set, List.length_cons, List.length_nil, List.length_zipWith, List.length_drop, List.length_range]; first | done | omega))) only [go_sem, Nat.reduceAdd, Nat.reduceEqDiff, Nat.reduceLeDiff, Nat.reduceSub]
    rw [List.any_eq_false.2 (fun t ht => by
      obtain ⟨j, hj, rfl⟩ := List.getElem_of_mem ht
      rw [← trN_eq hj, hall j hj]; simp)]
    rfl
theorem spec_l1Own_ok (l : List Int) (h : l.length < 2^36) : C f_spec_l1Own [ints l] [] = some (.un t_int true 1 (l.map I), []) := by
  refine C_spec_l1Own ?_
  simp (maxSteps := 2000000) (disch := (first | omega | (simp only [List.length_append, List.length_take, List.length_replicate, List.length_map, List.length_set, List.length_cons, List.length_nil, List.length_zipWith, List.length_drop, List.length_range]; first | done | omega))) only [ir_spec_l1Own, go_sem, Nat.reduceAdd, Nat.reduceEqDiff, Nat.reduceLeDiff, Nat.reduceSub]
theorem spec_l3Own_ok (n : Net) (hg : goodN n = true) (h0 : n.tr ≠ []) : C f_spec_l3Own [encN n] [] = some (.agg [I n.pl, .un t_impl_Trans false 3 (n.tr.map encT)], []) := by
  have hb := goodN_parts hg
  have hl : 0 < n.tr.length := List.length_pos_iff.2 h0
  refine C_spec_l3Own ?_
  simp (maxSteps := 2000000) (disch := (first | omega | (simp only [List.length_append, List.length_take, List.length_replicate, List.length_map, List.length_set, List.length_cons, List.length_nil, List.length_zipWith, List.length_drop, List.length_range]; first | done | omega))) only [ir_spec_l3Own, go_sem, Nat.reduceAdd, Nat.reduceEqDiff, Nat.reduceLeDiff, Nat.reduceSub]
  refine W_for n.tr.length (fun k s => (s = ⟨[.any, .any, .ptr 0 0, .ptr 1 0, .any, trs n.tr, I n.tr.length, I k, .any], [.box t_impl_Net [I 0, .nil false 3], .box t_impl_Net [I n.pl, .nil false 3]]⟩ ∧ k = 0) ∨ (s = ⟨[.any, .any, .ptr 0 0, .ptr 1 0, .any, trs n.tr, I n.tr.length, I k, .any], [.box t_impl_Net [I 0, .nil false 3], .box t_impl_Net [I n.pl, .ref 2 3 0 k], .row t_impl_Trans false 3 ((n.tr.take k).map encT)]⟩ ∧ 0 < k)) ?_ ?_ ?_
  · refine .inl ⟨?_, rfl⟩
    simp (maxSteps := 2000000) (disch := (first | omega | (simp only [List.length_append, List.length_take, List.length_replicate, List.length_map, List.length_set, List.length_cons, List.length_nil, List.length_zipWith, List.length_drop, List.length_range]; first | done | omega))) only [go_sem, Nat.reduceAdd, Nat.reduceEqDiff, Nat.reduceLeDiff, Nat.reduceSub]
    rfl
  · rintro k s hk (⟨rfl, rfl⟩ | ⟨rfl, h1⟩)
    · have hT := goodT_lens (hb.2.2.2 _ (List.getElem_mem hk)) (by omega)
      simp (maxSteps := 2000000) (disch := (first | omega | (simp only [List.length_append, List.length_take, List.length_replicate, List.length_map, List.length_set, List.length_cons, List.length_nil, List.length_zipWith, List.length_drop, List.length_range]; first | done | omega))) only [go_sem, Nat.reduceAdd, Nat.reduceEqDiff, Nat.reduceLeDiff, Nat.reduceSub, spec_l1Own_ok]
      refine ⟨rfl, ?_, by omega⟩
      rw [take_snoc (k := 0) hk]; rfl
    · have hT := goodT_lens (hb.2.2.2 _ (List.getElem_mem hk)) (by omega)
      simp (maxSteps := 2000000) (disch := (first | omega | (simp only [List.length_append, List.length_take, List.length_replicate, List.length_map, List.length_set, List.length_cons, List.length_nil, List.length_zipWith, List.length_drop, List.length_range]; first | done | omega))) only [go_sem, Nat.reduceAdd, Nat.reduceEqDiff, Nat.reduceLeDiff, Nat.reduceSub, spec_l1Own_ok]
      refine ⟨rfl, ?_⟩
      rw [take_snoc hk, List.map_append]; rfl
  · rintro s (⟨rfl, hk⟩ | ⟨rfl, hk⟩)
    · omega
    · simp (maxSteps := 2000000) (disch := (first | omega | (simp only [List.length_append, List.length_take, List.length_replicate, List.length_map, List.length_set, List.length_cons, List.length_nil, List.length_zipWith, List.length_drop, List.length_range]; first | done | omega))) only [go_sem, Nat.reduceAdd, Nat.reduceEqDiff, Nat.reduceLeDiff, Nat.reduceSub, List.take_length]
theorem spec_l8Without_ok (a b : List Int) (ha : a.length < 2^30) (hb : b.length < 2^62) : C f_spec_l8Without [ints a, ints b] [] = some (.un t_int true 1 ((wout a b).map I), []) := by
  refine C_spec_l8Without ?_
  simp (maxSteps := 2000000) (disch := (first | omega | (simp only [List.length_append, List.length_take, List.length_replicate, List.length_map, List.length_set, List.length_cons, List.length_nil, List.length_zipWith, List.length_drop, List.length_range]; first | done | omega))) only [ir_spec_l8Without, go_sem, Nat.reduceAdd, Nat.reduceEqDiff, Nat.reduceLeDiff, Nat.reduceSub]
  refine W_for a.length (fun k s => s = ⟨[.any, ints b, .any, .ref 0 1 0 (wout (a.take k) b).length, .any, ints a, I a.length, I k, .any, .any], [.row t_int true 1 ((wout (a.take k) b).map I)]⟩) ?_ ?_ ?_
  · simp (maxSteps := 2000000) (disch := (first | omega | (simp only [List.length_append, List.length_take, List.length_replicate, List.length_map, List.length_set, List.length_cons, List.length_nil, List.length_zipWith, List.length_drop, List.length_range]; first | done | omega))) only [go_sem, Nat.reduceAdd, Nat.reduceEqDiff, Nat.reduceLeDiff, Nat.reduceSub]
    rfl
  · rintro k s hk rfl
    have h1 : (wout (a.take k) b).length ≤ (a.take k).length := List.length_filter_le _ _
    have h2 : (a.take k).length ≤ k := by simp; omega
    simp (maxSteps := 2000000) (disch := (first | omega | (simp only [List.length_append, List.length_take, List.length_replicate, List.length_map, List.length_set, List.length_cons, List.length_nil, List.length_zipWith, List.length_drop, List.length_range]; first | done | omega))) only [go_sem, Nat.reduceAdd, Nat.reduceEqDiff, Nat.reduceLeDiff, Nat.reduceSub, spec_l1Has_ok]
    refine ⟨fun h => ?_, fun h => ?_⟩
    · rw [show wout (a.take (k + 1)) b = wout (a.take k) b by simp only [wout]; rw [take_snoc hk, List.filter_append]; simp [List.filter_cons, h]]; rfl
    · rw [show wout (a.take (k + 1)) b = wout (a.take k) b ++ [a[k]] by simp only [wout]; rw [take_snoc hk, List.filter_append]; simp [List.filter_cons, h], List.map_append]; simp
  · rintro s rfl
    simp (maxSteps := 2000000) (disch := (first | omega | (simp only [List.length_append, List.length_take, List.length_replicate, List.length_map, List.length_set, List.length_cons, List.length_nil, List.length_zipWith, List.length_drop, List.length_range]; first | done | omega))) only [go_sem, Nat.reduceAdd, Nat.reduceEqDiff, Nat.reduceLeDiff, Nat.reduceSub, List.take_length]
theorem spec_l1Put_ok (l : List Int) (x : Int) (hl : l.length < 2^30) : Lw (C f_spec_l1Put [.ref 0 1 0 l.length, I x] [.row t_int true 1 (l.map I)]) fun r => r = (.un t_int true 1 ((putI l x).map I), [.row t_int true 1 (l.map I)]) ∨ (r = (.ref 0 1 0 l.length, [.row t_int true 1 (l.map I)]) ∧ putI l x = l) := by
  refine E_spec_l1Put ?_
  simp (maxSteps := 2000000) (disch := (first | omega | (simp only [List.length_append, List.length_take, List.length_replicate, List.length_map, List.length_set, List.length_cons, List.length_nil, List.length_zipWith, List.length_drop, List.length_range]; first | done | omega))) only [ir_spec_l1Put, go_sem, Nat.reduceAdd, Nat.reduceEqDiff, Nat.reduceLeDiff, Nat.reduceSub]
  refine W_for l.length (fun k s => s = ⟨[.ref 0 1 0 l.length, I x, .any, I k, .any, .any, .any], [.row t_int true 1 (l.map I)]⟩ ∧ (l.take k).all (fun y => decide (y < x)) = true) ?_ ?_ ?_
  · simp (maxSteps := 2000000) (disch := (first | omega | (simp only [List.length_append, List.length_take, List.length_replicate, List.length_map, List.length_set, List.length_cons, List.length_nil, List.length_zipWith, List.length_drop, List.length_range]; first | done | omega))) only [go_sem, Nat.reduceAdd, Nat.reduceEqDiff, Nat.reduceLeDiff, Nat.reduceSub]
    rfl
  · rintro k s hk ⟨rfl, hall⟩
    simp (maxSteps := 2000000) (disch := (first | omega | (simp only [List.length_append, List.length_take, List.length_replicate, List.length_map, List.length_set, List.length_cons, List.length_nil, List.length_zipWith, List.length_drop, List.length_range]; first | done | omega))) only [go_sem, Nat.reduceAdd, Nat.reduceEqDiff, Nat.reduceLeDiff, Nat.reduceSub]
    refine ⟨fun h => ⟨rfl, all_take hk hall (by simpa using h)⟩, fun h => ⟨fun h2 => .inr (putI_eq hk hall h2), fun h2 => .inl ?_⟩⟩
    rw [putI_gt hall (fun _ => by omega) (by omega)]
    simp
  · rintro s ⟨rfl, hall⟩
    simp (maxSteps := 2000000) (disch := (first | omega | (simp only [List.length_append, List.length_take, List.length_replicate, List.length_map, List.length_set, List.length_cons, List.length_nil, List.length_zipWith, List.length_drop, List.length_range]; first | done | omega))) only [go_sem, Nat.reduceAdd, Nat.reduceEqDiff, Nat.reduceLeDiff, Nat.reduceSub]
    have e := putI_gt hall (fun h => by omega) (by omega)
    refine ⟨fun h => .inl ?_, fun h => .inl ?_⟩
    · rw [e]; simp
    · have : l = [] := List.eq_nil_of_length_eq_zero (by omega)
      subst this; rfl
theorem spec_l10Leave_gen (f : Fl) (q tq : Int) (hf : smF f) (hq : 0 ≤ q ∧ q < f.net.pl) (hqs : q ≠ f.src) (hqd : q ≠ f.dst) (htq : -1 ≤ tq ∧ tq < 100) : C f_spec_l10Leave [encF f, I q, I tq] [] = some (.agg [I (f.net.pl - 1), resU t_impl_Trans ((keepT f.net.tr tq f.net.tr.length).map (dropT q)), I (lessP q f.src), I (lessP q f.dst)], []) := by
  obtain ⟨⟨hp1, hp2⟩, hn, hs, hd, hT⟩ := hf
  obtain ⟨P, hP⟩ : ∃ P : Nat, f.net.pl = P := ⟨f.net.pl.toNat, by omega⟩
  refine C_spec_l10Leave ?_
  simp (maxSteps := 2000000) (disch := (first | omega | (simp only [List.length_append, List.length_take, List.length_replicate, List.length_map, List.length_set, List.length_cons, List.length_nil, List.length_zipWith, List.length_drop, List.length_range]; first | done | omega))) only [ir_spec_l10Leave, go_sem, Nat.reduceAdd, Nat.reduceEqDiff, Nat.reduceLeDiff, Nat.reduceSub]
  rw [show f.net.pl.toNat = P by omega]
  refine W_for P (fun k st => st = ⟨[.any, I q, I tq, .ptr 0 0, .ptr 1 0, .ref 2 1 0 P, .ptr 3 0, .any, .any, .any, .any, .any, .any, I P, I k, .any, .any, .any, .any, .any, .any, .any, .any, .any, .any, .any, .any, .any, .any, .any, .any, .any], [.box t_impl_Flow [I f.net.pl, trs f.net.tr, I f.src, I f.dst], .box t_impl_Flow [I 0, .nil false 3, I 0, I 0], .row t_int true 1 ((atP q P k).map I), .box t_impl_Flow [I (cntQ q k), .nil false 3, I 0, I 0]]⟩) ?_ ?_ ?_
  · simp (maxSteps := 2000000) (disch := (first | omega | (simp only [List.length_append, List.length_take, List.length_replicate, List.length_map, List.length_set, List.length_cons, List.length_nil, List.length_zipWith, List.length_drop, List.length_range]; first | done | omega))) only [go_sem, Nat.reduceAdd, Nat.reduceEqDiff, Nat.reduceLeDiff, Nat.reduceSub, atP_zero]
    rw [List.map_replicate, show cntQ q 0 = 0 by unfold cntQ; rw [if_neg (by omega)]; rfl]
    rfl
  · rintro k st hk rfl
    have h1 := atP_len (q := q) (n := P) (k := k) (by omega)
    have h2 := atP_step (q := q) hk
    have h3 : 0 ≤ cntQ q k ∧ cntQ q k ≤ k := by unfold cntQ; split <;> omega
    rw [← h2, cntQ_step]
    by_cases hkq : (k : Int) = q
    · rw [if_pos hkq, show atV q k = -1 by unfold atV; rw [if_pos hkq]]
      generalize atP q P k = A at *
      generalize cntQ q k = c at *
      simp (maxSteps := 2000000) (disch := (first | omega | (simp only [List.length_append, List.length_take, List.length_replicate, List.length_map, List.length_set, List.length_cons, List.length_nil, List.length_zipWith, List.length_drop, List.length_range]; first | done | omega))) only [go_sem, Nat.reduceAdd, Nat.reduceEqDiff, Nat.reduceLeDiff, Nat.reduceSub, h1, hkq]
      rw [show q.toNat = k by omega, show ((k + 1 : Nat) : Int) = q + 1 by omega]
    · rw [if_neg hkq, atV_ne hkq]
      generalize atP q P k = A at *
      generalize cntQ q k = c at *
      simp (maxSteps := 2000000) (disch := (first | omega | (simp only [List.length_append, List.length_take, List.length_replicate, List.length_map, List.length_set, List.length_cons, List.length_nil, List.length_zipWith, List.length_drop, List.length_range]; first | done | omega))) only [go_sem, Nat.reduceAdd, Nat.reduceEqDiff, Nat.reduceLeDiff, Nat.reduceSub, h1, hkq, List.set_set]
      rfl
  · rintro st rfl
    have h1 := atP_len (q := q) (n := P) (k := P) (by omega)
    have hA := fun (p : Int) => atP_get (q := q) (p := p) (n := P)
    have hAb := atP_bound (q := q) (n := P) hq.1
    have hc : cntQ q P = f.net.pl - 1 := by unfold cntQ; rw [if_pos (by omega)]; omega
    rw [hc]
    generalize atP q P P = A at *
    simp (maxSteps := 2000000) (disch := (first | omega | (simp only [List.length_append, List.length_take, List.length_replicate, List.length_map, List.length_set, List.length_cons, List.length_nil, List.length_zipWith, List.length_drop, List.length_range]; first | done | omega))) only [go_sem, Nat.reduceAdd, Nat.reduceEqDiff, Nat.reduceLeDiff, Nat.reduceSub, h1]
    refine W_for f.net.tr.length (fun i st => st = ⟨[.any, I q, I tq, .ptr 0 0, .ptr 1 0, .ref 2 1 0 P, .ptr 3 0, .any, .any, .any, .any, .any, .any, .any, .any, .any, .any, trs f.net.tr, I f.net.tr.length, I i, .any, .any, .any, .any, .any, .any, .any, .any, .any, .any, .any, .any], [.box t_impl_Flow [I f.net.pl, trs f.net.tr, I f.src, I f.dst], .box t_impl_Flow [I 0, .nil false 3, I 0, I 0], .row t_int true 1 (A.map I), .box t_impl_Flow [I (f.net.pl - 1), cellT 4 ((keepT f.net.tr tq i).map (dropT q)), I 0, I 0]] ++ blkT t_impl_Trans ((keepT f.net.tr tq i).map (dropT q))⟩) ?_ ?_ ?_
    · simp (maxSteps := 2000000) (disch := (first | omega | (simp only [List.length_append, List.length_take, List.length_replicate, List.length_map, List.length_set, List.length_cons, List.length_nil, List.length_zipWith, List.length_drop, List.length_range]; first | done | omega))) only [go_sem, Nat.reduceAdd, Nat.reduceEqDiff, Nat.reduceLeDiff, Nat.reduceSub]
      rw [keepT_zero]
      rfl
    · rintro i st hi rfl
      obtain ⟨hlen, hplI, hplO⟩ := hT _ (List.getElem_mem hi)
      have hrst := hlen.2.2
      have hplc := And.intro hplI hplO
      have hti : f.net.tr[i]? = some f.net.tr[i] := List.getElem?_eq_getElem hi
      have hkl := keepT_len f.net.tr tq i
      have hlL : ((keepT f.net.tr tq i).map (dropT q)).length ≤ i := by rw [List.length_map]; exact hkl
      by_cases hit : (i : Int) = tq
      · rw [keepT_skip hi hit]
        generalize (keepT f.net.tr tq i).map (dropT q) = L at *
        by_cases hL : L = []
        all_goals
          simp only [cellT, blkT, cellI, blkI, hL, reduceIte, List.append_nil, List.nil_append, List.cons_append, Nat.add_zero, Nat.zero_add, Nat.reduceAdd]
          simp (maxSteps := 2000000) (disch := (first | omega | (simp only [List.length_append, List.length_take, List.length_replicate, List.length_map, List.length_set, List.length_cons, List.length_nil, List.length_zipWith, List.length_drop, List.length_range]; first | done | omega))) only [go_sem, Nat.reduceAdd, Nat.reduceEqDiff, Nat.reduceLeDiff, Nat.reduceSub, hti, hit]
          first
            | rfl
            | (rw [show ((i + 1 : Nat) : Int) = tq + 1 by omega])
      have hne : (keepT f.net.tr tq (i + 1)).map (dropT q) ≠ [] := by rw [keepT_next hi hit]; simp
      have hsn : (keepT f.net.tr tq (i + 1)).map (dropT q) = (keepT f.net.tr tq i).map (dropT q) ++ [dropT q f.net.tr[i]] := by rw [keepT_next hi hit, List.map_append]; rfl
      rw [cellT_ne hne, blkT_ne hne, hsn]
      generalize (keepT f.net.tr tq i).map (dropT q) = L at *
      generalize f.net.tr[i] = t at *
      unfold dropT
      rw [hrst, dropL_nil]
      by_cases hL : L = []
      all_goals
        simp only [cellT, blkT, cellI, blkI, hL, reduceIte, List.append_nil, List.nil_append, List.cons_append, Nat.add_zero, Nat.zero_add, Nat.reduceAdd]
        simp (maxSteps := 2000000) (disch := (first | omega | (simp only [List.length_append, List.length_take, List.length_replicate, List.length_map, List.length_set, List.length_cons, List.length_nil, List.length_zipWith, List.length_drop, List.length_range]; first | done | omega))) only [go_sem, Nat.reduceAdd, Nat.reduceEqDiff, Nat.reduceLeDiff, Nat.reduceSub, hti, hrst, hit]
        refine W_for t.inn.length (fun j st => st = ⟨[.any, I q, I tq, .ptr 0 0, .ptr 1 0, .ref 2 1 0 P, .ptr 3 0, .any, .any, .ptr 4 0, .ptr 5 0, .any, .any, .any, .any, .any, .any, trs f.net.tr, I f.net.tr.length, I i, .any, .any, ints t.inn, I t.inn.length, I j, .any, .any, .any, .any, .any, .any, .any], [.box t_impl_Flow [I f.net.pl, trs f.net.tr, I f.src, I f.dst], .box t_impl_Flow [I 0, .nil false 3, I 0, I 0], .row t_int true 1 (A.map I), .box t_impl_Flow [I (f.net.pl - 1), cellT 6 L, I 0, I 0], .box t_impl_Trans [ints t.inn, ints t.out, .sl true 1 []], .box t_impl_Trans [cellI (if L = [] then 6 else 7) (dropL q (t.inn.take j)), .nil true 1, .nil true 1]] ++ blkT t_impl_Trans L ++ blkI t_int (dropL q (t.inn.take j))⟩) ?_ ?_ ?_
        · simp (maxSteps := 2000000) (disch := (first | omega | (simp only [List.length_append, List.length_take, List.length_replicate, List.length_map, List.length_set, List.length_cons, List.length_nil, List.length_zipWith, List.length_drop, List.length_range]; first | done | omega))) only [go_sem, Nat.reduceAdd, Nat.reduceEqDiff, Nat.reduceLeDiff, Nat.reduceSub]
          simp only [List.take_zero, dropL_nil]
          simp only [cellT, blkT, cellI, blkI, hL, reduceIte, List.append_nil, List.nil_append, List.cons_append, Nat.add_zero, Nat.zero_add, Nat.reduceAdd]
          rfl
        · rintro j st hj rfl
          have hx := hplc.1 _ (List.getElem_mem hj)
          have hA1 := hA t.inn[j] hx.1 (by omega)
          have hl2 := dropL_len q (t.inn.take j)
          rw [List.length_take] at hl2
          have hAv : A[t.inn[j].toNat]'(by omega) = atV q t.inn[j] := by rw [List.getElem?_eq_getElem (by omega)] at hA1; exact Option.some.inj hA1
          rw [dropL_step hj]
          generalize dropL q (t.inn.take j) = V at *
          by_cases hxq : t.inn[j] = q
          · rw [if_pos hxq]
            by_cases hV : V = []
            all_goals
              simp only [cellT, blkT, cellI, blkI, hL, hV, reduceIte, List.append_nil, List.nil_append, List.cons_append, Nat.add_zero, Nat.zero_add, Nat.reduceAdd]
              simp (maxSteps := 2000000) (disch := (first | omega | (simp only [List.length_append, List.length_take, List.length_replicate, List.length_map, List.length_set, List.length_cons, List.length_nil, List.length_zipWith, List.length_drop, List.length_range]; first | done | omega))) only [go_sem, Nat.reduceAdd, Nat.reduceEqDiff, Nat.reduceLeDiff, Nat.reduceSub, hxq]
              first | rfl | (simp; done) | (rw [List.map_append, List.length_append]; rfl)
          · rw [if_neg hxq]
            have e3 : atV q t.inn[j] = lessP q t.inn[j] := by unfold atV; rw [if_neg hxq]
            rw [e3] at hAv
            have hVn : V ++ [lessP q t.inn[j]] ≠ [] := by simp
            by_cases hV : V = []
            all_goals
              simp only [cellT, blkT, cellI, blkI, hL, hV, hVn, reduceIte, List.append_nil, List.nil_append, List.cons_append, Nat.add_zero, Nat.zero_add, Nat.reduceAdd]
              simp (maxSteps := 2000000) (disch := (first | omega | (simp only [List.length_append, List.length_take, List.length_replicate, List.length_map, List.length_set, List.length_cons, List.length_nil, List.length_zipWith, List.length_drop, List.length_range]; first | done | omega))) only [go_sem, Nat.reduceAdd, Nat.reduceEqDiff, Nat.reduceLeDiff, Nat.reduceSub, hxq, hAv]
              first | rfl | (simp; done) | (rw [List.map_append, List.length_append]; rfl)
        · rintro st rfl
          rw [List.take_length]
          have hVl := dropL_len q t.inn
          generalize dropL q t.inn = V at *
          by_cases hV : V = []
          all_goals
            simp only [cellT, blkT, cellI, blkI, hL, hV, reduceIte, List.append_nil, List.nil_append, List.cons_append, Nat.add_zero, Nat.zero_add, Nat.reduceAdd]
            simp (maxSteps := 2000000) (disch := (first | omega | (simp only [List.length_append, List.length_take, List.length_replicate, List.length_map, List.length_set, List.length_cons, List.length_nil, List.length_zipWith, List.length_drop, List.length_range]; first | done | omega))) only [go_sem, Nat.reduceAdd, Nat.reduceEqDiff, Nat.reduceLeDiff, Nat.reduceSub]
            refine W_for t.out.length (fun j st => st = ⟨[.any, I q, I tq, .ptr 0 0, .ptr 1 0, .ref 2 1 0 P, .ptr 3 0, .any, .any, .any, .ptr 4 0, .any, .any, .any, .any, .any, .any, trs f.net.tr, I f.net.tr.length, I i, .any, .any, .any, .any, .any, .any, .any, ints t.out, I t.out.length, I j, .any, .any], [.box t_impl_Flow [I f.net.pl, trs f.net.tr, I f.src, I f.dst], .box t_impl_Flow [I 0, .nil false 3, I 0, I 0], .row t_int true 1 (A.map I), .box t_impl_Flow [I (f.net.pl - 1), cellT 5 L, I 0, I 0], .box t_impl_Trans [cellI (if L = [] then 5 else 6) V, cellI ((if L = [] then 5 else 6) + (if V = [] then 0 else 1)) (dropL q (t.out.take j)), .nil true 1]] ++ blkT t_impl_Trans L ++ blkI t_int V ++ blkI t_int (dropL q (t.out.take j))⟩) ?_ ?_ ?_
            · simp (maxSteps := 2000000) (disch := (first | omega | (simp only [List.length_append, List.length_take, List.length_replicate, List.length_map, List.length_set, List.length_cons, List.length_nil, List.length_zipWith, List.length_drop, List.length_range]; first | done | omega))) only [go_sem, Nat.reduceAdd, Nat.reduceEqDiff, Nat.reduceLeDiff, Nat.reduceSub]
              simp only [List.take_zero, dropL_nil]
              simp only [cellT, blkT, cellI, blkI, hL, hV, reduceIte, List.append_nil, List.nil_append, List.cons_append, Nat.add_zero, Nat.zero_add, Nat.reduceAdd]
              rfl
            · rintro j st hj rfl
              have hx := hplc.2 _ (List.getElem_mem hj)
              have hA1 := hA t.out[j] hx.1 (by omega)
              have hl2 := dropL_len q (t.out.take j)
              rw [List.length_take] at hl2
              have hAv : A[t.out[j].toNat]'(by omega) = atV q t.out[j] := by rw [List.getElem?_eq_getElem (by omega)] at hA1; exact Option.some.inj hA1
              rw [dropL_step hj]
              generalize dropL q (t.out.take j) = W at *
              by_cases hxq : t.out[j] = q
              · rw [if_pos hxq]
                by_cases hW : W = []
                all_goals
                  simp only [cellT, blkT, cellI, blkI, hL, hV, hW, reduceIte, List.append_nil, List.nil_append, List.cons_append, Nat.add_zero, Nat.zero_add, Nat.reduceAdd]
                  simp (maxSteps := 2000000) (disch := (first | omega | (simp only [List.length_append, List.length_take, List.length_replicate, List.length_map, List.length_set, List.length_cons, List.length_nil, List.length_zipWith, List.length_drop, List.length_range]; first | done | omega))) only [go_sem, Nat.reduceAdd, Nat.reduceEqDiff, Nat.reduceLeDiff, Nat.reduceSub, hxq]
                  first | rfl | (simp; done) | (rw [List.map_append, List.length_append]; rfl)
              · rw [if_neg hxq]
                have e3 : atV q t.out[j] = lessP q t.out[j] := by unfold atV; rw [if_neg hxq]
                rw [e3] at hAv
                have hWn : W ++ [lessP q t.out[j]] ≠ [] := by simp
                by_cases hW : W = []
                all_goals
                  simp only [cellT, blkT, cellI, blkI, hL, hV, hW, hWn, reduceIte, List.append_nil, List.nil_append, List.cons_append, Nat.add_zero, Nat.zero_add, Nat.reduceAdd]
                  simp (maxSteps := 2000000) (disch := (first | omega | (simp only [List.length_append, List.length_take, List.length_replicate, List.length_map, List.length_set, List.length_cons, List.length_nil, List.length_zipWith, List.length_drop, List.length_range]; first | done | omega))) only [go_sem, Nat.reduceAdd, Nat.reduceEqDiff, Nat.reduceLeDiff, Nat.reduceSub, hxq, hAv]
                  first | rfl | (simp; done) | (rw [List.map_append, List.length_append]; rfl)
            · rintro st rfl
              rw [List.take_length]
              have hWl := dropL_len q t.out
              generalize dropL q t.out = W at *
              by_cases hW : W = []
              all_goals
                simp only [cellT, blkT, cellI, blkI, hL, hV, hW, reduceIte, List.append_nil, List.nil_append, List.cons_append, Nat.add_zero, Nat.zero_add, Nat.reduceAdd]
                simp (maxSteps := 2000000) (disch := (first | omega | (simp only [List.length_append, List.length_take, List.length_replicate, List.length_map, List.length_set, List.length_cons, List.length_nil, List.length_zipWith, List.length_drop, List.length_range]; first | done | omega))) only [go_sem, Nat.reduceAdd, Nat.reduceEqDiff, Nat.reduceLeDiff, Nat.reduceSub]
                first | rfl | (simp; done) | (rw [List.map_append, List.length_append]; rfl)
    · rintro st rfl
      have hkl := keepT_len f.net.tr tq f.net.tr.length
      have g1 := hA f.src hs.1 (by omega)
      have g2 := hA f.dst hd.1 (by omega)
      rw [show atV q f.src = lessP q f.src by unfold atV; rw [if_neg (Ne.symm hqs)]] at g1
      rw [show atV q f.dst = lessP q f.dst by unfold atV; rw [if_neg (Ne.symm hqd)]] at g2
      have k1 : A[f.src.toNat]'(by omega) = lessP q f.src := by rw [List.getElem?_eq_getElem (by omega)] at g1; exact Option.some.inj g1
      have k2 : A[f.dst.toNat]'(by omega) = lessP q f.dst := by rw [List.getElem?_eq_getElem (by omega)] at g2; exact Option.some.inj g2
      have hlL : ((keepT f.net.tr tq f.net.tr.length).map (dropT q)).length ≤ 24 := by rw [List.length_map]; omega
      generalize (keepT f.net.tr tq f.net.tr.length).map (dropT q) = L at *
      unfold resU
      by_cases hL : L = []
      all_goals
        simp only [cellT, blkT, hL, reduceIte, List.append_nil, List.nil_append, List.cons_append]
        simp (maxSteps := 2000000) (disch := (first | omega | (simp only [List.length_append, List.length_take, List.length_replicate, List.length_map, List.length_set, List.length_cons, List.length_nil, List.length_zipWith, List.length_drop, List.length_range]; first | done | omega))) only [go_sem, Nat.reduceAdd, Nat.reduceEqDiff, Nat.reduceLeDiff, Nat.reduceSub, k1, k2]
theorem spec_l10Leave_ok (f : Fl) (q : Int) (hg : goodFl f = true) (hr : hasR f.net = false) (hq : 0 ≤ q ∧ q < f.net.pl) (hqs : q ≠ f.src) (hqd : q ≠ f.dst) : C f_spec_l10Leave [encF f, I q, I (-1)] [] = some (.agg [I (dropF f q).net.pl, .un t_impl_Trans false 3 ((dropF f q).net.tr.map encT), I (dropF f q).src, I (dropF f q).dst], []) := by
  have h := spec_l10Leave_gen f q (-1) (smF_of hg hr) hq hqs hqd (by omega)
  rw [keepT_none, resU_ne (by simpa using goodFl_ne hg)] at h
  exact h
theorem spec_l10FusePlaces_ok (f : Fl) (hg : goodFl f = true) (hr : hasR f.net = false) : C f_spec_l10FusePlaces [encF f] [] = some (.tup [match resFP f with | some i => .agg [I (f.net.pl - 1), .un t_impl_Trans false 3 (((fusedP f i).map (dropT (at_ (trN f.net i).inn 0))).map encT), I (lessP (at_ (trN f.net i).inn 0) f.src), I (lessP (at_ (trN f.net i).inn 0) f.dst)] | none => .agg [I 0, .nil false 3, I 0, I 0], .bool (resFP f).isSome], []) := by
  obtain ⟨hgn, hs, hd, -, hsp, -, -⟩ := goodFl_parts hg
  obtain ⟨hp1, hp2, hn, hT⟩ := goodN_parts hgn
  have hsm := smF_of hg hr
  have hlens : ∀ u ∈ f.net.tr, u.inn.length ≤ 16 ∧ u.out.length ≤ 16 := fun u hu => by have := goodT_lens (hT u hu) ⟨by omega, hp2⟩; omega
  have hk2 : ∀ p : Int, (idxL (fun t => hasB t.inn p) f.net).length ≤ 24 := fun p => Nat.le_trans (idxK_len _ _ _) hn
  refine C_spec_l10FusePlaces ?_
  simp (maxSteps := 2000000) (disch := (first | omega | (simp only [List.length_append, List.length_take, List.length_replicate, List.length_map, List.length_set, List.length_cons, List.length_nil, List.length_zipWith, List.length_drop, List.length_range]; first | done | omega))) only [ir_spec_l10FusePlaces, go_sem, Nat.reduceAdd, Nat.reduceEqDiff, Nat.reduceLeDiff, Nat.reduceSub]
  refine W_for f.net.tr.length (fun k st => st = ⟨[.any, .ptr 0 0, .ptr 1 0, .any, .any, .any, .any, .any, .any, .any, .any, trs f.net.tr, I f.net.tr.length, I k, .any, .any, .any, .any, .any, .any, .any, .any], [.box t_impl_Flow [I f.net.pl, trs f.net.tr, I f.src, I f.dst], .box t_impl_Flow [I 0, .nil false 3, I 0, I 0]]⟩ ∧ ∀ j, j < k → okFP f j = false) ?_ ?_ ?_
  · simp (maxSteps := 2000000) (disch := (first | omega | (simp only [List.length_append, List.length_take, List.length_replicate, List.length_map, List.length_set, List.length_cons, List.length_nil, List.length_zipWith, List.length_drop, List.length_range]; first | done | omega))) only [go_sem, Nat.reduceAdd, Nat.reduceEqDiff, Nat.reduceLeDiff, Nat.reduceSub]
    exact ⟨rfl, fun q' h => by omega⟩
  · rintro k st hk ⟨rfl, hall⟩
    have next : okFP f k = false → ∀ j, j < k + 1 → okFP f j = false := by
      intro h j hj
      rcases Nat.lt_or_ge j k with h5 | h5
      · exact hall j h5
      · rw [show j = k by omega]; exact h
    have ekl : f.net.tr[k]? = some f.net.tr[k] := List.getElem?_eq_getElem hk
    have lA := hlens _ (List.getElem_mem hk)
    have pAi := (goodT_places (hT _ (List.getElem_mem hk))).1
    have pAo := (goodT_places (hT _ (List.getElem_mem hk))).2.1
    have x1 := okFP_inn (f := f) (k := k)
    have x2 := okFP_out (f := f) (k := k)
    have x3 := fun p q => okFP_eq (f := f) (k := k) (p := p) (q := q)
    have x4 := fun p q => fusedP_eq (f := f) (k := k) (p := p) (q := q)
    have hE : encT f.net.tr[k] = .agg [ints f.net.tr[k].inn, ints f.net.tr[k].out, ints f.net.tr[k].rst] := rfl
    rw [trN_eq hk] at x1 x2 x3 x4
    have hspo : spoils f f.net.tr[k] = false := hsp _ (List.getElem_mem hk)
    have hone : f.net.tr.length = 1 → ∀ p, f.net.tr[k].inn = [p] → p = f.src := by
      intro h1 p hp
      have hk0 : k = 0 := by omega
      subst hk0
      exact goodFl_one hg h1 (by rw [trN_eq hk]; exact hp)
    have hat : trN f.net k = f.net.tr[k] := trN_eq hk
    generalize f.net.tr[k] = u at *
    by_cases c1 : u.inn.length = 1
    case neg =>
      simp (maxSteps := 2000000) (disch := (first | omega | (simp only [List.length_append, List.length_take, List.length_replicate, List.length_map, List.length_set, List.length_cons, List.length_nil, List.length_zipWith, List.length_drop, List.length_range]; first | done | omega))) only [go_sem, Nat.reduceAdd, Nat.reduceEqDiff, Nat.reduceLeDiff, Nat.reduceSub, ekl, hE]
      exact ⟨rfl, next (x1 c1)⟩
    by_cases c2 : u.out.length = 1
    case neg =>
      simp (maxSteps := 2000000) (disch := (first | omega | (simp only [List.length_append, List.length_take, List.length_replicate, List.length_map, List.length_set, List.length_cons, List.length_nil, List.length_zipWith, List.length_drop, List.length_range]; first | done | omega))) only [go_sem, Nat.reduceAdd, Nat.reduceEqDiff, Nat.reduceLeDiff, Nat.reduceSub, ekl, hE, c1]
      exact ⟨rfl, next (x2 c2)⟩
    obtain ⟨p, hp⟩ := List.length_eq_one_iff.1 c1
    obtain ⟨q, hq⟩ := List.length_eq_one_iff.1 c2
    have y3 := x3 p q hp hq
    have y4 := x4 p q hp hq
    have pp : 0 ≤ p ∧ p < f.net.pl := pAi p (by rw [hp]; simp)
    have pq : 0 ≤ q ∧ q < f.net.pl := pAo q (by rw [hq]; simp)
    have hE2 : encT u = .agg [.sl true 1 [I p], .sl true 1 [I q], ints u.rst] := by rw [hE, hp, hq]; rfl
    by_cases c3 : p = f.src
    case pos =>
      simp (maxSteps := 2000000) (disch := (first | omega | (simp only [List.length_append, List.length_take, List.length_replicate, List.length_map, List.length_set, List.length_cons, List.length_nil, List.length_zipWith, List.length_drop, List.length_range]; first | done | omega))) only [go_sem, Nat.reduceAdd, Nat.reduceEqDiff, Nat.reduceLeDiff, Nat.reduceSub, ekl, hE2, Int.toNat_zero, List.getElem_cons_zero, c3]
      exact ⟨rfl, next (by rw [y3]; simp [c3])⟩
    by_cases c4 : p = q
    case pos =>
      simp (maxSteps := 2000000) (disch := (first | omega | (simp only [List.length_append, List.length_take, List.length_replicate, List.length_map, List.length_set, List.length_cons, List.length_nil, List.length_zipWith, List.length_drop, List.length_range]; first | done | omega))) only [go_sem, Nat.reduceAdd, Nat.reduceEqDiff, Nat.reduceLeDiff, Nat.reduceSub, ekl, hE2, Int.toNat_zero, List.getElem_cons_zero, c3, c4]
      exact ⟨rfl, next (by rw [y3]; simp [c4])⟩
    have t1 := spec_l2Takers_ok f.net p hgn
    have w1 := hk2 p
    by_cases c5 : (idxL (fun t => hasB t.inn p) f.net).length = 1
    case neg =>
      have nx := next (by rw [y3]; unfold takI; simp [c5])
      generalize idxL (fun t => hasB t.inn p) f.net = G at *
      simp (maxSteps := 2000000) (disch := (first | omega | (simp only [List.length_append, List.length_take, List.length_replicate, List.length_map, List.length_set, List.length_cons, List.length_nil, List.length_zipWith, List.length_drop, List.length_range]; first | done | omega))) only [go_sem, Nat.reduceAdd, Nat.reduceEqDiff, Nat.reduceLeDiff, Nat.reduceSub, ekl, hE2, Int.toNat_zero, List.getElem_cons_zero, c3, c4, t1]
      exact ⟨rfl, nx⟩
    have hap := spec_l10Apart_ok f p q (by omega) (fun t ht => by have := hlens t ht; omega)
    unfold encF trs at hap
    cases c6 : (f.net.tr.any fun u => hasB u.out p && hasB u.out q) with
    | true =>
      rw [c6] at hap
      simp (maxSteps := 2000000) (disch := (first | omega | (simp only [List.length_append, List.length_take, List.length_replicate, List.length_map, List.length_set, List.length_cons, List.length_nil, List.length_zipWith, List.length_drop, List.length_range]; first | done | omega))) only [go_sem, Nat.reduceAdd, Nat.reduceEqDiff, Nat.reduceLeDiff, Nat.reduceSub, ekl, hE2, Int.toNat_zero, List.getElem_cons_zero, c3, c4, t1, c5, hap, Bool.not_true]
      exact ⟨rfl, next (by rw [y3, c6]; simp)⟩
    | false =>
      rw [c6] at hap
      have hok : okFP f k = true := by rw [y3, c6]; unfold takI; simp [c3, c4, c5]
      have hres : resFP f = some k := fnd_some hk hall hok
      have hown := spec_l3Own_ok f.net hgn (by intro e; rw [e] at hk; simp at hk)
      have h2 : 2 ≤ f.net.tr.length := by
        apply Decidable.byContradiction
        intro h
        exact c3 (hone (by omega) p hp)
      simp (maxSteps := 2000000) (disch := (first | omega | (simp only [List.length_append, List.length_take, List.length_replicate, List.length_map, List.length_set, List.length_cons, List.length_nil, List.length_zipWith, List.length_drop, List.length_range]; first | done | omega))) only [go_sem, Nat.reduceAdd, Nat.reduceEqDiff, Nat.reduceLeDiff, Nat.reduceSub, ekl, hE2, Int.toNat_zero, List.getElem_cons_zero, c3, c4, t1, c5, hap, Bool.not_false, hown]
      refine W_for f.net.tr.length (fun j st => st = ⟨[.any, .any, .ptr 0 0, .any, I k, .any, I p, I q, .ptr 1 0, .any, .any, .any, .any, .any, .any, .any, .any, .ref 2 3 0 f.net.tr.length, I f.net.tr.length, I j, .any, .any], [.box t_impl_Flow [I 0, .nil false 3, I 0, I 0], .box t_impl_Flow [I f.net.pl, .ref 2 3 0 f.net.tr.length, I f.src, I f.dst], .row t_impl_Trans false 3 ((mapK (replO p q) f.net.tr j).map encT)]⟩) ?_ ?_ ?_
      · simp (maxSteps := 2000000) (disch := (first | omega | (simp only [List.length_append, List.length_take, List.length_replicate, List.length_map, List.length_set, List.length_cons, List.length_nil, List.length_zipWith, List.length_drop, List.length_range]; first | done | omega))) only [go_sem, Nat.reduceAdd, Nat.reduceEqDiff, Nat.reduceLeDiff, Nat.reduceSub]
        rw [mapK_zero]
        rfl
      · rintro j st hj rfl
        have e1 := mapK_len (replO p q) f.net.tr j
        have e2 := mapK_get (g := replO p q) hj
        have lB := hlens _ (List.getElem_mem hj)
        have hh := spec_l1Has_ok f.net.tr[j].out p (by omega)
        have hwo : C f_spec_l8Without [.sl true 1 (f.net.tr[j].out.map I), .sl true 1 [I p]] [] = some (.un t_int true 1 ((wout f.net.tr[j].out [p]).map I), []) := spec_l8Without_ok f.net.tr[j].out [p] (by omega) (by simp)
        have hwl : (wout f.net.tr[j].out [p]).length ≤ f.net.tr[j].out.length := by unfold wout; exact List.length_filter_le _ _
        cases hb : hasB f.net.tr[j].out p with
        | false =>
          rw [mapK_same hj (by unfold replO; rw [hb]; rfl)]
          generalize mapK (replO p q) f.net.tr j = M at *
          simp (maxSteps := 2000000) (disch := (first | omega | (simp only [List.length_append, List.length_take, List.length_replicate, List.length_map, List.length_set, List.length_cons, List.length_nil, List.length_zipWith, List.length_drop, List.length_range]; first | done | omega))) only [go_sem, Nat.reduceAdd, Nat.reduceEqDiff, Nat.reduceLeDiff, Nat.reduceSub, e2, hh, hb]
          first | done | rfl
        | true =>
          rw [mapK_set hj, show replO p q f.net.tr[j] = ⟨f.net.tr[j].inn, putI (wout f.net.tr[j].out [p]) q, f.net.tr[j].rst⟩ by unfold replO; rw [if_pos hb, mixO_one], List.map_set]
          generalize mapK (replO p q) f.net.tr j = M at *
          obtain ⟨_, e3, rfl | ⟨rfl, e4⟩⟩ := spec_l1Put_ok (wout f.net.tr[j].out [p]) q (by omega)
          · simp (maxSteps := 2000000) (disch := (first | omega | (simp only [List.length_append, List.length_take, List.length_replicate, List.length_map, List.length_set, List.length_cons, List.length_nil, List.length_zipWith, List.length_drop, List.length_range]; first | done | omega))) only [go_sem, Nat.reduceAdd, Nat.reduceEqDiff, Nat.reduceLeDiff, Nat.reduceSub, e2, hh, hb, hwo, e3]
            exact ⟨by decide, rfl⟩
          · rw [e4]
            simp (maxSteps := 2000000) (disch := (first | omega | (simp only [List.length_append, List.length_take, List.length_replicate, List.length_map, List.length_set, List.length_cons, List.length_nil, List.length_zipWith, List.length_drop, List.length_range]; first | done | omega))) only [go_sem, Nat.reduceAdd, Nat.reduceEqDiff, Nat.reduceLeDiff, Nat.reduceSub, e2, hh, hb, hwo, e3]
            exact ⟨by decide, rfl⟩
      · rintro st rfl
        have hlv := spec_l10Leave_gen ⟨⟨f.net.pl, f.net.tr.map (replO p q)⟩, f.src, f.dst⟩ p k (smF_repl hsm hlens pq) pp c3 (by
          intro hc
          simp [spoils, hp, hasB, hc] at hspo) (by omega)
        have hne : (((f.net.tr.map (replO p q)).eraseIdx k).map (dropT p)) ≠ [] := by
          intro e
          have := congrArg List.length e
          rw [List.length_map, List.length_eraseIdx_of_lt (by simpa using hk), List.length_map, List.length_nil] at this
          omega
        rw [keepT_all _ (by simp only [List.length_map]; omega), resU_ne (by rw [show ((k : Nat) : Int).toNat = k from rfl]; exact hne), show ((k : Nat) : Int).toNat = k from rfl] at hlv
        rw [mapK_all, hres]
        unfold encF trs at hlv
        have hlv2 : C f_spec_l10Leave [.agg [I f.net.pl, .sl false 3 ((f.net.tr.map (replO p q)).map encT), I f.src, I f.dst], I p, I k] [] = _ := hlv
        simp (maxSteps := 2000000) (disch := (first | omega | (simp only [List.length_append, List.length_take, List.length_replicate, List.length_map, List.length_set, List.length_cons, List.length_nil, List.length_zipWith, List.length_drop, List.length_range]; first | done | omega))) only [go_sem, Nat.reduceAdd, Nat.reduceEqDiff, Nat.reduceLeDiff, Nat.reduceSub, hlv2]
        rw [y4, hat, hp]
        first | done | rfl
  · rintro st ⟨rfl, hall⟩
    have hres : resFP f = none := fnd_none (fun q h => hall q (by omega))
    rw [hres]
    simp (maxSteps := 2000000) (disch := (first | omega | (simp only [List.length_append, List.length_take, List.length_replicate, List.length_map, List.length_set, List.length_cons, List.length_nil, List.length_zipWith, List.length_drop, List.length_range]; first | done | omega))) only [go_sem, Nat.reduceAdd, Nat.reduceEqDiff, Nat.reduceLeDiff, Nat.reduceSub]
    rfl
theorem spec_FusePlaces_ok (f : Fl) (hn : smN f.net) : C f_spec_FusePlaces [encF f] [] = some (.tup [match fusePV f with | some g => .agg [I g.net.pl, .un t_impl_Trans false 3 (g.net.tr.map encT), I g.src, I g.dst] | none => .agg [I 0, .nil false 3, I 0, I 0], .bool (fusePV f).isSome], []) := by
  have hA := spec_l10Asked_ok f hn
  unfold encF at hA
  refine C_spec_FusePlaces ?_
  simp (maxSteps := 2000000) (disch := (first | omega | (simp only [List.length_append, List.length_take, List.length_replicate, List.length_map, List.length_set, List.length_cons, List.length_nil, List.length_zipWith, List.length_drop, List.length_range]; first | done | omega))) only [ir_spec_FusePlaces, go_sem, Nat.reduceAdd, Nat.reduceEqDiff, Nat.reduceLeDiff, Nat.reduceSub]
  cases ho : okRed f with
  | false =>
    simp (maxSteps := 2000000) (disch := (first | omega | (simp only [List.length_append, List.length_take, List.length_replicate, List.length_map, List.length_set, List.length_cons, List.length_nil, List.length_zipWith, List.length_drop, List.length_range]; first | done | omega))) only [go_sem, Nat.reduceAdd, Nat.reduceEqDiff, Nat.reduceLeDiff, Nat.reduceSub, hA, ho]
    simp [fusePV, ho]
  | true =>
    have ho' := ho
    simp only [okRed, Bool.and_eq_true, Bool.not_eq_true'] at ho'
    have hD := spec_l10FusePlaces_ok f ho'.1 ho'.2
    unfold encF at hD
    have e : fusePV f = (resFP f).map fun (i : Nat) => leaveF f (fusedP f i) (at_ (trN f.net i).inn 0) := by simp [fusePV, ho]
    rw [e]
    cases hq : resFP f with
    | none =>
      rw [hq] at hD
      simp only [Option.isSome_none] at hD
      simp (maxSteps := 2000000) (disch := (first | omega | (simp only [List.length_append, List.length_take, List.length_replicate, List.length_map, List.length_set, List.length_cons, List.length_nil, List.length_zipWith, List.length_drop, List.length_range]; first | done | omega))) only [go_sem, Nat.reduceAdd, Nat.reduceEqDiff, Nat.reduceLeDiff, Nat.reduceSub, hA, ho, hD]
      rfl
    | some q =>
      rw [hq] at hD
      simp only [Option.isSome_some] at hD
      simp (maxSteps := 2000000) (disch := (first | omega | (simp only [List.length_append, List.length_take, List.length_replicate, List.length_map, List.length_set, List.length_cons, List.length_nil, List.length_zipWith, List.length_drop, List.length_range]; first | done | omega))) only [go_sem, Nat.reduceAdd, Nat.reduceEqDiff, Nat.reduceLeDiff, Nat.reduceSub, hA, ho, hD]
      rfl
theorem impl_within_ok (n lo hi : Int) : C f_impl_within [I n, I lo, I hi] [] = some (.bool (inB lo hi n), []) := by
  refine C_impl_within ?_
  simp (maxSteps := 2000000) (disch := (first | omega | (simp only [List.length_append, List.length_take, List.length_replicate, List.length_map, List.length_set, List.length_cons, List.length_nil, List.length_zipWith, List.length_drop, List.length_range]; first | done | omega))) only [ir_impl_within, go_sem, Nat.reduceAdd, Nat.reduceEqDiff, Nat.reduceLeDiff, Nat.reduceSub]
  unfold inB; grind
theorem impl_increasing_ok (l : List Int) (hl : l.length < 2^62) : C f_impl_increasing [ints l] [] = some (.bool (incr l), []) := by
  refine C_impl_increasing ?_
  simp (maxSteps := 2000000) (disch := (first | omega | (simp only [List.length_append, List.length_take, List.length_replicate, List.length_map, List.length_set, List.length_cons, List.length_nil, List.length_zipWith, List.length_drop, List.length_range]; first | done | omega))) only [ir_impl_increasing, go_sem, Nat.reduceAdd, Nat.reduceEqDiff, Nat.reduceLeDiff, Nat.reduceSub]
  refine W_for (l.length - 1) (fun k s => s = ⟨[ints l, .any, I (k + 1 : Int), .any, .any], []⟩ ∧ (l.take (k + 1)).Pairwise (· < ·)) ?_ ?_ ?_
  · simp (maxSteps := 2000000) (disch := (first | omega | (simp only [List.length_append, List.length_take, List.length_replicate, List.length_map, List.length_set, List.length_cons, List.length_nil, List.length_zipWith, List.length_drop, List.length_range]; first | done | omega))) only [go_sem, Nat.reduceAdd, Nat.reduceEqDiff, Nat.reduceLeDiff, Nat.reduceSub]
    exact ⟨rfl, incr_one⟩
  · rintro k s hk ⟨rfl, hp⟩
    simp (maxSteps := 2000000) (disch := (first | omega | (simp only [List.length_append, List.length_take, List.length_replicate, List.length_map, List.length_set, List.length_cons, List.length_nil, List.length_zipWith, List.length_drop, List.length_range]; first | done | omega))) only [go_sem, Nat.reduceAdd, Nat.reduceEqDiff, Nat.reduceLeDiff, Nat.reduceSub]
    have e1 : ((k : Int) + 1).toNat = k + 1 := by omega
    have e2 : ((k : Int) + 1 - 1).toNat = k := by omega
    simp only [e1, e2]
    refine ⟨fun h => by rw [incr_not (k := k) (by omega) (by omega)], fun h => ⟨rfl, incr_step (by omega) hp h⟩⟩
  · rintro s ⟨rfl, hp⟩
    simp (maxSteps := 2000000) (disch := (first | omega | (simp only [List.length_append, List.length_take, List.length_replicate, List.length_map, List.length_set, List.length_cons, List.length_nil, List.length_zipWith, List.length_drop, List.length_range]; first | done | omega))) only [go_sem, Nat.reduceAdd, Nat.reduceEqDiff, Nat.reduceLeDiff, Nat.reduceSub]
    rw [take_all (by omega)] at hp
    rw [show incr l = true by simpa [incr] using hp]
theorem impl_allWithin_ok (l : List Int) (lo hi : Int) (hl : l.length < 2^62) : C f_impl_allWithin [ints l, I lo, I hi] [] = some (.bool (l.all (inB lo hi)), []) := by
  refine C_impl_allWithin ?_
  simp (maxSteps := 2000000) (disch := (first | omega | (simp only [List.length_append, List.length_take, List.length_replicate, List.length_map, List.length_set, List.length_cons, List.length_nil, List.length_zipWith, List.length_drop, List.length_range]; first | done | omega))) only [ir_impl_allWithin, go_sem, Nat.reduceAdd, Nat.reduceEqDiff, Nat.reduceLeDiff, Nat.reduceSub]
  refine W_for l.length (fun k s => s = ⟨[.any, I lo, I hi, .any, .any, ints l, I l.length, I k, .any, .any], []⟩ ∧ (l.take k).all (inB lo hi) = true) ?_ ?_ ?_
  · simp (maxSteps := 2000000) (disch := (first | omega | (simp only [List.length_append, List.length_take, List.length_replicate, List.length_map, List.length_set, List.length_cons, List.length_nil, List.length_zipWith, List.length_drop, List.length_range]; first | done | omega))) only [go_sem, Nat.reduceAdd, Nat.reduceEqDiff, Nat.reduceLeDiff, Nat.reduceSub]
    rfl
  · rintro k s hk ⟨rfl, hall⟩
    simp (maxSteps := 2000000) (disch := (first | omega | (simp only [List.length_append, List.length_take, List.length_replicate, List.length_map, List.length_set, List.length_cons, List.length_nil, List.length_zipWith, List.length_drop, List.length_range]; first | done | omega))) only [go_sem, Nat.reduceAdd, Nat.reduceEqDiff, Nat.reduceLeDiff, Nat.reduceSub, impl_within_ok]
    exact ⟨fun h => ⟨rfl, all_take hk hall h⟩, fun h => by rw [all_false hk h]⟩
  · rintro s ⟨rfl, hall⟩
    simp (maxSteps := 2000000) (disch := (first | omega | (simp only [List.length_append, List.length_take, List.length_replicate, List.length_map, List.length_set, List.length_cons, List.length_nil, List.length_zipWith, List.length_drop, List.length_range]; first | done | omega))) only [go_sem, Nat.reduceAdd, Nat.reduceEqDiff, Nat.reduceLeDiff, Nat.reduceSub]
    rw [List.take_length] at hall
    rw [hall]
theorem impl_arePlaces_ok (n : Net) (l : List Int) (h : 1 ≤ n.pl ∧ n.pl ≤ 16) (hl : l.length < 2^62) : C f_impl_arePlaces [encN n, ints l] [] = some (.bool (places n.pl l), []) := by
  refine C_impl_arePlaces ?_
  simp (maxSteps := 2000000) (disch := (first | omega | (simp only [List.length_append, List.length_take, List.length_replicate, List.length_map, List.length_set, List.length_cons, List.length_nil, List.length_zipWith, List.length_drop, List.length_range]; first | done | omega))) only [ir_impl_arePlaces, go_sem, Nat.reduceAdd, Nat.reduceEqDiff, Nat.reduceLeDiff, Nat.reduceSub]
  simp (maxSteps := 2000000) (disch := (first | omega | (simp only [List.length_append, List.length_take, List.length_replicate, List.length_map, List.length_set, List.length_cons, List.length_nil, List.length_zipWith, List.length_drop, List.length_range]; first | done | omega))) only [go_sem, Nat.reduceAdd, Nat.reduceEqDiff, Nat.reduceLeDiff, Nat.reduceSub, impl_increasing_ok l hl, impl_allWithin_ok l _ _ hl]
  unfold places; grind
theorem impl_GoodNet_1_ok (n : Net) (t : Tr) (h : 1 ≤ n.pl ∧ n.pl ≤ 16) (ht : smT t) : C f_impl_GoodNet_1 [encT t, .pv (encN n) 0] [] = some (.bool (!goodT n.pl t), []) := by
  obtain ⟨h1, h2, h3⟩ := ht
  refine C_impl_GoodNet_1 ?_
  simp (maxSteps := 2000000) (disch := (first | omega | (simp only [List.length_append, List.length_take, List.length_replicate, List.length_map, List.length_set, List.length_cons, List.length_nil, List.length_zipWith, List.length_drop, List.length_range]; first | done | omega))) only [ir_impl_GoodNet_1, go_sem, Nat.reduceAdd, Nat.reduceEqDiff, Nat.reduceLeDiff, Nat.reduceSub]
  simp (maxSteps := 2000000) (disch := (first | omega | (simp only [List.length_append, List.length_take, List.length_replicate, List.length_map, List.length_set, List.length_cons, List.length_nil, List.length_zipWith, List.length_drop, List.length_range]; first | done | omega))) only [go_sem, Nat.reduceAdd, Nat.reduceEqDiff, Nat.reduceLeDiff, Nat.reduceSub, impl_arePlaces_ok n _ h]
  refine ⟨fun h6 => by rw [goodT_nil (by omega)]; rfl, fun h6 => ⟨fun h7 => ⟨fun h8 => ⟨fun h9 => by rw [goodT_all (by omega) h7 h8 h9]; rfl, fun h9 => by simp [goodT, h9]⟩, fun h8 => by simp [goodT, h8]⟩, fun h7 => by simp [goodT, h7]⟩⟩
theorem slices_IndexFunc_sl_impl_Trans_impl_Trans_ok (l : List Tr) (g : FuncId) (caps : List PV) (hc : refsL caps = []) (hcv : ∀ m h, viewLWith [] m h caps = some caps) (p : Tr → Bool) (hp : ∀ x ∈ l, C g (encT x :: caps) [] = some (.bool (p x), [])) (hl : l.length < 2^62) :
    C f_slices_IndexFunc_sl_impl_Trans_impl_Trans [trs l, .clo g caps] [] = some (I (idxI l p), []) := by
  refine C_slices_IndexFunc_sl_impl_Trans_impl_Trans ?_
  simp (maxSteps := 2000000) (disch := (first | omega | (simp only [List.length_append, List.length_take, List.length_replicate, List.length_map, List.length_set, List.length_cons, List.length_nil, List.length_zipWith, List.length_drop, List.length_range]; first | done | omega))) only [ir_slices_IndexFunc_sl_impl_Trans_impl_Trans, go_sem, Nat.reduceAdd, Nat.reduceEqDiff, Nat.reduceLeDiff, Nat.reduceSub]
  refine W_for l.length (fun k s => s = ⟨[trs l, .clo g caps, .any, .any, I l.length, I k, .any, .any], []⟩ ∧ (l.take k).any p = false) ?_ ?_ ?_
  · simp (maxSteps := 2000000) (disch := (first | omega | (simp only [List.length_append, List.length_take, List.length_replicate, List.length_map, List.length_set, List.length_cons, List.length_nil, List.length_zipWith, List.length_drop, List.length_range]; first | done | omega))) only [go_sem, Nat.reduceAdd, Nat.reduceEqDiff, Nat.reduceLeDiff, Nat.reduceSub, hc]
    rfl
  · rintro k s hk ⟨rfl, hall⟩
    simp (maxSteps := 2000000) (disch := (first | omega | (simp only [List.length_append, List.length_take, List.length_replicate, List.length_map, List.length_set, List.length_cons, List.length_nil, List.length_zipWith, List.length_drop, List.length_range]; first | done | omega))) only [go_sem, Nat.reduceAdd, Nat.reduceEqDiff, Nat.reduceLeDiff, Nat.reduceSub, hc, hcv, hp _ (List.getElem_mem hk)]
    exact ⟨fun h => by rw [idxI_some hk hall h], fun h => ⟨rfl, any_take hk hall h⟩⟩
  · rintro s ⟨rfl, hall⟩
    simp (maxSteps := 2000000) (disch := (first | omega | (simp only [List.length_append, List.length_take, List.length_replicate, List.length_map, List.length_set, List.length_cons, List.length_nil, List.length_zipWith, List.length_drop, List.length_range]; first | done | omega))) only [go_sem, Nat.reduceAdd, Nat.reduceEqDiff, Nat.reduceLeDiff, Nat.reduceSub]
    rw [List.take_length] at hall
    rw [idxI_none hall]
theorem slices_ContainsFunc_sl_impl_Trans_impl_Trans_ok (l : List Tr) (g : FuncId) (caps : List PV) (hc : refsL caps = []) (hcv : ∀ m h, viewLWith [] m h caps = some caps) (p : Tr → Bool) (hp : ∀ x ∈ l, C g (encT x :: caps) [] = some (.bool (p x), [])) (hl : l.length < 2^62) :
    C f_slices_ContainsFunc_sl_impl_Trans_impl_Trans [trs l, .clo g caps] [] = some (.bool (l.any p), []) := by
  refine C_slices_ContainsFunc_sl_impl_Trans_impl_Trans ?_
  simp (maxSteps := 2000000) (disch := (first | omega | (simp only [List.length_append, List.length_take, List.length_replicate, List.length_map, List.length_set, List.length_cons, List.length_nil, List.length_zipWith, List.length_drop, List.length_range]; first | done | omega))) only [ir_slices_ContainsFunc_sl_impl_Trans_impl_Trans, go_sem, Nat.reduceAdd, Nat.reduceEqDiff, Nat.reduceLeDiff, Nat.reduceSub]
  simp (maxSteps := 2000000) (disch := (first | omega | (simp only [List.length_append, List.length_take, List.length_replicate, List.length_map, List.length_set, List.length_cons, List.length_nil, List.length_zipWith, List.length_drop, List.length_range]; first | done | omega))) only [go_sem, Nat.reduceAdd, Nat.reduceEqDiff, Nat.reduceLeDiff, Nat.reduceSub, hc, hcv, slices_IndexFunc_sl_impl_Trans_impl_Trans_ok l g caps hc hcv p hp hl]
  have := idxI_any l p
  grind
theorem impl_GoodNet_ok (n : Net) (hn : smN n) : C f_impl_GoodNet [encN n] [] = some (.bool (goodN n), []) := by
  have h0 := hn.1
  refine C_impl_GoodNet ?_
  simp (maxSteps := 2000000) (disch := (first | omega | (simp only [List.length_append, List.length_take, List.length_replicate, List.length_map, List.length_set, List.length_cons, List.length_nil, List.length_zipWith, List.length_drop, List.length_range]; first | done | omega))) only [ir_impl_GoodNet, go_sem, Nat.reduceAdd, Nat.reduceEqDiff, Nat.reduceLeDiff, Nat.reduceSub]
  simp (maxSteps := 2000000) (disch := (first | omega | (simp only [List.length_append, List.length_take, List.length_replicate, List.length_map, List.length_set, List.length_cons, List.length_nil, List.length_zipWith, List.length_drop, List.length_range]; first | done | omega))) only [go_sem, Nat.reduceAdd, Nat.reduceEqDiff, Nat.reduceLeDiff, Nat.reduceSub, impl_within_ok]
  refine ⟨fun h => ⟨fun h2 => ?_, fun h2 => ?_⟩, fun h => by simp [goodN, h]⟩
  · have hb : 1 ≤ n.pl ∧ n.pl ≤ 16 := by simpa [inB] using h
    have h3 := slices_ContainsFunc_sl_impl_Trans_impl_Trans_ok n.tr f_impl_GoodNet_1 [.pv (encN n) 0] rfl (fun _ _ => rfl) (fun t => !goodT n.pl t) (fun x hx => impl_GoodNet_1_ok n x hb (hn.2 x hx)) (by omega)
    simp (maxSteps := 2000000) (disch := (first | omega | (simp only [List.length_append, List.length_take, List.length_replicate, List.length_map, List.length_set, List.length_cons, List.length_nil, List.length_zipWith, List.length_drop, List.length_range]; first | done | omega))) only [go_sem, Nat.reduceAdd, Nat.reduceEqDiff, Nat.reduceLeDiff, Nat.reduceSub, h3]
    have : (n.tr.any fun t => !goodT n.pl t) = !n.tr.all (goodT n.pl) := by rw [List.any_eq_not_all_not]; simp
    have h4 : n.tr.length ≤ 24 := by omega
    simp only [this]
    simp [goodN, h, h4]
  · have : ¬ n.tr.length ≤ 24 := by omega
    simp [goodN, this]
theorem slices_Index_sl_int_int_ok (l : List Int) (x : Int) (hl : l.length < 2^62) : C f_slices_Index_sl_int_int [ints l, I x] [] = some (I (idxI l (fun y => y == x)), []) := by
  refine C_slices_Index_sl_int_int ?_
  simp (maxSteps := 2000000) (disch := (first | omega | (simp only [List.length_append, List.length_take, List.length_replicate, List.length_map, List.length_set, List.length_cons, List.length_nil, List.length_zipWith, List.length_drop, List.length_range]; first | done | omega))) only [ir_slices_Index_sl_int_int, go_sem, Nat.reduceAdd, Nat.reduceEqDiff, Nat.reduceLeDiff, Nat.reduceSub]
  refine W_for l.length (fun k s => s = ⟨[ints l, I x, .any, .any, I l.length, I k, .any, .any], []⟩ ∧ (l.take k).any (fun y => y == x) = false) ?_ ?_ ?_
  · simp (maxSteps := 2000000) (disch := (first | omega | (simp only [List.length_append, List.length_take, List.length_replicate, List.length_map, List.length_set, List.length_cons, List.length_nil, List.length_zipWith, List.length_drop, List.length_range]; first | done | omega))) only [go_sem, Nat.reduceAdd, Nat.reduceEqDiff, Nat.reduceLeDiff, Nat.reduceSub]
    rfl
  · rintro k s hk ⟨rfl, hall⟩
    simp (maxSteps := 2000000) (disch := (first | omega | (simp only [List.length_append, List.length_take, List.length_replicate, List.length_map, List.length_set, List.length_cons, List.length_nil, List.length_zipWith, List.length_drop, List.length_range]; first | done | omega))) only [go_sem, Nat.reduceAdd, Nat.reduceEqDiff, Nat.reduceLeDiff, Nat.reduceSub]
    refine ⟨fun h => ?_, fun h => ⟨rfl, any_take hk hall (by simpa using fun e => h e.symm)⟩⟩
    rw [idxI_some hk hall (by simpa using h.symm)]
  · rintro s ⟨rfl, hall⟩
    simp (maxSteps := 2000000) (disch := (first | omega | (simp only [List.length_append, List.length_take, List.length_replicate, List.length_map, List.length_set, List.length_cons, List.length_nil, List.length_zipWith, List.length_drop, List.length_range]; first | done | omega))) only [go_sem, Nat.reduceAdd, Nat.reduceEqDiff, Nat.reduceLeDiff, Nat.reduceSub]
    rw [List.take_length] at hall
    rw [idxI_none hall]
theorem slices_Contains_sl_int_int_ok (l : List Int) (x : Int) (hl : l.length < 2^62) : C f_slices_Contains_sl_int_int [ints l, I x] [] = some (.bool (hasB l x), []) := by
  refine C_slices_Contains_sl_int_int ?_
  simp (maxSteps := 2000000) (disch := (first | omega | (simp only [List.length_append, List.length_take, List.length_replicate, List.length_map, List.length_set, List.length_cons, List.length_nil, List.length_zipWith, List.length_drop, List.length_range]; first | done | omega))) only [ir_slices_Contains_sl_int_int, go_sem, Nat.reduceAdd, Nat.reduceEqDiff, Nat.reduceLeDiff, Nat.reduceSub]
  simp (maxSteps := 2000000) (disch := (first | omega | (simp only [List.length_append, List.length_take, List.length_replicate, List.length_map, List.length_set, List.length_cons, List.length_nil, List.length_zipWith, List.length_drop, List.length_range]; first | done | omega))) only [go_sem, Nat.reduceAdd, Nat.reduceEqDiff, Nat.reduceLeDiff, Nat.reduceSub, slices_Index_sl_int_int_ok l x hl]
  have := idxI_any l (fun y => y == x)
  rw [hasB_any, this]
  exact ⟨fun h => by simp [h], fun h => by rw [decide_eq_false (by omega)]⟩
theorem impl_reachedFrom_1_ok (x : Int) (P : List Bool) (h : 0 ≤ x ∧ x.toNat < P.length) : C f_impl_reachedFrom_1 [I x, .pv (.agg [bls P]) 0] [] = some (.bool (P.getD x.toNat false), []) := by
  obtain ⟨h1, h2⟩ := h
  refine C_impl_reachedFrom_1 ?_
  simp (maxSteps := 2000000) (disch := (first | omega | (simp only [List.length_append, List.length_take, List.length_replicate, List.length_map, List.length_set, List.length_cons, List.length_nil, List.length_zipWith, List.length_drop, List.length_range]; first | done | omega))) only [ir_impl_reachedFrom_1, go_sem, Nat.reduceAdd, Nat.reduceEqDiff, Nat.reduceLeDiff, Nat.reduceSub]
  rw [getD_eq h2]
  grind
theorem slices_IndexFunc_sl_int_int_ok (l : List Int) (g : FuncId) (caps : List PV) (hc : refsL caps = []) (hcv : ∀ m h, viewLWith [] m h caps = some caps) (p : Int → Bool) (hp : ∀ x ∈ l, C g (I x :: caps) [] = some (.bool (p x), [])) (hl : l.length < 2^62) :
    C f_slices_IndexFunc_sl_int_int [ints l, .clo g caps] [] = some (I (idxI l p), []) := by
  refine C_slices_IndexFunc_sl_int_int ?_
  simp (maxSteps := 2000000) (disch := (first | omega | (simp only [List.length_append, List.length_take, List.length_replicate, List.length_map, List.length_set, List.length_cons, List.length_nil, List.length_zipWith, List.length_drop, List.length_range]; first | done | omega))) only [ir_slices_IndexFunc_sl_int_int, go_sem, Nat.reduceAdd, Nat.reduceEqDiff, Nat.reduceLeDiff, Nat.reduceSub]
  refine W_for l.length (fun k s => s = ⟨[ints l, .clo g caps, .any, .any, I l.length, I k, .any, .any], []⟩ ∧ (l.take k).any p = false) ?_ ?_ ?_
  · simp (maxSteps := 2000000) (disch := (first | omega | (simp only [List.length_append, List.length_take, List.length_replicate, List.length_map, List.length_set, List.length_cons, List.length_nil, List.length_zipWith, List.length_drop, List.length_range]; first | done | omega))) only [go_sem, Nat.reduceAdd, Nat.reduceEqDiff, Nat.reduceLeDiff, Nat.reduceSub, hc]
    rfl
  · rintro k s hk ⟨rfl, hall⟩
    simp (maxSteps := 2000000) (disch := (first | omega | (simp only [List.length_append, List.length_take, List.length_replicate, List.length_map, List.length_set, List.length_cons, List.length_nil, List.length_zipWith, List.length_drop, List.length_range]; first | done | omega))) only [go_sem, Nat.reduceAdd, Nat.reduceEqDiff, Nat.reduceLeDiff, Nat.reduceSub, hc, hcv, hp _ (List.getElem_mem hk)]
    exact ⟨fun h => by rw [idxI_some hk hall h], fun h => ⟨rfl, any_take hk hall h⟩⟩
  · rintro s ⟨rfl, hall⟩
    simp (maxSteps := 2000000) (disch := (first | omega | (simp only [List.length_append, List.length_take, List.length_replicate, List.length_map, List.length_set, List.length_cons, List.length_nil, List.length_zipWith, List.length_drop, List.length_range]; first | done | omega))) only [go_sem, Nat.reduceAdd, Nat.reduceEqDiff, Nat.reduceLeDiff, Nat.reduceSub]
    rw [List.take_length] at hall
    rw [idxI_none hall]
theorem slices_ContainsFunc_sl_int_int_ok (l : List Int) (g : FuncId) (caps : List PV) (hc : refsL caps = []) (hcv : ∀ m h, viewLWith [] m h caps = some caps) (p : Int → Bool) (hp : ∀ x ∈ l, C g (I x :: caps) [] = some (.bool (p x), [])) (hl : l.length < 2^62) :
    C f_slices_ContainsFunc_sl_int_int [ints l, .clo g caps] [] = some (.bool (l.any p), []) := by
  refine C_slices_ContainsFunc_sl_int_int ?_
  simp (maxSteps := 2000000) (disch := (first | omega | (simp only [List.length_append, List.length_take, List.length_replicate, List.length_map, List.length_set, List.length_cons, List.length_nil, List.length_zipWith, List.length_drop, List.length_range]; first | done | omega))) only [ir_slices_ContainsFunc_sl_int_int, go_sem, Nat.reduceAdd, Nat.reduceEqDiff, Nat.reduceLeDiff, Nat.reduceSub]
  simp (maxSteps := 2000000) (disch := (first | omega | (simp only [List.length_append, List.length_take, List.length_replicate, List.length_map, List.length_set, List.length_cons, List.length_nil, List.length_zipWith, List.length_drop, List.length_range]; first | done | omega))) only [go_sem, Nat.reduceAdd, Nat.reduceEqDiff, Nat.reduceLeDiff, Nat.reduceSub, hc, hcv, slices_IndexFunc_sl_int_int_ok l g caps hc hcv p hp hl]
  have := idxI_any l p
  grind
theorem impl_reachedFrom_false (n : Net) (p : Int) (hg : goodN n = true) (hp : 0 ≤ p ∧ p < n.pl) : C f_impl_reachedFrom [encN n, I p, .bool false] [] = some (.tup [.un t_bool true 1 ((reachC n false p).pl.map PV.bool), .un t_bool true 1 ((reachC n false p).tr.map PV.bool)], []) := by
  have hb := goodN_parts hg
  have hlen := reachC_len n false p
  rw [reachC_eq] at hlen ⊢
  refine C_impl_reachedFrom ?_
  simp (maxSteps := 2000000) (disch := (first | omega | (simp only [List.length_append, List.length_take, List.length_replicate, List.length_map, List.length_set, List.length_cons, List.length_nil, List.length_zipWith, List.length_drop, List.length_range]; first | done | omega))) only [ir_impl_reachedFrom, go_sem, Nat.reduceAdd, Nat.reduceEqDiff, Nat.reduceLeDiff, Nat.reduceSub]
  simp (maxSteps := 2000000) (disch := (first | omega | (simp only [List.length_append, List.length_take, List.length_replicate, List.length_map, List.length_set, List.length_cons, List.length_nil, List.length_zipWith, List.length_drop, List.length_range]; first | done | omega))) only [go_sem, Nat.reduceAdd, Nat.reduceEqDiff, Nat.reduceLeDiff, Nat.reduceSub, List.getElem_replicate]
  generalize hR : clRun n false (cntF (List.replicate n.tr.length false) + 1) ⟨(List.replicate n.pl.toNat false).set p.toNat true, List.replicate n.tr.length false, true⟩ = R at *
  refine ⟨rfl, ?_⟩
  refine W_down (fun k s => ∃ c : Cl, c.pl.length = n.pl.toNat ∧ c.tr.length = n.tr.length ∧ ((k = cntF c.tr + 1 ∧ s = ⟨[.any, .any, .bool false, .ptr 0 0, .any, .any, .ptr 1 0, .ref 2 1 0 n.tr.length, .bool true, .any, .any, .any, .any, .any, .any, .any, .any, .any, .any, .any, .any, .any, .any, .any, .any], [.box t_impl_Net [I n.pl, trs n.tr], .box t_sl_bool [.ref 3 1 0 n.pl.toNat], .row t_bool true 1 (c.tr.map PV.bool), .row t_bool true 1 (c.pl.map PV.bool)]⟩ ∧ clRun n false (cntF c.tr + 1) c = R) ∨ (k = 0 ∧ s = ⟨[.any, .any, .bool false, .ptr 0 0, .any, .any, .ptr 1 0, .ref 2 1 0 n.tr.length, .bool false, .any, .any, .any, .any, .any, .any, .any, .any, .any, .any, .any, .any, .any, .any, .any, .any], [.box t_impl_Net [I n.pl, trs n.tr], .box t_sl_bool [.ref 3 1 0 n.pl.toNat], .row t_bool true 1 (c.tr.map PV.bool), .row t_bool true 1 (c.pl.map PV.bool)]⟩ ∧ c = R))) (cntF (List.replicate n.tr.length false) + 1) ?_ ?_
  · refine ⟨⟨(List.replicate n.pl.toNat false).set p.toNat true, List.replicate n.tr.length false, true⟩, by simp, by simp, .inl ⟨rfl, ?_, hR⟩⟩
    simp (maxSteps := 2000000) (disch := (first | omega | (simp only [List.length_append, List.length_take, List.length_replicate, List.length_map, List.length_set, List.length_cons, List.length_nil, List.length_zipWith, List.length_drop, List.length_range]; first | done | omega))) only [go_sem, Nat.reduceAdd, Nat.reduceEqDiff, Nat.reduceLeDiff, Nat.reduceSub]
    simp
  · rintro k0 s ⟨c, hc1, hc2, ⟨rfl, rfl, hc⟩ | ⟨rfl, rfl, rfl⟩⟩
    · have hcl := fun k => clK_len n false c k
      simp (maxSteps := 2000000) (disch := (first | omega | (simp only [List.length_append, List.length_take, List.length_replicate, List.length_map, List.length_set, List.length_cons, List.length_nil, List.length_zipWith, List.length_drop, List.length_range]; first | done | omega))) only [go_sem, Nat.reduceAdd, Nat.reduceEqDiff, Nat.reduceLeDiff, Nat.reduceSub]
      refine W_for n.tr.length (fun k s => s = ⟨[.any, .any, .bool false, .ptr 0 0, .any, .any, .ptr 1 0, .ref 2 1 0 n.tr.length, .bool (clK n false c k).ch, .any, .any, .any, .any, .any, .any, trs n.tr, I n.tr.length, I k, .any, .any, .any, .any, .any, .any, .any], [.box t_impl_Net [I n.pl, trs n.tr], .box t_sl_bool [.ref 3 1 0 n.pl.toNat], .row t_bool true 1 ((clK n false c k).tr.map PV.bool), .row t_bool true 1 ((clK n false c k).pl.map PV.bool)]⟩) ?_ ?_ ?_
      · simp (maxSteps := 2000000) (disch := (first | omega | (simp only [List.length_append, List.length_take, List.length_replicate, List.length_map, List.length_set, List.length_cons, List.length_nil, List.length_zipWith, List.length_drop, List.length_range]; first | done | omega))) only [go_sem, Nat.reduceAdd, Nat.reduceEqDiff, Nat.reduceLeDiff, Nat.reduceSub]
        rfl
      · rintro k s hk rfl
        have hT := hb.2.2.2 _ (List.getElem_mem hk)
        have hLs := goodT_lens hT (by omega)
        obtain ⟨_, g1, g2, g3⟩ := goodT_parts hT
        have p1 := places_in g1
        have p2 := places_in g2
        have hd := hcl k
        have hstep := clK_succ n false c k
        have htr : n.tr[k] = trN n k := (trN_eq hk).symm
        rw [htr] at hLs p1 p2
        have s1 : (clK n false c k).tr.getD k false = true → clK n false c (k + 1) = clK n false c k := fun h => hstep.trans (clStep_no (.inl h))
        have s2 : hitB (clK n false c k).pl (sideI false (trN n k)) = false → clK n false c (k + 1) = clK n false c k := fun h => hstep.trans (clStep_no (.inr h))
        have s3 : (clK n false c k).tr.getD k false = false → hitB (clK n false c k).pl (sideI false (trN n k)) = true → clK n false c (k + 1) = ⟨markB (clK n false c k).pl (sideO false (trN n k)), (clK n false c k).tr.set k true, true⟩ := fun h h2 => hstep.trans (clStep_yes h h2)
        simp only [sideI, sideO, Bool.false_eq_true, if_false, if_true] at s2 s3
        clear hstep
        generalize clK n false c k = d at *
        generalize clK n false c (k + 1) = d' at *
        have hcont := slices_ContainsFunc_sl_int_int_ok (trN n k).inn f_impl_reachedFrom_1 [.pv (.agg [bls d.pl]) 0] rfl (fun _ _ => rfl) (fun q => d.pl.getD q.toNat false) (fun x hx => impl_reachedFrom_1_ok x d.pl (by have := p1 x hx; omega)) (by omega)
        rw [show ((trN n k).inn.any fun q => d.pl.getD q.toNat false) = hitB d.pl (trN n k).inn from rfl] at hcont
        have hkd : k < d.tr.length := by omega
        simp (maxSteps := 2000000) (disch := (first | omega | (simp only [List.length_append, List.length_take, List.length_replicate, List.length_map, List.length_set, List.length_cons, List.length_nil, List.length_zipWith, List.length_drop, List.length_range]; first | done | omega))) only [go_sem, Nat.reduceAdd, Nat.reduceEqDiff, Nat.reduceLeDiff, Nat.reduceSub, htr, hcont]
        generalize trN n k = tr at *
        refine ⟨fun h3 => ?_, fun h3 => ⟨fun h => ?_, fun h => ?_⟩⟩
        · rw [s1 (by rw [← getD_eq hkd]; exact h3)]; rfl
        · have e := s3 (by rw [← getD_eq hkd]; exact h3) h
          subst e
          refine W_for tr.out.length (fun j s => s = ⟨[.any, .any, .bool false, .ptr 0 0, .any, .any, .ptr 1 0, .ref 2 1 0 n.tr.length, .bool true, .any, .any, .any, .any, .any, .any, trs n.tr, I n.tr.length, I k, .any, .any, .any, ints tr.out, I tr.out.length, I j, .any], [.box t_impl_Net [I n.pl, trs n.tr], .box t_sl_bool [.ref 3 1 0 n.pl.toNat], .row t_bool true 1 ((d.tr.set k true).map PV.bool), .row t_bool true 1 ((markB d.pl (tr.out.take j)).map PV.bool)]⟩) ?_ ?_ ?_
          · simp (maxSteps := 2000000) (disch := (first | omega | (simp only [List.length_append, List.length_take, List.length_replicate, List.length_map, List.length_set, List.length_cons, List.length_nil, List.length_zipWith, List.length_drop, List.length_range]; first | done | omega))) only [go_sem, Nat.reduceAdd, Nat.reduceEqDiff, Nat.reduceLeDiff, Nat.reduceSub]
            rfl
          · rintro j s hj rfl
            have h1 := p2 _ (List.getElem_mem hj)
            have h2 : tr.out[j].toNat < d.pl.length := by omega
            have h4 := markB_len d.pl (tr.out.take j)
            simp (maxSteps := 2000000) (disch := (first | omega | (simp only [List.length_append, List.length_take, List.length_replicate, List.length_map, List.length_set, List.length_cons, List.length_nil, List.length_zipWith, List.length_drop, List.length_range]; first | done | omega))) only [go_sem, Nat.reduceAdd, Nat.reduceEqDiff, Nat.reduceLeDiff, Nat.reduceSub]
            rw [markB_take hj]; rfl
          · rintro s rfl
            simp (maxSteps := 2000000) (disch := (first | omega | (simp only [List.length_append, List.length_take, List.length_replicate, List.length_map, List.length_set, List.length_cons, List.length_nil, List.length_zipWith, List.length_drop, List.length_range]; first | done | omega))) only [go_sem, Nat.reduceAdd, Nat.reduceEqDiff, Nat.reduceLeDiff, Nat.reduceSub, List.take_length]
            rfl
        · rw [s2 h]; rfl
      · rintro s rfl
        simp (maxSteps := 2000000) (disch := (first | omega | (simp only [List.length_append, List.length_take, List.length_replicate, List.length_map, List.length_set, List.length_cons, List.length_nil, List.length_zipWith, List.length_drop, List.length_range]; first | done | omega))) only [go_sem, Nat.reduceAdd, Nat.reduceEqDiff, Nat.reduceLeDiff, Nat.reduceSub]
        have hn := clRun_next (n := n) (bk := false) hc2
        rw [hc] at hn
        cases e : (clRound n false c).ch with
        | true =>
          have h1 := (clK_cnt (n := n) (bk := false) (s := c) (k := n.tr.length) (by omega)).2 e
          simp only [e, if_true] at hn
          refine ⟨cntF (clRound n false c).tr + 1, by unfold clRound; omega, clRound n false c, by unfold clRound; have := hcl n.tr.length; omega, by unfold clRound; have := hcl n.tr.length; omega, .inl ⟨rfl, ?_, hn.symm⟩⟩
          unfold clRound at e ⊢
          rw [e]
        | false =>
          simp only [e, Bool.false_eq_true, if_false] at hn
          refine ⟨0, by omega, clRound n false c, by unfold clRound; have := hcl n.tr.length; omega, by unfold clRound; have := hcl n.tr.length; omega, .inr ⟨rfl, ?_, hn.symm⟩⟩
          unfold clRound at e ⊢
          rw [e]
    · simp (maxSteps := 2000000) (disch := (first | omega | (simp only [List.length_append, List.length_take, List.length_replicate, List.length_map, List.length_set, List.length_cons, List.length_nil, List.length_zipWith, List.length_drop, List.length_range]; first | done | omega))) only [go_sem, Nat.reduceAdd, Nat.reduceEqDiff, Nat.reduceLeDiff, Nat.reduceSub]
theorem impl_reachedFrom_true (n : Net) (p : Int) (hg : goodN n = true) (hp : 0 ≤ p ∧ p < n.pl) : C f_impl_reachedFrom [encN n, I p, .bool true] [] = some (.tup [.un t_bool true 1 ((reachC n true p).pl.map PV.bool), .un t_bool true 1 ((reachC n true p).tr.map PV.bool)], []) := by
  have hb := goodN_parts hg
  have hlen := reachC_len n true p
  rw [reachC_eq] at hlen ⊢
  refine C_impl_reachedFrom ?_
  simp (maxSteps := 2000000) (disch := (first | omega | (simp only [List.length_append, List.length_take, List.length_replicate, List.length_map, List.length_set, List.length_cons, List.length_nil, List.length_zipWith, List.length_drop, List.length_range]; first | done | omega))) only [ir_impl_reachedFrom, go_sem, Nat.reduceAdd, Nat.reduceEqDiff, Nat.reduceLeDiff, Nat.reduceSub]
  simp (maxSteps := 2000000) (disch := (first | omega | (simp only [List.length_append, List.length_take, List.length_replicate, List.length_map, List.length_set, List.length_cons, List.length_nil, List.length_zipWith, List.length_drop, List.length_range]; first | done | omega))) only [go_sem, Nat.reduceAdd, Nat.reduceEqDiff, Nat.reduceLeDiff, Nat.reduceSub, List.getElem_replicate]
  generalize hR : clRun n true (cntF (List.replicate n.tr.length false) + 1) ⟨(List.replicate n.pl.toNat false).set p.toNat true, List.replicate n.tr.length false, true⟩ = R at *
  refine ⟨rfl, ?_⟩
  refine W_down (fun k s => ∃ c : Cl, c.pl.length = n.pl.toNat ∧ c.tr.length = n.tr.length ∧ ((k = cntF c.tr + 1 ∧ s = ⟨[.any, .any, .bool true, .ptr 0 0, .any, .any, .ptr 1 0, .ref 2 1 0 n.tr.length, .bool true, .any, .any, .any, .any, .any, .any, .any, .any, .any, .any, .any, .any, .any, .any, .any, .any], [.box t_impl_Net [I n.pl, trs n.tr], .box t_sl_bool [.ref 3 1 0 n.pl.toNat], .row t_bool true 1 (c.tr.map PV.bool), .row t_bool true 1 (c.pl.map PV.bool)]⟩ ∧ clRun n true (cntF c.tr + 1) c = R) ∨ (k = 0 ∧ s = ⟨[.any, .any, .bool true, .ptr 0 0, .any, .any, .ptr 1 0, .ref 2 1 0 n.tr.length, .bool false, .any, .any, .any, .any, .any, .any, .any, .any, .any, .any, .any, .any, .any, .any, .any, .any], [.box t_impl_Net [I n.pl, trs n.tr], .box t_sl_bool [.ref 3 1 0 n.pl.toNat], .row t_bool true 1 (c.tr.map PV.bool), .row t_bool true 1 (c.pl.map PV.bool)]⟩ ∧ c = R))) (cntF (List.replicate n.tr.length false) + 1) ?_ ?_
  · refine ⟨⟨(List.replicate n.pl.toNat false).set p.toNat true, List.replicate n.tr.length false, true⟩, by simp, by simp, .inl ⟨rfl, ?_, hR⟩⟩
    simp (maxSteps := 2000000) (disch := (first | omega | (simp only [List.length_append, List.length_take, List.length_replicate, List.length_map, List.length_set, List.length_cons, List.length_nil, List.length_zipWith, List.length_drop, List.length_range]; first | done | omega))) only [go_sem, Nat.reduceAdd, Nat.reduceEqDiff, Nat.reduceLeDiff, Nat.reduceSub]
    simp
  · rintro k0 s ⟨c, hc1, hc2, ⟨rfl, rfl, hc⟩ | ⟨rfl, rfl, rfl⟩⟩
    · have hcl := fun k => clK_len n true c k
      simp (maxSteps := 2000000) (disch := (first | omega | (simp only [List.length_append, List.length_take, List.length_replicate, List.length_map, List.length_set, List.length_cons, List.length_nil, List.length_zipWith, List.length_drop, List.length_range]; first | done | omega))) only [go_sem, Nat.reduceAdd, Nat.reduceEqDiff, Nat.reduceLeDiff, Nat.reduceSub]
      refine W_for n.tr.length (fun k s => s = ⟨[.any, .any, .bool true, .ptr 0 0, .any, .any, .ptr 1 0, .ref 2 1 0 n.tr.length, .bool (clK n true c k).ch, .any, .any, .any, .any, .any, .any, trs n.tr, I n.tr.length, I k, .any, .any, .any, .any, .any, .any, .any], [.box t_impl_Net [I n.pl, trs n.tr], .box t_sl_bool [.ref 3 1 0 n.pl.toNat], .row t_bool true 1 ((clK n true c k).tr.map PV.bool), .row t_bool true 1 ((clK n true c k).pl.map PV.bool)]⟩) ?_ ?_ ?_
      · simp (maxSteps := 2000000) (disch := (first | omega | (simp only [List.length_append, List.length_take, List.length_replicate, List.length_map, List.length_set, List.length_cons, List.length_nil, List.length_zipWith, List.length_drop, List.length_range]; first | done | omega))) only [go_sem, Nat.reduceAdd, Nat.reduceEqDiff, Nat.reduceLeDiff, Nat.reduceSub]
        rfl
      · rintro k s hk rfl
        have hT := hb.2.2.2 _ (List.getElem_mem hk)
        have hLs := goodT_lens hT (by omega)
        obtain ⟨_, g1, g2, g3⟩ := goodT_parts hT
        have p1 := places_in g2
        have p2 := places_in g1
        have hd := hcl k
        have hstep := clK_succ n true c k
        have htr : n.tr[k] = trN n k := (trN_eq hk).symm
        rw [htr] at hLs p1 p2
        have s1 : (clK n true c k).tr.getD k false = true → clK n true c (k + 1) = clK n true c k := fun h => hstep.trans (clStep_no (.inl h))
        have s2 : hitB (clK n true c k).pl (sideI true (trN n k)) = false → clK n true c (k + 1) = clK n true c k := fun h => hstep.trans (clStep_no (.inr h))
        have s3 : (clK n true c k).tr.getD k false = false → hitB (clK n true c k).pl (sideI true (trN n k)) = true → clK n true c (k + 1) = ⟨markB (clK n true c k).pl (sideO true (trN n k)), (clK n true c k).tr.set k true, true⟩ := fun h h2 => hstep.trans (clStep_yes h h2)
        simp only [sideI, sideO, Bool.false_eq_true, if_false, if_true] at s2 s3
        clear hstep
        generalize clK n true c k = d at *
        generalize clK n true c (k + 1) = d' at *
        have hcont := slices_ContainsFunc_sl_int_int_ok (trN n k).out f_impl_reachedFrom_1 [.pv (.agg [bls d.pl]) 0] rfl (fun _ _ => rfl) (fun q => d.pl.getD q.toNat false) (fun x hx => impl_reachedFrom_1_ok x d.pl (by have := p1 x hx; omega)) (by omega)
        rw [show ((trN n k).out.any fun q => d.pl.getD q.toNat false) = hitB d.pl (trN n k).out from rfl] at hcont
        have hkd : k < d.tr.length := by omega
        simp (maxSteps := 2000000) (disch := (first | omega | (simp only [List.length_append, List.length_take, List.length_replicate, List.length_map, List.length_set, List.length_cons, List.length_nil, List.length_zipWith, List.length_drop, List.length_range]; first | done | omega))) only [go_sem, Nat.reduceAdd, Nat.reduceEqDiff, Nat.reduceLeDiff, Nat.reduceSub, htr, hcont]
        generalize trN n k = tr at *
        refine ⟨fun h3 => ?_, fun h3 => ⟨fun h => ?_, fun h => ?_⟩⟩
        · rw [s1 (by rw [← getD_eq hkd]; exact h3)]; rfl
        · have e := s3 (by rw [← getD_eq hkd]; exact h3) h
          subst e
          refine W_for tr.inn.length (fun j s => s = ⟨[.any, .any, .bool true, .ptr 0 0, .any, .any, .ptr 1 0, .ref 2 1 0 n.tr.length, .bool true, .any, .any, .any, .any, .any, .any, trs n.tr, I n.tr.length, I k, .any, .any, .any, ints tr.inn, I tr.inn.length, I j, .any], [.box t_impl_Net [I n.pl, trs n.tr], .box t_sl_bool [.ref 3 1 0 n.pl.toNat], .row t_bool true 1 ((d.tr.set k true).map PV.bool), .row t_bool true 1 ((markB d.pl (tr.inn.take j)).map PV.bool)]⟩) ?_ ?_ ?_
          · simp (maxSteps := 2000000) (disch := (first | omega | (simp only [List.length_append, List.length_take, List.length_replicate, List.length_map, List.length_set, List.length_cons, List.length_nil, List.length_zipWith, List.length_drop, List.length_range]; first | done | omega))) only [go_sem, Nat.reduceAdd, Nat.reduceEqDiff, Nat.reduceLeDiff, Nat.reduceSub]
            rfl
          · rintro j s hj rfl
            have h1 := p2 _ (List.getElem_mem hj)
            have h2 : tr.inn[j].toNat < d.pl.length := by omega
            have h4 := markB_len d.pl (tr.inn.take j)
            simp (maxSteps := 2000000) (disch := (first | omega | (simp only [List.length_append, List.length_take, List.length_replicate, List.length_map, List.length_set, List.length_cons, List.length_nil, List.length_zipWith, List.length_drop, List.length_range]; first | done | omega))) only [go_sem, Nat.reduceAdd, Nat.reduceEqDiff, Nat.reduceLeDiff, Nat.reduceSub]
            rw [markB_take hj]; rfl
          · rintro s rfl
            simp (maxSteps := 2000000) (disch := (first | omega | (simp only [List.length_append, List.length_take, List.length_replicate, List.length_map, List.length_set, List.length_cons, List.length_nil, List.length_zipWith, List.length_drop, List.length_range]; first | done | omega))) only [go_sem, Nat.reduceAdd, Nat.reduceEqDiff, Nat.reduceLeDiff, Nat.reduceSub, List.take_length]
            rfl
        · rw [s2 h]; rfl
      · rintro s rfl
        simp (maxSteps := 2000000) (disch := (first | omega | (simp only [List.length_append, List.length_take, List.length_replicate, List.length_map, List.length_set, List.length_cons, List.length_nil, List.length_zipWith, List.length_drop, List.length_range]; first | done | omega))) only [go_sem, Nat.reduceAdd, Nat.reduceEqDiff, Nat.reduceLeDiff, Nat.reduceSub]
        have hn := clRun_next (n := n) (bk := true) hc2
        rw [hc] at hn
        cases e : (clRound n true c).ch with
        | true =>
          have h1 := (clK_cnt (n := n) (bk := true) (s := c) (k := n.tr.length) (by omega)).2 e
          simp only [e, if_true] at hn
          refine ⟨cntF (clRound n true c).tr + 1, by unfold clRound; omega, clRound n true c, by unfold clRound; have := hcl n.tr.length; omega, by unfold clRound; have := hcl n.tr.length; omega, .inl ⟨rfl, ?_, hn.symm⟩⟩
          unfold clRound at e ⊢
          rw [e]
        | false =>
          simp only [e, Bool.false_eq_true, if_false] at hn
          refine ⟨0, by omega, clRound n true c, by unfold clRound; have := hcl n.tr.length; omega, by unfold clRound; have := hcl n.tr.length; omega, .inr ⟨rfl, ?_, hn.symm⟩⟩
          unfold clRound at e ⊢
          rw [e]
    · simp (maxSteps := 2000000) (disch := (first | omega | (simp only [List.length_append, List.length_take, List.length_replicate, List.length_map, List.length_set, List.length_cons, List.length_nil, List.length_zipWith, List.length_drop, List.length_range]; first | done | omega))) only [go_sem, Nat.reduceAdd, Nat.reduceEqDiff, Nat.reduceLeDiff, Nat.reduceSub]
theorem impl_bothOf_ok (a b : List Bool) (ha : a.length < 2^30) (hab : a.length ≤ b.length) : C f_impl_bothOf [bls a, bls b] [] = some (.un t_int true 1 ((bothL a b).map I), []) := by
  refine C_impl_bothOf ?_
  simp (maxSteps := 2000000) (disch := (first | omega | (simp only [List.length_append, List.length_take, List.length_replicate, List.length_map, List.length_set, List.length_cons, List.length_nil, List.length_zipWith, List.length_drop, List.length_range]; first | done | omega))) only [ir_impl_bothOf, go_sem, Nat.reduceAdd, Nat.reduceEqDiff, Nat.reduceLeDiff, Nat.reduceSub]
  refine W_for a.length (fun k s => s = ⟨[.any, bls b, .any, .ref 0 1 0 (bothK a b k).length, .any, .any, bls a, I a.length, I k, .any, .any], [.row t_int true 1 ((bothK a b k).map I)]⟩) ?_ ?_ ?_
  · simp (maxSteps := 2000000) (disch := (first | omega | (simp only [List.length_append, List.length_take, List.length_replicate, List.length_map, List.length_set, List.length_cons, List.length_nil, List.length_zipWith, List.length_drop, List.length_range]; first | done | omega))) only [go_sem, Nat.reduceAdd, Nat.reduceEqDiff, Nat.reduceLeDiff, Nat.reduceSub]
    rfl
  · rintro k s hk rfl
    have h2 := bothK_len a b k
    have hkb : k < b.length := by omega
    have e1 := getD_eq hk
    have e2 := getD_eq hkb
    simp (maxSteps := 2000000) (disch := (first | omega | (simp only [List.length_append, List.length_take, List.length_replicate, List.length_map, List.length_set, List.length_cons, List.length_nil, List.length_zipWith, List.length_drop, List.length_range]; first | done | omega))) only [go_sem, Nat.reduceAdd, Nat.reduceEqDiff, Nat.reduceLeDiff, Nat.reduceSub]
    rw [e1, e2]
    refine ⟨fun h => ⟨fun h3 => ?_, fun h3 => ?_⟩, fun h => ?_⟩
    · rw [bothK_t h h3, List.map_append]; simp
    · rw [bothK_f (by rw [h, h3]; rfl)]; rfl
    · rw [bothK_f (by rw [h]; rfl)]; rfl
  · rintro s rfl
    simp (maxSteps := 2000000) (disch := (first | omega | (simp only [List.length_append, List.length_take, List.length_replicate, List.length_map, List.length_set, List.length_cons, List.length_nil, List.length_zipWith, List.length_drop, List.length_range]; first | done | omega))) only [go_sem, Nat.reduceAdd, Nat.reduceEqDiff, Nat.reduceLeDiff, Nat.reduceSub]
    rfl
theorem impl_onWay_ok (n : Net) (a b : Int) (hg : goodN n = true) (ha : 0 ≤ a ∧ a < n.pl) (hb2 : 0 ≤ b ∧ b < n.pl) : C f_impl_onWay [encN n, I a, I b] [] = some (.tup [.un t_int true 1 ((wayP n a b).map I), .un t_int true 1 ((wayT n a b).map I)], []) := by
  have hb := goodN_parts hg
  have l1 := reachC_len n false a
  have l2 := reachC_len n true b
  refine C_impl_onWay ?_
  simp (maxSteps := 2000000) (disch := (first | omega | (simp only [List.length_append, List.length_take, List.length_replicate, List.length_map, List.length_set, List.length_cons, List.length_nil, List.length_zipWith, List.length_drop, List.length_range]; first | done | omega))) only [ir_impl_onWay, go_sem, Nat.reduceAdd, Nat.reduceEqDiff, Nat.reduceLeDiff, Nat.reduceSub]
  simp (maxSteps := 2000000) (disch := (first | omega | (simp only [List.length_append, List.length_take, List.length_replicate, List.length_map, List.length_set, List.length_cons, List.length_nil, List.length_zipWith, List.length_drop, List.length_range]; first | done | omega))) only [go_sem, Nat.reduceAdd, Nat.reduceEqDiff, Nat.reduceLeDiff, Nat.reduceSub, impl_reachedFrom_false n a hg ha, impl_reachedFrom_true n b hg hb2]
  simp (maxSteps := 2000000) (disch := (first | omega | (simp only [List.length_append, List.length_take, List.length_replicate, List.length_map, List.length_set, List.length_cons, List.length_nil, List.length_zipWith, List.length_drop, List.length_range]; first | done | omega))) only [go_sem, Nat.reduceAdd, Nat.reduceEqDiff, Nat.reduceLeDiff, Nat.reduceSub, impl_bothOf_ok (reachC n false a).pl (reachC n true b).pl (by omega) (by omega), impl_bothOf_ok (reachC n false a).tr (reachC n true b).tr (by omega) (by omega)]
  rfl
theorem impl_GoodFlow_ok (f : Fl) (hf : smN f.net) : C f_impl_GoodFlow [encF f] [] = some (.bool (goodFl f), []) := by
  have hl := hf.1
  refine C_impl_GoodFlow ?_
  simp (maxSteps := 2000000) (disch := (first | omega | (simp only [List.length_append, List.length_take, List.length_replicate, List.length_map, List.length_set, List.length_cons, List.length_nil, List.length_zipWith, List.length_drop, List.length_range]; first | done | omega))) only [ir_impl_GoodFlow, go_sem, Nat.reduceAdd, Nat.reduceEqDiff, Nat.reduceLeDiff, Nat.reduceSub]
  simp (maxSteps := 2000000) (disch := (first | omega | (simp only [List.length_append, List.length_take, List.length_replicate, List.length_map, List.length_set, List.length_cons, List.length_nil, List.length_zipWith, List.length_drop, List.length_range]; first | done | omega))) only [go_sem, Nat.reduceAdd, Nat.reduceEqDiff, Nat.reduceLeDiff, Nat.reduceSub, impl_GoodNet_ok f.net hf, impl_within_ok]
  cases hg : goodN f.net with
  | false => simp [goodFl, okWay, hg]
  | true =>
    have hb := goodN_parts hg
    cases h1 : inB 0 (f.net.pl - 1) f.src with
    | false => simp (maxSteps := 2000000) (disch := (first | omega | (simp only [List.length_append, List.length_take, List.length_replicate, List.length_map, List.length_set, List.length_cons, List.length_nil, List.length_zipWith, List.length_drop, List.length_range]; first | done | omega))) only [go_sem, Nat.reduceAdd, Nat.reduceEqDiff, Nat.reduceLeDiff, Nat.reduceSub, h1]; simp [goodFl, okWay, hg, h1]
    | true =>
      cases h2 : inB 0 (f.net.pl - 1) f.dst with
      | false => simp (maxSteps := 2000000) (disch := (first | omega | (simp only [List.length_append, List.length_take, List.length_replicate, List.length_map, List.length_set, List.length_cons, List.length_nil, List.length_zipWith, List.length_drop, List.length_range]; first | done | omega))) only [go_sem, Nat.reduceAdd, Nat.reduceEqDiff, Nat.reduceLeDiff, Nat.reduceSub, h1, h2]; simp [goodFl, okWay, hg, h1, h2]
      | true =>
        have hok : okWay f.net f.src f.dst = true := by simp [okWay, hg, h1, h2]
        have ha : 0 ≤ f.src ∧ f.src < f.net.pl := by simp [inB] at h1; omega
        have hb2 : 0 ≤ f.dst ∧ f.dst < f.net.pl := by simp [inB] at h2; omega
        have hP : (wayP f.net f.src f.dst).length < 2^62 := by
          have h1 := bothK_len (reachC f.net false f.src).pl (reachC f.net true f.dst).pl (reachC f.net false f.src).pl.length
          have h2 := reachC_len f.net false f.src
          unfold wayP bothL; omega
        have hT : (wayT f.net f.src f.dst).length < 2^62 := by
          have h1 := bothK_len (reachC f.net false f.src).tr (reachC f.net true f.dst).tr (reachC f.net false f.src).tr.length
          have h2 := reachC_len f.net false f.src
          unfold wayT bothL; omega
        simp (maxSteps := 2000000) (disch := (first | omega | (simp only [List.length_append, List.length_take, List.length_replicate, List.length_map, List.length_set, List.length_cons, List.length_nil, List.length_zipWith, List.length_drop, List.length_range]; first | done | omega))) only [go_sem, Nat.reduceAdd, Nat.reduceEqDiff, Nat.reduceLeDiff, Nat.reduceSub, h1, h2]
        refine ⟨fun h => by simp [goodFl, h], fun hne => ?_⟩
        refine W_for f.net.tr.length (fun k s => s = ⟨[.any, .ptr 0 0, .any, .ptr 1 0, .any, .any, .any, .any, trs f.net.tr, I f.net.tr.length, I k, .any, .any], [.box t_impl_Flow [I f.net.pl, trs f.net.tr, I f.src, I f.dst], .box t_impl_Net [I f.net.pl, trs f.net.tr]]⟩ ∧ (f.net.tr.take k).all (fun t => !spoils f t) = true) ?_ ?_ ?_
        · simp (maxSteps := 2000000) (disch := (first | omega | (simp only [List.length_append, List.length_take, List.length_replicate, List.length_map, List.length_set, List.length_cons, List.length_nil, List.length_zipWith, List.length_drop, List.length_range]; first | done | omega))) only [go_sem, Nat.reduceAdd, Nat.reduceEqDiff, Nat.reduceLeDiff, Nat.reduceSub]
          rfl
        · rintro k s hk ⟨rfl, hall⟩
          have hT := hb.2.2.2 _ (List.getElem_mem hk)
          have hLs := goodT_lens hT (by omega)
          simp (maxSteps := 2000000) (disch := (first | omega | (simp only [List.length_append, List.length_take, List.length_replicate, List.length_map, List.length_set, List.length_cons, List.length_nil, List.length_zipWith, List.length_drop, List.length_range]; first | done | omega))) only [go_sem, Nat.reduceAdd, Nat.reduceEqDiff, Nat.reduceLeDiff, Nat.reduceSub, slices_Contains_sl_int_int_ok]
          have gs : spoils f f.net.tr[k] = true → goodFl f = false := fun hs => by
            have : (f.net.tr.all fun t => !spoils f t) = false := all_false hk (by simp [hs])
            simp [goodFl, this]
          exact ⟨fun a => by rw [gs (by simp [spoils, a])], fun a => ⟨fun b => by rw [gs (by simp [spoils, b])], fun b => ⟨fun c => by rw [gs (by simp [spoils, c])], fun c => ⟨fun d => by rw [gs (by simp [spoils, d])], fun d => ⟨rfl, all_take hk hall (by simp [spoils, a, b, c, d])⟩⟩⟩⟩⟩
        · rintro s ⟨rfl, hall⟩
          rw [List.take_length] at hall
          simp (maxSteps := 2000000) (disch := (first | omega | (simp only [List.length_append, List.length_take, List.length_replicate, List.length_map, List.length_set, List.length_cons, List.length_nil, List.length_zipWith, List.length_drop, List.length_range]; first | done | omega))) only [go_sem, Nat.reduceAdd, Nat.reduceEqDiff, Nat.reduceLeDiff, Nat.reduceSub, impl_onWay_ok f.net f.src f.dst hg ha hb2]
          have e : goodFl f = (decide (((wayP f.net f.src f.dst).length : Int) = f.net.pl) && decide ((wayT f.net f.src f.dst).length = f.net.tr.length)) := by
            simp only [goodFl, hok, hne, hall, decide_false, Bool.not_false, Bool.true_and]
          refine ⟨fun q1 => ⟨fun q2 => ?_, fun q2 => ?_⟩, fun q1 => ?_⟩
          · rw [e, decide_eq_true q1, decide_eq_true (by omega)]; rfl
          · rw [e, decide_eq_true q1, decide_eq_false (by omega)]; rfl
          · rw [e, decide_eq_false q1]; rfl
theorem impl_hasResets_1_ok (t : Tr) : C f_impl_hasResets_1 [encT t] [] = some (.bool (decide (0 < t.rst.length)), []) := by
  refine C_impl_hasResets_1 ?_
  simp (maxSteps := 2000000) (disch := (first | omega | (simp only [List.length_append, List.length_take, List.length_replicate, List.length_map, List.length_set, List.length_cons, List.length_nil, List.length_zipWith, List.length_drop, List.length_range]; first | done | omega))) only [ir_impl_hasResets_1, go_sem, Nat.reduceAdd, Nat.reduceEqDiff, Nat.reduceLeDiff, Nat.reduceSub]
  grind
theorem impl_hasResets_ok (n : Net) (hl : n.tr.length < 2^62) : C f_impl_hasResets [encN n] [] = some (.bool (hasR n), []) := by
  refine C_impl_hasResets ?_
  simp (maxSteps := 2000000) (disch := (first | omega | (simp only [List.length_append, List.length_take, List.length_replicate, List.length_map, List.length_set, List.length_cons, List.length_nil, List.length_zipWith, List.length_drop, List.length_range]; first | done | omega))) only [ir_impl_hasResets, go_sem, Nat.reduceAdd, Nat.reduceEqDiff, Nat.reduceLeDiff, Nat.reduceSub]
  have h := slices_ContainsFunc_sl_impl_Trans_impl_Trans_ok n.tr f_impl_hasResets_1 [] rfl (fun _ _ => rfl) (fun t => decide (0 < t.rst.length)) (fun x _ => impl_hasResets_1_ok x) hl
  simp (maxSteps := 2000000) (disch := (first | omega | (simp only [List.length_append, List.length_take, List.length_replicate, List.length_map, List.length_set, List.length_cons, List.length_nil, List.length_zipWith, List.length_drop, List.length_range]; first | done | omega))) only [go_sem, Nat.reduceAdd, Nat.reduceEqDiff, Nat.reduceLeDiff, Nat.reduceSub, h]
  unfold hasR; grind
theorem impl_isReducible_ok (f : Fl) (hn : smN f.net) : C f_impl_isReducible [encF f] [] = some (.bool (okRed f), []) := by
  have hG := impl_GoodFlow_ok f hn
  have hl := hn.1
  have hR := impl_hasResets_ok f.net (by omega)
  unfold encF at hG
  refine C_impl_isReducible ?_
  simp (maxSteps := 2000000) (disch := (first | omega | (simp only [List.length_append, List.length_take, List.length_replicate, List.length_map, List.length_set, List.length_cons, List.length_nil, List.length_zipWith, List.length_drop, List.length_range]; first | done | omega))) only [ir_impl_isReducible, go_sem, Nat.reduceAdd, Nat.reduceEqDiff, Nat.reduceLeDiff, Nat.reduceSub]
  cases hg : goodFl f with
  | false =>
    simp (maxSteps := 2000000) (disch := (first | omega | (simp only [List.length_append, List.length_take, List.length_replicate, List.length_map, List.length_set, List.length_cons, List.length_nil, List.length_zipWith, List.length_drop, List.length_range]; first | done | omega))) only [go_sem, Nat.reduceAdd, Nat.reduceEqDiff, Nat.reduceLeDiff, Nat.reduceSub, hG, hg]
    simp [okRed, hg]
  | true =>
    simp (maxSteps := 2000000) (disch := (first | omega | (simp only [List.length_append, List.length_take, List.length_replicate, List.length_map, List.length_set, List.length_cons, List.length_nil, List.length_zipWith, List.length_drop, List.length_range]; first | done | omega))) only [go_sem, Nat.reduceAdd, Nat.reduceEqDiff, Nat.reduceLeDiff, Nat.reduceSub, hG, hg, hR]
    simp [okRed, hg]
theorem impl_fusePlaces_1_ok (t : Tr) (p q : Int) (hl : t.out.length < 2^62) : C f_impl_fusePlaces_1 [encT t, .pv (.agg [I p]) 0, .pv (.agg [I q]) 0] [] = some (.bool (hasB t.out p && hasB t.out q), []) := by
  have h1 := slices_Contains_sl_int_int_ok t.out p hl
  have h2 := slices_Contains_sl_int_int_ok t.out q hl
  refine C_impl_fusePlaces_1 ?_
  simp (maxSteps := 2000000) (disch := (first | omega | (simp only [List.length_append, List.length_take, List.length_replicate, List.length_map, List.length_set, List.length_cons, List.length_nil, List.length_zipWith, List.length_drop, List.length_range]; first | done | omega))) only [ir_impl_fusePlaces_1, go_sem, Nat.reduceAdd, Nat.reduceEqDiff, Nat.reduceLeDiff, Nat.reduceSub]
  simp (maxSteps := 2000000) (disch := (first | omega | (simp only [List.length_append, List.length_take, List.length_replicate, List.length_map, List.length_set, List.length_cons, List.length_nil, List.length_zipWith, List.length_drop, List.length_range]; first | done | omega))) only [go_sem, Nat.reduceAdd, Nat.reduceEqDiff, Nat.reduceLeDiff, Nat.reduceSub, h1, h2]
  refine ⟨fun a => ⟨fun b => ?_, fun b => ?_⟩, fun a => ?_⟩ <;> simp [a] <;> simp [b]
theorem impl_withTrans_t (n : Net) (p : Int) (hg : goodN n = true) : C f_impl_withTrans [encN n, I p, .bool true] [] = some (.un t_int true 1 ((givI n p).map I), []) := by
  have hb := goodN_parts hg
  refine C_impl_withTrans ?_
  simp (maxSteps := 2000000) (disch := (first | omega | (simp only [List.length_append, List.length_take, List.length_replicate, List.length_map, List.length_set, List.length_cons, List.length_nil, List.length_zipWith, List.length_drop, List.length_range]; first | done | omega))) only [ir_impl_withTrans, go_sem, Nat.reduceAdd, Nat.reduceEqDiff, Nat.reduceLeDiff, Nat.reduceSub]
  refine W_for n.tr.length (fun k s => s = ⟨[.any, I p, .bool true, .any, .any, .ref 0 1 0 (idxK (fun t => hasB t.out p) n k).length, .any, .any, trs n.tr, I n.tr.length, I k, .any, .any], [.row t_int true 1 ((idxK (fun t => hasB t.out p) n k).map I)]⟩) ?_ ?_ ?_
  · simp (maxSteps := 2000000) (disch := (first | omega | (simp only [List.length_append, List.length_take, List.length_replicate, List.length_map, List.length_set, List.length_cons, List.length_nil, List.length_zipWith, List.length_drop, List.length_range]; first | done | omega))) only [go_sem, Nat.reduceAdd, Nat.reduceEqDiff, Nat.reduceLeDiff, Nat.reduceSub]
    rfl
  · rintro k s hk rfl
    have h2 := idxK_len (fun t => hasB t.out p) n k
    have h3 := goodT_lens (hb.2.2.2 _ (List.getElem_mem hk)) (by omega)
    have hc := slices_Contains_sl_int_int_ok n.tr[k].out p (by omega)
    simp (maxSteps := 2000000) (disch := (first | omega | (simp only [List.length_append, List.length_take, List.length_replicate, List.length_map, List.length_set, List.length_cons, List.length_nil, List.length_zipWith, List.length_drop, List.length_range]; first | done | omega))) only [go_sem, Nat.reduceAdd, Nat.reduceEqDiff, Nat.reduceLeDiff, Nat.reduceSub, hc]
    refine ⟨fun h => ?_, fun h => ?_⟩
    · rw [idxK_t hk h, List.map_append]; simp
    · rw [idxK_f hk h]; rfl
  · rintro s rfl
    simp (maxSteps := 2000000) (disch := (first | omega | (simp only [List.length_append, List.length_take, List.length_replicate, List.length_map, List.length_set, List.length_cons, List.length_nil, List.length_zipWith, List.length_drop, List.length_range]; first | done | omega))) only [go_sem, Nat.reduceAdd, Nat.reduceEqDiff, Nat.reduceLeDiff, Nat.reduceSub]
    rfl
theorem impl_withTrans_f (n : Net) (p : Int) (hg : goodN n = true) : C f_impl_withTrans [encN n, I p, .bool false] [] = some (.un t_int true 1 ((takI n p).map I), []) := by
  have hb := goodN_parts hg
  refine C_impl_withTrans ?_
  simp (maxSteps := 2000000) (disch := (first | omega | (simp only [List.length_append, List.length_take, List.length_replicate, List.length_map, List.length_set, List.length_cons, List.length_nil, List.length_zipWith, List.length_drop, List.length_range]; first | done | omega))) only [ir_impl_withTrans, go_sem, Nat.reduceAdd, Nat.reduceEqDiff, Nat.reduceLeDiff, Nat.reduceSub]
  refine W_for n.tr.length (fun k s => s = ⟨[.any, I p, .bool false, .any, .any, .ref 0 1 0 (idxK (fun t => hasB t.inn p) n k).length, .any, .any, trs n.tr, I n.tr.length, I k, .any, .any], [.row t_int true 1 ((idxK (fun t => hasB t.inn p) n k).map I)]⟩) ?_ ?_ ?_
  · simp (maxSteps := 2000000) (disch := (first | omega | (simp only [List.length_append, List.length_take, List.length_replicate, List.length_map, List.length_set, List.length_cons, List.length_nil, List.length_zipWith, List.length_drop, List.length_range]; first | done | omega))) only [go_sem, Nat.reduceAdd, Nat.reduceEqDiff, Nat.reduceLeDiff, Nat.reduceSub]
    rfl
  · rintro k s hk rfl
    have h2 := idxK_len (fun t => hasB t.inn p) n k
    have h3 := goodT_lens (hb.2.2.2 _ (List.getElem_mem hk)) (by omega)
    have hc := slices_Contains_sl_int_int_ok n.tr[k].inn p (by omega)
    simp (maxSteps := 2000000) (disch := (first | omega | (simp only [List.length_append, List.length_take, List.length_replicate, List.length_map, List.length_set, List.length_cons, List.length_nil, List.length_zipWith, List.length_drop, List.length_range]; first | done | omega))) only [go_sem, Nat.reduceAdd, Nat.reduceEqDiff, Nat.reduceLeDiff, Nat.reduceSub, hc]
    refine ⟨fun h => ?_, fun h => ?_⟩
    · rw [idxK_t hk h, List.map_append]; simp
    · rw [idxK_f hk h]; rfl
  · rintro s rfl
    simp (maxSteps := 2000000) (disch := (first | omega | (simp only [List.length_append, List.length_take, List.length_replicate, List.length_map, List.length_set, List.length_cons, List.length_nil, List.length_zipWith, List.length_drop, List.length_range]; first | done | omega))) only [go_sem, Nat.reduceAdd, Nat.reduceEqDiff, Nat.reduceLeDiff, Nat.reduceSub]
    rfl
theorem impl_cloneNet_ok (n : Net) (hg : goodN n = true) (h0 : n.tr ≠ []) : C f_impl_cloneNet [encN n] [] = some (.agg [I n.pl, .un t_impl_Trans false 3 (n.tr.map encT)], []) := by
  have hb := goodN_parts hg
  have hl : 0 < n.tr.length := List.length_pos_iff.2 h0
  refine C_impl_cloneNet ?_
  simp (maxSteps := 2000000) (disch := (first | omega | (simp only [List.length_append, List.length_take, List.length_replicate, List.length_map, List.length_set, List.length_cons, List.length_nil, List.length_zipWith, List.length_drop, List.length_range]; first | done | omega))) only [ir_impl_cloneNet, go_sem, Nat.reduceAdd, Nat.reduceEqDiff, Nat.reduceLeDiff, Nat.reduceSub]
  refine W_for n.tr.length (fun k s => (s = ⟨[.any, .any, .ptr 0 0, .ptr 1 0, .any, trs n.tr, I n.tr.length, I k, .any], [.box t_impl_Net [I 0, .nil false 3], .box t_impl_Net [I n.pl, .nil false 3]]⟩ ∧ k = 0) ∨ (s = ⟨[.any, .any, .ptr 0 0, .ptr 1 0, .any, trs n.tr, I n.tr.length, I k, .any], [.box t_impl_Net [I 0, .nil false 3], .box t_impl_Net [I n.pl, .ref 2 3 0 k], .row t_impl_Trans false 3 ((n.tr.take k).map encT)]⟩ ∧ 0 < k)) ?_ ?_ ?_
  · refine .inl ⟨?_, rfl⟩
    simp (maxSteps := 2000000) (disch := (first | omega | (simp only [List.length_append, List.length_take, List.length_replicate, List.length_map, List.length_set, List.length_cons, List.length_nil, List.length_zipWith, List.length_drop, List.length_range]; first | done | omega))) only [go_sem, Nat.reduceAdd, Nat.reduceEqDiff, Nat.reduceLeDiff, Nat.reduceSub]
    rfl
  · rintro k s hk (⟨rfl, rfl⟩ | ⟨rfl, h1⟩)
    · have hT := goodT_lens (hb.2.2.2 _ (List.getElem_mem hk)) (by omega)
      simp (maxSteps := 2000000) (disch := (first | omega | (simp only [List.length_append, List.length_take, List.length_replicate, List.length_map, List.length_set, List.length_cons, List.length_nil, List.length_zipWith, List.length_drop, List.length_range]; first | done | omega))) only [go_sem, Nat.reduceAdd, Nat.reduceEqDiff, Nat.reduceLeDiff, Nat.reduceSub, slices_Clone_sl_int_int_ok]
      refine ⟨rfl, ?_, by omega⟩
      rw [take_snoc (k := 0) hk]; rfl
    · have hT := goodT_lens (hb.2.2.2 _ (List.getElem_mem hk)) (by omega)
      simp (maxSteps := 2000000) (disch := (first | omega | (simp only [List.length_append, List.length_take, List.length_replicate, List.length_map, List.length_set, List.length_cons, List.length_nil, List.length_zipWith, List.length_drop, List.length_range]; first | done | omega))) only [go_sem, Nat.reduceAdd, Nat.reduceEqDiff, Nat.reduceLeDiff, Nat.reduceSub, slices_Clone_sl_int_int_ok]
      refine ⟨rfl, ?_⟩
      rw [take_snoc hk, List.map_append]; rfl
  · rintro s (⟨rfl, hk⟩ | ⟨rfl, hk⟩)
    · omega
    · simp (maxSteps := 2000000) (disch := (first | omega | (simp only [List.length_append, List.length_take, List.length_replicate, List.length_map, List.length_set, List.length_cons, List.length_nil, List.length_zipWith, List.length_drop, List.length_range]; first | done | omega))) only [go_sem, Nat.reduceAdd, Nat.reduceEqDiff, Nat.reduceLeDiff, Nat.reduceSub, List.take_length]
theorem appK_in {es ys : List PV} {mem : List Blk} {t : TypeId} {fl : Bool} {sz b len : Nat} (h1 : len < es.length) (h2 : len + ys.length ≤ es.length) : appK mem t fl sz b 0 len ys (some (.row t fl sz es)) = some (.ref b sz 0 (len + ys.length), mem.set b (.row t fl sz (splice es len ys))) := by
  simp only [appK]
  simp only [and_self, if_true]
  rw [if_neg (by omega), if_pos (by omega), Nat.zero_add]
theorem erase_split {α : Type} {E : List α} {i : Nat} : E.take i ++ E.drop (i + 1) = E.eraseIdx i := (List.eraseIdx_eq_take_drop_succ E i).symm
theorem slices_Delete_sl_impl_Trans_impl_Trans_ok (E : List Tr) (i : Nat) (hi : i < E.length) (hl : E.length ≤ 24) : C f_slices_Delete_sl_impl_Trans_impl_Trans [.ref 0 3 0 E.length, I i, I ((i : Int) + 1)] [.row t_impl_Trans false 3 (E.map encT)] = some (.ref 0 3 0 (E.length - 1), [.row t_impl_Trans false 3 ((E.eraseIdx i).map encT ++ [.agg [.nil true 1, .nil true 1, .nil true 1]])]) := by
  refine C_slices_Delete_sl_impl_Trans_impl_Trans ?_
  simp (maxSteps := 2000000) (disch := (first | omega | (simp only [List.length_append, List.length_take, List.length_replicate, List.length_map, List.length_set, List.length_cons, List.length_nil, List.length_zipWith, List.length_drop, List.length_range]; first | done | omega))) only [ir_slices_Delete_sl_impl_Trans_impl_Trans, go_sem, Nat.reduceAdd, Nat.reduceEqDiff, Nat.reduceLeDiff, Nat.reduceSub]
  simp (maxSteps := 2000000) (disch := (first | omega | (simp only [List.length_append, List.length_take, List.length_replicate, List.length_map, List.length_set, List.length_cons, List.length_nil, List.length_zipWith, List.length_drop, List.length_range]; first | done | omega))) only [go_sem, Nat.reduceAdd, Nat.reduceEqDiff, Nat.reduceLeDiff, Nat.reduceSub, appK_in, show ((i : Int) + 1).toNat = i + 1 by omega, Nat.sub_zero]
  have e0 : (E.eraseIdx i).length = E.length - 1 := List.length_eraseIdx_of_lt hi
  have e1 : (E.take i ++ E.drop (i + 1)).length = E.length - 1 := by rw [erase_split, e0]
  refine ⟨fun h => ?_, fun h => ?_⟩
  · rw [show i + (List.drop (i + 1) (List.map encT E)).length = E.length - 1 by simp; omega, show E.length - (E.length - 1) = 1 by omega]
    rw [List.take_append_of_le_length (by simp; omega), List.take_of_length_le (by simp; omega), List.drop_of_length_le (l := List.take i _ ++ _ ++ _) (by simp; omega), ← List.map_take, ← List.map_drop, ← List.map_append, erase_split]
    simp
  · have hi1 : i + 1 = E.length := by omega
    have e2 : E.eraseIdx i = E.take i := by rw [← erase_split, hi1, List.drop_length, List.append_nil]
    rw [e2, show E.length - i = 1 by omega, show E.length - 1 = i by omega]
    rw [List.take_append_drop, List.drop_of_length_le (l := List.map encT E) (by simp; omega), List.map_take]
    simp
theorem impl_withoutTrans_ok (f : Fl) (i : Nat) (hg : goodN f.net = true) (hi : i < f.net.tr.length) (h2 : 2 ≤ f.net.tr.length) : C f_impl_withoutTrans [encF f, I i] [] = some (.agg [I f.net.pl, .un t_impl_Trans false 3 ((f.net.tr.eraseIdx i).map encT), I f.src, I f.dst], []) := by
  obtain ⟨hp1, hp2, hn, hT⟩ := goodN_parts hg
  have hc := impl_cloneNet_ok f.net hg (by intro e; rw [e] at h2; simp at h2)
  have hd := slices_Delete_sl_impl_Trans_impl_Trans_ok f.net.tr i hi (by omega)
  refine C_impl_withoutTrans ?_
  simp (maxSteps := 2000000) (disch := (first | omega | (simp only [List.length_append, List.length_take, List.length_replicate, List.length_map, List.length_set, List.length_cons, List.length_nil, List.length_zipWith, List.length_drop, List.length_range]; first | done | omega))) only [ir_impl_withoutTrans, go_sem, Nat.reduceAdd, Nat.reduceEqDiff, Nat.reduceLeDiff, Nat.reduceSub]
  have e0 : (f.net.tr.eraseIdx i).length = f.net.tr.length - 1 := List.length_eraseIdx_of_lt hi
  simp (maxSteps := 2000000) (disch := (first | omega | (simp only [List.length_append, List.length_take, List.length_replicate, List.length_map, List.length_set, List.length_cons, List.length_nil, List.length_zipWith, List.length_drop, List.length_range]; first | done | omega))) only [go_sem, Nat.reduceAdd, Nat.reduceEqDiff, Nat.reduceLeDiff, Nat.reduceSub, hc, hd]
  rw [List.take_append_of_le_length (by simp; omega), List.take_of_length_le (by simp; omega)]
theorem impl_maskOf_ok (l : List Int) (h : ∀ p ∈ l, 0 ≤ p ∧ p < 62) (hl : l.length < 2^62 := by omega) : C f_impl_maskOf [ints l] [] = some (I (maskN l), []) := by
  refine C_impl_maskOf ?_
  simp (maxSteps := 2000000) (disch := (first | omega | (simp only [List.length_append, List.length_take, List.length_replicate, List.length_map, List.length_set, List.length_cons, List.length_nil, List.length_zipWith, List.length_drop, List.length_range]; first | done | omega))) only [ir_impl_maskOf, go_sem, Nat.reduceAdd, Nat.reduceEqDiff, Nat.reduceLeDiff, Nat.reduceSub]
  refine W_for l.length (fun k s => s = ⟨[.any, .any, I (maskN (l.take k)), .any, ints l, I l.length, I k, .any], []⟩) ?_ ?_ ?_
  · simp (maxSteps := 2000000) (disch := (first | omega | (simp only [List.length_append, List.length_take, List.length_replicate, List.length_map, List.length_set, List.length_cons, List.length_nil, List.length_zipWith, List.length_drop, List.length_range]; first | done | omega))) only [go_sem, Nat.reduceAdd, Nat.reduceEqDiff, Nat.reduceLeDiff, Nat.reduceSub]
    rfl
  · rintro k s hk rfl
    have h1 := h _ (List.getElem_mem hk)
    have h2 : maskN (l.take k) < 2 ^ 62 := maskN_lt (q := 62) (fun p hp => h p (List.mem_of_mem_take hp))
    have h3 : 2 ^ l[k].toNat < 2 ^ 62 := Nat.pow_lt_pow_right (by decide) (by omega)
    have h4 : (1 : Int) * 2 ^ min l[k].toNat 64 = ((2 ^ l[k].toNat : Nat) : Int) := by rw [show min l[k].toNat 64 = l[k].toNat by omega]; simp
    have h5 : IntKind.i64.wrap ((2 ^ l[k].toNat : Nat) : Int) = ((2 ^ l[k].toNat : Nat) : Int) := wraps_i62 _ (Int.natCast_nonneg _) (by exact_mod_cast h3)
    simp (maxSteps := 2000000) (disch := (first | omega | (simp only [List.length_append, List.length_take, List.length_replicate, List.length_map, List.length_set, List.length_cons, List.length_nil, List.length_zipWith, List.length_drop, List.length_range]; first | done | omega))) only [go_sem, Nat.reduceAdd, Nat.reduceEqDiff, Nat.reduceLeDiff, Nat.reduceSub, h4, h5, or_i64 h2 h3]
    rw [maskN_take hk]; rfl
  · rintro s rfl
    simp (maxSteps := 2000000) (disch := (first | omega | (simp only [List.length_append, List.length_take, List.length_replicate, List.length_map, List.length_set, List.length_cons, List.length_nil, List.length_zipWith, List.length_drop, List.length_range]; first | done | omega))) only [go_sem, Nat.reduceAdd, Nat.reduceEqDiff, Nat.reduceLeDiff, Nat.reduceSub, List.take_length]
theorem impl_setOf_ok (l : List Int) (h : ∀ p ∈ l, 0 ≤ p ∧ p < 30) (hi : incr l = true) (hl : l.length < 2^30) : C f_impl_setOf [I (maskN l)] [] = some (.un t_int true 1 (l.map I), []) := by
  have hp : l.Pairwise (· < ·) := by simpa [incr] using hi
  have h0 : ∀ p ∈ l, 0 ≤ p := fun p hp => (h p hp).1
  have hm : maskN l < 2 ^ 30 := maskN_lt (q := 30) h
  refine C_impl_setOf ?_
  simp (maxSteps := 2000000) (disch := (first | omega | (simp only [List.length_append, List.length_take, List.length_replicate, List.length_map, List.length_set, List.length_cons, List.length_nil, List.length_zipWith, List.length_drop, List.length_range]; first | done | omega))) only [ir_impl_setOf, go_sem, Nat.reduceAdd, Nat.reduceEqDiff, Nat.reduceLeDiff, Nat.reduceSub]
  refine W_down (fun j s => ∃ k : Nat, j + k = 40 ∧ k ≤ 31 ∧ s = ⟨[I (maskN l), .any, .ref 0 1 0 (below l k).length, I k, .any, .any], [.row t_int true 1 ((below l k).map I)]⟩) 40 ?_ ?_
  · refine ⟨0, rfl, by omega, ?_⟩
    rw [below_zero h0]
    simp (maxSteps := 2000000) (disch := (first | omega | (simp only [List.length_append, List.length_take, List.length_replicate, List.length_map, List.length_set, List.length_cons, List.length_nil, List.length_zipWith, List.length_drop, List.length_range]; first | done | omega))) only [go_sem, Nat.reduceAdd, Nat.reduceEqDiff, Nat.reduceLeDiff, Nat.reduceSub]
    rfl
  · rintro j s ⟨k, hj, hk, rfl⟩
    have hbl := below_len l k
    have e1 : ((maskN l : Nat) : Int) / 2 ^ min k 64 = ((maskN l / 2 ^ k : Nat) : Int) := by
      rw [show min k 64 = k by omega]; simp
    have e2 : maskN l / 2 ^ k < 2 ^ 62 := Nat.lt_of_le_of_lt (Nat.div_le_self _ _) (by omega)
    have e3 := and_i64 (a := maskN l / 2 ^ k) (b := 1) e2 (by decide)
    rw [Nat.and_one_is_mod] at e3
    simp (maxSteps := 2000000) (disch := (first | omega | (simp only [List.length_append, List.length_take, List.length_replicate, List.length_map, List.length_set, List.length_cons, List.length_nil, List.length_zipWith, List.length_drop, List.length_range]; first | done | omega))) only [go_sem, Nat.reduceAdd, Nat.reduceEqDiff, Nat.reduceLeDiff, Nat.reduceSub, e1]
    have eb := mask_odd h0 k
    have hone : ((1 : Nat) : Int) = 1 := rfl
    rw [hone] at e3
    refine ⟨fun hne => ?_, fun hz => ?_⟩
    · have hk30 : k < 30 := by
        rcases Nat.lt_or_ge k 30 with h5 | h5
        · exact h5
        · exact (hne (by rw [Nat.div_eq_of_lt (Nat.lt_of_lt_of_le hm (Nat.pow_le_pow_right (by decide) h5))]; rfl)).elim
      refine ⟨fun h1 => ⟨j - 1, by omega, k + 1, by omega, by omega, ?_⟩, fun h1 => ⟨j - 1, by omega, k + 1, by omega, by omega, ?_⟩⟩
      · have hm1 : maskN l / 2 ^ k % 2 = 1 := by rw [e3] at h1; omega
        rw [decide_eq_true hm1] at eb
        rw [below_succ hp, if_pos (by simpa [hasB] using eb), List.map_append]
        simp
      · have hm1 : ¬ maskN l / 2 ^ k % 2 = 1 := by rw [e3] at h1; omega
        rw [decide_eq_false hm1] at eb
        rw [below_succ hp, if_neg (by simpa [hasB] using eb), List.append_nil]
        rfl
    · rw [below_all (mask_shift h0 k (by exact_mod_cast hz))]
theorem clo_cells {f : FuncId} {c : List PV} : (PV.clo f c).cells = [.clo f c] := rfl
theorem behind_2 {R : List Nat} {mem : List Blk} {b off : Nat} : behind R mem 2 b off = behK R mem (behind R mem 1) off mem[b]? := rfl
theorem view_pvI {q : Int} {R : List Nat} {mem : List Blk} {g : Nat → Nat → Option PV} : (PV.pv (.agg [I q]) 0).viewWith R mem g = some (.pv (.agg [I q]) 0) := rfl
theorem impl_withoutPlace_1_ok (p q : Int) (hp : 0 ≤ p ∧ p ≤ 100) (hq : 0 ≤ q ∧ q ≤ 100) : C f_impl_withoutPlace_1 [I p, .pv (.agg [I q]) 0] [] = some (I (lessP q p), []) := by
  refine C_impl_withoutPlace_1 ?_
  simp (maxSteps := 2000000) (disch := (first | omega | (simp only [List.length_append, List.length_take, List.length_replicate, List.length_map, List.length_set, List.length_cons, List.length_nil, List.length_zipWith, List.length_drop, List.length_range]; first | done | omega))) only [ir_impl_withoutPlace_1, go_sem, Nat.reduceAdd, Nat.reduceEqDiff, Nat.reduceLeDiff, Nat.reduceSub]
  unfold lessP
  exact ⟨fun h => by rw [if_pos h], fun h => by rw [if_neg (by omega)]⟩
theorem impl_withoutPlace_2_ok (l : List Int) (q : Int) (hl : l.length ≤ 2^20) (hb : ∀ x ∈ l, 0 ≤ x ∧ x ≤ 100) (hq : 0 ≤ q ∧ q ≤ 100) : C f_impl_withoutPlace_2 [ints l, .pv (.agg [I q]) 0, .pv (.agg [.clo f_impl_withoutPlace_1 [.pv (.agg [I q]) 0]]) 0] [] = some (.un t_int true 1 ((dropL q l).map I), []) := by
  refine C_impl_withoutPlace_2 ?_
  simp (maxSteps := 2000000) (disch := (first | omega | (simp only [List.length_append, List.length_take, List.length_replicate, List.length_map, List.length_set, List.length_cons, List.length_nil, List.length_zipWith, List.length_drop, List.length_range]; first | done | omega))) only [ir_impl_withoutPlace_2, go_sem, Nat.reduceAdd, Nat.reduceEqDiff, Nat.reduceLeDiff, Nat.reduceSub]
  refine W_for l.length (fun k s => s = ⟨[.any, .pv (.agg [I q]) 0, .pv (.agg [.clo f_impl_withoutPlace_1 [.pv (.agg [I q]) 0]]) 0, .any, .ref 0 1 0 (dropL q (l.take k)).length, .any, ints l, I l.length, I k, .any, .any], [.row t_int true 1 ((dropL q (l.take k)).map I)]⟩) ?_ ?_ ?_
  · simp (maxSteps := 2000000) (disch := (first | omega | (simp only [List.length_append, List.length_take, List.length_replicate, List.length_map, List.length_set, List.length_cons, List.length_nil, List.length_zipWith, List.length_drop, List.length_range]; first | done | omega))) only [go_sem, Nat.reduceAdd, Nat.reduceEqDiff, Nat.reduceLeDiff, Nat.reduceSub]
    simp [dropL]
  · rintro k s hk rfl
    have hs := dropL_step (q := q) hk
    have hV := dropL_len q (l.take k)
    rw [List.length_take] at hV
    have hx := hb _ (List.getElem_mem hk)
    have h1 := impl_withoutPlace_1_ok l[k] q hx hq
    rw [hs]
    generalize dropL q (l.take k) = V at *
    simp (maxSteps := 2000000) (disch := (first | omega | (simp only [List.length_append, List.length_take, List.length_replicate, List.length_map, List.length_set, List.length_cons, List.length_nil, List.length_zipWith, List.length_drop, List.length_range]; first | done | omega))) only [go_sem, Nat.reduceAdd, Nat.reduceEqDiff, Nat.reduceLeDiff, Nat.reduceSub, h1, clo_cells, view_pvI]
    refine ⟨fun h => ?_, fun h => ?_⟩
    · rw [if_neg h]
      simp
    · rw [if_pos h]
      rfl
  · rintro s rfl
    have hV := dropL_len q l
    simp (maxSteps := 2000000) (disch := (first | omega | (simp only [List.length_append, List.length_take, List.length_replicate, List.length_map, List.length_set, List.length_cons, List.length_nil, List.length_zipWith, List.length_drop, List.length_range]; first | done | omega))) only [go_sem, Nat.reduceAdd, Nat.reduceEqDiff, Nat.reduceLeDiff, Nat.reduceSub]
theorem impl_withoutPlace_gen (f : Fl) (q : Int) (hf : smF f) (hq : 0 ≤ q ∧ q < f.net.pl) : C f_impl_withoutPlace [encF f, I q] [] = some (.agg [I (f.net.pl - 1), resN t_impl_Trans (f.net.tr.map (dropT q)), I (lessP q f.src), I (lessP q f.dst)], []) := by
  obtain ⟨⟨hp1, hp2⟩, hn, hs, hd, hT⟩ := hf
  refine C_impl_withoutPlace ?_
  simp (maxSteps := 2000000) (disch := (first | omega | (simp only [List.length_append, List.length_take, List.length_replicate, List.length_map, List.length_set, List.length_cons, List.length_nil, List.length_zipWith, List.length_drop, List.length_range]; first | done | omega))) only [ir_impl_withoutPlace, go_sem, Nat.reduceAdd, Nat.reduceEqDiff, Nat.reduceLeDiff, Nat.reduceSub]
  simp (maxSteps := 2000000) (disch := (first | omega | (simp only [List.length_append, List.length_take, List.length_replicate, List.length_map, List.length_set, List.length_cons, List.length_nil, List.length_zipWith, List.length_drop, List.length_range]; first | done | omega))) only [go_sem, Nat.reduceAdd, Nat.reduceEqDiff, Nat.reduceLeDiff, Nat.reduceSub, clo_cells]
  refine W_for f.net.tr.length (fun i st => st = ⟨[.any, .any, .ptr 0 0, .any, .ptr 1 0, .ptr 2 0, .clo f_impl_withoutPlace_2 [.ptr 3 0, .ptr 2 0], .ptr 4 0, .any, trs f.net.tr, I f.net.tr.length, I i, .any], [.box t_impl_Flow [I f.net.pl, trs f.net.tr, I f.src, I f.dst], .box t_impl_Flow [I 0, .nil false 3, I 0, I 0], .box t_ty130 [.clo f_impl_withoutPlace_1 [.ptr 3 0]], .box t_int [I q], .box t_impl_Net [I (f.net.pl - 1), cellT 5 ((f.net.tr.take i).map (dropT q))]] ++ blkL t_impl_Trans ((f.net.tr.take i).map (dropT q))⟩) ?_ ?_ ?_
  · simp (maxSteps := 2000000) (disch := (first | omega | (simp only [List.length_append, List.length_take, List.length_replicate, List.length_map, List.length_set, List.length_cons, List.length_nil, List.length_zipWith, List.length_drop, List.length_range]; first | done | omega))) only [go_sem, Nat.reduceAdd, Nat.reduceEqDiff, Nat.reduceLeDiff, Nat.reduceSub, clo_cells]
    rfl
  · rintro i st hi rfl
    obtain ⟨hlen, hplI, hplO⟩ := hT _ (List.getElem_mem hi)
    have hplc : (∀ x ∈ f.net.tr[i].inn, 0 ≤ x ∧ x < f.net.pl) ∧ (∀ x ∈ f.net.tr[i].out, 0 ≤ x ∧ x < f.net.pl) ∧ (∀ x ∈ f.net.tr[i].rst, 0 ≤ x ∧ x < f.net.pl) := ⟨hplI, hplO, by rw [hlen.2.2]; intro x hx; cases hx⟩
    have hrl : f.net.tr[i].rst.length = 0 := by rw [hlen.2.2]; rfl
    have hlL : ((f.net.tr.take i).map (dropT q)).length = i := by simp; omega
    have hne : (f.net.tr.take (i + 1)).map (dropT q) ≠ [] := by intro e; have := congrArg List.length e; rw [List.length_map, List.length_take, List.length_nil] at this; omega
    have hsn : (f.net.tr.take (i + 1)).map (dropT q) = (f.net.tr.take i).map (dropT q) ++ [dropT q f.net.tr[i]] := by rw [List.take_succ_eq_append_getElem hi, List.map_append]; rfl
    have hti : f.net.tr[i]? = some f.net.tr[i] := List.getElem?_eq_getElem hi
    have d1 := impl_withoutPlace_2_ok f.net.tr[i].inn q (by omega) (fun x hx => by have := hplc.1 x hx; omega) (by omega)
    have d2 := impl_withoutPlace_2_ok f.net.tr[i].out q (by omega) (fun x hx => by have := hplc.2.1 x hx; omega) (by omega)
    have d3 := impl_withoutPlace_2_ok f.net.tr[i].rst q (by omega) (fun x hx => by have := hplc.2.2 x hx; omega) (by omega)
    have l1 := dropL_len q f.net.tr[i].inn
    have l2 := dropL_len q f.net.tr[i].out
    have l3 := dropL_len q f.net.tr[i].rst
    rw [cellT_ne hne, blkL_ne hne, hsn]
    generalize (f.net.tr.take i).map (dropT q) = L at *
    generalize f.net.tr[i] = t at *
    unfold dropT
    generalize dropL q t.inn = A at *
    generalize dropL q t.out = B at *
    generalize dropL q t.rst = D at *
    by_cases hL0 : L = []
    · subst hL0
      simp only [cellT_nil, blkL_nil]
      simp (maxSteps := 2000000) (disch := (first | omega | (simp only [List.length_append, List.length_take, List.length_replicate, List.length_map, List.length_set, List.length_cons, List.length_nil, List.length_zipWith, List.length_drop, List.length_range]; first | done | omega))) only [go_sem, Nat.reduceAdd, Nat.reduceEqDiff, Nat.reduceLeDiff, Nat.reduceSub, hti, d1, d2, d3, clo_cells, view_pvI, behind_2]
      exact ⟨by decide, rfl⟩
    · rw [cellT_ne hL0, blkL_ne hL0]
      simp (maxSteps := 2000000) (disch := (first | omega | (simp only [List.length_append, List.length_take, List.length_replicate, List.length_map, List.length_set, List.length_cons, List.length_nil, List.length_zipWith, List.length_drop, List.length_range]; first | done | omega))) only [go_sem, Nat.reduceAdd, Nat.reduceEqDiff, Nat.reduceLeDiff, Nat.reduceSub, hti, d1, d2, d3, clo_cells, view_pvI, behind_2]
      refine ⟨by decide, ?_⟩
      rw [List.map_append, List.length_append]
      rfl
  · rintro st rfl
    have e1 := impl_withoutPlace_1_ok f.src q (by omega) (by omega)
    have e2 := impl_withoutPlace_1_ok f.dst q (by omega) (by omega)
    rw [List.take_length]
    have hlL : (f.net.tr.map (dropT q)).length ≤ 24 := by rw [List.length_map]; exact hn
    generalize f.net.tr.map (dropT q) = L at *
    unfold resN
    by_cases hL : L = []
    all_goals
      simp only [cellT, blkL, hL, reduceIte, List.append_nil, List.nil_append, List.cons_append]
      simp (maxSteps := 2000000) (disch := (first | omega | (simp only [List.length_append, List.length_take, List.length_replicate, List.length_map, List.length_set, List.length_cons, List.length_nil, List.length_zipWith, List.length_drop, List.length_range]; first | done | omega))) only [go_sem, Nat.reduceAdd, Nat.reduceEqDiff, Nat.reduceLeDiff, Nat.reduceSub, clo_cells, view_pvI, behind_2, e1, e2]
      trivial
theorem impl_withoutPlace_ok (f : Fl) (q : Int) (hg : goodFl f = true) (hr : hasR f.net = false) (hq : 0 ≤ q ∧ q < f.net.pl) : C f_impl_withoutPlace [encF f, I q] [] = some (.agg [I (dropF f q).net.pl, .unn t_impl_Trans 3 ((dropF f q).net.tr.map encT), I (dropF f q).src, I (dropF f q).dst], []) := by
  have h := impl_withoutPlace_gen f q (smF_of hg hr) hq
  rw [resN_ne (by simpa using goodFl_ne hg)] at h
  exact h
end Go.Proofs.Ytkkifebmicbbaaa.Pi
