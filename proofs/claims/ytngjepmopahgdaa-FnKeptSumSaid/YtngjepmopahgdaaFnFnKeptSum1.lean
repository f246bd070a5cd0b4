/- The functions that the law reaches: what they answer. Conditions: those that each theorem names. -/
import Derived.Test.YtngjepmopahgdaaIrFnKeptSum
import Derived.Test.YtngjepmopahgdaaPlBase
import Derived.Test.YtngjepmopahgdaaPlNet
import Derived.Test.YtngjepmopahgdaaPlFire
import Derived.Test.YtngjepmopahgdaaPlTurn
import Derived.Test.YtngjepmopahgdaaPlBack
import Derived.Test.YtngjepmopahgdaaPlFlow
import Derived.Test.YtngjepmopahgdaaPlMask
import Derived.Test.YtngjepmopahgdaaPlSiph
import Derived.Test.YtngjepmopahgdaaPlKept
import Derived.Test.YtngjepmopahgdaaFnFnKeptSum0
namespace Go.Proofs.Ytngjepmopahgdaa.Pi
open Go
set_option linter.all false
set_option maxHeartbeats 40000000
set_option maxRecDepth 20000
theorem impl_CountsOf_ok (n : Net) (l : List Int) (hn : smN n) (hl : l.length < 2^62) : C f_impl_CountsOf [encN n, ints l] [] = some (.tup [.un t_int true 1 ((if plainN n && areTr n l then cntN n l else []).map I), .bool (plainN n && areTr n l)], []) := by
  have htn := hn.1
  have e0 := impl_isPlain_ok n hn
  have e1 := impl_areTrans_ok n l (by omega) hl
  cases hk : plainN n <;> rw [hk] at e0
  · refine C_impl_CountsOf ?_
    simp (maxSteps := 2000000) (disch := (first | omega | (simp only [List.length_append, List.length_take, List.length_replicate, List.length_map, List.length_set, List.length_cons, List.length_nil, List.length_zipWith, List.length_drop, List.length_range]; first | done | omega))) only [ir_impl_CountsOf, go_sem, Nat.reduceAdd, Nat.reduceEqDiff, Nat.reduceLeDiff, Nat.reduceSub]
    simp (maxSteps := 2000000) (disch := (first | omega | (simp only [List.length_append, List.length_take, List.length_replicate, List.length_map, List.length_set, List.length_cons, List.length_nil, List.length_zipWith, List.length_drop, List.length_range]; first | done | omega))) only [go_sem, Nat.reduceAdd, Nat.reduceEqDiff, Nat.reduceLeDiff, Nat.reduceSub, e0]
    try rfl
  · cases ha : areTr n l <;> rw [ha] at e1
    · refine C_impl_CountsOf ?_
      simp (maxSteps := 2000000) (disch := (first | omega | (simp only [List.length_append, List.length_take, List.length_replicate, List.length_map, List.length_set, List.length_cons, List.length_nil, List.length_zipWith, List.length_drop, List.length_range]; first | done | omega))) only [ir_impl_CountsOf, go_sem, Nat.reduceAdd, Nat.reduceEqDiff, Nat.reduceLeDiff, Nat.reduceSub]
      simp (maxSteps := 2000000) (disch := (first | omega | (simp only [List.length_append, List.length_take, List.length_replicate, List.length_map, List.length_set, List.length_cons, List.length_nil, List.length_zipWith, List.length_drop, List.length_range]; first | done | omega))) only [go_sem, Nat.reduceAdd, Nat.reduceEqDiff, Nat.reduceLeDiff, Nat.reduceSub, e0, e1]
      try rfl
    · have hal : l.length ≤ 60 ∧ ∀ t ∈ l, 0 ≤ t ∧ t.toNat < n.tr.length := by
        simp [areTr, inB] at ha
        exact ⟨ha.1, fun t ht => by have := ha.2 t ht; omega⟩
      have hg24 := (goodN_parts (n := n) (by simp [plainN] at hk; exact hk.1)).2.2.1
      refine C_impl_CountsOf ?_
      simp (maxSteps := 2000000) (disch := (first | omega | (simp only [List.length_append, List.length_take, List.length_replicate, List.length_map, List.length_set, List.length_cons, List.length_nil, List.length_zipWith, List.length_drop, List.length_range]; first | done | omega))) only [ir_impl_CountsOf, go_sem, Nat.reduceAdd, Nat.reduceEqDiff, Nat.reduceLeDiff, Nat.reduceSub]
      simp (maxSteps := 2000000) (disch := (first | omega | (simp only [List.length_append, List.length_take, List.length_replicate, List.length_map, List.length_set, List.length_cons, List.length_nil, List.length_zipWith, List.length_drop, List.length_range]; first | done | omega))) only [go_sem, Nat.reduceAdd, Nat.reduceEqDiff, Nat.reduceLeDiff, Nat.reduceSub, e0, e1]
      refine W_for l.length (fun k s => s = ⟨[.any, .any, .any, .any, .any, .ref 0 1 0 n.tr.length, .any, .any, ints l, I l.length, I k, .any], [.row t_int true 1 ((cntN n (l.take k)).map I)]⟩) ?_ ?_ ?_
      · simp (maxSteps := 2000000) (disch := (first | omega | (simp only [List.length_append, List.length_take, List.length_replicate, List.length_map, List.length_set, List.length_cons, List.length_nil, List.length_zipWith, List.length_drop, List.length_range]; first | done | omega))) only [go_sem, Nat.reduceAdd, Nat.reduceEqDiff, Nat.reduceLeDiff, Nat.reduceSub]
        simp [cntN, incL]
      · rintro k s hk rfl
        have q1 := hal.2 _ (List.getElem_mem hk)
        have q2 := cntN_bound (n := n) (l := l.take k) (fun t ht => hal.2 t (List.mem_of_mem_take ht))
        have q3 := cntN_len n (l.take k)
        have q4 := at_bound (p := l[k]) q2 (by omega)
        have q5 : (l.take k).length ≤ 60 := by simp; omega
        have q6 : cntN n (l.take (k + 1)) = (cntN n (l.take k)).set (l[k].toNat) (at_ (cntN n (l.take k)) l[k] + 1) := incL_take hk
        rw [q6]
        generalize cntN n (l.take k) = Z at *
        simp (maxSteps := 2000000) (disch := (first | omega | (simp only [List.length_append, List.length_take, List.length_replicate, List.length_map, List.length_set, List.length_cons, List.length_nil, List.length_zipWith, List.length_drop, List.length_range]; first | done | omega))) only [go_sem, Nat.reduceAdd, Nat.reduceEqDiff, Nat.reduceLeDiff, Nat.reduceSub, at_eq]
        try rfl
      · rintro s rfl
        have q3 := cntN_len n l
        rw [List.take_length]
        simp (maxSteps := 2000000) (disch := (first | omega | (simp only [List.length_append, List.length_take, List.length_replicate, List.length_map, List.length_set, List.length_cons, List.length_nil, List.length_zipWith, List.length_drop, List.length_range]; first | done | omega))) only [go_sem, Nat.reduceAdd, Nat.reduceEqDiff, Nat.reduceLeDiff, Nat.reduceSub]
        try rfl
theorem impl_areCounts_ok (n : Net) (c : List Int) (hn : smN n) (hl : c.length < 2^62) : C f_impl_areCounts [encN n, ints c] [] = some (.bool (okC n c), []) := by
  have h0 := hn.1
  have e1 := impl_isPlain_ok n hn
  unfold okC
  cases hp : plainN n <;> rw [hp] at e1
  all_goals
    refine C_impl_areCounts ?_
    simp (maxSteps := 2000000) (disch := (first | omega | (simp only [List.length_append, List.length_take, List.length_replicate, List.length_map, List.length_set, List.length_cons, List.length_nil, List.length_zipWith, List.length_drop, List.length_range]; first | done | omega))) only [ir_impl_areCounts, go_sem, Nat.reduceAdd, Nat.reduceEqDiff, Nat.reduceLeDiff, Nat.reduceSub]
    simp (maxSteps := 2000000) (disch := (first | omega | (simp only [List.length_append, List.length_take, List.length_replicate, List.length_map, List.length_set, List.length_cons, List.length_nil, List.length_zipWith, List.length_drop, List.length_range]; first | done | omega))) only [go_sem, Nat.reduceAdd, Nat.reduceEqDiff, Nat.reduceLeDiff, Nat.reduceSub, e1, impl_allWithin_ok c _ _ hl]
    try grind
theorem impl_changeBy_ok (n : Net) (c : List Int) (hn : smN n) (hk : okC n c = true) : C f_impl_changeBy [encN n, ints c] [] = some (.un t_int true 1 ((chN n c).map I), []) := by
  obtain ⟨hg, hr, hlc, hc⟩ := okC_parts hk
  have hgp := goodN_parts hg
  have htn := hn.1
  refine C_impl_changeBy ?_
  simp (maxSteps := 2000000) (disch := (first | omega | (simp only [List.length_append, List.length_take, List.length_replicate, List.length_map, List.length_set, List.length_cons, List.length_nil, List.length_zipWith, List.length_drop, List.length_range]; first | done | omega))) only [ir_impl_changeBy, go_sem, Nat.reduceAdd, Nat.reduceEqDiff, Nat.reduceLeDiff, Nat.reduceSub]
  refine W_for n.tr.length (fun k s => s = ⟨[.any, ints c, .any, .any, .ref 0 1 0 n.pl.toNat, .any, .any, .any, .any, trs n.tr, I n.tr.length, I k, .any, .any, .any, .any, .any, .any, .any, .any, .any], [.row t_int true 1 ((chK n c k).map I)]⟩) ?_ ?_ ?_
  · simp (maxSteps := 2000000) (disch := (first | omega | (simp only [List.length_append, List.length_take, List.length_replicate, List.length_map, List.length_set, List.length_cons, List.length_nil, List.length_zipWith, List.length_drop, List.length_range]; first | done | omega))) only [go_sem, Nat.reduceAdd, Nat.reduceEqDiff, Nat.reduceLeDiff, Nat.reduceSub]
    simp [chK]
  · rintro k s hk rfl
    have hXl := chK_len n c k
    have hXb := chK_bound hg hc hlc (k := k) (by omega)
    have hi := trN_in hg hk hXl
    have hls := goodT_lens (trN_good hg hk) (by omega)
    have hck := at_bound (p := k) hc (by simp; omega)
    have hck2 : c[k] = at_ c k := by simp [at_, show k < c.length by omega]
    have hks := chK_succ n c k
    unfold chStep at hks
    rw [trN_eq hk] at hi hls hks
    generalize at_ c k = ck at *
    generalize chK n c (k + 1) = X' at *
    generalize chK n c k = X at *
    have hXb2 : ∀ y ∈ X, -1000000 ≤ y ∧ y ≤ 1000000 := fun y hy => by have := hXb y hy; omega
    have hYl := addL_len (-ck) X n.tr[k].inn
    have hYb : ∀ y ∈ addL (-ck) X n.tr[k].inn, -1000000 ≤ y ∧ y ≤ 1000000 := fun y hy => by
      have := addL_bound (B := 32000 * k) (C := 1000) hXb (show -1000 ≤ (-ck) ∧ (-ck) ≤ 1000 by omega) (fun p hp => (hi.1 p hp).2) y hy
      omega
    simp (maxSteps := 2000000) (disch := (first | omega | (simp only [List.length_append, List.length_take, List.length_replicate, List.length_map, List.length_set, List.length_cons, List.length_nil, List.length_zipWith, List.length_drop, List.length_range]; first | done | omega))) only [go_sem, Nat.reduceAdd, Nat.reduceEqDiff, Nat.reduceLeDiff, Nat.reduceSub]
    refine W_for n.tr[k].inn.length (fun j s => s = ⟨[.any, ints c, .any, .any, .ref 0 1 0 n.pl.toNat, I k, .ptr 1 0, .any, .any, trs n.tr, I n.tr.length, I k, .any, ints n.tr[k].inn, I n.tr[k].inn.length, I j, .any, .any, .any, .any, .any], [.row t_int true 1 ((addL (-ck) X (n.tr[k].inn.take j)).map I), .box t_impl_Trans [ints n.tr[k].inn, ints n.tr[k].out, ints n.tr[k].rst]]⟩) ?_ ?_ ?_
    · simp (maxSteps := 2000000) (disch := (first | omega | (simp only [List.length_append, List.length_take, List.length_replicate, List.length_map, List.length_set, List.length_cons, List.length_nil, List.length_zipWith, List.length_drop, List.length_range]; first | done | omega))) only [go_sem, Nat.reduceAdd, Nat.reduceEqDiff, Nat.reduceLeDiff, Nat.reduceSub]
      rfl
    · rintro j s hj rfl
      have q1 := hi.1 _ (List.getElem_mem hj)
      have q2 := addL_at (c := (-ck)) (l := n.tr[k].inn.take j) (p := n.tr[k].inn[j]) hXb2 (by omega) (fun p hp => (hi.1 p (List.mem_of_mem_take hp)).2) q1.2 (by simp; omega)
      have q3 := addL_len (-ck) X (n.tr[k].inn.take j)
      rw [addL_take hj]
      generalize addL (-ck) X (n.tr[k].inn.take j) = Z at *
      simp (maxSteps := 2000000) (disch := (first | omega | (simp only [List.length_append, List.length_take, List.length_replicate, List.length_map, List.length_set, List.length_cons, List.length_nil, List.length_zipWith, List.length_drop, List.length_range]; first | done | omega))) only [go_sem, Nat.reduceAdd, Nat.reduceEqDiff, Nat.reduceLeDiff, Nat.reduceSub, at_eq, hck2, Int.sub_eq_add_neg]
      try rfl
    · rintro s rfl
      rw [List.take_length]
      generalize addL (-ck) X n.tr[k].inn = Y at *
      simp (maxSteps := 2000000) (disch := (first | omega | (simp only [List.length_append, List.length_take, List.length_replicate, List.length_map, List.length_set, List.length_cons, List.length_nil, List.length_zipWith, List.length_drop, List.length_range]; first | done | omega))) only [go_sem, Nat.reduceAdd, Nat.reduceEqDiff, Nat.reduceLeDiff, Nat.reduceSub]
      refine W_for n.tr[k].out.length (fun j s => s = ⟨[.any, ints c, .any, .any, .ref 0 1 0 n.pl.toNat, I k, .any, .any, .any, trs n.tr, I n.tr.length, I k, .any, .any, .any, .any, .any, ints n.tr[k].out, I n.tr[k].out.length, I j, .any], [.row t_int true 1 ((addL ck Y (n.tr[k].out.take j)).map I)]⟩) ?_ ?_ ?_
      · simp (maxSteps := 2000000) (disch := (first | omega | (simp only [List.length_append, List.length_take, List.length_replicate, List.length_map, List.length_set, List.length_cons, List.length_nil, List.length_zipWith, List.length_drop, List.length_range]; first | done | omega))) only [go_sem, Nat.reduceAdd, Nat.reduceEqDiff, Nat.reduceLeDiff, Nat.reduceSub]
        rfl
      · rintro j s hj rfl
        have q1 := hi.2 _ (List.getElem_mem hj)
        have q2 := addL_at (c := ck) (l := n.tr[k].out.take j) (p := n.tr[k].out[j]) hYb (by omega) (fun p hp => by have := (hi.2 p (List.mem_of_mem_take hp)).2; omega) (by omega) (by simp; omega)
        have q3 := addL_len ck Y (n.tr[k].out.take j)
        rw [addL_take hj]
        generalize addL ck Y (n.tr[k].out.take j) = Z at *
        simp (maxSteps := 2000000) (disch := (first | omega | (simp only [List.length_append, List.length_take, List.length_replicate, List.length_map, List.length_set, List.length_cons, List.length_nil, List.length_zipWith, List.length_drop, List.length_range]; first | done | omega))) only [go_sem, Nat.reduceAdd, Nat.reduceEqDiff, Nat.reduceLeDiff, Nat.reduceSub, at_eq, hck2]
        try rfl
      · rintro s rfl
        rw [List.take_length]
        simp (maxSteps := 2000000) (disch := (first | omega | (simp only [List.length_append, List.length_take, List.length_replicate, List.length_map, List.length_set, List.length_cons, List.length_nil, List.length_zipWith, List.length_drop, List.length_range]; first | done | omega))) only [go_sem, Nat.reduceAdd, Nat.reduceEqDiff, Nat.reduceLeDiff, Nat.reduceSub]
        rw [hks]
        try rfl
  · rintro s rfl
    have hXl := chK_len n c n.tr.length
    simp (maxSteps := 2000000) (disch := (first | omega | (simp only [List.length_append, List.length_take, List.length_replicate, List.length_map, List.length_set, List.length_cons, List.length_nil, List.length_zipWith, List.length_drop, List.length_range]; first | done | omega))) only [go_sem, Nat.reduceAdd, Nat.reduceEqDiff, Nat.reduceLeDiff, Nat.reduceSub]
    try rfl
theorem impl_ChangeBy_ok (n : Net) (c : List Int) (hn : smN n) (hl : c.length < 2^62) : C f_impl_ChangeBy [encN n, ints c] [] = some (.tup [.un t_int true 1 ((if okC n c then chN n c else []).map I), .bool (okC n c)], []) := by
  have e0 := impl_areCounts_ok n c hn hl
  cases hk : okC n c <;> rw [hk] at e0
  · refine C_impl_ChangeBy ?_
    simp (maxSteps := 2000000) (disch := (first | omega | (simp only [List.length_append, List.length_take, List.length_replicate, List.length_map, List.length_set, List.length_cons, List.length_nil, List.length_zipWith, List.length_drop, List.length_range]; first | done | omega))) only [ir_impl_ChangeBy, go_sem, Nat.reduceAdd, Nat.reduceEqDiff, Nat.reduceLeDiff, Nat.reduceSub]
    simp (maxSteps := 2000000) (disch := (first | omega | (simp only [List.length_append, List.length_take, List.length_replicate, List.length_map, List.length_set, List.length_cons, List.length_nil, List.length_zipWith, List.length_drop, List.length_range]; first | done | omega))) only [go_sem, Nat.reduceAdd, Nat.reduceEqDiff, Nat.reduceLeDiff, Nat.reduceSub, e0]
    try rfl
  · have e1 := impl_changeBy_ok n c hn hk
    refine C_impl_ChangeBy ?_
    simp (maxSteps := 2000000) (disch := (first | omega | (simp only [List.length_append, List.length_take, List.length_replicate, List.length_map, List.length_set, List.length_cons, List.length_nil, List.length_zipWith, List.length_drop, List.length_range]; first | done | omega))) only [ir_impl_ChangeBy, go_sem, Nat.reduceAdd, Nat.reduceEqDiff, Nat.reduceLeDiff, Nat.reduceSub]
    simp (maxSteps := 2000000) (disch := (first | omega | (simp only [List.length_append, List.length_take, List.length_replicate, List.length_map, List.length_set, List.length_cons, List.length_nil, List.length_zipWith, List.length_drop, List.length_range]; first | done | omega))) only [go_sem, Nat.reduceAdd, Nat.reduceEqDiff, Nat.reduceLeDiff, Nat.reduceSub, e0, e1]
    try rfl
theorem impl_IsCycle_1_ok (x : Int) : C f_impl_IsCycle_1 [I x] [] = some (.bool (!decide (x = 0)), []) := by
  refine C_impl_IsCycle_1 ?_
  simp (maxSteps := 2000000) (disch := (first | omega | (simp only [List.length_append, List.length_take, List.length_replicate, List.length_map, List.length_set, List.length_cons, List.length_nil, List.length_zipWith, List.length_drop, List.length_range]; first | done | omega))) only [ir_impl_IsCycle_1, go_sem, Nat.reduceAdd, Nat.reduceEqDiff, Nat.reduceLeDiff, Nat.reduceSub]
  try grind
theorem impl_IsCycle_ok (n : Net) (c : List Int) (hn : smN n) (hl : c.length < 2^62) : C f_impl_IsCycle [encN n, ints c] [] = some (.tup [.bool (okC n c && !(chN n c).any fun x => !decide (x = 0)), .bool (okC n c)], []) := by
  have e0 := impl_areCounts_ok n c hn hl
  cases hk : okC n c <;> rw [hk] at e0
  · refine C_impl_IsCycle ?_
    simp (maxSteps := 2000000) (disch := (first | omega | (simp only [List.length_append, List.length_take, List.length_replicate, List.length_map, List.length_set, List.length_cons, List.length_nil, List.length_zipWith, List.length_drop, List.length_range]; first | done | omega))) only [ir_impl_IsCycle, go_sem, Nat.reduceAdd, Nat.reduceEqDiff, Nat.reduceLeDiff, Nat.reduceSub]
    simp (maxSteps := 2000000) (disch := (first | omega | (simp only [List.length_append, List.length_take, List.length_replicate, List.length_map, List.length_set, List.length_cons, List.length_nil, List.length_zipWith, List.length_drop, List.length_range]; first | done | omega))) only [go_sem, Nat.reduceAdd, Nat.reduceEqDiff, Nat.reduceLeDiff, Nat.reduceSub, e0]
    try rfl
  · have e1 := impl_changeBy_ok n c hn hk
    have hg := goodN_parts (okC_parts hk).1
    have hcl := chK_len n c n.tr.length
    have e2 := slices_ContainsFunc_sl_int_int_ok (chN n c) f_impl_IsCycle_1 [] rfl (fun _ _ => rfl) (fun x => !decide (x = 0)) (fun x _ => impl_IsCycle_1_ok x) (by unfold chN; omega)
    refine C_impl_IsCycle ?_
    simp (maxSteps := 2000000) (disch := (first | omega | (simp only [List.length_append, List.length_take, List.length_replicate, List.length_map, List.length_set, List.length_cons, List.length_nil, List.length_zipWith, List.length_drop, List.length_range]; first | done | omega))) only [ir_impl_IsCycle, go_sem, Nat.reduceAdd, Nat.reduceEqDiff, Nat.reduceLeDiff, Nat.reduceSub]
    simp (maxSteps := 2000000) (disch := (first | omega | (simp only [List.length_append, List.length_take, List.length_replicate, List.length_map, List.length_set, List.length_cons, List.length_nil, List.length_zipWith, List.length_drop, List.length_range]; first | done | omega))) only [go_sem, Nat.reduceAdd, Nat.reduceEqDiff, Nat.reduceLeDiff, Nat.reduceSub, e0, e1, e2]
    try grind
theorem laws_sameInts_ok (a b : List Int) (hl : a.length < 2^62) : C f_laws_sameInts [ints a, ints b] [] = some (.bool (decide (a = b)), []) := by
  refine C_laws_sameInts ?_
  simp (maxSteps := 2000000) (disch := (first | omega | (simp only [List.length_append, List.length_take, List.length_replicate, List.length_map, List.length_set, List.length_cons, List.length_nil, List.length_zipWith, List.length_drop, List.length_range]; first | done | omega))) only [ir_laws_sameInts, go_sem, Nat.reduceAdd, Nat.reduceEqDiff, Nat.reduceLeDiff, Nat.reduceSub]
  refine ⟨fun h => ?_, fun h => ?_⟩
  · have : a ≠ b := fun e => h (by rw [e])
    simp [this]
  refine W_for a.length (fun k s => s = ⟨[ints a, ints b, .any, .any, .any, I a.length, I k, .any, .any], []⟩ ∧ a.take k = b.take k) ?_ ?_ ?_
  · simp (maxSteps := 2000000) (disch := (first | omega | (simp only [List.length_append, List.length_take, List.length_replicate, List.length_map, List.length_set, List.length_cons, List.length_nil, List.length_zipWith, List.length_drop, List.length_range]; first | done | omega))) only [go_sem, Nat.reduceAdd, Nat.reduceEqDiff, Nat.reduceLeDiff, Nat.reduceSub]
    rfl
  · rintro k s hk ⟨rfl, hall⟩
    simp (maxSteps := 2000000) (disch := (first | omega | (simp only [List.length_append, List.length_take, List.length_replicate, List.length_map, List.length_set, List.length_cons, List.length_nil, List.length_zipWith, List.length_drop, List.length_range]; first | done | omega))) only [go_sem, Nat.reduceAdd, Nat.reduceEqDiff, Nat.reduceLeDiff, Nat.reduceSub]
    refine ⟨fun h => ?_, fun h => ⟨rfl, ?_⟩⟩
    · have : a ≠ b := fun e => h (by simp [e])
      simp [this]
    · rw [take_snoc hk, take_snoc (show k < b.length by omega), hall, h]
  · rintro s ⟨rfl, hall⟩
    simp (maxSteps := 2000000) (disch := (first | omega | (simp only [List.length_append, List.length_take, List.length_replicate, List.length_map, List.length_set, List.length_cons, List.length_nil, List.length_zipWith, List.length_drop, List.length_range]; first | done | omega))) only [go_sem, Nat.reduceAdd, Nat.reduceEqDiff, Nat.reduceLeDiff, Nat.reduceSub]
    rw [List.take_length, List.take_of_length_le (by omega)] at hall
    simp [hall]
theorem spec_DrawChangeBy_ok (bs : List Int) (hl : bs.length < 2^62) (hb : ∀ x ∈ bs, 0 ≤ x ∧ x < 256) :
    Lw (C f_spec_DrawChangeBy [bys bs] []) fun r => ∃ (n : Net) (l : List Int), r = (.tup [.agg [I n.pl, .un t_impl_Trans false 3 (n.tr.map encT)], .un t_int true 1 (l.map I)], []) ∧ smNet n ∧ l.length ≤ 30 := by
  obtain ⟨_, e1, n, a1, s1, rfl, h3, h4, h5⟩ := spec_l1Cur_kept_ok bs 0 0 (by omega) (by omega) hl hb
  have hn30 := h5.1
  refine E_spec_DrawChangeBy ?_
  simp (maxSteps := 2000000) (disch := (first | omega | (simp only [List.length_append, List.length_take, List.length_replicate, List.length_map, List.length_set, List.length_cons, List.length_nil, List.length_zipWith, List.length_drop, List.length_range]; first | done | omega))) only [ir_spec_DrawChangeBy, go_sem, Nat.reduceAdd, Nat.reduceEqDiff, Nat.reduceLeDiff, Nat.reduceSub]
  simp (maxSteps := 2000000) (disch := (first | omega | (simp only [List.length_append, List.length_take, List.length_replicate, List.length_map, List.length_set, List.length_cons, List.length_nil, List.length_zipWith, List.length_drop, List.length_range]; first | done | omega))) only [go_sem, Nat.reduceAdd, Nat.reduceEqDiff, Nat.reduceLeDiff, Nat.reduceSub, e1]
  refine W_for n.tr.length (fun k s => ∃ (l : List Int) (a sd : Int), s = ⟨[.any, .ptr 0 0, .any, .ptr 1 0, .ptr 2 0, .ref 3 1 0 l.length, I n.tr.length, I k, .any, .any], [.box t_impl_Net [I 0, .nil false 3], .box t_spec_l1Cur [bys bs, I a, .int .u64 sd], .box t_impl_Net [I n.pl, .ref 4 3 0 n.tr.length], .row t_int true 1 (l.map I), .row t_impl_Trans false 3 (n.tr.map encT)]⟩ ∧ l.length = k ∧ 0 ≤ a ∧ a ≤ a1 + 2 * k) ?_ ?_ ?_
  · refine ⟨[], a1, s1, ?_, rfl, by omega, by omega⟩
    simp (maxSteps := 2000000) (disch := (first | omega | (simp only [List.length_append, List.length_take, List.length_replicate, List.length_map, List.length_set, List.length_cons, List.length_nil, List.length_zipWith, List.length_drop, List.length_range]; first | done | omega))) only [go_sem, Nat.reduceAdd, Nat.reduceEqDiff, Nat.reduceLeDiff, Nat.reduceSub]
    trivial
  · rintro k s hk ⟨l, a, sd, rfl, rfl, h8, h9⟩
    obtain ⟨_, e2, x2, a2, s2, rfl, h11, h12, h13, h14⟩ := spec_l1Cur_pick_ok 4 bs a sd (by omega) (by omega) hl hb
    simp (maxSteps := 2000000) (disch := (first | omega | (simp only [List.length_append, List.length_take, List.length_replicate, List.length_map, List.length_set, List.length_cons, List.length_nil, List.length_zipWith, List.length_drop, List.length_range]; first | done | omega))) only [go_sem, Nat.reduceAdd, Nat.reduceEqDiff, Nat.reduceLeDiff, Nat.reduceSub, e2]
    exact ⟨l ++ [x2], a2, s2, by rw [List.map_append]; simp, by simp, by omega, by omega⟩
  · rintro s ⟨l, a, sd, rfl, h7, h8, h9⟩
    obtain ⟨_, f1, x1, b1', t1, rfl, h5', h6⟩ := spec_l1Cur_one_ok 20 bs a sd (by omega) (by omega) hl hb
    obtain ⟨_, f3, x3, b3, t3, rfl, h11, h12, h13⟩ := spec_l1Cur_among_ok [-1, 1000, 1001] t_int (by decide) (by decide) bs b1' t1 (by omega) (by omega) hl hb
    simp only [go_sem, Nat.reduceAdd] at f3
    cases x1
    · simp (maxSteps := 2000000) (disch := (first | omega | (simp only [List.length_append, List.length_take, List.length_replicate, List.length_map, List.length_set, List.length_cons, List.length_nil, List.length_zipWith, List.length_drop, List.length_range]; first | done | omega))) only [go_sem, Nat.reduceAdd, Nat.reduceEqDiff, Nat.reduceLeDiff, Nat.reduceSub, f1, f3]
      exact ⟨n, l, rfl, h5, by omega⟩
    · simp (maxSteps := 2000000) (disch := (first | omega | (simp only [List.length_append, List.length_take, List.length_replicate, List.length_map, List.length_set, List.length_cons, List.length_nil, List.length_zipWith, List.length_drop, List.length_range]; first | done | omega))) only [go_sem, Nat.reduceAdd, Nat.reduceEqDiff, Nat.reduceLeDiff, Nat.reduceSub, f1, f3]
      exact ⟨n, l.set 0 x3, rfl, h5, by simp; omega⟩
theorem spec_l7Counts_ok (n : Net) (c : List Int) (hn : smN n) (hl : c.length < 2^62) : C f_spec_l7Counts [encN n, ints c] [] = some (.bool (okC n c), []) := by
  have h0 := hn.1
  have e1 := spec_l7Plain_ok n hn
  unfold okC
  cases hp : plainN n <;> rw [hp] at e1
  all_goals
    refine C_spec_l7Counts ?_
    simp (maxSteps := 2000000) (disch := (first | omega | (simp only [List.length_append, List.length_take, List.length_replicate, List.length_map, List.length_set, List.length_cons, List.length_nil, List.length_zipWith, List.length_drop, List.length_range]; first | done | omega))) only [ir_spec_l7Counts, go_sem, Nat.reduceAdd, Nat.reduceEqDiff, Nat.reduceLeDiff, Nat.reduceSub]
    simp (maxSteps := 2000000) (disch := (first | omega | (simp only [List.length_append, List.length_take, List.length_replicate, List.length_map, List.length_set, List.length_cons, List.length_nil, List.length_zipWith, List.length_drop, List.length_range]; first | done | omega))) only [go_sem, Nat.reduceAdd, Nat.reduceEqDiff, Nat.reduceLeDiff, Nat.reduceSub, e1, spec_l1All_ok c _ _ hl]
    try grind
theorem spec_l7Change_ok (n : Net) (c : List Int) (hn : smN n) (hk : okC n c = true) : C f_spec_l7Change [encN n, ints c] [] = some (.un t_int true 1 ((chN n c).map I), []) := by
  obtain ⟨hg, hr, hlc, hc⟩ := okC_parts hk
  have hgp := goodN_parts hg
  have htn := hn.1
  refine C_spec_l7Change ?_
  simp (maxSteps := 2000000) (disch := (first | omega | (simp only [List.length_append, List.length_take, List.length_replicate, List.length_map, List.length_set, List.length_cons, List.length_nil, List.length_zipWith, List.length_drop, List.length_range]; first | done | omega))) only [ir_spec_l7Change, go_sem, Nat.reduceAdd, Nat.reduceEqDiff, Nat.reduceLeDiff, Nat.reduceSub]
  refine W_for n.tr.length (fun k s => s = ⟨[.any, ints c, .any, .any, .ref 0 1 0 n.pl.toNat, .any, .any, .any, .any, trs n.tr, I n.tr.length, I k, .any, .any, .any, .any, .any, .any, .any, .any, .any], [.row t_int true 1 ((chK n c k).map I)]⟩) ?_ ?_ ?_
  · simp (maxSteps := 2000000) (disch := (first | omega | (simp only [List.length_append, List.length_take, List.length_replicate, List.length_map, List.length_set, List.length_cons, List.length_nil, List.length_zipWith, List.length_drop, List.length_range]; first | done | omega))) only [go_sem, Nat.reduceAdd, Nat.reduceEqDiff, Nat.reduceLeDiff, Nat.reduceSub]
    simp [chK]
  · rintro k s hk rfl
    have hXl := chK_len n c k
    have hXb := chK_bound hg hc hlc (k := k) (by omega)
    have hi := trN_in hg hk hXl
    have hls := goodT_lens (trN_good hg hk) (by omega)
    have hck := at_bound (p := k) hc (by simp; omega)
    have hck2 : c[k] = at_ c k := by simp [at_, show k < c.length by omega]
    have hks := chK_succ n c k
    rw [← chStep_eq hi.1 hi.2] at hks; unfold chStep2 at hks
    rw [trN_eq hk] at hi hls hks
    generalize at_ c k = ck at *
    generalize chK n c (k + 1) = X' at *
    generalize chK n c k = X at *
    have hXb2 : ∀ y ∈ X, -1000000 ≤ y ∧ y ≤ 1000000 := fun y hy => by have := hXb y hy; omega
    have hYl := addL_len ck X n.tr[k].out
    have hYb : ∀ y ∈ addL ck X n.tr[k].out, -1000000 ≤ y ∧ y ≤ 1000000 := fun y hy => by
      have := addL_bound (B := 32000 * k) (C := 1000) hXb (show -1000 ≤ ck ∧ ck ≤ 1000 by omega) (fun p hp => (hi.2 p hp).2) y hy
      omega
    simp (maxSteps := 2000000) (disch := (first | omega | (simp only [List.length_append, List.length_take, List.length_replicate, List.length_map, List.length_set, List.length_cons, List.length_nil, List.length_zipWith, List.length_drop, List.length_range]; first | done | omega))) only [go_sem, Nat.reduceAdd, Nat.reduceEqDiff, Nat.reduceLeDiff, Nat.reduceSub]
    refine W_for n.tr[k].out.length (fun j s => s = ⟨[.any, ints c, .any, .any, .ref 0 1 0 n.pl.toNat, I k, .ptr 1 0, .any, .any, trs n.tr, I n.tr.length, I k, .any, ints n.tr[k].out, I n.tr[k].out.length, I j, .any, .any, .any, .any, .any], [.row t_int true 1 ((addL ck X (n.tr[k].out.take j)).map I), .box t_impl_Trans [ints n.tr[k].inn, ints n.tr[k].out, ints n.tr[k].rst]]⟩) ?_ ?_ ?_
    · simp (maxSteps := 2000000) (disch := (first | omega | (simp only [List.length_append, List.length_take, List.length_replicate, List.length_map, List.length_set, List.length_cons, List.length_nil, List.length_zipWith, List.length_drop, List.length_range]; first | done | omega))) only [go_sem, Nat.reduceAdd, Nat.reduceEqDiff, Nat.reduceLeDiff, Nat.reduceSub]
      rfl
    · rintro j s hj rfl
      have q1 := hi.2 _ (List.getElem_mem hj)
      have q2 := addL_at (c := ck) (l := n.tr[k].out.take j) (p := n.tr[k].out[j]) hXb2 (by omega) (fun p hp => (hi.2 p (List.mem_of_mem_take hp)).2) q1.2 (by simp; omega)
      have q3 := addL_len ck X (n.tr[k].out.take j)
      rw [addL_take hj]
      generalize addL ck X (n.tr[k].out.take j) = Z at *
      simp (maxSteps := 2000000) (disch := (first | omega | (simp only [List.length_append, List.length_take, List.length_replicate, List.length_map, List.length_set, List.length_cons, List.length_nil, List.length_zipWith, List.length_drop, List.length_range]; first | done | omega))) only [go_sem, Nat.reduceAdd, Nat.reduceEqDiff, Nat.reduceLeDiff, Nat.reduceSub, at_eq, hck2]
      try rfl
    · rintro s rfl
      rw [List.take_length]
      generalize addL ck X n.tr[k].out = Y at *
      simp (maxSteps := 2000000) (disch := (first | omega | (simp only [List.length_append, List.length_take, List.length_replicate, List.length_map, List.length_set, List.length_cons, List.length_nil, List.length_zipWith, List.length_drop, List.length_range]; first | done | omega))) only [go_sem, Nat.reduceAdd, Nat.reduceEqDiff, Nat.reduceLeDiff, Nat.reduceSub]
      refine W_for n.tr[k].inn.length (fun j s => s = ⟨[.any, ints c, .any, .any, .ref 0 1 0 n.pl.toNat, I k, .any, .any, .any, trs n.tr, I n.tr.length, I k, .any, .any, .any, .any, .any, ints n.tr[k].inn, I n.tr[k].inn.length, I j, .any], [.row t_int true 1 ((addL (-ck) Y (n.tr[k].inn.take j)).map I)]⟩) ?_ ?_ ?_
      · simp (maxSteps := 2000000) (disch := (first | omega | (simp only [List.length_append, List.length_take, List.length_replicate, List.length_map, List.length_set, List.length_cons, List.length_nil, List.length_zipWith, List.length_drop, List.length_range]; first | done | omega))) only [go_sem, Nat.reduceAdd, Nat.reduceEqDiff, Nat.reduceLeDiff, Nat.reduceSub]
        rfl
      · rintro j s hj rfl
        have q1 := hi.1 _ (List.getElem_mem hj)
        have q2 := addL_at (c := (-ck)) (l := n.tr[k].inn.take j) (p := n.tr[k].inn[j]) hYb (by omega) (fun p hp => by have := (hi.1 p (List.mem_of_mem_take hp)).2; omega) (by omega) (by simp; omega)
        have q3 := addL_len (-ck) Y (n.tr[k].inn.take j)
        rw [addL_take hj]
        generalize addL (-ck) Y (n.tr[k].inn.take j) = Z at *
        simp (maxSteps := 2000000) (disch := (first | omega | (simp only [List.length_append, List.length_take, List.length_replicate, List.length_map, List.length_set, List.length_cons, List.length_nil, List.length_zipWith, List.length_drop, List.length_range]; first | done | omega))) only [go_sem, Nat.reduceAdd, Nat.reduceEqDiff, Nat.reduceLeDiff, Nat.reduceSub, at_eq, hck2, Int.sub_eq_add_neg]
        try rfl
      · rintro s rfl
        rw [List.take_length]
        simp (maxSteps := 2000000) (disch := (first | omega | (simp only [List.length_append, List.length_take, List.length_replicate, List.length_map, List.length_set, List.length_cons, List.length_nil, List.length_zipWith, List.length_drop, List.length_range]; first | done | omega))) only [go_sem, Nat.reduceAdd, Nat.reduceEqDiff, Nat.reduceLeDiff, Nat.reduceSub]
        rw [hks]
        try rfl
  · rintro s rfl
    have hXl := chK_len n c n.tr.length
    simp (maxSteps := 2000000) (disch := (first | omega | (simp only [List.length_append, List.length_take, List.length_replicate, List.length_map, List.length_set, List.length_cons, List.length_nil, List.length_zipWith, List.length_drop, List.length_range]; first | done | omega))) only [go_sem, Nat.reduceAdd, Nat.reduceEqDiff, Nat.reduceLeDiff, Nat.reduceSub]
    try rfl
theorem spec_ChangeBy_ok (n : Net) (c : List Int) (hn : smN n) (hl : c.length < 2^62) : C f_spec_ChangeBy [encN n, ints c] [] = some (.tup [.un t_int true 1 ((if okC n c then chN n c else []).map I), .bool (okC n c)], []) := by
  have e0 := spec_l7Counts_ok n c hn hl
  cases hk : okC n c <;> rw [hk] at e0
  · refine C_spec_ChangeBy ?_
    simp (maxSteps := 2000000) (disch := (first | omega | (simp only [List.length_append, List.length_take, List.length_replicate, List.length_map, List.length_set, List.length_cons, List.length_nil, List.length_zipWith, List.length_drop, List.length_range]; first | done | omega))) only [ir_spec_ChangeBy, go_sem, Nat.reduceAdd, Nat.reduceEqDiff, Nat.reduceLeDiff, Nat.reduceSub]
    simp (maxSteps := 2000000) (disch := (first | omega | (simp only [List.length_append, List.length_take, List.length_replicate, List.length_map, List.length_set, List.length_cons, List.length_nil, List.length_zipWith, List.length_drop, List.length_range]; first | done | omega))) only [go_sem, Nat.reduceAdd, Nat.reduceEqDiff, Nat.reduceLeDiff, Nat.reduceSub, e0]
    try rfl
  · have e1 := spec_l7Change_ok n c hn hk
    refine C_spec_ChangeBy ?_
    simp (maxSteps := 2000000) (disch := (first | omega | (simp only [List.length_append, List.length_take, List.length_replicate, List.length_map, List.length_set, List.length_cons, List.length_nil, List.length_zipWith, List.length_drop, List.length_range]; first | done | omega))) only [ir_spec_ChangeBy, go_sem, Nat.reduceAdd, Nat.reduceEqDiff, Nat.reduceLeDiff, Nat.reduceSub]
    simp (maxSteps := 2000000) (disch := (first | omega | (simp only [List.length_append, List.length_take, List.length_replicate, List.length_map, List.length_set, List.length_cons, List.length_nil, List.length_zipWith, List.length_drop, List.length_range]; first | done | omega))) only [go_sem, Nat.reduceAdd, Nat.reduceEqDiff, Nat.reduceLeDiff, Nat.reduceSub, e0, e1]
    try rfl
theorem spec_DrawCountsOf_ok (bs : List Int) (hl : bs.length < 2^62) (hb : ∀ x ∈ bs, 0 ≤ x ∧ x < 256) :
    Lw (C f_spec_DrawCountsOf [bys bs] []) fun r => ∃ (n : Net) (l : List Int), r = (.tup [.agg [I n.pl, .un t_impl_Trans false 3 (n.tr.map encT)], .un t_int true 1 (l.map I)], []) ∧ smNet n ∧ l.length ≤ 10 := by
  obtain ⟨_, e1, n, a1, s1, rfl, h3, h4, h5⟩ := spec_l1Cur_kept_ok bs 0 0 (by omega) (by omega) hl hb
  obtain ⟨_, e2, x0, a2, s2, rfl, g3, g4, g5, g6⟩ := spec_l1Cur_pick_ok 10 bs a1 s1 (by omega) (by omega) hl hb
  have hn30 := h5.1
  refine E_spec_DrawCountsOf ?_
  simp (maxSteps := 2000000) (disch := (first | omega | (simp only [List.length_append, List.length_take, List.length_replicate, List.length_map, List.length_set, List.length_cons, List.length_nil, List.length_zipWith, List.length_drop, List.length_range]; first | done | omega))) only [ir_spec_DrawCountsOf, go_sem, Nat.reduceAdd, Nat.reduceEqDiff, Nat.reduceLeDiff, Nat.reduceSub]
  simp (maxSteps := 2000000) (disch := (first | omega | (simp only [List.length_append, List.length_take, List.length_replicate, List.length_map, List.length_set, List.length_cons, List.length_nil, List.length_zipWith, List.length_drop, List.length_range]; first | done | omega))) only [go_sem, Nat.reduceAdd, Nat.reduceEqDiff, Nat.reduceLeDiff, Nat.reduceSub, e1, e2]
  refine W_down (fun j s => ∃ (l : List Int) (a sd : Int), s = ⟨[.any, .ptr 0 0, .any, .ptr 1 0, .ptr 2 0, .ref 3 1 0 l.length, I j, .any], [.box t_impl_Net [I 0, .nil false 3], .box t_spec_l1Cur [bys bs, I a, .int .u64 sd], .box t_impl_Net [I n.pl, .ref 4 3 0 n.tr.length], .row t_int true 1 (l.map I), .row t_impl_Trans false 3 (n.tr.map encT)]⟩ ∧ l.length + j = x0.toNat ∧ 0 ≤ a ∧ a ≤ a2 + 2 * (x0 - j)) x0.toNat ?_ ?_
  · refine ⟨[], a2, s2, ?_, by simp, by omega, by omega⟩
    simp (maxSteps := 2000000) (disch := (first | omega | (simp only [List.length_append, List.length_take, List.length_replicate, List.length_map, List.length_set, List.length_cons, List.length_nil, List.length_zipWith, List.length_drop, List.length_range]; first | done | omega))) only [go_sem, Nat.reduceAdd, Nat.reduceEqDiff, Nat.reduceLeDiff, Nat.reduceSub]
    rw [show ((x0.toNat : Nat) : Int) = x0 by omega]
    try rfl
  · rintro j s ⟨l, a, sd, rfl, h7, h8, h9⟩
    obtain ⟨_, f2, x2, c2, u2, rfl, h11, h12, h13, h14⟩ := spec_l1Cur_pick_ok (max 1 n.tr.length) bs a sd (by omega) (by omega) hl hb
    simp (maxSteps := 2000000) (disch := (first | omega | (simp only [List.length_append, List.length_take, List.length_replicate, List.length_map, List.length_set, List.length_cons, List.length_nil, List.length_zipWith, List.length_drop, List.length_range]; first | done | omega))) only [go_sem, Nat.reduceAdd, Nat.reduceEqDiff, Nat.reduceLeDiff, Nat.reduceSub, f2, spec_l1Most_ok]
    refine ⟨fun hj => ⟨j - 1, by omega, l ++ [x2], c2, u2, by rw [List.map_append, show ((j - 1 : Nat) : Int) = (j : Int) - 1 by omega]; simp, by simp; omega, by omega, by omega⟩, fun hj => ⟨n, l, rfl, h5, by omega⟩⟩
theorem spec_CountsOf_ok (n : Net) (l : List Int) (hn : smN n) (hl : l.length < 2^62) : C f_spec_CountsOf [encN n, ints l] [] = some (.tup [.un t_int true 1 ((if plainN n && areTr n l then cntN n l else []).map I), .bool (plainN n && areTr n l)], []) := by
  have htn := hn.1
  have e0 := spec_l7Plain_ok n hn
  have e1 := spec_l1All_ok l 0 (n.tr.length - 1) hl
  cases hk : plainN n <;> rw [hk] at e0
  · refine C_spec_CountsOf ?_
    simp (maxSteps := 2000000) (disch := (first | omega | (simp only [List.length_append, List.length_take, List.length_replicate, List.length_map, List.length_set, List.length_cons, List.length_nil, List.length_zipWith, List.length_drop, List.length_range]; first | done | omega))) only [ir_spec_CountsOf, go_sem, Nat.reduceAdd, Nat.reduceEqDiff, Nat.reduceLeDiff, Nat.reduceSub]
    simp (maxSteps := 2000000) (disch := (first | omega | (simp only [List.length_append, List.length_take, List.length_replicate, List.length_map, List.length_set, List.length_cons, List.length_nil, List.length_zipWith, List.length_drop, List.length_range]; first | done | omega))) only [go_sem, Nat.reduceAdd, Nat.reduceEqDiff, Nat.reduceLeDiff, Nat.reduceSub, e0]
    try rfl
  · cases ha : areTr n l
    · have hg24 := (goodN_parts (n := n) (by simp [plainN] at hk; exact hk.1)).2.2.1
      have ha0 : l.length ≤ 60 → l.all (inB 0 (n.tr.length - 1)) = false := fun h1 => by
        unfold areTr at ha
        rw [decide_eq_true h1] at ha
        simpa using ha
      refine C_spec_CountsOf ?_
      simp (maxSteps := 2000000) (disch := (first | omega | (simp only [List.length_append, List.length_take, List.length_replicate, List.length_map, List.length_set, List.length_cons, List.length_nil, List.length_zipWith, List.length_drop, List.length_range]; first | done | omega))) only [ir_spec_CountsOf, go_sem, Nat.reduceAdd, Nat.reduceEqDiff, Nat.reduceLeDiff, Nat.reduceSub]
      simp (maxSteps := 2000000) (disch := (first | omega | (simp only [List.length_append, List.length_take, List.length_replicate, List.length_map, List.length_set, List.length_cons, List.length_nil, List.length_zipWith, List.length_drop, List.length_range]; first | done | omega))) only [go_sem, Nat.reduceAdd, Nat.reduceEqDiff, Nat.reduceLeDiff, Nat.reduceSub, e0, e1]
      intro h1 h2
      rw [ha0 (by omega)] at h2
      exact absurd h2 (by simp)
    · have hal : l.length ≤ 60 ∧ ∀ t ∈ l, 0 ≤ t ∧ t.toNat < n.tr.length := by
        simp [areTr, inB] at ha
        exact ⟨ha.1, fun t ht => by have := ha.2 t ht; omega⟩
      have hg24 := (goodN_parts (n := n) (by simp [plainN] at hk; exact hk.1)).2.2.1
      have ha2 : l.all (inB 0 (n.tr.length - 1)) = true := by
        unfold areTr at ha
        exact (Bool.and_eq_true_iff.1 ha).2
      rw [ha2] at e1
      refine C_spec_CountsOf ?_
      simp (maxSteps := 2000000) (disch := (first | omega | (simp only [List.length_append, List.length_take, List.length_replicate, List.length_map, List.length_set, List.length_cons, List.length_nil, List.length_zipWith, List.length_drop, List.length_range]; first | done | omega))) only [ir_spec_CountsOf, go_sem, Nat.reduceAdd, Nat.reduceEqDiff, Nat.reduceLeDiff, Nat.reduceSub]
      simp (maxSteps := 2000000) (disch := (first | omega | (simp only [List.length_append, List.length_take, List.length_replicate, List.length_map, List.length_set, List.length_cons, List.length_nil, List.length_zipWith, List.length_drop, List.length_range]; first | done | omega))) only [go_sem, Nat.reduceAdd, Nat.reduceEqDiff, Nat.reduceLeDiff, Nat.reduceSub, e0, e1]
      refine W_for l.length (fun k s => s = ⟨[.any, .any, .any, .any, .any, .ref 0 1 0 n.tr.length, .any, .any, ints l, I l.length, I k, .any], [.row t_int true 1 ((cntN n (l.take k)).map I)]⟩) ?_ ?_ ?_
      · simp (maxSteps := 2000000) (disch := (first | omega | (simp only [List.length_append, List.length_take, List.length_replicate, List.length_map, List.length_set, List.length_cons, List.length_nil, List.length_zipWith, List.length_drop, List.length_range]; first | done | omega))) only [go_sem, Nat.reduceAdd, Nat.reduceEqDiff, Nat.reduceLeDiff, Nat.reduceSub]
        simp [cntN, incL]
      · rintro k s hk rfl
        have q1 := hal.2 _ (List.getElem_mem hk)
        have q2 := cntN_bound (n := n) (l := l.take k) (fun t ht => hal.2 t (List.mem_of_mem_take ht))
        have q3 := cntN_len n (l.take k)
        have q4 := at_bound (p := l[k]) q2 (by omega)
        have q5 : (l.take k).length ≤ 60 := by simp; omega
        have q6 : cntN n (l.take (k + 1)) = (cntN n (l.take k)).set (l[k].toNat) (at_ (cntN n (l.take k)) l[k] + 1) := incL_take hk
        rw [q6]
        generalize cntN n (l.take k) = Z at *
        simp (maxSteps := 2000000) (disch := (first | omega | (simp only [List.length_append, List.length_take, List.length_replicate, List.length_map, List.length_set, List.length_cons, List.length_nil, List.length_zipWith, List.length_drop, List.length_range]; first | done | omega))) only [go_sem, Nat.reduceAdd, Nat.reduceEqDiff, Nat.reduceLeDiff, Nat.reduceSub, at_eq]
        try rfl
      · rintro s rfl
        have q3 := cntN_len n l
        rw [List.take_length]
        simp (maxSteps := 2000000) (disch := (first | omega | (simp only [List.length_append, List.length_take, List.length_replicate, List.length_map, List.length_set, List.length_cons, List.length_nil, List.length_zipWith, List.length_drop, List.length_range]; first | done | omega))) only [go_sem, Nat.reduceAdd, Nat.reduceEqDiff, Nat.reduceLeDiff, Nat.reduceSub]
        try rfl
theorem laws_FnKeptSum_ok (a b : List Int) (ha2 : ∀ x ∈ a, 0 ≤ x ∧ x < 256) (hb2 : ∀ x ∈ b, 0 ≤ x ∧ x < 256) : C f_laws_FnKeptSum [bys a, bys b] [] = some (.bool true, []) := by
  refine C_laws_FnKeptSum ?_
  simp (maxSteps := 2000000) (disch := (first | omega | (simp only [List.length_append, List.length_take, List.length_replicate, List.length_map, List.length_set, List.length_cons, List.length_nil, List.length_zipWith, List.length_drop, List.length_range]; first | done | omega))) only [ir_laws_FnKeptSum, go_sem, Nat.reduceAdd, Nat.reduceEqDiff, Nat.reduceLeDiff, Nat.reduceSub]
  simp (maxSteps := 2000000) (disch := (first | omega | (simp only [List.length_append, List.length_take, List.length_replicate, List.length_map, List.length_set, List.length_cons, List.length_nil, List.length_zipWith, List.length_drop, List.length_range]; first | done | omega))) only [go_sem, Nat.reduceAdd, Nat.reduceEqDiff, Nat.reduceLeDiff, Nat.reduceSub, laws_big_ok]
  intro hbig
  simp only [Bool.or_eq_false_iff, decide_eq_false_iff_not] at hbig
  obtain ⟨_, e1, n, w, m, rfl, h1, h2, h3⟩ := spec_DrawWeightOf_ok a (by omega) ha2
  have hsn := h1.smN
  have htr := h1.1
  obtain ⟨_, e2, z, rfl, h4, h5⟩ := laws_numberOf_ok b (by omega) hb2
  have i1 := impl_IsInvariant_ok n w hsn (by omega)
  have i2 := spec_IsInvariant_ok n w hsn (by omega)
  have i3 := impl_WeightOf_ok n w m hsn (by omega) (by omega)
  have i4 := spec_WeightOf_ok n w m hsn (by omega) (by omega)
  -- the tail
  obtain ⟨_, d1, u, c, rfl, g1, g2⟩ := spec_DrawChangeBy_ok b (by omega) hb2
  obtain ⟨_, d2, v, q, rfl, g3, g4⟩ := spec_DrawCountsOf_ok b (by omega) hb2
  have j1 := impl_ChangeBy_ok u c g1.smN (by omega)
  have j2 := spec_ChangeBy_ok u c g1.smN (by omega)
  have j3 := impl_CountsOf_ok v q g3.smN (by omega)
  have j4 := spec_CountsOf_ok v q g3.smN (by omega)
  have s1 := laws_sameInts_ok (if okC u c then chN u c else []) (if okC u c then chN u c else []) (by
    have hcl := chK_len u c u.tr.length
    split
    · unfold chN; have := g1.2.1; omega
    · simp)
  have s2 := laws_sameInts_ok (if plainN v && areTr v q then cntN v q else []) (if plainN v && areTr v q then cntN v q else []) (by
    have hcl := cntN_len v q
    split
    · have := g3.1; omega
    · simp)
  simp only [decide_true] at s1 s2
  generalize (if okC u c then chN u c else []) = CC at *
  generalize (if plainN v && areTr v q then cntN v q else []) = QQ at *
  generalize okC u c = kc at *
  generalize (plainN v && areTr v q) = kq at *
  cases hk : (okW n w && goodM n.pl m) with
  | false =>
    simp only [hk, Bool.false_eq_true, if_false] at i3 i4
    generalize (okW n w && isInv n w) = k1 at *
    generalize okW n w = k2 at *
    cases kc <;> cases kq <;> cases k1 <;> cases k2
    all_goals
      simp (maxSteps := 2000000) (disch := (first | omega | (simp only [List.length_append, List.length_take, List.length_replicate, List.length_map, List.length_set, List.length_cons, List.length_nil, List.length_zipWith, List.length_drop, List.length_range]; first | done | omega))) only [go_sem, Nat.reduceAdd, Nat.reduceEqDiff, Nat.reduceLeDiff, Nat.reduceSub, e1, i1, i2, i3, i4, d1, d2, j1, j2, j3, j4, s1, s2]
      try trivial
  | true =>
    obtain ⟨hkW, hkM⟩ := Bool.and_eq_true_iff.1 hk
    obtain ⟨hg, hr, hlw, hlw2, hw9⟩ := okW_parts hkW
    obtain ⟨m1, m2, m3, m4, m5⟩ := goodM_len hkM
    have hpl : plainN n = true := by simp [plainN, hg, hr]
    have hmk : marked n m = true := by simp [marked, hg, hkM]
    have hg24 := (goodN_parts hg).2.2.1
    simp only [hkW, hkM, Bool.and_self, if_true, Bool.true_and] at i1 i2 i3 i4
    cases hI : isInv n w <;> rw [hI] at i1 i2
    all_goals
      simp (maxSteps := 2000000) (disch := (first | omega | (simp only [List.length_append, List.length_take, List.length_replicate, List.length_map, List.length_set, List.length_cons, List.length_nil, List.length_zipWith, List.length_drop, List.length_range]; first | done | omega))) only [go_sem, Nat.reduceAdd, Nat.reduceEqDiff, Nat.reduceLeDiff, Nat.reduceSub, e1, i1, i2, i3, i4]
      refine W_for 6 (fun k s => ∃ l : List Int, s = ⟨[.any, bys b, .any, .ptr 0 0, .ref 1 1 0 w.length, .ref 2 1 0 m.length, .bool (isInv n w), .any, .any, .any, I (wt w m), .any, .any, .any, .ref 3 1 0 l.length, I k, .any, .any, .any, .any, .any, .any, .any, .any, .any, .any, .any, .any, .any, .any, .any, .any, .any, .any, .any, .any, .any, .any, .any, .any, .any, .any, .any, .any, .any, .any, .any, .any, .any, .any, .any], [.box t_impl_Net [I n.pl, trs n.tr], .row t_int true 1 (w.map I), .row t_int true 1 (m.map I), .row t_int true 1 (l.map I)]⟩ ∧ l.length = k ∧ ∀ t ∈ l, 0 ≤ t ∧ t < n.tr.length) ?_ ?_ ?_
      · refine ⟨[], ?_, rfl, by simp⟩
        rw [hI]
        simp (maxSteps := 2000000) (disch := (first | omega | (simp only [List.length_append, List.length_take, List.length_replicate, List.length_map, List.length_set, List.length_cons, List.length_nil, List.length_zipWith, List.length_drop, List.length_range]; first | done | omega))) only [go_sem, Nat.reduceAdd, Nat.reduceEqDiff, Nat.reduceLeDiff, Nat.reduceSub]
        rfl
      · rintro k s hk ⟨l, rfl, rfl, hl⟩
        have hq0 : 0 ≤ z.tdiv (l.length + 1) := Int.tdiv_nonneg h4 (by omega)
        have hq1 : z.tdiv (l.length + 1) ≤ z := by
          rw [Int.tdiv_eq_ediv_of_nonneg h4]
          exact Int.ediv_le_self _ h4
        have hm0 : 0 ≤ (z.tdiv (l.length + 1)).tmod n.tr.length := Int.tmod_nonneg _ hq0
        have hm1 : (z.tdiv (l.length + 1)).tmod n.tr.length < n.tr.length := Int.tmod_lt_of_pos _ (by omega)
        simp (maxSteps := 2000000) (disch := (first | omega | (simp only [List.length_append, List.length_take, List.length_replicate, List.length_map, List.length_set, List.length_cons, List.length_nil, List.length_zipWith, List.length_drop, List.length_range]; first | done | omega))) only [go_sem, Nat.reduceAdd, Nat.reduceEqDiff, Nat.reduceLeDiff, Nat.reduceSub, e2]
        refine ⟨l ++ [(z.tdiv (l.length + 1)).tmod n.tr.length], ?_, by simp, fun t ht => ?_⟩
        · rw [List.map_append, List.length_append]; rfl
        · rcases List.mem_append.1 ht with ht | ht
          · exact hl t ht
          · simp only [List.mem_cons, List.not_mem_nil, or_false] at ht
            subst ht; exact ⟨hm0, hm1⟩
      · rintro s ⟨l, rfl, hl6, hl⟩
        have hlt : ∀ t ∈ l, 0 ≤ t ∧ t.toNat < n.tr.length := fun t ht => by have := hl t ht; omega
        have har : areTr n l = true := by
          simp only [areTr, Bool.and_eq_true, decide_eq_true_eq, List.all_eq_true, inB]
          exact ⟨by omega, fun t ht => by have := hl t ht; omega⟩
        obtain ⟨_, f1, X, rfl, hX⟩ := impl_FireAll_ok n m l hsn (by omega) (by omega)
        have hoks : okSeq n m l = true := by simp [okSeq, hmk, har]
        have hK6 := many_le n m l
        have hmx := fsq_marked (k := many n m l) hmk hK6 (fun j hj => many_ok hj (by omega))
        have hxl := fsq_len n m (l.take (many n m l))
        simp only [hoks, if_true, true_and, forall_const] at f1 hX
        have hlK : ∀ t ∈ l.take (many n m l), 0 ≤ t ∧ t.toNat < n.tr.length := fun t ht => hlt t (List.mem_of_mem_take ht)
        have harK : areTr n (l.take (many n m l)) = true := by
          simp only [areTr, Bool.and_eq_true, decide_eq_true_eq, List.all_eq_true, inB]
          exact ⟨by simp; omega, fun t ht => by have := hlK t ht; omega⟩
        have hwx : isInv n w = true → wt w (fsq n m (l.take (many n m l))) = wt w m := fun h => wt_fsq hg hr hlw h (by omega) hlK
        have hch : ∀ p : Int, 0 ≤ p → at_ (fsq n m (l.take (many n m l))) p = at_ m p + at_ (chN n (cntN n (l.take (many n m l)))) p := fun p hp => fsq_change hg hr (by omega) hlK hp
        have hcb := cntN_bound hlK
        have hcl := cntN_len n (l.take (many n m l))
        have hoc : okC n (cntN n (l.take (many n m l))) = true := by
          simp only [okC, hpl, Bool.true_and, Bool.and_eq_true, decide_eq_true_eq, List.all_eq_true, inB]
          exact ⟨by omega, fun t ht => by have := hcb t ht; have h6 : (l.take (many n m l)).length ≤ 6 := by simp; omega
                                          omega⟩
        have hdl : (chN n (cntN n (l.take (many n m l)))).length = n.pl.toNat := chK_len ..
        have hdz := change_zero (d := chN n (cntN n (l.take (many n m l)))) (by omega) (by omega) hch
        have f2 := impl_CountsOf_ok n (l.take (many n m l)) hsn (by simp; omega)
        have f3 := impl_ChangeBy_ok n (cntN n (l.take (many n m l))) hsn (by omega)
        have f4 := impl_WeightOf_ok n w (fsq n m (l.take (many n m l))) hsn (by omega) (by omega)
        have f5 := impl_IsCycle_ok n (cntN n (l.take (many n m l))) hsn (by omega)
        have f6 := laws_sameInts_ok (fsq n m (l.take (many n m l))) m (by omega)
        simp only [hpl, harK, hoc, hkW, (marked_parts hmx).2, Bool.and_self, if_true, Bool.true_and] at f2 f3 f4 f5
        rw [hdz] at f5
        have hx5 := (goodM_len (marked_parts hmx).2).2.2.2.2
        generalize hKe : many n m l = K at *
        generalize fsq n m (l.take K) = x at *
        generalize chN n (cntN n (l.take K)) = d at *
        generalize cntN n (l.take K) = cn at *
        generalize decide (x = m) = cyc at *
        generalize hwm : wt w m = Wm at *
        generalize wt w x = Wx at *
        have hL : (l.take K).length = K := by simp; omega
        rw [show ints (l.take K) = .sl true 1 ((l.map I).take (K - 0)) by rw [Nat.sub_zero, ← List.map_take]] at f2
        rcases hX with ⟨rfl, hK⟩ | ⟨rfl, hK⟩
        · rw [hI]
          simp (maxSteps := 2000000) (disch := (first | omega | (simp only [List.length_append, List.length_take, List.length_replicate, List.length_map, List.length_set, List.length_cons, List.length_nil, List.length_zipWith, List.length_drop, List.length_range]; first | done | omega))) only [go_sem, Nat.reduceAdd, Nat.reduceEqDiff, Nat.reduceLeDiff, Nat.reduceSub, f1, f2, f3, f4, f5, f6]
          first
            | refine ⟨fun h2 => absurd (hwx hI) h2, fun _ => ?_⟩
            | skip
          refine W_for x.length (fun k s => s = ⟨[.any, bys b, .any, .ptr 0 0, .any, .ref 1 1 0 m.length, .any, .any, .any, .any, .any, .any, .any, .any, .any, .any, ints x, .any, .any, .ref 2 1 0 cn.length, .any, .ref 3 1 0 d.length, .any, .any, .any, .any, .any, .any, .any, .any, .any, .any, .any, .any, .any, .any, .any, .any, .any, .any, .any, .any, .any, .any, .any, .any, I x.length, I k, .any, .any, .any], [.box t_impl_Net [I n.pl, trs n.tr], .fro true 1 (m.map I), .row t_int true 1 (cn.map I), .row t_int true 1 (d.map I)]⟩) ?_ ?_ ?_
          · simp (maxSteps := 2000000) (disch := (first | omega | (simp only [List.length_append, List.length_take, List.length_replicate, List.length_map, List.length_set, List.length_cons, List.length_nil, List.length_zipWith, List.length_drop, List.length_range]; first | done | omega))) only [go_sem, Nat.reduceAdd, Nat.reduceEqDiff, Nat.reduceLeDiff, Nat.reduceSub]
            rfl
          · rintro k s hk rfl
            have q1 := hch k (by omega)
            have q2 : at_ x k = x[k] := by simp [at_, hk]
            have q3 : at_ m k = m[k]'(by omega) := by simp [at_, show k < m.length by omega]
            have q4 : at_ d k = d[k]'(by omega) := by simp [at_, show k < d.length by omega]
            have q5 := hx5 _ (List.getElem_mem hk)
            have q6 := m5 _ (List.getElem_mem (show k < m.length by omega))
            rw [q2, q3, q4] at q1
            simp (maxSteps := 2000000) (disch := (first | omega | (simp only [List.length_append, List.length_take, List.length_replicate, List.length_map, List.length_set, List.length_cons, List.length_nil, List.length_zipWith, List.length_drop, List.length_range]; first | done | omega))) only [go_sem, Nat.reduceAdd, Nat.reduceEqDiff, Nat.reduceLeDiff, Nat.reduceSub]
            first
              | trivial
              | exact ⟨rfl, fun h => absurd q1 h, fun _ => rfl⟩
              | exact ⟨fun h => absurd q1 h, fun _ => rfl⟩
          · rintro s rfl
            cases cyc <;> cases kc <;> cases kq
            all_goals
              simp (maxSteps := 2000000) (disch := (first | omega | (simp only [List.length_append, List.length_take, List.length_replicate, List.length_map, List.length_set, List.length_cons, List.length_nil, List.length_zipWith, List.length_drop, List.length_range]; first | done | omega))) only [go_sem, Nat.reduceAdd, Nat.reduceEqDiff, Nat.reduceLeDiff, Nat.reduceSub, f5, f6, d1, d2, j1, j2, j3, j4, s1, s2]
              try trivial
        · rw [hI]
          simp (maxSteps := 2000000) (disch := (first | omega | (simp only [List.length_append, List.length_take, List.length_replicate, List.length_map, List.length_set, List.length_cons, List.length_nil, List.length_zipWith, List.length_drop, List.length_range]; first | done | omega))) only [go_sem, Nat.reduceAdd, Nat.reduceEqDiff, Nat.reduceLeDiff, Nat.reduceSub, f1, f2, f3, f4, f5, f6]
          first
            | refine ⟨fun h2 => absurd (hwx hI) h2, fun _ => ?_⟩
            | skip
          refine W_for x.length (fun k s => s = ⟨[.any, bys b, .any, .ptr 0 0, .any, .ref 1 1 0 m.length, .any, .any, .any, .any, .any, .any, .any, .any, .any, .any, .ref 2 1 0 x.length, .any, .any, .ref 3 1 0 cn.length, .any, .ref 4 1 0 d.length, .any, .any, .any, .any, .any, .any, .any, .any, .any, .any, .any, .any, .any, .any, .any, .any, .any, .any, .any, .any, .any, .any, .any, .any, I x.length, I k, .any, .any, .any], [.box t_impl_Net [I n.pl, trs n.tr], .row t_int true 1 (m.map I), .row t_int true 1 (x.map I), .row t_int true 1 (cn.map I), .row t_int true 1 (d.map I)]⟩) ?_ ?_ ?_
          · simp (maxSteps := 2000000) (disch := (first | omega | (simp only [List.length_append, List.length_take, List.length_replicate, List.length_map, List.length_set, List.length_cons, List.length_nil, List.length_zipWith, List.length_drop, List.length_range]; first | done | omega))) only [go_sem, Nat.reduceAdd, Nat.reduceEqDiff, Nat.reduceLeDiff, Nat.reduceSub]
            rfl
          · rintro k s hk rfl
            have q1 := hch k (by omega)
            have q2 : at_ x k = x[k] := by simp [at_, hk]
            have q3 : at_ m k = m[k]'(by omega) := by simp [at_, show k < m.length by omega]
            have q4 : at_ d k = d[k]'(by omega) := by simp [at_, show k < d.length by omega]
            have q5 := hx5 _ (List.getElem_mem hk)
            have q6 := m5 _ (List.getElem_mem (show k < m.length by omega))
            rw [q2, q3, q4] at q1
            simp (maxSteps := 2000000) (disch := (first | omega | (simp only [List.length_append, List.length_take, List.length_replicate, List.length_map, List.length_set, List.length_cons, List.length_nil, List.length_zipWith, List.length_drop, List.length_range]; first | done | omega))) only [go_sem, Nat.reduceAdd, Nat.reduceEqDiff, Nat.reduceLeDiff, Nat.reduceSub]
            first
              | trivial
              | exact ⟨rfl, fun h => absurd q1 h, fun _ => rfl⟩
              | exact ⟨fun h => absurd q1 h, fun _ => rfl⟩
          · rintro s rfl
            cases cyc <;> cases kc <;> cases kq
            all_goals
              simp (maxSteps := 2000000) (disch := (first | omega | (simp only [List.length_append, List.length_take, List.length_replicate, List.length_map, List.length_set, List.length_cons, List.length_nil, List.length_zipWith, List.length_drop, List.length_range]; first | done | omega))) only [go_sem, Nat.reduceAdd, Nat.reduceEqDiff, Nat.reduceLeDiff, Nat.reduceSub, f5, f6, d1, d2, j1, j2, j3, j4, s1, s2]
              try trivial
end Go.Proofs.Ytngjepmopahgdaa.Pi
