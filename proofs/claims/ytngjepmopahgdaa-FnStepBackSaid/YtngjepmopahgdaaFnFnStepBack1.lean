/- The functions that the law reaches: what they answer. Conditions: those that each theorem names. -/
import Derived.Test.YtngjepmopahgdaaIrFnStepBack
import Derived.Test.YtngjepmopahgdaaPlBase
import Derived.Test.YtngjepmopahgdaaPlNet
import Derived.Test.YtngjepmopahgdaaPlFire
import Derived.Test.YtngjepmopahgdaaPlTurn
import Derived.Test.YtngjepmopahgdaaPlBack
import Derived.Test.YtngjepmopahgdaaPlFlow
import Derived.Test.YtngjepmopahgdaaFnFnStepBack0
namespace Go.Proofs.Ytngjepmopahgdaa.Pi
open Go
set_option linter.all false
set_option maxHeartbeats 4000000
set_option maxRecDepth 20000
theorem laws_FnStepBack_ok (a b : List Int) (ha2 : ∀ x ∈ a, 0 ≤ x ∧ x < 256) (hb2 : ∀ x ∈ b, 0 ≤ x ∧ x < 256) : C f_laws_FnStepBack [bys a, bys b] [] = some (.bool true, []) := by
  refine C_laws_FnStepBack ?_
  simp (maxSteps := 2000000) (disch := (first | omega | (simp only [List.length_append, List.length_take, List.length_replicate, List.length_map, List.length_set, List.length_cons, List.length_nil, List.length_zipWith, List.length_drop, List.length_range]; first | done | omega))) only [ir_laws_FnStepBack, go_sem, Nat.reduceAdd, Nat.reduceEqDiff, Nat.reduceLeDiff, Nat.reduceSub]
  simp (maxSteps := 2000000) (disch := (first | omega | (simp only [List.length_append, List.length_take, List.length_replicate, List.length_map, List.length_set, List.length_cons, List.length_nil, List.length_zipWith, List.length_drop, List.length_range]; first | done | omega))) only [go_sem, Nat.reduceAdd, Nat.reduceEqDiff, Nat.reduceLeDiff, Nat.reduceSub, laws_big_ok]
  intro hbig
  simp only [Bool.or_eq_false_iff, decide_eq_false_iff_not] at hbig
  obtain ⟨_, e1, n, t, m, rfl, h1, h2⟩ := spec_DrawStepBack_ok a (by omega) ha2
  have hsn := h1.smN
  obtain ⟨_, e5, w, rfl, h3, h4⟩ := laws_numberOf_ok b (by omega) hb2
  have e3 := spec_StepBack_ok n t m hsn (by omega)
  have e6 := spec_GoodNet_ok n hsn
  have e7 := spec_GoodMark_ok n.pl m (by omega)
  have n0 : C f_laws_sameInts [.sl true 1 [], .sl true 1 []] [] = some (.bool true, []) := laws_sameInts_ok [] [] (by simp)
  have hbl := backM_len (trAt n t) m
  cases hB : okStep n t m with
  | true =>
    have e2 := impl_StepBack_t n t m hsn (by omega) hB
    obtain ⟨k1, k2, k3, k4, k5, k6, k7⟩ := okStep_parts hB
    have hmk : marked n m = true := by simp [marked, k1, k2]
    have hg := marked_parts hmk
    have hpl := goodN_parts k1
    have hml := goodM_len k2
    have hgb : goodM n.pl (backM (trAt n t) m) = true := by
      have h9 : inB 1 16 n.pl = true := by simp [inB]; omega
      have h10 : (((backM (trAt n t) m).length : Int) == n.pl) = true := by simp [hbl]; omega
      simp only [goodM, h9, h10, k7, Bool.true_and]
    simp only [hB, if_true] at e3
    simp only [k1] at e6
    simp only [k2] at e7
    have n1 := laws_sameInts_ok (backM (trAt n t) m) (backM (trAt n t) m) (by omega)
    simp only [decide_true] at n1
    have hcov := step_covers hB
    cases hf0 : okFire n (backM (trAt n t) m) t with
    | false =>
      simp (maxSteps := 2000000) (disch := (first | omega | (simp only [List.length_append, List.length_take, List.length_replicate, List.length_map, List.length_set, List.length_cons, List.length_nil, List.length_zipWith, List.length_drop, List.length_range]; first | done | omega))) only [go_sem, Nat.reduceAdd, Nat.reduceEqDiff, Nat.reduceLeDiff, Nat.reduceSub, e1, e2, e3, n1, e6, e7, impl_Fire_f n (backM (trAt n t) m) t hsn (by omega) hf0]
      refine W_for n.pl.toNat (fun k s => ∃ d : List Int, s = ⟨[.any, bys b, .any, .ptr 0 0, I t, .ref 1 1 0 m.length, ints (backM (trAt n t) m), .bool true, .any, .any, .any, .any, .any, .any, .ref 2 1 0 d.length, I k, .any, .any, .any, .any, .any, .any, .any, .any, .any, .any, .any, .any, .any, .any, .any, .any], [.box t_impl_Net [I n.pl, .ref 3 3 0 n.tr.length], .fro true 1 (m.map I), .row t_int true 1 (d.map I), .fro false 3 (n.tr.map encT)]⟩ ∧ d.length = k) ?_ ?_ ?_
      · refine ⟨[], ?_, rfl⟩
        simp (maxSteps := 2000000) (disch := (first | omega | (simp only [List.length_append, List.length_take, List.length_replicate, List.length_map, List.length_set, List.length_cons, List.length_nil, List.length_zipWith, List.length_drop, List.length_range]; first | done | omega))) only [go_sem, Nat.reduceAdd, Nat.reduceEqDiff, Nat.reduceLeDiff, Nat.reduceSub]
        rfl
      · rintro k s hk ⟨d, rfl, rfl⟩
        simp (maxSteps := 2000000) (disch := (first | omega | (simp only [List.length_append, List.length_take, List.length_replicate, List.length_map, List.length_set, List.length_cons, List.length_nil, List.length_zipWith, List.length_drop, List.length_range]; first | done | omega))) only [go_sem, Nat.reduceAdd, Nat.reduceEqDiff, Nat.reduceLeDiff, Nat.reduceSub, e5]
        exact ⟨d ++ [_], by rw [List.map_append]; simp; rfl, by simp⟩
      · rintro s ⟨d, rfl, hd⟩
        cases hf : okFire n d t with
        | false => simp (maxSteps := 2000000) (disch := (first | omega | (simp only [List.length_append, List.length_take, List.length_replicate, List.length_map, List.length_set, List.length_cons, List.length_nil, List.length_zipWith, List.length_drop, List.length_range]; first | done | omega))) only [go_sem, Nat.reduceAdd, Nat.reduceEqDiff, Nat.reduceLeDiff, Nat.reduceSub, impl_Fire_f n d t hsn (by omega) hf]
        | true =>
          have hx := okFire_marked hf
          have hxl := firedM_len (trAt n t) d
          have hdm := okFire_marked' hf
          have c1 := impl_Covers_ok n.pl (firedM (trAt n t) d) m (by omega) (by omega)
          simp only [(marked_parts hx).2, hg.2, Bool.true_and, Bool.and_self] at c1
          cases hc : coversB (firedM (trAt n t) d) m with
          | false =>
            simp only [hc] at c1
            simp (maxSteps := 2000000) (disch := (first | omega | (simp only [List.length_append, List.length_take, List.length_replicate, List.length_map, List.length_set, List.length_cons, List.length_nil, List.length_zipWith, List.length_drop, List.length_range]; first | done | omega))) only [go_sem, Nat.reduceAdd, Nat.reduceEqDiff, Nat.reduceLeDiff, Nat.reduceSub, impl_Fire_t n d t hsn (by omega) hf, c1]
          | true =>
            obtain ⟨s1, s2⟩ := step_least hmk hf hc
            have c2 := impl_Covers_ok n.pl d (backM (trAt n t) m) (by omega) (by omega)
            simp only [(marked_parts hdm).2, hgb, s2, Bool.true_and, Bool.and_self] at c2
            simp only [hc] at c1
            simp (maxSteps := 2000000) (disch := (first | omega | (simp only [List.length_append, List.length_take, List.length_replicate, List.length_map, List.length_set, List.length_cons, List.length_nil, List.length_zipWith, List.length_drop, List.length_range]; first | done | omega))) only [go_sem, Nat.reduceAdd, Nat.reduceEqDiff, Nat.reduceLeDiff, Nat.reduceSub, impl_Fire_t n d t hsn (by omega) hf, c1, c2]
    | true =>
      have hx0 := okFire_marked hf0
      have hxl0 := firedM_len (trAt n t) (backM (trAt n t) m)
      have c0 := impl_Covers_ok n.pl (firedM (trAt n t) (backM (trAt n t) m)) m (by omega) (by omega)
      simp only [(marked_parts hx0).2, k2, hcov, Bool.true_and, Bool.and_self] at c0
      simp (maxSteps := 2000000) (disch := (first | omega | (simp only [List.length_append, List.length_take, List.length_replicate, List.length_map, List.length_set, List.length_cons, List.length_nil, List.length_zipWith, List.length_drop, List.length_range]; first | done | omega))) only [go_sem, Nat.reduceAdd, Nat.reduceEqDiff, Nat.reduceLeDiff, Nat.reduceSub, e1, e2, e3, n1, e6, e7, impl_Fire_t n (backM (trAt n t) m) t hsn (by omega) hf0, c0]
      refine W_for n.pl.toNat (fun k s => ∃ d : List Int, s = ⟨[.any, bys b, .any, .ptr 0 0, I t, .ref 1 1 0 m.length, ints (backM (trAt n t) m), .bool true, .any, .any, .any, .any, .any, .any, .ref 2 1 0 d.length, I k, .any, .any, .any, .any, .any, .any, .any, .any, .any, .any, .any, .any, .any, .any, .any, .any], [.box t_impl_Net [I n.pl, .ref 3 3 0 n.tr.length], .fro true 1 (m.map I), .row t_int true 1 (d.map I), .fro false 3 (n.tr.map encT)]⟩ ∧ d.length = k) ?_ ?_ ?_
      · refine ⟨[], ?_, rfl⟩
        simp (maxSteps := 2000000) (disch := (first | omega | (simp only [List.length_append, List.length_take, List.length_replicate, List.length_map, List.length_set, List.length_cons, List.length_nil, List.length_zipWith, List.length_drop, List.length_range]; first | done | omega))) only [go_sem, Nat.reduceAdd, Nat.reduceEqDiff, Nat.reduceLeDiff, Nat.reduceSub]
        rfl
      · rintro k s hk ⟨d, rfl, rfl⟩
        simp (maxSteps := 2000000) (disch := (first | omega | (simp only [List.length_append, List.length_take, List.length_replicate, List.length_map, List.length_set, List.length_cons, List.length_nil, List.length_zipWith, List.length_drop, List.length_range]; first | done | omega))) only [go_sem, Nat.reduceAdd, Nat.reduceEqDiff, Nat.reduceLeDiff, Nat.reduceSub, e5]
        exact ⟨d ++ [_], by rw [List.map_append]; simp; rfl, by simp⟩
      · rintro s ⟨d, rfl, hd⟩
        cases hf : okFire n d t with
        | false => simp (maxSteps := 2000000) (disch := (first | omega | (simp only [List.length_append, List.length_take, List.length_replicate, List.length_map, List.length_set, List.length_cons, List.length_nil, List.length_zipWith, List.length_drop, List.length_range]; first | done | omega))) only [go_sem, Nat.reduceAdd, Nat.reduceEqDiff, Nat.reduceLeDiff, Nat.reduceSub, impl_Fire_f n d t hsn (by omega) hf]
        | true =>
          have hx := okFire_marked hf
          have hxl := firedM_len (trAt n t) d
          have hdm := okFire_marked' hf
          have c1 := impl_Covers_ok n.pl (firedM (trAt n t) d) m (by omega) (by omega)
          simp only [(marked_parts hx).2, hg.2, Bool.true_and, Bool.and_self] at c1
          cases hc : coversB (firedM (trAt n t) d) m with
          | false =>
            simp only [hc] at c1
            simp (maxSteps := 2000000) (disch := (first | omega | (simp only [List.length_append, List.length_take, List.length_replicate, List.length_map, List.length_set, List.length_cons, List.length_nil, List.length_zipWith, List.length_drop, List.length_range]; first | done | omega))) only [go_sem, Nat.reduceAdd, Nat.reduceEqDiff, Nat.reduceLeDiff, Nat.reduceSub, impl_Fire_t n d t hsn (by omega) hf, c1]
          | true =>
            obtain ⟨s1, s2⟩ := step_least hmk hf hc
            have c2 := impl_Covers_ok n.pl d (backM (trAt n t) m) (by omega) (by omega)
            simp only [(marked_parts hdm).2, hgb, s2, Bool.true_and, Bool.and_self] at c2
            simp only [hc] at c1
            simp (maxSteps := 2000000) (disch := (first | omega | (simp only [List.length_append, List.length_take, List.length_replicate, List.length_map, List.length_set, List.length_cons, List.length_nil, List.length_zipWith, List.length_drop, List.length_range]; first | done | omega))) only [go_sem, Nat.reduceAdd, Nat.reduceEqDiff, Nat.reduceLeDiff, Nat.reduceSub, impl_Fire_t n d t hsn (by omega) hf, c1, c2]
  | false =>
    have e2 := impl_StepBack_f n t m hsn (by omega) hB
    simp only [hB, Bool.false_eq_true, if_false, List.map_nil] at e3
    cases k1 : goodN n with
    | false =>
      simp only [k1] at e6
      simp (maxSteps := 2000000) (disch := (first | omega | (simp only [List.length_append, List.length_take, List.length_replicate, List.length_map, List.length_set, List.length_cons, List.length_nil, List.length_zipWith, List.length_drop, List.length_range]; first | done | omega))) only [go_sem, Nat.reduceAdd, Nat.reduceEqDiff, Nat.reduceLeDiff, Nat.reduceSub, e1, e2, e3, n0, e6]
    | true =>
    cases k2 : goodM n.pl m with
    | false =>
      simp only [k1] at e6
      simp only [k2] at e7
      simp (maxSteps := 2000000) (disch := (first | omega | (simp only [List.length_append, List.length_take, List.length_replicate, List.length_map, List.length_set, List.length_cons, List.length_nil, List.length_zipWith, List.length_drop, List.length_range]; first | done | omega))) only [go_sem, Nat.reduceAdd, Nat.reduceEqDiff, Nat.reduceLeDiff, Nat.reduceSub, e1, e2, e3, n0, e6, e7]
    | true =>
      have hmk : marked n m = true := by simp [marked, k1, k2]
      have hg := marked_parts hmk
      have hpl := goodN_parts k1
      have hml := goodM_len k2
      simp only [k1] at e6
      simp only [k2] at e7
      simp (maxSteps := 2000000) (disch := (first | omega | (simp only [List.length_append, List.length_take, List.length_replicate, List.length_map, List.length_set, List.length_cons, List.length_nil, List.length_zipWith, List.length_drop, List.length_range]; first | done | omega))) only [go_sem, Nat.reduceAdd, Nat.reduceEqDiff, Nat.reduceLeDiff, Nat.reduceSub, e1, e2, e3, n0, e6, e7]
      refine W_for n.pl.toNat (fun k s => ∃ d : List Int, s = ⟨[.any, bys b, .any, .ptr 0 0, I t, .ref 1 1 0 m.length, .ref 2 1 0 0, .bool false, .any, .any, .any, .any, .any, .any, .ref 3 1 0 d.length, I k, .any, .any, .any, .any, .any, .any, .any, .any, .any, .any, .any, .any, .any, .any, .any, .any], [.box t_impl_Net [I n.pl, .ref 4 3 0 n.tr.length], .row t_int true 1 (m.map I), .row t_int true 1 [], .row t_int true 1 (d.map I), .row t_impl_Trans false 3 (n.tr.map encT)]⟩ ∧ d.length = k) ?_ ?_ ?_
      · refine ⟨[], ?_, rfl⟩
        simp (maxSteps := 2000000) (disch := (first | omega | (simp only [List.length_append, List.length_take, List.length_replicate, List.length_map, List.length_set, List.length_cons, List.length_nil, List.length_zipWith, List.length_drop, List.length_range]; first | done | omega))) only [go_sem, Nat.reduceAdd, Nat.reduceEqDiff, Nat.reduceLeDiff, Nat.reduceSub]
        rfl
      · rintro k s hk ⟨d, rfl, rfl⟩
        simp (maxSteps := 2000000) (disch := (first | omega | (simp only [List.length_append, List.length_take, List.length_replicate, List.length_map, List.length_set, List.length_cons, List.length_nil, List.length_zipWith, List.length_drop, List.length_range]; first | done | omega))) only [go_sem, Nat.reduceAdd, Nat.reduceEqDiff, Nat.reduceLeDiff, Nat.reduceSub, e5]
        exact ⟨d ++ [_], by rw [List.map_append]; simp; rfl, by simp⟩
      · rintro s ⟨d, rfl, hd⟩
        cases hf : okFire n d t with
        | false => simp (maxSteps := 2000000) (disch := (first | omega | (simp only [List.length_append, List.length_take, List.length_replicate, List.length_map, List.length_set, List.length_cons, List.length_nil, List.length_zipWith, List.length_drop, List.length_range]; first | done | omega))) only [go_sem, Nat.reduceAdd, Nat.reduceEqDiff, Nat.reduceLeDiff, Nat.reduceSub, impl_Fire_f n d t hsn (by omega) hf]
        | true =>
          have hx := okFire_marked hf
          have hxl := firedM_len (trAt n t) d
          have hdm := okFire_marked' hf
          have c1 := impl_Covers_ok n.pl (firedM (trAt n t) d) m (by omega) (by omega)
          simp only [(marked_parts hx).2, hg.2, Bool.true_and, Bool.and_self] at c1
          cases hc : coversB (firedM (trAt n t) d) m with
          | false =>
            simp only [hc] at c1
            simp (maxSteps := 2000000) (disch := (first | omega | (simp only [List.length_append, List.length_take, List.length_replicate, List.length_map, List.length_set, List.length_cons, List.length_nil, List.length_zipWith, List.length_drop, List.length_range]; first | done | omega))) only [go_sem, Nat.reduceAdd, Nat.reduceEqDiff, Nat.reduceLeDiff, Nat.reduceSub, impl_Fire_t n d t hsn (by omega) hf, c1]
          | true =>
            obtain ⟨s1, s2⟩ := step_least hmk hf hc
            rw [hB] at s1; cases s1
end Go.Proofs.Ytngjepmopahgdaa.Pi
