/- The functions that the law reaches: what they answer. Conditions: those that each theorem names. -/
import Derived.Test.YtkkifebmicbbaaaGreatIrFnCase
import Derived.Test.YtkkifebmicbbaaaGreatPlFnCase
import Derived.Test.YtkkifebmicbbaaaGreatFnFnCase0
import Derived.Test.YtkkifebmicbbaaaGreatFnFnCase1
namespace Go.Proofs.YtkkifebmicbbaaaGreat.Pi
open Go
set_option linter.all false
open Nat (reduceAdd reduceEqDiff reduceLeDiff reduceSub)
set_option maxHeartbeats 40000000
set_option maxRecDepth 20000
theorem laws_FnCase_ok (a b : List Int) (ha2 : ∀ x ∈ a, 0 ≤ x ∧ x < 256) (hb2 : ∀ x ∈ b, 0 ≤ x ∧ x < 256) : C w8j [bys a, bys b] [] = some (.bool true, []) := by
  refine w1i ?_
  simp (maxSteps := 2000000) (disch := first | omega | (simp only [lenS]; try omega)) only [wdm, go_sem, reduceAdd, reduceEqDiff, reduceLeDiff, reduceSub]
  simp (maxSteps := 2000000) (disch := first | omega | (simp only [lenS]; try omega)) only [go_sem, reduceAdd, reduceEqDiff, reduceLeDiff, reduceSub, wfi]
  intro hbig
  simp only [Bool.or_eq_false_iff, decide_eq_false_iff_not] at hbig
  obtain ⟨_, e1, S, l, rfl, hS, hl⟩ := wg8 a (by omega) ha2
  obtain ⟨_, e2, u, rfl, hu⟩ := wg7 b (by omega) hb2
  obtain ⟨V, cn, gn, hV, hcn, zn, n1, n2⟩ := w6t u hu.sm
  have k1 := wfk ⟨zn, cn⟩ (by simp only; omega)
  have m1 := wam S l hS.sm (by omega)
  have m2 := wgg S l hS.sm (by omega)
  obtain ⟨⟨u1, u2⟩, ⟨u3, u4⟩, u5⟩ := hu
  cases hok : goodS S && decide (l.length ≤ 60) with
  | false =>
    rw [hok] at m1 m2
    simp only [Bool.false_eq_true, if_false, List.map_nil] at m1 m2
    have s1 := wfj [] (by simp)
    have s2 := wfk ⟨0, []⟩ (by simp)
    simp only [List.map_nil] at s1
    replace s2 : C w8m [.agg [I 0, .sl true 1 []], .agg [I 0, .sl true 1 []]] [] = some (.bool true, []) := s2
    obtain ⟨⟨t1, t2⟩, ⟨t3, t4⟩, t5⟩ := hS
    simp (maxSteps := 2000000) (disch := first | omega | (simp only [lenS]; try omega)) only [go_sem, reduceAdd, reduceEqDiff, reduceLeDiff, reduceSub, e1, m1, m2, s1, s2, bne_self_eq_false]
    rcases hV with rfl | ⟨rfl, rfl⟩
    · simp (maxSteps := 2000000) (disch := first | omega | (simp only [lenS]; try omega)) only [go_sem, reduceAdd, reduceEqDiff, reduceLeDiff, reduceSub, e2, n1, n2, k1, beq_self_eq_true]
      cases gn <;> simp
    · replace k1 : C w8m [.agg [I zn, .sl true 1 []], .agg [I zn, .sl true 1 []]] [] = some (.bool true, []) := k1
      simp (maxSteps := 2000000) (disch := first | omega | (simp only [lenS]; try omega)) only [go_sem, reduceAdd, reduceEqDiff, reduceLeDiff, reduceSub, e2, n1, n2, k1, beq_self_eq_true]
      cases gn <;> simp
  | true =>
    rw [hok] at m1 m2
    rw [if_pos rfl, if_pos rfl] at m1 m2
    rw [Bool.and_eq_true, decide_eq_true_eq] at hok
    obtain ⟨hg, h60⟩ := hok
    have hgd := zy9 (l := l) (zer (zhc hg)) l.length (Nat.le_refl _)
    have hdn := zye (s := S) (l := l) hg
    have hD := zya S (zeq S) l l.length (Nat.le_refl _)
    obtain ⟨c, o, kk, dd, w, W, hW, hw, a1, hc0⟩ := w6s S hS.sm hg
    have hml := zh2 (zgu hgd)
    obtain ⟨_, a2, hr⟩ := wak S (playK S (zeq S) l l.length).1 hS.sm (by omega)
    have a3 := wav (playK S (zeq S) l l.length).1.mark.length (playK S (zeq S) l l.length).1.mark (by omega)
    have a4 := waf S (playK S (zeq S) l l.length).1 hS.sm (by omega)
    have a5 : goodM ((playK S (zeq S) l l.length).1.mark.length : Int) (playK S (zeq S) l l.length).1.mark = true := by
      have := zgu hgd
      rwa [← hml.2.2.1] at this
    rw [a5] at a3
    rw [hg, hgd] at a4
    simp only [hg, hgd, Bool.and_self, if_true] at hr
    have h5 : (playK S (zeq S) l l.length).1.state ≠ 1 → movL S (playK S (zeq S) l l.length).1 = [] := fun h => by unfold movL; rw [if_neg h]
    have h6 := fun h => (hdn (hc0 h) l.length (Nat.le_refl _)).1
    have h7 := fun h => (hdn (hc0 h) l.length (Nat.le_refl _)).2
    have hmv : (movL S (playK S (zeq S) l l.length).1).length ≤ 60 := by
      have h2 := zrq (zhc hg) S.tasks.length (Nat.le_refl _)
      unfold movL
      split
      · have := List.length_filter_le (canM S (playK S (zeq S) l l.length).1) (mvS S)
        have h3 : (mvS S).length = (mvU S S.tasks.length).length := rfl
        have := (ztt (zhc hg)).2.1
        omega
      · simp
    have s1 := wfj (playK S (zeq S) l l.length).2 (by omega)
    have s2 := wfk (playK S (zeq S) l l.length).1 (by omega)
    have hsum := zh4 (zgu hgd)
    clear hdn hgd a5
    generalize movL S (playK S (zeq S) l l.length).1 = ML at *
    generalize playK S (zeq S) l l.length = Y at *
    obtain ⟨⟨st, mk⟩, D⟩ := Y
    simp only [if_true] at m1 m2 a2 a3 a4 h5 h6 h7 s1 s2 hml hD hsum
    generalize sumI mk = sm at *
    obtain ⟨⟨t1, t2⟩, ⟨t3, t4⟩, t5⟩ := hS
    rcases hW with rfl | ⟨rfl, rfl⟩
    · rcases hr with rfl | ⟨rfl, rfl⟩
      · by_cases hs1 : st = 1
        · subst hs1
          by_cases hc : c = 0
          · have hm0 : ¬ (ML.length : Int) = 0 := by
              have := h6 hc rfl
              intro h
              exact this (List.length_eq_zero_iff.1 (by omega))
            simp (maxSteps := 2000000) (disch := first | omega | (simp only [lenS]; try omega)) only [go_sem, reduceAdd, reduceEqDiff, reduceLeDiff, reduceSub, e1, m1, m2, s1, s2, a1, a2, a3, a4, bne_self_eq_false, hc, hm0]
            rcases hV with rfl | ⟨rfl, rfl⟩
            · simp (maxSteps := 2000000) (disch := first | omega | (simp only [lenS]; try omega)) only [go_sem, reduceAdd, reduceEqDiff, reduceLeDiff, reduceSub, e2, n1, n2, k1, beq_self_eq_true]
              cases gn <;> simp
            · replace k1 : C w8m [.agg [I zn, .sl true 1 []], .agg [I zn, .sl true 1 []]] [] = some (.bool true, []) := k1
              simp (maxSteps := 2000000) (disch := first | omega | (simp only [lenS]; try omega)) only [go_sem, reduceAdd, reduceEqDiff, reduceLeDiff, reduceSub, e2, n1, n2, k1, beq_self_eq_true]
              cases gn <;> simp
          · simp (maxSteps := 2000000) (disch := first | omega | (simp only [lenS]; try omega)) only [go_sem, reduceAdd, reduceEqDiff, reduceLeDiff, reduceSub, e1, m1, m2, s1, s2, a1, a2, a3, a4, bne_self_eq_false, hc]
            rcases hV with rfl | ⟨rfl, rfl⟩
            · simp (maxSteps := 2000000) (disch := first | omega | (simp only [lenS]; try omega)) only [go_sem, reduceAdd, reduceEqDiff, reduceLeDiff, reduceSub, e2, n1, n2, k1, beq_self_eq_true]
              cases gn <;> simp
            · replace k1 : C w8m [.agg [I zn, .sl true 1 []], .agg [I zn, .sl true 1 []]] [] = some (.bool true, []) := k1
              simp (maxSteps := 2000000) (disch := first | omega | (simp only [lenS]; try omega)) only [go_sem, reduceAdd, reduceEqDiff, reduceLeDiff, reduceSub, e2, n1, n2, k1, beq_self_eq_true]
              cases gn <;> simp
        · have h8 := h5 hs1
          subst h8
          by_cases hc : c = 0
          · by_cases hs2 : st = 2
            · have h9 := h7 hc hs2
              subst hs2
              subst h9
              simp (maxSteps := 2000000) (disch := first | omega | (simp only [lenS]; try omega)) only [go_sem, reduceAdd, reduceEqDiff, reduceLeDiff, reduceSub, e1, m1, m2, s1, s2, a1, a2, a3, a4, bne_self_eq_false, hc]
              rcases hV with rfl | ⟨rfl, rfl⟩
              · simp (maxSteps := 2000000) (disch := first | omega | (simp only [lenS]; try omega)) only [go_sem, reduceAdd, reduceEqDiff, reduceLeDiff, reduceSub, e2, n1, n2, k1, beq_self_eq_true]
                cases gn <;> simp
              · replace k1 : C w8m [.agg [I zn, .sl true 1 []], .agg [I zn, .sl true 1 []]] [] = some (.bool true, []) := k1
                simp (maxSteps := 2000000) (disch := first | omega | (simp only [lenS]; try omega)) only [go_sem, reduceAdd, reduceEqDiff, reduceLeDiff, reduceSub, e2, n1, n2, k1, beq_self_eq_true]
                cases gn <;> simp
            · simp (maxSteps := 2000000) (disch := first | omega | (simp only [lenS]; try omega)) only [go_sem, reduceAdd, reduceEqDiff, reduceLeDiff, reduceSub, e1, m1, m2, s1, s2, a1, a2, a3, a4, bne_self_eq_false, hc, hs1, hs2]
              rcases hV with rfl | ⟨rfl, rfl⟩
              · simp (maxSteps := 2000000) (disch := first | omega | (simp only [lenS]; try omega)) only [go_sem, reduceAdd, reduceEqDiff, reduceLeDiff, reduceSub, e2, n1, n2, k1, beq_self_eq_true]
                cases gn <;> simp
              · replace k1 : C w8m [.agg [I zn, .sl true 1 []], .agg [I zn, .sl true 1 []]] [] = some (.bool true, []) := k1
                simp (maxSteps := 2000000) (disch := first | omega | (simp only [lenS]; try omega)) only [go_sem, reduceAdd, reduceEqDiff, reduceLeDiff, reduceSub, e2, n1, n2, k1, beq_self_eq_true]
                cases gn <;> simp
          · simp (maxSteps := 2000000) (disch := first | omega | (simp only [lenS]; try omega)) only [go_sem, reduceAdd, reduceEqDiff, reduceLeDiff, reduceSub, e1, m1, m2, s1, s2, a1, a2, a3, a4, bne_self_eq_false, hc, hs1]
            rcases hV with rfl | ⟨rfl, rfl⟩
            · simp (maxSteps := 2000000) (disch := first | omega | (simp only [lenS]; try omega)) only [go_sem, reduceAdd, reduceEqDiff, reduceLeDiff, reduceSub, e2, n1, n2, k1, beq_self_eq_true]
              cases gn <;> simp
            · replace k1 : C w8m [.agg [I zn, .sl true 1 []], .agg [I zn, .sl true 1 []]] [] = some (.bool true, []) := k1
              simp (maxSteps := 2000000) (disch := first | omega | (simp only [lenS]; try omega)) only [go_sem, reduceAdd, reduceEqDiff, reduceLeDiff, reduceSub, e2, n1, n2, k1, beq_self_eq_true]
              cases gn <;> simp
      · by_cases hs1 : st = 1
        · subst hs1
          by_cases hc : c = 0
          · exact absurd rfl (h6 hc rfl)
          · simp (maxSteps := 2000000) (disch := first | omega | (simp only [lenS]; try omega)) only [go_sem, reduceAdd, reduceEqDiff, reduceLeDiff, reduceSub, e1, m1, m2, s1, s2, a1, a2, a3, a4, bne_self_eq_false, hc]
            rcases hV with rfl | ⟨rfl, rfl⟩
            · simp (maxSteps := 2000000) (disch := first | omega | (simp only [lenS]; try omega)) only [go_sem, reduceAdd, reduceEqDiff, reduceLeDiff, reduceSub, e2, n1, n2, k1, beq_self_eq_true]
              cases gn <;> simp
            · replace k1 : C w8m [.agg [I zn, .sl true 1 []], .agg [I zn, .sl true 1 []]] [] = some (.bool true, []) := k1
              simp (maxSteps := 2000000) (disch := first | omega | (simp only [lenS]; try omega)) only [go_sem, reduceAdd, reduceEqDiff, reduceLeDiff, reduceSub, e2, n1, n2, k1, beq_self_eq_true]
              cases gn <;> simp
        · by_cases hc : c = 0
          · by_cases hs2 : st = 2
            · have h9 := h7 hc hs2
              subst hs2
              subst h9
              simp (maxSteps := 2000000) (disch := first | omega | (simp only [lenS]; try omega)) only [go_sem, reduceAdd, reduceEqDiff, reduceLeDiff, reduceSub, e1, m1, m2, s1, s2, a1, a2, a3, a4, bne_self_eq_false, hc]
              rcases hV with rfl | ⟨rfl, rfl⟩
              · simp (maxSteps := 2000000) (disch := first | omega | (simp only [lenS]; try omega)) only [go_sem, reduceAdd, reduceEqDiff, reduceLeDiff, reduceSub, e2, n1, n2, k1, beq_self_eq_true]
                cases gn <;> simp
              · replace k1 : C w8m [.agg [I zn, .sl true 1 []], .agg [I zn, .sl true 1 []]] [] = some (.bool true, []) := k1
                simp (maxSteps := 2000000) (disch := first | omega | (simp only [lenS]; try omega)) only [go_sem, reduceAdd, reduceEqDiff, reduceLeDiff, reduceSub, e2, n1, n2, k1, beq_self_eq_true]
                cases gn <;> simp
            · simp (maxSteps := 2000000) (disch := first | omega | (simp only [lenS]; try omega)) only [go_sem, reduceAdd, reduceEqDiff, reduceLeDiff, reduceSub, e1, m1, m2, s1, s2, a1, a2, a3, a4, bne_self_eq_false, hc, hs1, hs2]
              rcases hV with rfl | ⟨rfl, rfl⟩
              · simp (maxSteps := 2000000) (disch := first | omega | (simp only [lenS]; try omega)) only [go_sem, reduceAdd, reduceEqDiff, reduceLeDiff, reduceSub, e2, n1, n2, k1, beq_self_eq_true]
                cases gn <;> simp
              · replace k1 : C w8m [.agg [I zn, .sl true 1 []], .agg [I zn, .sl true 1 []]] [] = some (.bool true, []) := k1
                simp (maxSteps := 2000000) (disch := first | omega | (simp only [lenS]; try omega)) only [go_sem, reduceAdd, reduceEqDiff, reduceLeDiff, reduceSub, e2, n1, n2, k1, beq_self_eq_true]
                cases gn <;> simp
          · simp (maxSteps := 2000000) (disch := first | omega | (simp only [lenS]; try omega)) only [go_sem, reduceAdd, reduceEqDiff, reduceLeDiff, reduceSub, e1, m1, m2, s1, s2, a1, a2, a3, a4, bne_self_eq_false, hc, hs1]
            rcases hV with rfl | ⟨rfl, rfl⟩
            · simp (maxSteps := 2000000) (disch := first | omega | (simp only [lenS]; try omega)) only [go_sem, reduceAdd, reduceEqDiff, reduceLeDiff, reduceSub, e2, n1, n2, k1, beq_self_eq_true]
              cases gn <;> simp
            · replace k1 : C w8m [.agg [I zn, .sl true 1 []], .agg [I zn, .sl true 1 []]] [] = some (.bool true, []) := k1
              simp (maxSteps := 2000000) (disch := first | omega | (simp only [lenS]; try omega)) only [go_sem, reduceAdd, reduceEqDiff, reduceLeDiff, reduceSub, e2, n1, n2, k1, beq_self_eq_true]
              cases gn <;> simp
    · rcases hr with rfl | ⟨rfl, rfl⟩
      · by_cases hs1 : st = 1
        · subst hs1
          by_cases hc : c = 0
          · have hm0 : ¬ (ML.length : Int) = 0 := by
              have := h6 hc rfl
              intro h
              exact this (List.length_eq_zero_iff.1 (by omega))
            simp (maxSteps := 2000000) (disch := first | omega | (simp only [lenS]; try omega)) only [go_sem, reduceAdd, reduceEqDiff, reduceLeDiff, reduceSub, e1, m1, m2, s1, s2, a1, a2, a3, a4, bne_self_eq_false, hc, hm0]
            rcases hV with rfl | ⟨rfl, rfl⟩
            · simp (maxSteps := 2000000) (disch := first | omega | (simp only [lenS]; try omega)) only [go_sem, reduceAdd, reduceEqDiff, reduceLeDiff, reduceSub, e2, n1, n2, k1, beq_self_eq_true]
              cases gn <;> simp
            · replace k1 : C w8m [.agg [I zn, .sl true 1 []], .agg [I zn, .sl true 1 []]] [] = some (.bool true, []) := k1
              simp (maxSteps := 2000000) (disch := first | omega | (simp only [lenS]; try omega)) only [go_sem, reduceAdd, reduceEqDiff, reduceLeDiff, reduceSub, e2, n1, n2, k1, beq_self_eq_true]
              cases gn <;> simp
          · simp (maxSteps := 2000000) (disch := first | omega | (simp only [lenS]; try omega)) only [go_sem, reduceAdd, reduceEqDiff, reduceLeDiff, reduceSub, e1, m1, m2, s1, s2, a1, a2, a3, a4, bne_self_eq_false, hc]
            rcases hV with rfl | ⟨rfl, rfl⟩
            · simp (maxSteps := 2000000) (disch := first | omega | (simp only [lenS]; try omega)) only [go_sem, reduceAdd, reduceEqDiff, reduceLeDiff, reduceSub, e2, n1, n2, k1, beq_self_eq_true]
              cases gn <;> simp
            · replace k1 : C w8m [.agg [I zn, .sl true 1 []], .agg [I zn, .sl true 1 []]] [] = some (.bool true, []) := k1
              simp (maxSteps := 2000000) (disch := first | omega | (simp only [lenS]; try omega)) only [go_sem, reduceAdd, reduceEqDiff, reduceLeDiff, reduceSub, e2, n1, n2, k1, beq_self_eq_true]
              cases gn <;> simp
        · have h8 := h5 hs1
          subst h8
          by_cases hc : c = 0
          · by_cases hs2 : st = 2
            · have h9 := h7 hc hs2
              subst hs2
              subst h9
              simp (maxSteps := 2000000) (disch := first | omega | (simp only [lenS]; try omega)) only [go_sem, reduceAdd, reduceEqDiff, reduceLeDiff, reduceSub, e1, m1, m2, s1, s2, a1, a2, a3, a4, bne_self_eq_false, hc]
              rcases hV with rfl | ⟨rfl, rfl⟩
              · simp (maxSteps := 2000000) (disch := first | omega | (simp only [lenS]; try omega)) only [go_sem, reduceAdd, reduceEqDiff, reduceLeDiff, reduceSub, e2, n1, n2, k1, beq_self_eq_true]
                cases gn <;> simp
              · replace k1 : C w8m [.agg [I zn, .sl true 1 []], .agg [I zn, .sl true 1 []]] [] = some (.bool true, []) := k1
                simp (maxSteps := 2000000) (disch := first | omega | (simp only [lenS]; try omega)) only [go_sem, reduceAdd, reduceEqDiff, reduceLeDiff, reduceSub, e2, n1, n2, k1, beq_self_eq_true]
                cases gn <;> simp
            · simp (maxSteps := 2000000) (disch := first | omega | (simp only [lenS]; try omega)) only [go_sem, reduceAdd, reduceEqDiff, reduceLeDiff, reduceSub, e1, m1, m2, s1, s2, a1, a2, a3, a4, bne_self_eq_false, hc, hs1, hs2]
              rcases hV with rfl | ⟨rfl, rfl⟩
              · simp (maxSteps := 2000000) (disch := first | omega | (simp only [lenS]; try omega)) only [go_sem, reduceAdd, reduceEqDiff, reduceLeDiff, reduceSub, e2, n1, n2, k1, beq_self_eq_true]
                cases gn <;> simp
              · replace k1 : C w8m [.agg [I zn, .sl true 1 []], .agg [I zn, .sl true 1 []]] [] = some (.bool true, []) := k1
                simp (maxSteps := 2000000) (disch := first | omega | (simp only [lenS]; try omega)) only [go_sem, reduceAdd, reduceEqDiff, reduceLeDiff, reduceSub, e2, n1, n2, k1, beq_self_eq_true]
                cases gn <;> simp
          · simp (maxSteps := 2000000) (disch := first | omega | (simp only [lenS]; try omega)) only [go_sem, reduceAdd, reduceEqDiff, reduceLeDiff, reduceSub, e1, m1, m2, s1, s2, a1, a2, a3, a4, bne_self_eq_false, hc, hs1]
            rcases hV with rfl | ⟨rfl, rfl⟩
            · simp (maxSteps := 2000000) (disch := first | omega | (simp only [lenS]; try omega)) only [go_sem, reduceAdd, reduceEqDiff, reduceLeDiff, reduceSub, e2, n1, n2, k1, beq_self_eq_true]
              cases gn <;> simp
            · replace k1 : C w8m [.agg [I zn, .sl true 1 []], .agg [I zn, .sl true 1 []]] [] = some (.bool true, []) := k1
              simp (maxSteps := 2000000) (disch := first | omega | (simp only [lenS]; try omega)) only [go_sem, reduceAdd, reduceEqDiff, reduceLeDiff, reduceSub, e2, n1, n2, k1, beq_self_eq_true]
              cases gn <;> simp
      · by_cases hs1 : st = 1
        · subst hs1
          by_cases hc : c = 0
          · exact absurd rfl (h6 hc rfl)
          · simp (maxSteps := 2000000) (disch := first | omega | (simp only [lenS]; try omega)) only [go_sem, reduceAdd, reduceEqDiff, reduceLeDiff, reduceSub, e1, m1, m2, s1, s2, a1, a2, a3, a4, bne_self_eq_false, hc]
            rcases hV with rfl | ⟨rfl, rfl⟩
            · simp (maxSteps := 2000000) (disch := first | omega | (simp only [lenS]; try omega)) only [go_sem, reduceAdd, reduceEqDiff, reduceLeDiff, reduceSub, e2, n1, n2, k1, beq_self_eq_true]
              cases gn <;> simp
            · replace k1 : C w8m [.agg [I zn, .sl true 1 []], .agg [I zn, .sl true 1 []]] [] = some (.bool true, []) := k1
              simp (maxSteps := 2000000) (disch := first | omega | (simp only [lenS]; try omega)) only [go_sem, reduceAdd, reduceEqDiff, reduceLeDiff, reduceSub, e2, n1, n2, k1, beq_self_eq_true]
              cases gn <;> simp
        · by_cases hc : c = 0
          · by_cases hs2 : st = 2
            · have h9 := h7 hc hs2
              subst hs2
              subst h9
              simp (maxSteps := 2000000) (disch := first | omega | (simp only [lenS]; try omega)) only [go_sem, reduceAdd, reduceEqDiff, reduceLeDiff, reduceSub, e1, m1, m2, s1, s2, a1, a2, a3, a4, bne_self_eq_false, hc]
              rcases hV with rfl | ⟨rfl, rfl⟩
              · simp (maxSteps := 2000000) (disch := first | omega | (simp only [lenS]; try omega)) only [go_sem, reduceAdd, reduceEqDiff, reduceLeDiff, reduceSub, e2, n1, n2, k1, beq_self_eq_true]
                cases gn <;> simp
              · replace k1 : C w8m [.agg [I zn, .sl true 1 []], .agg [I zn, .sl true 1 []]] [] = some (.bool true, []) := k1
                simp (maxSteps := 2000000) (disch := first | omega | (simp only [lenS]; try omega)) only [go_sem, reduceAdd, reduceEqDiff, reduceLeDiff, reduceSub, e2, n1, n2, k1, beq_self_eq_true]
                cases gn <;> simp
            · simp (maxSteps := 2000000) (disch := first | omega | (simp only [lenS]; try omega)) only [go_sem, reduceAdd, reduceEqDiff, reduceLeDiff, reduceSub, e1, m1, m2, s1, s2, a1, a2, a3, a4, bne_self_eq_false, hc, hs1, hs2]
              rcases hV with rfl | ⟨rfl, rfl⟩
              · simp (maxSteps := 2000000) (disch := first | omega | (simp only [lenS]; try omega)) only [go_sem, reduceAdd, reduceEqDiff, reduceLeDiff, reduceSub, e2, n1, n2, k1, beq_self_eq_true]
                cases gn <;> simp
              · replace k1 : C w8m [.agg [I zn, .sl true 1 []], .agg [I zn, .sl true 1 []]] [] = some (.bool true, []) := k1
                simp (maxSteps := 2000000) (disch := first | omega | (simp only [lenS]; try omega)) only [go_sem, reduceAdd, reduceEqDiff, reduceLeDiff, reduceSub, e2, n1, n2, k1, beq_self_eq_true]
                cases gn <;> simp
          · simp (maxSteps := 2000000) (disch := first | omega | (simp only [lenS]; try omega)) only [go_sem, reduceAdd, reduceEqDiff, reduceLeDiff, reduceSub, e1, m1, m2, s1, s2, a1, a2, a3, a4, bne_self_eq_false, hc, hs1]
            rcases hV with rfl | ⟨rfl, rfl⟩
            · simp (maxSteps := 2000000) (disch := first | omega | (simp only [lenS]; try omega)) only [go_sem, reduceAdd, reduceEqDiff, reduceLeDiff, reduceSub, e2, n1, n2, k1, beq_self_eq_true]
              cases gn <;> simp
            · replace k1 : C w8m [.agg [I zn, .sl true 1 []], .agg [I zn, .sl true 1 []]] [] = some (.bool true, []) := k1
              simp (maxSteps := 2000000) (disch := first | omega | (simp only [lenS]; try omega)) only [go_sem, reduceAdd, reduceEqDiff, reduceLeDiff, reduceSub, e2, n1, n2, k1, beq_self_eq_true]
              cases gn <;> simp
end Go.Proofs.YtkkifebmicbbaaaGreat.Pi
