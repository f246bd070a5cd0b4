/- The functions that the law reaches: what they answer. Conditions: those that each theorem names. -/
import Derived.Test.YtbaclnecajkknaaGreatIrFnBackward
import Derived.Test.YtbaclnecajkknaaGreatPlFnBackward
import Derived.Test.YtbaclnecajkknaaGreatFnFnBackward0
namespace Go.Proofs.YtbaclnecajkknaaGreat.Pi
open Go
set_option linter.all false
open Nat (reduceAdd reduceEqDiff reduceLeDiff reduceSub)
set_option maxHeartbeats 40000000
set_option maxRecDepth 20000
theorem wev {α : Type} [Inhabited α] (g : α → List Int) (cm : α → α → Int) (H : ∀ x y, C w7t [ints (g x), ints (g y)] [] = some (I (cm x y), [])) (t : TypeId) (d : Array α) (a b pv : Nat) (h1 : a ≤ pv) (h2 : pv < b) (hb : b ≤ d.size) (hs : d.size < 2^40) :
    C w8e [.ref 0 1 0 d.size, I a, I b, I pv, .clo w7t []] (.row t false 1 (d.toList.map fun x => ints (g x)) :: []) = some (.tup [I (Sort.partition (ltC cm) d a b pv).1, .bool (Sort.partition (ltC cm) d a b pv).2.1], .row t false 1 ((Sort.partition (ltC cm) d a b pv).2.2.toList.map fun x => ints (g x)) :: []) := by
  obtain ⟨n, hn⟩ : ∃ n : Nat, (b : Int) - 1 = n := ⟨b - 1, by omega⟩
  have w2 := z176 d (i := a) (by omega)
  have w3 := z176 d (i := pv) (by omega)
  have w4 := z17a (fun x => ints (g x)) d a pv
  have w6 := z179 (fun x => ints (g x)) d (i := a) (j := pv) d[pv]! (by omega) (by omega)
  generalize (if a = pv then d[pv]! else d[pv]!) = z at *
  generalize d[a]! = x at *
  generalize d[pv]! = y at *
  refine w1f ?_
  simp (maxSteps := 2000000) (disch := first | omega | (simp only [lenS]; try omega)) only [wcg, go_sem, reduceAdd, reduceEqDiff, reduceLeDiff, reduceSub]
  have e7 : d.toList.length = d.size := by simp
  simp (maxSteps := 2000000) (disch := first | omega | (simp only [lenS]; try omega)) only [go_sem, reduceAdd, reduceEqDiff, reduceLeDiff, reduceSub, w2, w3, w6, e7, hn]
  rw [← w4]
  have hq : (Sort.partition (ltC cm) d a b pv) = (let d := Sort.swp d a pv
    let i := Sort.scanUp (fun x => ltC cm x d[a]!) d (b - 1) (a + 1)
    let j := Sort.scanDown (fun x => !ltC cm x d[a]!) d i (b - 1)
    if i > j then (j, true, Sort.swp d j a) else
      let r := Sort.partLoop (ltC cm) a (i + 1) (j - 1) (Sort.swp d i j)
      (r.1, false, Sort.swp r.2 r.1 a)) := rfl
  rw [show b - 1 = n by omega] at hq
  simp only [] at hq
  have c4 : (Sort.swp d a pv).size = d.size := Sort.size_swp _ _ _
  generalize hE : Sort.swp d a pv = E at *
  clear w2 w3 w4 w6 x y z e7
  have e7 : E.toList.length = d.size := by simp [c4]
  have w1 := z176 E (i := a) (by omega)
  obtain ⟨i, hi⟩ : ∃ i, a + 1 = i := ⟨_, rfl⟩
  have hi' : (a : Int) + 1 = i := by omega
  rw [hi] at hq
  rw [hi']
  have c1 : a < i := by omega
  have c2 : i ≤ n + 2 := by omega
  have c3 : n < b := by omega
  clear hi hi' hE
  generalize n = j at *
  refine z1a (fun q s => ∃ u : Nat, i ≤ u ∧ u ≤ j + 2 ∧ q = j + 2 - u ∧ Sort.scanUp (fun x => ltC cm x E[a]!) E j u = Sort.scanUp (fun x => ltC cm x E[a]!) E j i ∧ s = ⟨[.ref 0 1 0 d.size, I a, .any, .any, .clo w7t [], .any, .any, I u, I j, .any, .any, .any, .any, .any, .any], .row t false 1 (E.toList.map fun x => ints (g x)) :: []⟩) (j + 2 - i) ?_ ?_
  · simp (maxSteps := 2000000) (disch := first | omega | (simp only [lenS]; try omega)) only [go_sem, reduceAdd, reduceEqDiff, reduceLeDiff, reduceSub]
    exact ⟨i, by omega, c2, rfl, rfl, rfl⟩
  · rintro q s ⟨u, u1, u2, rfl, u4, rfl⟩
    have s0 := z1fd (fun x => ltC cm x E[a]!) E (i := u) (j := j)
    have s1 := up_go (fun x => ltC cm x E[a]!) E (i := u) (j := j)
    by_cases huj : (u : Int) ≤ j
    · have w2 := z176 E (i := u) (by omega)
      by_cases hlt : cm E[u]! E[a]! < 0
      · have s2 := s1 (by omega) (by simp [hlt])
        generalize hA : E[a]! = A at *
        generalize E[u]! = x at *
        simp (maxSteps := 2000000) (disch := first | omega | (simp only [lenS]; try omega)) only [go_sem, reduceAdd, reduceEqDiff, reduceLeDiff, reduceSub, H, w1, w2, e7, huj, hlt]
        exact ⟨j + 2 - (u + 1), by omega, u + 1, by omega, by omega, rfl, by rw [← u4, s2], rfl⟩
      · have hup : Sort.scanUp (fun x => ltC cm x E[a]!) E j i = u := by rw [← u4]; exact s0 (.inr (by simp [hlt]))
        rw [hup] at hq
        clear s0 s1 u4 hup
        generalize hA : E[a]! = A at *
        generalize E[u]! = x at *
        simp (maxSteps := 2000000) (disch := first | omega | (simp only [lenS]; try omega)) only [go_sem, reduceAdd, reduceEqDiff, reduceLeDiff, reduceSub, H, w1, w2, e7, huj, hlt]
        clear w2 hlt x
        refine z1a (fun q s => ∃ v : Nat, v ≤ j ∧ u ≤ v + 2 ∧ q = v ∧ Sort.scanDown (fun x => !ltC cm x A) E u v = Sort.scanDown (fun x => !ltC cm x A) E u j ∧ s = ⟨[.ref 0 1 0 d.size, I a, .any, .any, .clo w7t [], .any, .any, I u, I v, .any, .any, .any, .any, .any, .any], .row t false 1 (E.toList.map fun x => ints (g x)) :: []⟩) j ?_ ?_
        · simp (maxSteps := 2000000) (disch := first | omega | (simp only [lenS]; try omega)) only [go_sem, reduceAdd, reduceEqDiff, reduceLeDiff, reduceSub]
          exact ⟨j, by omega, u2, rfl, rfl, rfl⟩
        · rintro q s ⟨v, v1, v2, rfl, v4, rfl⟩
          have s0 := zcd (fun x => !ltC cm x A) E (i := u) (j := q)
          have s1 := zce (fun x => !ltC cm x A) E (i := u) (j := q)
          by_cases huv : (u : Int) ≤ q
          · have w2 := z176 E (i := q) (by omega)
            obtain ⟨q', hq'⟩ : ∃ q' : Nat, (q : Int) - 1 = q' := ⟨q - 1, by omega⟩
            by_cases hl2 : cm E[q]! A < 0
            · have hdn : Sort.scanDown (fun x => !ltC cm x A) E u j = q := by rw [← v4]; exact s0 (.inr (by simp [hl2]))
              rw [hdn, if_neg (by omega), show q - 1 = q' by omega] at hq
              have w3 := z176 E (i := u) (by omega)
              have w4 := z17a (fun x => ints (g x)) E u q
              have w6 := z179 (fun x => ints (g x)) E (i := u) (j := q) E[q]! (by omega) (by omega)
              generalize (if u = q then E[q]! else E[q]!) = z at *
              generalize E[u]! = x at *
              generalize E[q]! = y at *
              simp (maxSteps := 2000000) (disch := first | omega | (simp only [lenS]; try omega)) only [go_sem, reduceAdd, reduceEqDiff, reduceLeDiff, reduceSub, H, w1, w2, w3, w6, e7, huv, hl2, hq']
              obtain ⟨I0, hI0⟩ : ∃ I0, u + 1 = I0 := ⟨_, rfl⟩
              obtain ⟨J0, hJ0⟩ : ∃ J0, q' = J0 := ⟨_, rfl⟩
              obtain ⟨E0, hE0⟩ : ∃ E0, Sort.swp E u q = E0 := ⟨_, rfl⟩
              have k0 : E0.size = d.size := by rw [← hE0, Sort.size_swp]; exact c4
              have w4' := w4
              rw [hE0] at w4'
              rw [hI0, hJ0, hE0] at hq
              have hr : (Sort.partition (ltC cm) d a b pv) = ((Sort.partLoop (ltC cm) a I0 J0 E0).1, false, Sort.swp (Sort.partLoop (ltC cm) a I0 J0 E0).2 (Sort.partLoop (ltC cm) a I0 J0 E0).1 a) := hq
              clear hq w1 w2 w3 w4 w6 e7 hdn
              have hb1 : a < I0 ∧ I0 ≤ J0 + 2 ∧ J0 < b ∧ a ≤ J0 := by omega
              clear hE0 c1 c2 c4 u1 u2 v1 v2 hl2 huv huj hA v4
              refine z1a (fun k s => ∃ (i j : Nat) (E : Array α), a < i ∧ i ≤ j + 2 ∧ j < b ∧ a ≤ j ∧ k = j + 1 - i ∧ E.size = d.size ∧ Sort.partLoop (ltC cm) a i j E = Sort.partLoop (ltC cm) a I0 J0 E0 ∧ s = ⟨[.ref 0 1 0 d.size, I a, .any, .any, .clo w7t [], .any, .any, I i, I j, .any, .any, .any, .any, .any, .any], .row t false 1 (E.toList.map fun x => ints (g x)) :: []⟩) (J0 + 1 - I0) ?_ ?_
              · simp (maxSteps := 2000000) (disch := first | omega | (simp only [lenS]; try omega)) only [go_sem, reduceAdd, reduceEqDiff, reduceLeDiff, reduceSub]
                exact ⟨I0, J0, E0, by omega, by omega, by omega, by omega, rfl, k0, rfl, by rw [w4', ← hI0, ← hJ0]; rfl⟩
              · rintro k s ⟨i, j, E, c1, c2, c3, c3', rfl, c4, c5, rfl⟩
                have hq := Sort.partLoop_eq (ltC cm) a i j E
                have e7 : E.toList.length = d.size := by simp [c4]
                have w1 := z176 E (i := a) (by omega)
                simp (maxSteps := 2000000) (disch := first | omega | (simp only [lenS]; try omega)) only [go_sem, reduceAdd, reduceEqDiff, reduceLeDiff, reduceSub]
                refine z1a (fun q s => ∃ u : Nat, i ≤ u ∧ u ≤ j + 2 ∧ q = j + 2 - u ∧ Sort.scanUp (fun x => ltC cm x E[a]!) E j u = Sort.scanUp (fun x => ltC cm x E[a]!) E j i ∧ s = ⟨[.ref 0 1 0 d.size, I a, .any, .any, .clo w7t [], .any, .any, I u, I j, .any, .any, .any, .any, .any, .any], .row t false 1 (E.toList.map fun x => ints (g x)) :: []⟩) (j + 2 - i) ?_ ?_
                · simp (maxSteps := 2000000) (disch := first | omega | (simp only [lenS]; try omega)) only [go_sem, reduceAdd, reduceEqDiff, reduceLeDiff, reduceSub]
                  exact ⟨i, by omega, c2, rfl, rfl, rfl⟩
                · rintro q s ⟨u, u1, u2, rfl, u4, rfl⟩
                  have s0 := z1fd (fun x => ltC cm x E[a]!) E (i := u) (j := j)
                  have s1 := up_go (fun x => ltC cm x E[a]!) E (i := u) (j := j)
                  by_cases huj : (u : Int) ≤ j
                  · have w2 := z176 E (i := u) (by omega)
                    by_cases hlt : cm E[u]! E[a]! < 0
                    · have s2 := s1 (by omega) (by simp [hlt])
                      generalize hA : E[a]! = A at *
                      generalize E[u]! = x at *
                      simp (maxSteps := 2000000) (disch := first | omega | (simp only [lenS]; try omega)) only [go_sem, reduceAdd, reduceEqDiff, reduceLeDiff, reduceSub, H, w1, w2, e7, huj, hlt]
                      exact ⟨j + 2 - (u + 1), by omega, u + 1, by omega, by omega, rfl, by rw [← u4, s2], rfl⟩
                    · have hup : Sort.scanUp (fun x => ltC cm x E[a]!) E j i = u := by rw [← u4]; exact s0 (.inr (by simp [hlt]))
                      rw [hup] at hq
                      clear s0 s1 u4 hup
                      generalize hA : E[a]! = A at *
                      generalize E[u]! = x at *
                      simp (maxSteps := 2000000) (disch := first | omega | (simp only [lenS]; try omega)) only [go_sem, reduceAdd, reduceEqDiff, reduceLeDiff, reduceSub, H, w1, w2, e7, huj, hlt]
                      clear w2 hlt x
                      refine z1a (fun q s => ∃ v : Nat, v ≤ j ∧ u ≤ v + 2 ∧ q = v ∧ Sort.scanDown (fun x => !ltC cm x A) E u v = Sort.scanDown (fun x => !ltC cm x A) E u j ∧ s = ⟨[.ref 0 1 0 d.size, I a, .any, .any, .clo w7t [], .any, .any, I u, I v, .any, .any, .any, .any, .any, .any], .row t false 1 (E.toList.map fun x => ints (g x)) :: []⟩) j ?_ ?_
                      · simp (maxSteps := 2000000) (disch := first | omega | (simp only [lenS]; try omega)) only [go_sem, reduceAdd, reduceEqDiff, reduceLeDiff, reduceSub]
                        exact ⟨j, by omega, u2, rfl, rfl, rfl⟩
                      · rintro q s ⟨v, v1, v2, rfl, v4, rfl⟩
                        have s0 := zcd (fun x => !ltC cm x A) E (i := u) (j := q)
                        have s1 := zce (fun x => !ltC cm x A) E (i := u) (j := q)
                        by_cases huv : (u : Int) ≤ q
                        · have w2 := z176 E (i := q) (by omega)
                          obtain ⟨q', hq'⟩ : ∃ q' : Nat, (q : Int) - 1 = q' := ⟨q - 1, by omega⟩
                          by_cases hl2 : cm E[q]! A < 0
                          · have hdn : Sort.scanDown (fun x => !ltC cm x A) E u j = q := by rw [← v4]; exact s0 (.inr (by simp [hl2]))
                            rw [hdn, if_neg (by omega), show q - 1 = q' by omega] at hq
                            have w3 := z176 E (i := u) (by omega)
                            have w4 := z17a (fun x => ints (g x)) E u q
                            have w6 := z179 (fun x => ints (g x)) E (i := u) (j := q) E[q]! (by omega) (by omega)
                            generalize (if u = q then E[q]! else E[q]!) = z at *
                            generalize E[u]! = x at *
                            generalize E[q]! = y at *
                            simp (maxSteps := 2000000) (disch := first | omega | (simp only [lenS]; try omega)) only [go_sem, reduceAdd, reduceEqDiff, reduceLeDiff, reduceSub, H, w1, w2, w3, w6, e7, huv, hl2, hq']
                            exact ⟨q' + 1 - (u + 1), by omega, u + 1, q', Sort.swp E u q, by omega, by omega, by omega, by omega, rfl, by rw [Sort.size_swp]; exact c4, by rw [← c5]; exact hq.symm, by rw [w4]; rfl⟩
                          · have s2 := s1 (by omega) (by omega) (by simp [hl2])
                            rw [show q - 1 = q' by omega] at s2
                            generalize E[q]! = y at *
                            simp (maxSteps := 2000000) (disch := first | omega | (simp only [lenS]; try omega)) only [go_sem, reduceAdd, reduceEqDiff, reduceLeDiff, reduceSub, H, w1, w2, e7, huv, hl2, hq']
                            exact ⟨q', by omega, q', by omega, by omega, rfl, by rw [← v4, s2], rfl⟩
                        · have hdn : Sort.scanDown (fun x => !ltC cm x A) E u j = q := by rw [← v4]; exact s0 (.inl (by omega))
                          rw [hdn, if_pos (by omega)] at hq
                          have w2 := z176 E (i := q) (by omega)
                          have w4 := z17a (fun x => ints (g x)) E q a
                          have w6 := z179 (fun x => ints (g x)) E (i := q) (j := a) A (by omega) (by omega)
                          rw [hA] at w4
                          generalize (if q = a then A else E[a]!) = z at *
                          generalize E[q]! = y at *
                          simp (maxSteps := 2000000) (disch := first | omega | (simp only [lenS]; try omega)) only [go_sem, reduceAdd, reduceEqDiff, reduceLeDiff, reduceSub, huv, w1, w2, w6, e7]
                          rw [hr, ← c5, hq, w4]
                  · have hup : Sort.scanUp (fun x => ltC cm x E[a]!) E j i = u := by rw [← u4]; exact s0 (.inl (by omega))
                    rw [hup] at hq
                    clear s0 s1 u4 hup
                    simp (maxSteps := 2000000) (disch := first | omega | (simp only [lenS]; try omega)) only [go_sem, reduceAdd, reduceEqDiff, reduceLeDiff, reduceSub, huj]
                    generalize hA : E[a]! = A at *
                    refine z1a (fun q s => ∃ v : Nat, v ≤ j ∧ u ≤ v + 2 ∧ q = v ∧ Sort.scanDown (fun x => !ltC cm x A) E u v = Sort.scanDown (fun x => !ltC cm x A) E u j ∧ s = ⟨[.ref 0 1 0 d.size, I a, .any, .any, .clo w7t [], .any, .any, I u, I v, .any, .any, .any, .any, .any, .any], .row t false 1 (E.toList.map fun x => ints (g x)) :: []⟩) j ?_ ?_
                    · simp (maxSteps := 2000000) (disch := first | omega | (simp only [lenS]; try omega)) only [go_sem, reduceAdd, reduceEqDiff, reduceLeDiff, reduceSub]
                      exact ⟨j, by omega, u2, rfl, rfl, rfl⟩
                    · rintro q s ⟨v, v1, v2, rfl, v4, rfl⟩
                      have s0 := zcd (fun x => !ltC cm x A) E (i := u) (j := q)
                      have huv : ¬ (u : Int) ≤ q := by omega
                      have hdn : Sort.scanDown (fun x => !ltC cm x A) E u j = q := by rw [← v4]; exact s0 (.inl (by omega))
                      rw [hdn, if_pos (by omega)] at hq
                      have w2 := z176 E (i := q) (by omega)
                      have w4 := z17a (fun x => ints (g x)) E q a
                      have w6 := z179 (fun x => ints (g x)) E (i := q) (j := a) A (by omega) (by omega)
                      rw [hA] at w4
                      generalize (if q = a then A else E[a]!) = z at *
                      generalize E[q]! = y at *
                      simp (maxSteps := 2000000) (disch := first | omega | (simp only [lenS]; try omega)) only [go_sem, reduceAdd, reduceEqDiff, reduceLeDiff, reduceSub, huv, w1, w2, w6, e7]
                      rw [hr, ← c5, hq, w4]
            · have s2 := s1 (by omega) (by omega) (by simp [hl2])
              rw [show q - 1 = q' by omega] at s2
              generalize E[q]! = y at *
              simp (maxSteps := 2000000) (disch := first | omega | (simp only [lenS]; try omega)) only [go_sem, reduceAdd, reduceEqDiff, reduceLeDiff, reduceSub, H, w1, w2, e7, huv, hl2, hq']
              exact ⟨q', by omega, q', by omega, by omega, rfl, by rw [← v4, s2], rfl⟩
          · have hdn : Sort.scanDown (fun x => !ltC cm x A) E u j = q := by rw [← v4]; exact s0 (.inl (by omega))
            rw [hdn, if_pos (by omega)] at hq
            have w2 := z176 E (i := q) (by omega)
            have w4 := z17a (fun x => ints (g x)) E q a
            have w6 := z179 (fun x => ints (g x)) E (i := q) (j := a) A (by omega) (by omega)
            rw [hA] at w4
            generalize (if q = a then A else E[a]!) = z at *
            generalize E[q]! = y at *
            simp (maxSteps := 2000000) (disch := first | omega | (simp only [lenS]; try omega)) only [go_sem, reduceAdd, reduceEqDiff, reduceLeDiff, reduceSub, huv, w1, w2, w6, e7]
            rw [hq, w4]
    · have hup : Sort.scanUp (fun x => ltC cm x E[a]!) E j i = u := by rw [← u4]; exact s0 (.inl (by omega))
      rw [hup] at hq
      clear s0 s1 u4 hup
      simp (maxSteps := 2000000) (disch := first | omega | (simp only [lenS]; try omega)) only [go_sem, reduceAdd, reduceEqDiff, reduceLeDiff, reduceSub, huj]
      generalize hA : E[a]! = A at *
      refine z1a (fun q s => ∃ v : Nat, v ≤ j ∧ u ≤ v + 2 ∧ q = v ∧ Sort.scanDown (fun x => !ltC cm x A) E u v = Sort.scanDown (fun x => !ltC cm x A) E u j ∧ s = ⟨[.ref 0 1 0 d.size, I a, .any, .any, .clo w7t [], .any, .any, I u, I v, .any, .any, .any, .any, .any, .any], .row t false 1 (E.toList.map fun x => ints (g x)) :: []⟩) j ?_ ?_
      · simp (maxSteps := 2000000) (disch := first | omega | (simp only [lenS]; try omega)) only [go_sem, reduceAdd, reduceEqDiff, reduceLeDiff, reduceSub]
        exact ⟨j, by omega, u2, rfl, rfl, rfl⟩
      · rintro q s ⟨v, v1, v2, rfl, v4, rfl⟩
        have s0 := zcd (fun x => !ltC cm x A) E (i := u) (j := q)
        have huv : ¬ (u : Int) ≤ q := by omega
        have hdn : Sort.scanDown (fun x => !ltC cm x A) E u j = q := by rw [← v4]; exact s0 (.inl (by omega))
        rw [hdn, if_pos (by omega)] at hq
        have w2 := z176 E (i := q) (by omega)
        have w4 := z17a (fun x => ints (g x)) E q a
        have w6 := z179 (fun x => ints (g x)) E (i := q) (j := a) A (by omega) (by omega)
        rw [hA] at w4
        generalize (if q = a then A else E[a]!) = z at *
        generalize E[q]! = y at *
        simp (maxSteps := 2000000) (disch := first | omega | (simp only [lenS]; try omega)) only [go_sem, reduceAdd, reduceEqDiff, reduceLeDiff, reduceSub, huv, w1, w2, w6, e7]
        rw [hq, w4]
theorem wex {α : Type} [Inhabited α] (g : α → List Int) (cm : α → α → Int) (H : ∀ x y, C w7t [ints (g x), ints (g y)] [] = some (I (cm x y), [])) (hw : Sort.SWO (ltC cm)) (t : TypeId) : ∀ (n : Nat) (d : Array α) (a b : Nat) (lim : Int), b - a ≤ n → a ≤ b → b ≤ d.size → d.size < 65536 → 0 ≤ lim ∧ lim < 2^40 → Sort.Below (ltC cm) a b d →
    Lw (C w8g [.ref 0 1 0 d.size, I a, I b, I lim, .clo w7t []] (.row t false 1 (d.toList.map fun x => ints (g x)) :: [])) fun r => ∃ E : Array α, r = (.tup [], .row t false 1 (E.toList.map fun x => ints (g x)) :: []) ∧ Sort.PermIn a b d E ∧ Sort.SortedIn (ltC cm) a b E := by
  intro n
  induction n using Nat.strongRecOn with
  | _ n IH =>
  intro d a b lim hn hab hb hs hlim hB
  refine w2k ?_
  simp (maxSteps := 2000000) (disch := first | omega | (simp only [lenS]; try omega)) only [wci, go_sem, reduceAdd, reduceEqDiff, reduceLeDiff, reduceSub]
  refine z1a (fun k s => ∃ (a' b' : Nat) (lim' : Int) (E : Array α) (wb wp : Bool), k = b' - a' ∧ a' ≤ b' ∧ b' - a' ≤ n ∧ b' ≤ d.size ∧ E.size = d.size ∧ (0 ≤ lim' ∧ lim' < 2^40) ∧ Sort.Below (ltC cm) a' b' E ∧ (∀ R, Sort.PermIn a' b' E R → Sort.SortedIn (ltC cm) a' b' R → Sort.PermIn a b d R ∧ Sort.SortedIn (ltC cm) a b R) ∧ s = ⟨[.ref 0 1 0 d.size, I a', I b', I lim', .clo w7t [], .bool wb, .bool wp, .any, .any, .any, .any, .any, .any, .any, .any, .any, .any, .any, .any, .any, .any, .any, .any, .any], .row t false 1 (E.toList.map fun x => ints (g x)) :: []⟩) (b - a) ?_ ?_
  · simp (maxSteps := 2000000) (disch := first | omega | (simp only [lenS]; try omega)) only [go_sem, reduceAdd, reduceEqDiff, reduceLeDiff, reduceSub]
    exact ⟨a, b, lim, d, true, true, rfl, hab, hn, hb, rfl, hlim, hB, fun R h1 h2 => ⟨h1, h2⟩, rfl⟩
  · rintro k s ⟨a', b', lim', E, wb, wp, rfl, a1, a2, a3, a4, a5, a6, a7, rfl⟩
    clear hB hn hab hb hlim
    obtain ⟨L, hL⟩ : ∃ L : Nat, (b' : Int) - (a' : Int) = L := ⟨b' - a', by omega⟩
    by_cases h12 : (L : Int) ≤ 12
    · have e1 := wep g cm H t E a' b' a1 (by omega) (by omega)
      rw [a4] at e1
      obtain ⟨i1, i2⟩ := Sort.insertionSort_holds hw E a' b' a1 (by omega)
      generalize Sort.insertionSort (ltC cm) E a' b' = R at *
      simp (maxSteps := 2000000) (disch := first | omega | (simp only [lenS]; try omega)) only [go_sem, reduceAdd, reduceEqDiff, reduceLeDiff, reduceSub, hL, h12, e1]
      exact ⟨R, rfl, a7 R i1 i2⟩
    by_cases hl0 : lim' = 0
    · have e1 := weo g cm H t E a' b' a1 (by omega) (by omega)
      rw [a4] at e1
      obtain ⟨i1, i2⟩ := Sort.heapSort_holds hw E a' b' a1 (by omega)
      generalize Sort.heapSort (ltC cm) E a' b' = R at *
      subst hl0
      simp (maxSteps := 2000000) (disch := first | omega | (simp only [lenS]; try omega)) only [go_sem, reduceAdd, reduceEqDiff, reduceLeDiff, reduceSub, hL, h12, e1]
      exact ⟨R, rfl, a7 R i1 i2⟩
    refine z16 (W_seq (W.mono (Q := fun o => o = .next ⟨[.ref 0 1 0 d.size, I a', I b', I lim', .clo w7t [], .bool wb, .bool wp, I L, .any, .any, .any, .any, .any, .any, .any, .any, .any, .any, .any, .any, .any, .any, .any, .any], .row t false 1 (E.toList.map fun x => ints (g x)) :: []⟩) ?_ ?_))
    · simp (maxSteps := 2000000) (disch := first | omega | (simp only [lenS]; try omega)) only [go_sem, reduceAdd, reduceEqDiff, reduceLeDiff, reduceSub, hL]
    rintro _ rfl
    refine W_seq (W.mono (Q := fun o => o = .next ⟨[.ref 0 1 0 d.size, I a', I b', I lim', .clo w7t [], .bool wb, .bool wp, I L, .any, .any, .any, .any, .any, .any, .any, .any, .bool false, .any, .any, .any, .any, .any, .any, .any], .row t false 1 (E.toList.map fun x => ints (g x)) :: []⟩) ?_ ?_)
    · simp (maxSteps := 2000000) (disch := first | omega | (simp only [lenS]; try omega)) only [go_sem, reduceAdd, reduceEqDiff, reduceLeDiff, reduceSub, h12]
    rintro _ rfl
    refine W_seq (W.mono (Q := fun o => o = .next ⟨[.ref 0 1 0 d.size, I a', I b', I lim', .clo w7t [], .bool wb, .bool wp, I L, .any, .any, .any, .any, .any, .any, .any, .any, .bool false, .bool false, .any, .any, .any, .any, .any, .any], .row t false 1 (E.toList.map fun x => ints (g x)) :: []⟩) ?_ ?_)
    · simp (maxSteps := 2000000) (disch := first | omega | (simp only [lenS]; try omega)) only [go_sem, reduceAdd, reduceEqDiff, reduceLeDiff, reduceSub, hl0]
    rintro _ rfl
    refine W_seq (W.mono (Q := fun o => ∃ (E1 : Array α) (lim1 : Int), Sort.PermIn a' b' E E1 ∧ (0 ≤ lim1 ∧ lim1 < 2^40) ∧ o = .next ⟨[.ref 0 1 0 d.size, I a', I b', I lim1, .clo w7t [], .bool wb, .bool wp, I L, .any, .any, .any, .any, .any, .any, .any, .any, .bool false, .bool false, .bool !wb, .any, .any, .any, .any, .any], .row t false 1 (E1.toList.map fun x => ints (g x)) :: []⟩) ?_ ?_)
    · cases wb with
      | true =>
        simp (maxSteps := 2000000) (disch := first | omega | (simp only [lenS]; try omega)) only [go_sem, reduceAdd, reduceEqDiff, reduceLeDiff, reduceSub]
        exact ⟨E, lim', Sort.permIn_refl E a' b', a5, rfl⟩
      | false =>
        obtain ⟨_, e1, E1, rfl, p1⟩ := wem g cm H t E a' b' (by omega) (by omega) (by omega)
        rw [a4] at e1
        simp (maxSteps := 2000000) (disch := first | omega | (simp only [lenS]; try omega)) only [go_sem, reduceAdd, reduceEqDiff, reduceLeDiff, reduceSub, e1]
        exact ⟨E1, lim' - 1, p1, by omega, rfl⟩
    rintro _ ⟨E1, lim1, p1, a5', rfl⟩
    have s1 := z10d p1
    obtain ⟨_, e1, x, h, rfl, x1, x2, x3, x4⟩ := wen g cm H t E1 a' b' (by omega) (by omega) (by omega)
    rw [s1, a4] at e1
    refine W_seq (W.mono (Q := fun o => o = .next ⟨[.ref 0 1 0 d.size, I a', I b', I lim1, .clo w7t [], .bool wb, .bool wp, I L, I x, I h, .any, .any, .any, .any, .any, .any, .bool false, .bool false, .bool !wb, .any, .any, .any, .any, .any], .row t false 1 (E1.toList.map fun x => ints (g x)) :: []⟩) ?_ ?_)
    · simp (maxSteps := 2000000) (disch := first | omega | (simp only [lenS]; try omega)) only [go_sem, reduceAdd, reduceEqDiff, reduceLeDiff, reduceSub, e1]
    rintro _ rfl
    refine W_seq (W.mono (Q := fun o => ∃ (E2 : Array α) (pv : Nat) (h' : Int) (q : Bool), Sort.PermIn a' b' E E2 ∧ a' ≤ pv ∧ pv < b' ∧ o = .next ⟨[.ref 0 1 0 d.size, I a', I b', I lim1, .clo w7t [], .bool wb, .bool wp, I L, I pv, I h', .any, .any, .any, .any, .any, .any, .bool false, .bool false, .bool !wb, .bool q, .any, .any, .any, .any], .row t false 1 (E2.toList.map fun x => ints (g x)) :: []⟩) ?_ ?_)
    · by_cases h2 : h = 2
      · subst h2
        obtain ⟨_, e2, E2, rfl, p2⟩ := wey g cm H t E1 a' b' (by omega) (by omega) (by omega)
        rw [s1, a4] at e2
        simp (maxSteps := 2000000) (disch := first | omega | (simp only [lenS]; try omega)) only [go_sem, reduceAdd, reduceEqDiff, reduceLeDiff, reduceSub, e2]
        exact ⟨E2, b' - 1 - (x - a'), 1, true, Sort.permIn_trans E E1 E2 a' b' p1 p2, by omega, by omega, by rw [show ((b' - 1 - (x - a') : Nat) : Int) = (b' : Int) - 1 - ((x : Int) - a') by omega]⟩
      · simp (maxSteps := 2000000) (disch := first | omega | (simp only [lenS]; try omega)) only [go_sem, reduceAdd, reduceEqDiff, reduceLeDiff, reduceSub, h2]
        exact ⟨E1, x, h, false, p1, x1, x2, rfl⟩
    rintro _ ⟨E2, pv, h', q, p2, v1, v2, rfl⟩
    have s2 := z10d p2
    have B2 := a6.permA Sort.permIn_all (by omega) p2
    refine W_seq (W.mono (Q := fun o => ∃ (E3 : Array α) (f : List PV), Sort.PermIn a' b' E E3 ∧ ((∃ z : PV, ∃ y : Bool, o = .next ⟨[.ref 0 1 0 d.size, I a', I b', I lim1, .clo w7t [], .bool wb, .bool wp, I L, I pv, I h', .any, .any, .any, .any, .any, .any, .bool false, .bool false, .bool !wb, .bool q, .bool y, z, .any, .any], .row t false 1 (E3.toList.map fun x => ints (g x)) :: []⟩) ∨ (Sort.SortedIn (ltC cm) a' b' E3 ∧ o = .ret ⟨f, .row t false 1 (E3.toList.map fun x => ints (g x)) :: []⟩))) ?_ ?_)
    · have e3 := weu g cm H t E2 a' b' (by omega) (by omega) (by omega)
      rw [s2, a4] at e3
      obtain ⟨i1, i2⟩ := Sort.partialInsertionSort_holds hw E2 a' b' (by omega) (by omega) B2
      generalize Sort.partialInsertionSort (ltC cm) E2 a' b' = R at *
      obtain ⟨R, w⟩ := R
      have i3 := Sort.permIn_trans E E2 R a' b' p2 i1
      simp only at e3 i2
      cases wb with
      | false =>
        simp (maxSteps := 2000000) (disch := first | omega | (simp only [lenS]; try omega)) only [go_sem, reduceAdd, reduceEqDiff, reduceLeDiff, reduceSub]
        exact ⟨E2, [], p2, .inl ⟨_, _, rfl⟩⟩
      | true => cases wp with
        | false =>
          simp (maxSteps := 2000000) (disch := first | omega | (simp only [lenS]; try omega)) only [go_sem, reduceAdd, reduceEqDiff, reduceLeDiff, reduceSub]
          exact ⟨E2, [], p2, .inl ⟨_, _, rfl⟩⟩
        | true =>
          by_cases h1 : h' = 1
          · subst h1
            cases w with
            | true =>
              simp (maxSteps := 2000000) (disch := first | omega | (simp only [lenS]; try omega)) only [go_sem, reduceAdd, reduceEqDiff, reduceLeDiff, reduceSub, e3]
              exact ⟨R, _, i3, .inr ⟨i2 rfl, rfl⟩⟩
            | false =>
              simp (maxSteps := 2000000) (disch := first | omega | (simp only [lenS]; try omega)) only [go_sem, reduceAdd, reduceEqDiff, reduceLeDiff, reduceSub, e3]
              exact ⟨R, [], i3, .inl ⟨_, _, rfl⟩⟩
          · simp (maxSteps := 2000000) (disch := first | omega | (simp only [lenS]; try omega)) only [go_sem, reduceAdd, reduceEqDiff, reduceLeDiff, reduceSub, h1]
            exact ⟨E2, [], p2, .inl ⟨_, _, rfl⟩⟩
    rintro _ ⟨E3, f, p3, ⟨z, y, rfl⟩ | ⟨sr, rfl⟩⟩
    · clear e1 p1 p2 s1 s2 B2
      have s3 := z10d p3
      have B3 := a6.permA Sort.permIn_all (by omega) p3
      have e7 : E3.toList.length = d.size := by simp [s3, a4]
      show W _ _ _ _ _
      refine W_seq (W.mono (Q := fun o => (o = .next ⟨[.ref 0 1 0 d.size, I a', I b', I lim1, .clo w7t [], .bool wb, .bool wp, I L, I pv, I h', .any, .any, .any, .any, .any, .any, .bool false, .bool false, .bool !wb, .bool q, .bool y, z, .bool false, .any], .row t false 1 (E3.toList.map fun x => ints (g x)) :: []⟩) ∨ (∃ (mid : Nat) (d4 : Array α), (a' < mid ∧ mid ≤ b' ∧ d4.size = E3.size ∧ Sort.Below (ltC cm) mid b' d4 ∧ ∀ R, Sort.PermIn mid b' d4 R → Sort.SortedIn (ltC cm) mid b' R → Sort.PermIn a' b' E3 R ∧ Sort.SortedIn (ltC cm) a' b' R) ∧ o = .exit 1 ⟨[.ref 0 1 0 d.size, I mid, I b', I lim1, .clo w7t [], .bool wb, .bool wp, I L, I pv, I h', I mid, .any, .any, .any, .any, .any, .bool false, .bool false, .bool !wb, .bool q, .bool y, z, .bool true, .any], .row t false 1 (d4.toList.map fun x => ints (g x)) :: []⟩)) ?_ ?_)
      · by_cases h0 : (0 : Int) < a'
        · obtain ⟨am, ham⟩ : ∃ am : Nat, (a' : Int) - 1 = am := ⟨a' - 1, by omega⟩
          have w1 := z176 E3 (i := am) (by omega)
          have w2 := z176 E3 (i := pv) (by omega)
          by_cases hlt : cm E3[am]! E3[pv]! < 0
          · generalize E3[am]! = x1 at *
            generalize E3[pv]! = x2 at *
            simp (maxSteps := 2000000) (disch := first | omega | (simp only [lenS]; try omega)) only [go_sem, reduceAdd, reduceEqDiff, reduceLeDiff, reduceSub, H, w1, w2, e7, ham, h0, hlt]
            first | exact .inl trivial | exact .inl rfl
          · have e4 := wew g cm H t E3 a' b' pv (by omega) (by omega) (by omega) (by omega)
            have hr := fun mid d4 hx => Sort.round_eq hw (Sort.partitionEqual_holds (ltC cm)) (d3 := E3) (d4 := d4) (a := a') (b := b') (pivot := pv) (mid := mid) (by omega) v1 v2 (by omega) B3 (by rw [show a' - 1 = am by omega]; simp [hlt]) hx
            generalize Sort.partitionEqual (ltC cm) E3 a' b' pv = Z at *
            obtain ⟨mid, d4⟩ := Z
            have hr := hr mid d4 rfl
            simp only [s3, a4] at e4
            generalize E3[am]! = x1 at *
            generalize E3[pv]! = x2 at *
            simp (maxSteps := 2000000) (disch := first | omega | (simp only [lenS]; try omega)) only [go_sem, reduceAdd, reduceEqDiff, reduceLeDiff, reduceSub, H, w1, w2, e7, ham, h0, hlt, e4]
            exact .inr ⟨mid, d4, hr, rfl⟩
        · simp (maxSteps := 2000000) (disch := first | omega | (simp only [lenS]; try omega)) only [go_sem, reduceAdd, reduceEqDiff, reduceLeDiff, reduceSub, h0]
          first | exact .inl trivial | exact .inl rfl
      rintro _ (rfl | ⟨mid, d4, ⟨r1, r2, r3, r4, r5⟩, rfl⟩)
      · have e4 := wev g cm H t E3 a' b' pv (by omega) (by omega) (by omega) (by omega)
        have hr := fun mid ap d4 hx => Sort.round_part hw (Sort.partition_holds (ltC cm)) (d3 := E3) (d4 := d4) (a := a') (b := b') (pivot := pv) (mid := mid) (ap := ap) v1 v2 (by omega) B3 hx
        generalize Sort.partition (ltC cm) E3 a' b' pv = Z at *
        obtain ⟨mid, ap, d4⟩ := Z
        obtain ⟨r1, r2, r3, r4, r5, r6, r7⟩ := hr mid ap d4 rfl
        simp only [s3, a4] at e4
        have r3' : d4.size = d.size := by omega
        obtain ⟨ll, hll⟩ : ∃ l : Nat, (mid : Int) - (a' : Int) = l := ⟨mid - a', by omega⟩
        obtain ⟨rl, hrl⟩ : ∃ l : Nat, (b' : Int) - (mid : Int) = l := ⟨b' - mid, by omega⟩
        obtain ⟨bt, hbt⟩ : ∃ l : Nat, (L : Int).tdiv 8 = l := ⟨L / 8, (Int.ofNat_tdiv L 8).symm⟩
        obtain ⟨mp, hmp⟩ : ∃ l : Nat, (mid : Int) + 1 = l := ⟨mid + 1, by omega⟩
        obtain rfl : mp = mid + 1 := by omega
        clear e7
        show W _ _ _ _ _
        by_cases hlr : (ll : Int) < rl
        · obtain ⟨_, e5, F5, rfl, q1, q2⟩ := IH (mid - a') (by omega) d4 a' mid lim1 (Nat.le_refl _) r1 (by omega) (by omega) (by omega) r4
          obtain ⟨q3, q4⟩ := r6 F5 q1 q2
          have q5 := z10d q1
          rw [r3'] at e5
          simp (maxSteps := 2000000) (disch := first | omega | (simp only [lenS]; try omega)) only [go_sem, reduceAdd, reduceEqDiff, reduceLeDiff, reduceSub, e4, hll, hrl, hbt, hlr, e5, hmp]
          refine ⟨fun _ => ⟨fun _ => ?_, fun _ => ?_⟩, fun _ => ⟨fun _ => ?_, fun _ => ?_⟩⟩
          all_goals exact ⟨b' - (mid + 1), by omega, mid + 1, b', lim1, F5, _, _, rfl, by omega, by omega, by omega, by omega, a5', q3, fun R h1 h2 => a7 R (Sort.permIn_trans E E3 R a' b' p3 (q4 R h1 h2).1) (q4 R h1 h2).2, rfl⟩
        · obtain ⟨_, e5, F5, rfl, q1, q2⟩ := IH (b' - (mid + 1)) (by omega) d4 (mid + 1) b' lim1 (Nat.le_refl _) (by omega) (by omega) (by omega) (by omega) r5
          obtain ⟨q3, q4⟩ := r7 F5 q1 q2
          have q5 := z10d q1
          rw [r3'] at e5
          simp (maxSteps := 2000000) (disch := first | omega | (simp only [lenS]; try omega)) only [go_sem, reduceAdd, reduceEqDiff, reduceLeDiff, reduceSub, e4, hll, hrl, hbt, hlr, e5, hmp]
          refine ⟨fun _ => ⟨fun _ => ?_, fun _ => ?_⟩, fun _ => ⟨fun _ => ?_, fun _ => ?_⟩⟩
          all_goals exact ⟨mid - a', by omega, a', mid, lim1, F5, _, _, rfl, by omega, by omega, by omega, by omega, a5', q3, fun R h1 h2 => a7 R (Sort.permIn_trans E E3 R a' b' p3 (q4 R h1 h2).1) (q4 R h1 h2).2, rfl⟩
      · simp (maxSteps := 2000000) (disch := first | omega | (simp only [lenS]; try omega)) only [go_sem, reduceAdd, reduceEqDiff, reduceLeDiff, reduceSub]
        exact ⟨b' - mid, by omega, mid, b', lim1, d4, wb, wp, rfl, by omega, by omega, by omega, by omega, a5', r4, fun R h1 h2 => a7 R (Sort.permIn_trans E E3 R a' b' p3 (r5 R h1 h2).1) (r5 R h1 h2).2, rfl⟩
    · simp (maxSteps := 2000000) (disch := first | omega | (simp only [lenS]; try omega)) only [go_sem, reduceAdd, reduceEqDiff, reduceLeDiff, reduceSub]
      exact ⟨E3, rfl, a7 E3 p3 sr⟩
theorem w6i (x : Int) : C w6q [I x] [] = some (.bool false, []) := by
  refine w01 ?_
  simp (maxSteps := 2000000) (disch := first | omega | (simp only [lenS]; try omega)) only [wat, go_sem, reduceAdd, reduceEqDiff, reduceLeDiff, reduceSub]
theorem w6h (x y : Int) : C w6p [I x, I y] [] = some (I (cmpI x y), []) := by
  refine w00 ?_
  simp (maxSteps := 2000000) (disch := first | omega | (simp only [lenS]; try omega)) only [war, go_sem, reduceAdd, reduceEqDiff, reduceLeDiff, reduceSub]
  simp (maxSteps := 2000000) (disch := first | omega | (simp only [lenS]; try omega)) only [go_sem, reduceAdd, reduceEqDiff, reduceLeDiff, reduceSub, w6i]
  unfold cmpI
  refine ⟨fun h => by rw [if_pos h], fun h => ⟨fun h2 => by rw [if_neg (by omega), if_pos h2], fun h2 => by rw [if_neg (by omega), if_neg (by omega)]⟩⟩
theorem wea (a b : List Int) (ha : a.length < 2^60) (hb : b.length < 2^60) : C w7t [ints a, ints b] [] = some (I (cmpL a b), []) := by
  refine w10 ?_
  simp (maxSteps := 2000000) (disch := first | omega | (simp only [lenS]; try omega)) only [wbv, go_sem, reduceAdd, reduceEqDiff, reduceLeDiff, reduceSub]
  refine W_for a.length (fun k s => s = ⟨[ints a, ints b, .any, .any, .any, .any, .any, ints a, I a.length, I k, .any, .any, .any, .any], []⟩ ∧ k ≤ b.length ∧ a.take k = b.take k) ?_ ?_ ?_
  · simp (maxSteps := 2000000) (disch := first | omega | (simp only [lenS]; try omega)) only [go_sem, reduceAdd, reduceEqDiff, reduceLeDiff, reduceSub]
    simp
  · rintro k s hk ⟨rfl, h1, h2⟩
    have e1 : a[k]? = some a[k] := List.getElem?_eq_getElem hk
    by_cases hkb : (b.length : Int) ≤ k
    · have := zae h2 hk (by omega)
      simp (maxSteps := 2000000) (disch := first | omega | (simp only [lenS]; try omega)) only [go_sem, reduceAdd, reduceEqDiff, reduceLeDiff, reduceSub, e1, hkb]
      rw [this]
    · have hkb2 : k < b.length := by omega
      have e2 : b[k]? = some b[k] := List.getElem?_eq_getElem hkb2
      have e3 := zaa h2 hk hkb2
      have e4 : cmpI a[k] b[k] = 0 → a.take (k + 1) = b.take (k + 1) := fun h => by rw [z1e0 hk, z1e0 hkb2, h2, za9 h]
      generalize a[k] = x at *
      generalize b[k] = y at *
      simp (maxSteps := 2000000) (disch := first | omega | (simp only [lenS]; try omega)) only [go_sem, reduceAdd, reduceEqDiff, reduceLeDiff, reduceSub, e1, e2, w6h, hkb]
      exact ⟨fun h => by rw [e3 h], fun h => ⟨rfl, by omega, e4 h⟩⟩
  · rintro s ⟨rfl, h1, h2⟩
    have := zac h2 h1
    simp (maxSteps := 2000000) (disch := first | omega | (simp only [lenS]; try omega)) only [go_sem, reduceAdd, reduceEqDiff, reduceLeDiff, reduceSub]
    rw [this]
    exact ⟨fun h => by rw [if_pos (by omega)], fun h => by rw [if_neg (by omega)]⟩
theorem wel (l : List (List Int)) (t : TypeId) (hx : ∀ x ∈ l, x.length < 2^40) (hs : l.length < 65536) :
    Lw (C w84 [.ref 0 1 0 l.length, .clo w7t []] [.row t false 1 (l.map ints)]) fun r => ∃ R : List (List Int), r = (.tup [], [.row t false 1 (R.map ints)]) ∧ R.Perm l ∧ R.Pairwise leL := by
  have : Inhabited {x : List Int // x.length < 2^40} := ⟨⟨[], by simp⟩⟩
  obtain ⟨d, hd⟩ : ∃ d : Array {x : List Int // x.length < 2^40}, d.toList.map (·.1) = l := ⟨(l.pmap (fun x h => ⟨x, h⟩) hx).toArray, by simp [List.map_pmap]⟩
  have hl : d.size = l.length := by rw [← hd]; simp
  have H : ∀ x y : {x : List Int // x.length < 2^40}, C w7t [ints x.1, ints y.1] [] = some (I (cmpL x.1 y.1), []) := fun x y => wea x.1 y.1 (by have := x.2; omega) (by have := y.2; omega)
  obtain ⟨_, e1, E, rfl, p1, p2⟩ := wex (fun x : {x : List Int // x.length < 2^40} => x.1) (fun x y => cmpL x.1 y.1) H (z1di fun _ _ => rfl) t d.size d 0 d.size (Sort.bitsLen d.size) (by omega) (by omega) (by omega) (by omega) ⟨by omega, by have := (Sort.bitsLen_le_iff d.size 16).2 (by omega); omega⟩ (.inl rfl)
  have e2 := we4 d.size (by omega)
  have e3 : IntKind.u64.wrap (d.size : Int) = d.size := by rw [IntKind.wrap_u64]; omega
  have hm : l.map ints = d.toList.map (fun x => ints x.1) := by rw [← hd, List.map_map]; rfl
  rw [hm, ← hl]
  rw [show ((0 : Nat) : Int) = 0 from rfl] at e1
  generalize Sort.bitsLen d.size = z at *
  refine w2e ?_
  simp (maxSteps := 2000000) (disch := first | omega | (simp only [lenS]; try omega)) only [wc6, go_sem, reduceAdd, reduceEqDiff, reduceLeDiff, reduceSub]
  simp (maxSteps := 2000000) (disch := first | omega | (simp only [lenS]; try omega)) only [go_sem, reduceAdd, reduceEqDiff, reduceLeDiff, reduceSub, e2, e3, e1]
  refine ⟨E.toList.map (·.1), by rw [List.map_map]; rfl, ?_, ?_⟩
  · rw [← hd]; exact (z10e p1).map _
  · rw [List.pairwise_map]
    have p3 := z10d p1
    rw [← p3] at p2
    refine (zzv p2).imp fun {x y} h => ?_
    exact zop (by simpa [ltC] using h)
theorem weg (a b : List Int) (hl : a.length < 2^62) : C w7z [ints a, ints b] [] = some (.bool (decide (a = b)), []) := by
  refine w16 ?_
  simp (maxSteps := 2000000) (disch := first | omega | (simp only [lenS]; try omega)) only [wc1, go_sem, reduceAdd, reduceEqDiff, reduceLeDiff, reduceSub]
  refine ⟨fun h => ?_, fun h => ?_⟩
  · have : a ≠ b := fun e => h (by rw [e])
    simp [this]
  refine W_for a.length (fun k s => s = ⟨[ints a, ints b, .any, .any, .any, I a.length, I k, .any, .any], []⟩ ∧ a.take k = b.take k) ?_ ?_ ?_
  · simp (maxSteps := 2000000) (disch := first | omega | (simp only [lenS]; try omega)) only [go_sem, reduceAdd, reduceEqDiff, reduceLeDiff, reduceSub]
    rfl
  · rintro k s hk ⟨rfl, hall⟩
    simp (maxSteps := 2000000) (disch := first | omega | (simp only [lenS]; try omega)) only [go_sem, reduceAdd, reduceEqDiff, reduceLeDiff, reduceSub]
    refine ⟨fun h => ?_, fun h => ⟨rfl, ?_⟩⟩
    · have : a ≠ b := fun e => h (by simp [e])
      simp [this]
    · rw [z1e0 hk, z1e0 (show k < b.length by omega), hall, h]
  · rintro s ⟨rfl, hall⟩
    simp (maxSteps := 2000000) (disch := first | omega | (simp only [lenS]; try omega)) only [go_sem, reduceAdd, reduceEqDiff, reduceLeDiff, reduceSub]
    rw [List.take_length, List.take_of_length_le (by omega)] at hall
    simp [hall]
theorem we9 (l : List (List Int)) (t : TypeId) (hx : ∀ x ∈ l, x.length < 2^40) (hs : l.length < 2^30) :
    Lw (C w7s [.ref 0 1 0 l.length, .clo w7z []] [.row t false 1 (l.map ints)]) fun r => ∃ Z : List PV, r = (.ref 0 1 0 (compL l).length, [.row t false 1 ((compL l).map ints ++ Z)]) ∧ (compL l).length + Z.length = l.length := by
  have hE : ∀ x ∈ l, ∀ y, C w7z [ints x, ints y] [] = some (.bool (decide (x = y)), []) := fun x h y => weg x y (by have := hx x h; omega)
  by_cases h2 : l.length < 2
  · have h3 : compL l = l := by
      rcases Nat.eq_zero_or_pos l.length with h | h
      · rw [List.length_eq_zero_iff.1 h]; rfl
      · have := z7r l
        rw [show l.length = 1 by omega, z7u h] at this
        rw [← this, List.take_of_length_le (by omega)]
    refine w2d ?_
    simp (maxSteps := 2000000) (disch := first | omega | (simp only [lenS]; try omega)) only [wbu, go_sem, reduceAdd, reduceEqDiff, reduceLeDiff, reduceSub]
    rw [h3]
    exact ⟨[], by simp, by simp⟩
  · refine w2d ?_
    simp (maxSteps := 2000000) (disch := first | omega | (simp only [lenS]; try omega)) only [wbu, go_sem, reduceAdd, reduceEqDiff, reduceLeDiff, reduceSub]
    refine z1a (fun q s => ∃ i : Nat, 0 < i ∧ i ≤ l.length ∧ q = l.length - i ∧ cK l i = l.take i ∧ s = ⟨[.ref 0 1 0 l.length, .clo w7z [], .any, I i, .any, .any, .any, .any, .any, .any, .any], [.row t false 1 (l.map ints)]⟩) (l.length - 1) ?_ ?_
    · simp (maxSteps := 2000000) (disch := first | omega | (simp only [lenS]; try omega)) only [go_sem, reduceAdd, reduceEqDiff, reduceLeDiff, reduceSub]
      exact ⟨1, by omega, by omega, rfl, z7u (by omega), rfl⟩
    · rintro q s ⟨i, i1, i2, rfl, i3, rfl⟩
      by_cases hi : (i : Int) < l.length
      · obtain ⟨i', hi'⟩ : ∃ i' : Nat, (i : Int) - 1 = i' := ⟨i - 1, by omega⟩
        have hil : i < l.length := by omega
        have k1 := z7v (l := l) i1 hil
        have k2 := z7s (l := l) i1 hil
        have e1 : l[i]? = some l[i] := List.getElem?_eq_getElem hil
        have hi1 : i' = i - 1 := by omega
        have e2 : l[i']? = some (l[i - 1]'(by omega)) := by simp only [hi1]; exact List.getElem?_eq_getElem _
        have e3 := hE l[i] (List.getElem_mem _) (l[i - 1]'(by omega))
        have e4 : l.take (i + 1) = l.take i ++ [l[i]] := List.take_succ_eq_append_getElem hil
        generalize l[i] = x at *
        generalize l[i - 1]'(by omega) = y at *
        by_cases hxy : x = y
        · simp only [hxy, decide_true] at e3
          subst hxy
          simp (maxSteps := 2000000) (disch := first | omega | (simp only [lenS]; try omega)) only [go_sem, reduceAdd, reduceEqDiff, reduceLeDiff, reduceSub, e1, e2, hi', hi, e3]
          have k3 := k1 rfl
          clear e1 e2 e3 e4 k2 k1
          refine z1a (fun q s => ∃ (k w : Nat) (M : List (List Int)), 1 ≤ k ∧ i + k ≤ l.length ∧ q = l.length - i - k ∧ M.length = l.length ∧ w + 1 ≤ i + k ∧ M.take w = cK l (i + k) ∧ (∀ j, i + k ≤ j + 1 → M[j]? = l[j]?) ∧ s = ⟨[.ref 0 1 0 l.length, .clo w7z [], .any, I w, .ref 0 1 i (l.length - i), I k, .any, .any, .any, .any, .any], [.row t false 1 (M.map ints)]⟩) (l.length - i - 1) ?_ ?_
          · simp (maxSteps := 2000000) (disch := first | omega | (simp only [lenS]; try omega)) only [go_sem, reduceAdd, reduceEqDiff, reduceLeDiff, reduceSub]
            exact ⟨1, i, l, by omega, by omega, rfl, rfl, by omega, by rw [k3, i3], fun _ _ => rfl, rfl⟩
          · rintro q s ⟨k, w, M, m1, m2, rfl, m3, m4, m5, m6, rfl⟩
            obtain ⟨L, hL⟩ : ∃ L : Nat, l.length - i = L := ⟨_, rfl⟩
            rw [hL]
            by_cases hk : (k : Int) < L
            · obtain ⟨k', hk'⟩ : ∃ k' : Nat, (k : Int) - 1 = k' := ⟨k - 1, by omega⟩
              have c1 := z7v (l := l) (k := i + k) (by omega) (by omega)
              have c2 := z7s (l := l) (k := i + k) (by omega) (by omega)
              have e1 : M[i + k]? = some (l[i + k]'(by omega)) := by rw [m6 _ (by omega)]; exact List.getElem?_eq_getElem _
              have e2 : M[i + k']? = some (l[i + k - 1]'(by omega)) := by
                have : i + k' = i + k - 1 := by omega
                rw [m6 _ (by omega)]; simp only [this]; exact List.getElem?_eq_getElem _
              have e3 := hE (l[i + k]'(by omega)) (List.getElem_mem _) (l[i + k - 1]'(by omega))
              have hw : w < M.length := by omega
              have e5 := z187 (x := l[i + k]'(by omega)) hw
              generalize l[i + k]'(by omega) = x at *
              generalize l[i + k - 1]'(by omega) = y at *
              by_cases hxy : x = y
              · simp only [hxy, decide_true] at e3
                subst hxy
                simp (maxSteps := 2000000) (disch := first | omega | (simp only [lenS]; try omega)) only [go_sem, reduceAdd, reduceEqDiff, reduceLeDiff, reduceSub, e1, e2, hk', hk, e3]
                exact ⟨L - (k + 1), by omega, k + 1, w, M, by omega, by omega, rfl, m3, by omega, by rw [← Nat.add_assoc, c1 rfl, m5], fun j hj => m6 j (by omega), rfl⟩
              · simp only [hxy, decide_false] at e3
                simp (maxSteps := 2000000) (disch := first | omega | (simp only [lenS]; try omega)) only [go_sem, reduceAdd, reduceEqDiff, reduceLeDiff, reduceSub, e1, e2, hk', hk, e3, m3]
                refine ⟨L - (k + 1), by omega, k + 1, w + 1, M.set w x, by omega, by omega, rfl, by simpa using m3, by omega, by rw [← Nat.add_assoc, c2 hxy, e5, m5], fun j hj => ?_, by rw [List.map_set]; rfl⟩
                rw [List.getElem?_set_ne (by omega)]
                exact m6 j (by omega)
            · have hw1 : w + (l.length - w) ≤ l.length := by omega
              have hok : okE false 1 (PV.nil true 1) = true := rfl
              have hc : compL l = M.take w := by rw [m5, show i + k = l.length by omega, z7r]
              have hd : List.drop (w + (List.replicate (l.length - w) (PV.nil true 1)).length) (M.map ints) = [] := List.drop_eq_nil_of_le (by simp; omega)
              have hcl : (compL l).length = w := by rw [hc]; simp; omega
              have hrl : (List.take w (M.map ints) ++ List.replicate (l.length - w) (PV.nil true 1)).length = l.length := by simp; omega
              simp (maxSteps := 2000000) (disch := first | omega | (simp only [lenS]; try omega)) only [go_sem, reduceAdd, reduceEqDiff, reduceLeDiff, reduceSub, hk, m3, hw1, hok, hd, List.append_nil, hrl]
              rw [hcl, hc]
              exact ⟨List.replicate (l.length - w) (.nil true 1), by rw [List.map_take]; rfl, by simp; omega⟩
        · simp only [hxy, decide_false] at e3
          simp (maxSteps := 2000000) (disch := first | omega | (simp only [lenS]; try omega)) only [go_sem, reduceAdd, reduceEqDiff, reduceLeDiff, reduceSub, e1, e2, hi', hi, e3]
          exact ⟨l.length - (i + 1), by omega, i + 1, by omega, by omega, rfl, by rw [k2 hxy, i3, e4], rfl⟩
      · have h3 : compL l = l := by
          rw [← z7r l, show l.length = i by omega, i3, List.take_of_length_le (by omega)]
        simp (maxSteps := 2000000) (disch := first | omega | (simp only [lenS]; try omega)) only [go_sem, reduceAdd, reduceEqDiff, reduceLeDiff, reduceSub, hi]
        rw [h3]
        exact ⟨[], by simp, by simp⟩
theorem wad (a b : List Int) (hl : a.length = b.length) (hb : b.length < 2^62) : C w78 [ints a, ints b] [] = some (.bool (zbg a b), []) := by
  refine w0j ?_
  simp (maxSteps := 2000000) (disch := first | omega | (simp only [lenS]; try omega)) only [wbc, go_sem, reduceAdd, reduceEqDiff, reduceLeDiff, reduceSub]
  refine W_for a.length (fun k s => s = ⟨[.any, ints b, .any, .any, .any, ints a, I a.length, I k, .any, .any], []⟩ ∧ ((a.zip b).take k).all (fun p => decide (p.2 ≤ p.1)) = true) ?_ ?_ ?_
  · simp (maxSteps := 2000000) (disch := first | omega | (simp only [lenS]; try omega)) only [go_sem, reduceAdd, reduceEqDiff, reduceLeDiff, reduceSub]
    rfl
  · rintro k s hk ⟨rfl, hall⟩
    simp (maxSteps := 2000000) (disch := first | omega | (simp only [lenS]; try omega)) only [go_sem, reduceAdd, reduceEqDiff, reduceLeDiff, reduceSub]
    have hz : k < (a.zip b).length := by simp; omega
    refine ⟨fun h => ?_, fun h => ⟨rfl, z2z hz hall (by simp; omega)⟩⟩
    have : zbg a b = false := z2y hz (by simp; omega)
    rw [this]
  · rintro s ⟨rfl, hall⟩
    simp (maxSteps := 2000000) (disch := first | omega | (simp only [lenS]; try omega)) only [go_sem, reduceAdd, reduceEqDiff, reduceLeDiff, reduceSub]
    rw [List.take_of_length_le (by simp; omega)] at hall
    unfold zbg
    rw [hall]
theorem wal (l : List (List Int)) (n : Nat) (hn : n < 2^30) (hx : ∀ x ∈ l, x.length = n) (hs : l.length < 65536) : C w7g [rows l] [] = some (.un wgp false 1 ((zow l).map ints), []) := by
  obtain ⟨_, e1, R, rfl, r1, r2⟩ := wel l wgp (fun x h => by have := hx x h; omega) hs
  have hRl : R.length = l.length := r1.length_eq
  obtain ⟨_, e2, Z, rfl, r3⟩ := we9 R wgp (fun x h => by have := hx x (r1.mem_iff.1 h); omega) (by omega)
  have hq := zox r1 r2
  have hp := zb7 R r2
  have hK : ∀ x ∈ compL R, x.length = n := fun x h => hx x (r1.mem_iff.1 ((zb5 R x).1 h))
  rw [hRl] at e2 r3
  generalize compL R = K at *
  generalize zow l = T at *
  subst hq
  obtain ⟨P, hP⟩ : ∃ P : List Int → Bool, (fun m => K.all fun x => !zbg m x || decide (m = x)) = P := ⟨_, rfl⟩
  rw [hP]
  have hne : ∀ i j, (hi : i < K.length) → (hj : j < K.length) → (K[i] = K[j] ↔ i = j) := fun i j hi hj => by
    constructor
    · intro h
      rcases Nat.lt_trichotomy i j with h1 | h1 | h1
      · have := List.pairwise_iff_getElem.1 hp i j hi hj h1
        rw [h] at this; exact absurd this zqz
      · exact h1
      · have := List.pairwise_iff_getElem.1 hp j i hj hi h1
        rw [h] at this; exact absurd this zqz
    · rintro rfl; rfl
  have hKl : K.length ≤ l.length := by omega
  refine w0r ?_
  simp (maxSteps := 2000000) (disch := first | omega | (simp only [lenS]; try omega)) only [wbk, go_sem, reduceAdd, reduceEqDiff, reduceLeDiff, reduceSub]
  simp (maxSteps := 2000000) (disch := first | omega | (simp only [lenS]; try omega)) only [go_sem, reduceAdd, reduceEqDiff, reduceLeDiff, reduceSub, we8, e1, e2]
  refine W_for K.length (fun i s => s = ⟨[.any, .any, .ref 0 1 0 K.length, .ref 1 1 0 ((K.take i).filter P).length, .any, .any, .any, .any, .any, .ref 0 1 0 K.length, I K.length, I i, .any, .any, .any, .any, .any, .any], [.row wgp false 1 (K.map ints ++ Z), .row wgp false 1 (((K.take i).filter P).map ints)]⟩) ?_ ?_ ?_
  · simp (maxSteps := 2000000) (disch := first | omega | (simp only [lenS]; try omega)) only [go_sem, reduceAdd, reduceEqDiff, reduceLeDiff, reduceSub]
    simp
  · rintro i s hi rfl
    have hxi := hK _ (List.getElem_mem hi)
    have e3 : (K.map ints ++ Z)[i]? = some (ints K[i]) := by rw [List.getElem?_append_left (by simpa using hi)]; simp [hi]
    have e4 : (K.take (i + 1)).filter P = (K.take i).filter P ++ (if P K[i] then [K[i]] else []) := by
      rw [List.take_succ_eq_append_getElem hi, List.filter_append]
      congr 1
      rw [List.filter_cons]; simp
    have e5 : P K[i] = K.all fun x => !zbg K[i] x || decide (K[i] = x) := by rw [← hP]
    have hfl : ((K.take i).filter P).length ≤ i := Nat.le_trans (List.length_filter_le _ _) (by simp; omega)
    have hne' := fun j hj => hne i j hi hj
    rw [e4]
    generalize (K.take i).filter P = A at *
    generalize K[i] = x at *
    simp (maxSteps := 2000000) (disch := first | omega | (simp only [lenS]; try omega)) only [go_sem, reduceAdd, reduceEqDiff, reduceLeDiff, reduceSub, e3]
    refine W_for K.length (fun k s => s = ⟨[.any, .any, .ref 0 1 0 K.length, .ref 1 1 0 A.length, I i, ints x, .bool ((K.take k).all fun y => !zbg x y || decide (x = y)), .any, .any, .ref 0 1 0 K.length, I K.length, I i, .any, .ref 0 1 0 K.length, I K.length, I k, .any, .any], [.row wgp false 1 (K.map ints ++ Z), .row wgp false 1 (A.map ints)]⟩) ?_ ?_ ?_
    · simp (maxSteps := 2000000) (disch := first | omega | (simp only [lenS]; try omega)) only [go_sem, reduceAdd, reduceEqDiff, reduceLeDiff, reduceSub]
      simp
    · rintro k s hk rfl
      have f1 := hK _ (List.getElem_mem hk)
      have f3 : (K.map ints ++ Z)[k]? = some (ints K[k]) := by rw [List.getElem?_append_left (by simpa using hk)]; simp [hk]
      have f4 := hne' k hk
      have f5 : ((K.take (k + 1)).all fun y => !zbg x y || decide (x = y)) = (((K.take k).all fun y => !zbg x y || decide (x = y)) && (!zbg x K[k] || decide (x = K[k]))) := by
        rw [List.take_succ_eq_append_getElem hk, List.all_append]; simp
      have f6 := wad x K[k] (by omega) (by omega)
      rw [f5]
      generalize ((K.take k).all fun y => !zbg x y || decide (x = y)) = B at *
      generalize K[k] = y at *
      generalize zbg x y = c at *
      rw [show decide (x = y) = decide (i = k) by simp [f4]]
      by_cases hik : (i : Int) = k
      · have : i = k := by omega
        subst this
        cases B <;> cases c <;> simp (maxSteps := 2000000) (disch := first | omega | (simp only [lenS]; try omega)) only [go_sem, reduceAdd, reduceEqDiff, reduceLeDiff, reduceSub, f3, f6]
        all_goals simp
      · have hik2 : ¬ i = k := by omega
        cases B <;> cases c <;> simp (maxSteps := 2000000) (disch := first | omega | (simp only [lenS]; try omega)) only [go_sem, reduceAdd, reduceEqDiff, reduceLeDiff, reduceSub, f3, f6, hik]
        all_goals simp [hik2]
    · rintro s rfl
      rw [List.take_length, ← e5]
      cases P x with
      | true =>
        simp (maxSteps := 2000000) (disch := first | omega | (simp only [lenS]; try omega)) only [go_sem, reduceAdd, reduceEqDiff, reduceLeDiff, reduceSub, we7]
        simp
      | false =>
        simp (maxSteps := 2000000) (disch := first | omega | (simp only [lenS]; try omega)) only [go_sem, reduceAdd, reduceEqDiff, reduceLeDiff, reduceSub]
        simp
  · rintro s rfl
    simp (maxSteps := 2000000) (disch := first | omega | (simp only [lenS]; try omega)) only [go_sem, reduceAdd, reduceEqDiff, reduceLeDiff, reduceSub]
    first | done | simp
theorem wef (a b : List (List Int)) (ha : a.length < 2^60) (hx : ∀ x ∈ a, x.length < 2^60) : C w7y [rows a, rows b, .clo w7z []] [] = some (.bool (decide (a = b)), []) := by
  refine w15 ?_
  simp (maxSteps := 2000000) (disch := first | omega | (simp only [lenS]; try omega)) only [wc0, go_sem, reduceAdd, reduceEqDiff, reduceLeDiff, reduceSub]
  refine ⟨fun h => ?_, fun h => ?_⟩
  · rw [decide_eq_false]
    intro e; subst e; exact h rfl
  have hlen : a.length = b.length := by omega
  refine W_for a.length (fun k s => s = ⟨[.any, rows b, .clo w7z [], .any, .any, .any, .any, .any, rows a, I a.length, I k, .any, .any], []⟩ ∧ a.take k = b.take k) ?_ ?_ ?_
  · simp (maxSteps := 2000000) (disch := first | omega | (simp only [lenS]; try omega)) only [go_sem, reduceAdd, reduceEqDiff, reduceLeDiff, reduceSub]
    simp
  · rintro k s hk ⟨rfl, hall⟩
    have hkb : k < b.length := by omega
    have e := weg a[k] b[k] (by have := hx _ (List.getElem_mem hk); omega)
    have e1 : a[k]? = some a[k] := List.getElem?_eq_getElem hk
    have e2 : b[k]? = some b[k] := List.getElem?_eq_getElem hkb
    have h1 : a[k] = b[k] → a.take (k + 1) = b.take (k + 1) := fun h => by rw [z1e0 hk, z1e0 hkb, hall, h]
    have h2 : a[k] ≠ b[k] → a ≠ b := fun h e => h (by subst e; rfl)
    generalize a[k] = x at *
    generalize b[k] = y at *
    simp (maxSteps := 2000000) (disch := first | omega | (simp only [lenS]; try omega)) only [go_sem, reduceAdd, reduceEqDiff, reduceLeDiff, reduceSub, e1, e2, e]
    by_cases hxy : x = y
    · simp only [hxy, decide_true, not_true, false_implies, true_implies, true_and, and_true, h1 hxy]
      first | done | trivial | simp
    · simp only [hxy, decide_false]
      simp [h2 hxy]
  · rintro s ⟨rfl, hall⟩
    rw [List.take_length, hlen, List.take_length] at hall
    simp (maxSteps := 2000000) (disch := first | omega | (simp only [lenS]; try omega)) only [go_sem, reduceAdd, reduceEqDiff, reduceLeDiff, reduceSub]
    simp [hall]
def basPV : Option (List (List Int) × Int) → PV
  | none => .tup [.un wgp false 1 [], I 0, .bool false]
  | some (l, r) => .tup [rows l, I r, .bool true]
def okBas (n : Net) (m : List Int) (b : Int) : Bool := zrn n m && inB 1 60 b
theorem we5 {n : Net} {m : List Int} {b : Int} (h : okBas n m b = true) : zrn n m = true ∧ 1 ≤ b ∧ b ≤ 60 := by
  simp only [okBas, inB, Bool.and_eq_true, decide_eq_true_eq] at h
  exact ⟨h.1, h.2.1, h.2.2⟩
def basV (n : Net) (m : List Int) (b : Int) : Option (List (List Int) × Int) := if okBas n m b then (runB n b (outs n.pl.toNat [m] + 1) [m] 0).getD none else none
theorem w6g {n : Net} {m : List Int} {b : Int} (h : okBas n m b = true) : runB n b (outs n.pl.toNat [m] + 1) [m] 0 = some (basV n m b) := by
  obtain ⟨h1, h2, h3⟩ := we5 h
  obtain ⟨v, hv⟩ := z16i h3 (outs n.pl.toNat [m] + 1) [m] 0 (Bas.first h1) (by omega)
  unfold basV
  rw [if_pos h, hv]; rfl
theorem wao (a b : List (List Int)) : inBox (a ++ b) = (inBox a && inBox b) := by simp [inBox]
theorem wap (a : List Int) : inBox [a] = a.all (inB 0 50) := by simp [inBox]
theorem waq {a b : List (List Int)} (h : inBox a = false) (hp : ∃ c, b = a ++ c) : inBox b = false := by
  obtain ⟨c, rfl⟩ := hp
  rw [wao, h]; rfl
theorem wgi (n : Net) (x : List Int) (k : Nat) : ∃ c, stpL n x = stpK n x k ++ c := by
  unfold stpL stpK
  refine ⟨(n.tr.drop k).filterMap (fun t => if okB t x then some (backM t x) else none), ?_⟩
  rw [List.take_length, ← List.filterMap_append, List.take_append_drop]
theorem w6a (n : Net) (l : List (List Int)) (k : Nat) : ∃ c, allS n l = allS n (l.take k) ++ c := by
  unfold allS
  exact ⟨(l.drop k).flatMap (stpL n), by rw [← List.flatMap_append, List.take_append_drop]⟩
theorem wac (n : Net) (m : List Int) (b : Int) (hn : smN n) (hm : m.length < 2^62) : C w77 [encN n, ints m, I b] [] = some (basPV (basV n m b), []) := by
  have i1 := wak n m hn hm
  have i2 := wan b 1 60
  cases ho : okBas n m b with
  | false =>
    have hv : basV n m b = none := by unfold basV; rw [ho]; rfl
    rw [hv]
    unfold okBas at ho
    refine w0i ?_
    simp (maxSteps := 2000000) (disch := first | omega | (simp only [lenS]; try omega)) only [wbb, go_sem, reduceAdd, reduceEqDiff, reduceLeDiff, reduceSub]
    simp (maxSteps := 2000000) (disch := first | omega | (simp only [lenS]; try omega)) only [go_sem, reduceAdd, reduceEqDiff, reduceLeDiff, reduceSub, i1, i2]
    generalize zrn n m = x at *
    generalize inB 1 60 b = y at *
    revert ho
    cases x <;> cases y <;> simp [basPV]
  | true =>
    have hrun := w6g ho
    obtain ⟨hmk, hb1, hb2⟩ := we5 ho
    have hbi : inB 1 60 b = true := by simp [inB]; omega
    have hgn := (zro hmk).1
    have hgp := ziv hgn
    rw [hmk] at i1
    rw [hbi] at i2
    have hfirst := Bas.first hmk
    generalize basV n m b = v at *
    generalize outs n.pl.toNat [m] + 1 = F at *
    have htn := hn.1
    have hml := zim (zro hmk).2
    refine w0i ?_
    simp (maxSteps := 2000000) (disch := first | omega | (simp only [lenS]; try omega)) only [wbb, go_sem, reduceAdd, reduceEqDiff, reduceLeDiff, reduceSub]
    simp (maxSteps := 2000000) (disch := first | omega | (simp only [lenS]; try omega)) only [go_sem, reduceAdd, reduceEqDiff, reduceLeDiff, reduceSub, i1, i2, we7]
    refine z1a (fun j s => ∃ (l : List (List Int)) (r : Int), Bas n l ∧ runB n b j l r = some v ∧ s = ⟨[.any, .any, I b, .ptr 0 0, .any, .any, .any, .ref 1 1 0 l.length, I r, .any, .any, .any, .any, .any, .any, .any, .any, .any, .any, .any, .any, .any, .any, .any, .any, .any, .any, .any], [.box wgm [I n.pl, trs n.tr], .row wgp false 1 (l.map ints)]⟩) F ?_ ?_
    · refine ⟨[m], 0, hfirst, hrun, ?_⟩
      simp (maxSteps := 2000000) (disch := first | omega | (simp only [lenS]; try omega)) only [go_sem, reduceAdd, reduceEqDiff, reduceLeDiff, reduceSub]
      first | done | rfl
    · rintro j s ⟨l, r, hl, hr, rfl⟩
      cases j with
      | zero => cases hr
      | succ j =>
      have hll := hl.len
      have hlg := hl.good
      simp (maxSteps := 2000000) (disch := first | omega | (simp only [lenS]; try omega)) only [go_sem, reduceAdd, reduceEqDiff, reduceLeDiff, reduceSub, we8]
      refine W_for l.length (fun k s => inBox (allS n (l.take k)) = true ∧ s = ⟨[.any, .any, I b, .ptr 0 0, .any, .any, .any, .ref 1 1 0 l.length, I r, .ref 2 1 0 (l ++ allS n (l.take k)).length, .any, .any, .any, .any, .any, .any, .ref 1 1 0 l.length, I l.length, I k, .any, .any, .any, .any, .any, .any, .any, .any, .any], [.box wgm [I n.pl, trs n.tr], .fro false 1 (l.map ints), .row wgp false 1 ((l ++ allS n (l.take k)).map ints)]⟩) ?_ ?_ ?_
      · refine ⟨rfl, ?_⟩
        rw [show l ++ allS n (l.take 0) = l by simp [allS]]
        simp (maxSteps := 2000000) (disch := first | omega | (simp only [lenS]; try omega)) only [go_sem, reduceAdd, reduceEqDiff, reduceLeDiff, reduceSub]
        first | done | rfl
      · rintro k s hk ⟨hbx, rfl⟩
        have hx := zim (hlg _ (List.getElem_mem hk))
        have e1 : l[k]? = some l[k] := List.getElem?_eq_getElem hk
        have hal := z2v n (l.take k)
        have hpre := w6a n l (k + 1)
        rw [z2x hk] at hpre ⊢
        have hlk : (l.take k).length ≤ 60 := by have := List.length_take_le k l; omega
        have hmul : (l.take k).length * n.tr.length ≤ 60 * 24 := Nat.mul_le_mul hlk hgp.2.2.1
        have hbad := fun i (h : inBox (allS n (l.take k) ++ stpK n l[k] i) = false) => z16e (b := b) (f := j) (r := r) (waq h (by
          obtain ⟨c, hc⟩ := wgi n l[k] i
          obtain ⟨d, hd⟩ := hpre
          rw [hd, hc]; exact ⟨c ++ d, by simp⟩))
        rw [← List.append_assoc]
        generalize hA : l ++ allS n (l.take k) = A at *
        have hAl : A.length ≤ 60 + 60 * 24 := by rw [← hA, List.length_append]; omega
        generalize allS n (l.take k) = B at *
        generalize l[k] = x at *
        simp (maxSteps := 2000000) (disch := first | omega | (simp only [lenS]; try omega)) only [go_sem, reduceAdd, reduceEqDiff, reduceLeDiff, reduceSub, e1]
        refine W_for n.tr.length (fun i s => inBox (stpK n x i) = true ∧ s = ⟨[.any, .any, I b, .ptr 0 0, .any, .any, .any, .ref 1 1 0 l.length, I r, .ref 2 1 0 (A ++ stpK n x i).length, ints x, .any, .any, .any, .any, .any, .ref 1 1 0 l.length, I l.length, I k, .any, trs n.tr, I n.tr.length, I i, .any, .any, .any, .any, .any], [.box wgm [I n.pl, trs n.tr], .fro false 1 (l.map ints), .row wgp false 1 ((A ++ stpK n x i).map ints)]⟩) ?_ ?_ ?_
        · refine ⟨rfl, ?_⟩
          rw [z1cl, List.append_nil]
          simp (maxSteps := 2000000) (disch := first | omega | (simp only [lenS]; try omega)) only [go_sem, reduceAdd, reduceEqDiff, reduceLeDiff, reduceSub]
          first | done | rfl
        · rintro i s hi ⟨hbi2, rfl⟩
          have g1 : n.tr[i]? = some n.tr[i] := List.getElem?_eq_getElem hi
          have hsm := hn.2 _ (List.getElem_mem hi)
          have g2 := wam n.tr[i] x hsm (by omega) hx.2.2.2.2
          have hst := z1ck (n := n) (x := x) hi
          have hsf := z1ci (n := n) (x := x) hi
          have hkl := z1cj n x i
          have hbl := z54 n.tr[i] x
          have hbad2 := hbad (i + 1)
          generalize n.tr[i] = t at *
          cases hok : okB t x with
          | false =>
            rw [hsf hok]
            simp only [hok, Bool.false_eq_true, if_false] at g2
            simp (maxSteps := 2000000) (disch := first | omega | (simp only [lenS]; try omega)) only [go_sem, reduceAdd, reduceEqDiff, reduceLeDiff, reduceSub, g1, g2]
            first | exact ⟨hbi2, rfl⟩ | (refine ⟨hbi2, ?_⟩; simp)
          | true =>
            rw [hst hok] at hbad2 ⊢
            simp only [hok, if_true] at g2
            generalize stpK n x i = S at *
            generalize backM t x = y at *
            have g3 := wa8 y 0 50 (by omega)
            rw [wao, wap] at *
            cases hy : y.all (inB 0 50) with
            | false =>
              rw [hy] at g3
              have := hbad2 (by rw [wao, wap, hy]; simp)
              rw [this] at hr
              cases hr
              simp (maxSteps := 2000000) (disch := first | omega | (simp only [lenS]; try omega)) only [go_sem, reduceAdd, reduceEqDiff, reduceLeDiff, reduceSub, g1, g2, g3, basPV]
              first | done | rfl
            | true =>
              rw [hy] at g3
              simp (maxSteps := 2000000) (disch := first | omega | (simp only [lenS]; try omega)) only [go_sem, reduceAdd, reduceEqDiff, reduceLeDiff, reduceSub, g1, g2, g3]
              refine ⟨by simp [hbi2], ?_⟩
              simp
              try omega
        · rintro s ⟨hbi2, rfl⟩
          simp (maxSteps := 2000000) (disch := first | omega | (simp only [lenS]; try omega)) only [go_sem, reduceAdd, reduceEqDiff, reduceLeDiff, reduceSub]
          refine ⟨by rw [wao, hbx]; exact hbi2, ?_⟩
          first | rfl | simp [stpL]
      · rintro s ⟨hbx, rfl⟩
        rw [List.take_length] at hbx ⊢
        have hall := hl.all hbx
        have hal := z2v n l
        have hmul : l.length * n.tr.length ≤ 60 * 24 := Nat.mul_le_mul hll hgp.2.2.1
        have e3 := wal (l ++ allS n l) n.pl.toNat (by omega) (fun x hx => by have := zim (hall x hx); omega) (by rw [List.length_append]; omega)
        have hnl := (zoy (l ++ allS n l)).2.2
        have hal2 : (l ++ allS n l).length ≤ 1500 := by rw [List.length_append]; omega
        have hbig := z16d (b := b) (f := j) (r := r) hbx
        have hend := z16f (b := b) (f := j) (r := r) hbx
        have hnext := z16h (b := b) (f := j) (r := r) hbx
        have hbn := fun h => hl.next (b := b) hbx h hb2
        have e4 := fun h => wef (nextB n l) l h
        have hlx : ∀ x ∈ nextB n l, x.length < 2^60 := fun x hx => by
          have := zim (hall x (((zoy _).2.1 x).1 hx).1); omega
        change _ = some (PV.un wgp false 1 ((nextB n l).map ints), _) at e3
        change (nextB n l).length ≤ _ at hnl
        generalize nextB n l = N at *
        generalize l ++ allS n l = A at *
        have e4 := e4 (by omega) hlx
        by_cases h2 : b < N.length
        · rw [hbig h2] at hr
          cases hr
          simp (maxSteps := 2000000) (disch := first | omega | (simp only [lenS]; try omega)) only [go_sem, reduceAdd, reduceEqDiff, reduceLeDiff, reduceSub, e3, h2, basPV]
          first | done | rfl
        · by_cases h3 : N = l
          · rw [hend h2 h3] at hr
            cases hr
            rw [decide_eq_true h3] at e4
            simp (maxSteps := 2000000) (disch := first | omega | (simp only [lenS]; try omega)) only [go_sem, reduceAdd, reduceEqDiff, reduceLeDiff, reduceSub, e3, e4, h2, basPV]
            first | done | rfl
          · rw [hnext h2 h3] at hr
            rw [decide_eq_false h3] at e4
            simp (maxSteps := 2000000) (disch := first | omega | (simp only [lenS]; try omega)) only [go_sem, reduceAdd, reduceEqDiff, reduceLeDiff, reduceSub, e3, e4, h2]
            exact ⟨j, by omega, N, _, hbn h2, hr, rfl⟩
theorem w9y (s x : List Int) (h : s.length = x.length) (hl : x.length < 2^60) : C w6v [ints x, .pv (.agg [ints s]) 0] [] = some (.bool (zbg s x), []) := by
  have e := wad s x h (by omega)
  generalize zbg s x = c at *
  refine w06 ?_
  simp (maxSteps := 2000000) (disch := first | omega | (simp only [lenS]; try omega)) only [waz, go_sem, reduceAdd, reduceEqDiff, reduceLeDiff, reduceSub]
  simp (maxSteps := 2000000) (disch := first | omega | (simp only [lenS]; try omega)) only [go_sem, reduceAdd, reduceEqDiff, reduceLeDiff, reduceSub, e]
  first | done | (cases c <;> simp)
theorem wej (l : List (List Int)) (g : FuncId) (caps : List PV) (hc : refsL caps = []) (hcv : ∀ m h, z1fh [] m h caps = some caps) (p : List Int → Bool) (hp : ∀ x ∈ l, C g (ints x :: caps) [] = some (.bool (p x), [])) (hl : l.length < 2^62) :
    C w82 [rows l, .clo g caps] [] = some (I (idxI l p), []) := by
  refine w19 ?_
  simp (maxSteps := 2000000) (disch := first | omega | (simp only [lenS]; try omega)) only [wc4, go_sem, reduceAdd, reduceEqDiff, reduceLeDiff, reduceSub]
  refine W_for l.length (fun k s => s = ⟨[rows l, .clo g caps, .any, .any, I l.length, I k, .any, .any], []⟩ ∧ (l.take k).any p = false) ?_ ?_ ?_
  · simp (maxSteps := 2000000) (disch := first | omega | (simp only [lenS]; try omega)) only [go_sem, reduceAdd, reduceEqDiff, reduceLeDiff, reduceSub, hc]
    rfl
  · rintro k s hk ⟨rfl, hall⟩
    simp (maxSteps := 2000000) (disch := first | omega | (simp only [lenS]; try omega)) only [go_sem, reduceAdd, reduceEqDiff, reduceLeDiff, reduceSub, hc, hcv, hp _ (List.getElem_mem hk)]
    exact ⟨fun h => by rw [zk1 hk hall h], fun h => ⟨rfl, z3e hk hall h⟩⟩
  · rintro s ⟨rfl, hall⟩
    simp (maxSteps := 2000000) (disch := first | omega | (simp only [lenS]; try omega)) only [go_sem, reduceAdd, reduceEqDiff, reduceLeDiff, reduceSub]
    rw [List.take_length] at hall
    rw [zk0 hall]
theorem wed (l : List (List Int)) (g : FuncId) (caps : List PV) (hc : refsL caps = []) (hcv : ∀ m h, z1fh [] m h caps = some caps) (p : List Int → Bool) (hp : ∀ x ∈ l, C g (ints x :: caps) [] = some (.bool (p x), [])) (hl : l.length < 2^62) :
    C w7w [rows l, .clo g caps] [] = some (.bool (l.any p), []) := by
  refine w13 ?_
  simp (maxSteps := 2000000) (disch := first | omega | (simp only [lenS]; try omega)) only [wby, go_sem, reduceAdd, reduceEqDiff, reduceLeDiff, reduceSub]
  simp (maxSteps := 2000000) (disch := first | omega | (simp only [lenS]; try omega)) only [go_sem, reduceAdd, reduceEqDiff, reduceLeDiff, reduceSub, hc, hcv, wej l g caps hc hcv p hp hl]
  have := zjx l p
  grind
def cbV (n : Net) (start m : List Int) (b : Int) : Bool := match basV n m b with
  | none => false
  | some (l, _) => goodM n.pl start && above l start
def cbO (n : Net) (start m : List Int) (b : Int) : Bool := (basV n m b).isSome && goodM n.pl start
theorem w6e {n : Net} {m : List Int} {b : Int} {l : List (List Int)} {r : Int} (h : basV n m b = some (l, r)) : okBas n m b = true ∧ Bas n l ∧ above l m = true := by
  cases ho : okBas n m b with
  | false => unfold basV at h; rw [ho] at h; cases h
  | true =>
    obtain ⟨h1, h2, h3⟩ := we5 ho
    have hr := w6g ho
    rw [h] at hr
    have hm := zim (zro h1).2
    obtain ⟨f1, f2, _⟩ := z16g (m := m) h3 [] (fun d hd => by cases hd) _ _ _ _ _ (Bas.first h1) hr (by simp [above, zbk]) (fun d hd => by cases hd) (by omega) (fun d hd => by cases hd)
    exact ⟨rfl, f1, f2⟩
theorem w9z (n : Net) (start m : List Int) (b : Int) (hn : smN n) (hs : start.length < 2^60) (hm : m.length < 2^62) : C w6u [encN n, ints start, ints m, I b] [] = some (.tup [.bool (cbV n start m b), .bool (cbO n start m b)], []) := by
  have h := wac n m b hn hm
  have g := wa2 n.pl start (by omega)
  unfold cbV cbO
  have hf := fun l r => w6e (n := n) (m := m) (b := b) (l := l) (r := r)
  generalize basV n m b = v at *
  rcases v with _ | ⟨l, r⟩
  · simp only [basPV, Option.isSome_none, Bool.false_and] at h ⊢
    refine w05 ?_
    simp (maxSteps := 2000000) (disch := first | omega | (simp only [lenS]; try omega)) only [wax, go_sem, reduceAdd, reduceEqDiff, reduceLeDiff, reduceSub]
    simp (maxSteps := 2000000) (disch := first | omega | (simp only [lenS]; try omega)) only [go_sem, reduceAdd, reduceEqDiff, reduceLeDiff, reduceSub, h]
    first | done | rfl
  · obtain ⟨_, hb, _⟩ := hf l r rfl
    simp only [basPV, Option.isSome_some, Bool.true_and] at h ⊢
    cases hg : goodM n.pl start with
    | false =>
      rw [hg] at g
      refine w05 ?_
      simp (maxSteps := 2000000) (disch := first | omega | (simp only [lenS]; try omega)) only [wax, go_sem, reduceAdd, reduceEqDiff, reduceLeDiff, reduceSub]
      simp (maxSteps := 2000000) (disch := first | omega | (simp only [lenS]; try omega)) only [go_sem, reduceAdd, reduceEqDiff, reduceLeDiff, reduceSub, h, g]
      first | done | rfl
    | true =>
      rw [hg] at g
      have hgl := zim hg
      have hbl := hb.len
      have hc := wed l w6v [.pv (.agg [ints start]) 0] rfl (fun _ _ => rfl) (fun x => zbg start x) (fun x hx => by
        have := zim (hb.good x hx)
        exact w9y start x (by omega) (by omega)) (by omega)
      rw [show (l.any fun x => zbg start x) = above l start from rfl] at hc
      generalize above l start = c at *
      cases c
      all_goals
        refine w05 ?_
        simp (maxSteps := 2000000) (disch := first | omega | (simp only [lenS]; try omega)) only [wax, go_sem, reduceAdd, reduceEqDiff, reduceLeDiff, reduceSub]
        simp (maxSteps := 2000000) (disch := first | omega | (simp only [lenS]; try omega)) only [go_sem, reduceAdd, reduceEqDiff, reduceLeDiff, reduceSub, h, g, hc]
        first | done | rfl
theorem wge (n : Net) (m : List Int) (b : Int) (hn : smN n) (hm : m.length < 2^62) : C w9s [encN n, ints m, I b] [] = some (.bool (okBas n m b), []) := by
  have i1 := wg9 n m hn hm
  have i2 := wfw b 1 60
  unfold okBas
  generalize zrn n m = x at *
  generalize inB 1 60 b = y at *
  refine w2a ?_
  simp (maxSteps := 2000000) (disch := first | omega | (simp only [lenS]; try omega)) only [wdu, go_sem, reduceAdd, reduceEqDiff, reduceLeDiff, reduceSub]
  simp (maxSteps := 2000000) (disch := first | omega | (simp only [lenS]; try omega)) only [go_sem, reduceAdd, reduceEqDiff, reduceLeDiff, reduceSub, i1, i2]
  cases x <;> cases y <;> simp
theorem wgh (t : Tr) (m : List Int) (ht : smT t) (hm : m.length < 2^30) (hb : ∀ x ∈ m, 0 ≤ x ∧ x ≤ 50) : C w9v [encT t, ints m] [] = some (.tup [.un t_int true 1 ((if okB t m then backM t m else []).map I), .bool (okB t m)], []) := by
  obtain ⟨g1, g2, g3⟩ := ht
  refine w2c ?_
  simp (maxSteps := 2000000) (disch := first | omega | (simp only [lenS]; try omega)) only [wdx, go_sem, reduceAdd, reduceEqDiff, reduceLeDiff, reduceSub]
  refine W_for m.length (fun k s => s = ⟨[.any, .any, .ptr 0 0, .any, .any, .ref 1 1 0 k, .any, .any, .any, .any, ints m, I m.length, I k, .any, .any, .any, .any, .any], [.box wgo [ints t.inn, ints t.out, ints t.rst], .row t_int true 1 ((backK t m k).map I)]⟩ ∧ ∀ j, j < k → z1cp t m j = false) ?_ ?_ ?_
  · refine ⟨?_, fun j hj => by omega⟩
    simp (maxSteps := 2000000) (disch := first | omega | (simp only [lenS]; try omega)) only [go_sem, reduceAdd, reduceEqDiff, reduceLeDiff, reduceSub]
    rfl
  · rintro k s hk ⟨rfl, hall⟩
    have hbl := z52 t m k
    have hx := hb _ (List.getElem_mem hk)
    have ea : at_ m k = m[k] := by rw [← at_eq (by simpa using hk)]; simp
    have nx : z1cp t m k = false → ∀ j, j < k + 1 → z1cp t m j = false := fun h j hj => by
      by_cases hjk : j < k
      · exact hall j hjk
      · have : j = k := by omega
        subst this; exact h
    have st : ∀ o r, hasB t.out k = o → hasB t.rst k = r → z1cp t m k = (r && decide (0 < m[k] - one o)) := by
      rintro _ _ rfl rfl; simp only [z1cp, ea]
    simp (maxSteps := 2000000) (disch := first | omega | (simp only [lenS]; try omega)) only [go_sem, reduceAdd, reduceEqDiff, reduceLeDiff, reduceSub, wfu, wfy]
    exact ⟨fun ho => ⟨fun hi => ⟨fun hr => ⟨fun hp => by rw [zur hk (by rw [st _ _ ho hr]; simp only [one, if_true, if_false, Bool.false_eq_true, Bool.true_and, decide_eq_true_eq]; omega)]; simp, fun hp => ⟨by first | (rw [z53, List.map_append, show backX t m k = 1 by simp only [backX, one, ho, hi, ea, if_true, if_false, Bool.false_eq_true] <;> omega]; rfl), nx (by rw [st _ _ ho hr]; first | rfl | (simp only [one, if_true, if_false, Bool.false_eq_true, Bool.true_and, decide_eq_false_iff_not]; omega))⟩⟩, fun hr => ⟨by first | (rw [z53, List.map_append, show backX t m k = max 0 (m[k] - 1) + 1 by simp only [backX, one, ho, hi, ea, if_true, if_false, Bool.false_eq_true] <;> omega]; rfl) | (rw [z53, List.map_append, show backX t m k = max 0 (m[k] - 0) + 1 by simp only [backX, one, ho, hi, ea, if_true, if_false, Bool.false_eq_true] <;> omega]; rfl) | (rw [z53, List.map_append, show backX t m k = max 0 (m[k] - 1) by simp only [backX, one, ho, hi, ea, if_true, if_false, Bool.false_eq_true] <;> omega]; rfl) | (rw [z53, List.map_append, show backX t m k = max 0 (m[k]) by simp only [backX, one, ho, hi, ea, if_true, if_false, Bool.false_eq_true] <;> omega]; rfl), nx (by rw [st _ _ ho hr]; first | rfl | (simp only [one, if_true, if_false, Bool.false_eq_true, Bool.true_and, decide_eq_false_iff_not]; omega))⟩⟩, fun hi => ⟨fun hr => ⟨fun hp => by rw [zur hk (by rw [st _ _ ho hr]; simp only [one, if_true, if_false, Bool.false_eq_true, Bool.true_and, decide_eq_true_eq]; omega)]; simp, fun hp => ⟨by first | (rw [z53, List.map_append, show backX t m k = 0 by simp only [backX, one, ho, hi, ea, if_true, if_false, Bool.false_eq_true] <;> omega]; rfl), nx (by rw [st _ _ ho hr]; first | rfl | (simp only [one, if_true, if_false, Bool.false_eq_true, Bool.true_and, decide_eq_false_iff_not]; omega))⟩⟩, fun hr => ⟨by first | (rw [z53, List.map_append, show backX t m k = max 0 (m[k] - 1) + 0 by simp only [backX, one, ho, hi, ea, if_true, if_false, Bool.false_eq_true] <;> omega]; rfl) | (rw [z53, List.map_append, show backX t m k = max 0 (m[k] - 0) + 0 by simp only [backX, one, ho, hi, ea, if_true, if_false, Bool.false_eq_true] <;> omega]; rfl) | (rw [z53, List.map_append, show backX t m k = max 0 (m[k] - 1) by simp only [backX, one, ho, hi, ea, if_true, if_false, Bool.false_eq_true] <;> omega]; rfl) | (rw [z53, List.map_append, show backX t m k = max 0 (m[k]) by simp only [backX, one, ho, hi, ea, if_true, if_false, Bool.false_eq_true] <;> omega]; rfl), nx (by rw [st _ _ ho hr]; first | rfl | (simp only [one, if_true, if_false, Bool.false_eq_true, Bool.true_and, decide_eq_false_iff_not]; omega))⟩⟩⟩, fun ho => ⟨fun hi => ⟨fun hr => ⟨fun hp => by rw [zur hk (by rw [st _ _ ho hr]; simp only [one, if_true, if_false, Bool.false_eq_true, Bool.true_and, decide_eq_true_eq]; omega)]; simp, fun hp => ⟨by first | (rw [z53, List.map_append, show backX t m k = 1 by simp only [backX, one, ho, hi, ea, if_true, if_false, Bool.false_eq_true] <;> omega]; rfl), nx (by rw [st _ _ ho hr]; first | rfl | (simp only [one, if_true, if_false, Bool.false_eq_true, Bool.true_and, decide_eq_false_iff_not]; omega))⟩⟩, fun hr => ⟨by first | (rw [z53, List.map_append, show backX t m k = max 0 (m[k] - 0) + 1 by simp only [backX, one, ho, hi, ea, if_true, if_false, Bool.false_eq_true] <;> omega]; rfl) | (rw [z53, List.map_append, show backX t m k = max 0 (m[k] - 0) + 1 by simp only [backX, one, ho, hi, ea, if_true, if_false, Bool.false_eq_true] <;> omega]; rfl) | (rw [z53, List.map_append, show backX t m k = max 0 (m[k] - 0) by simp only [backX, one, ho, hi, ea, if_true, if_false, Bool.false_eq_true] <;> omega]; rfl) | (rw [z53, List.map_append, show backX t m k = max 0 (m[k]) by simp only [backX, one, ho, hi, ea, if_true, if_false, Bool.false_eq_true] <;> omega]; rfl), nx (by rw [st _ _ ho hr]; first | rfl | (simp only [one, if_true, if_false, Bool.false_eq_true, Bool.true_and, decide_eq_false_iff_not]; omega))⟩⟩, fun hi => ⟨fun hr => ⟨fun hp => by rw [zur hk (by rw [st _ _ ho hr]; simp only [one, if_true, if_false, Bool.false_eq_true, Bool.true_and, decide_eq_true_eq]; omega)]; simp, fun hp => ⟨by first | (rw [z53, List.map_append, show backX t m k = 0 by simp only [backX, one, ho, hi, ea, if_true, if_false, Bool.false_eq_true] <;> omega]; rfl), nx (by rw [st _ _ ho hr]; first | rfl | (simp only [one, if_true, if_false, Bool.false_eq_true, Bool.true_and, decide_eq_false_iff_not]; omega))⟩⟩, fun hr => ⟨by first | (rw [z53, List.map_append, show backX t m k = max 0 (m[k] - 0) + 0 by simp only [backX, one, ho, hi, ea, if_true, if_false, Bool.false_eq_true] <;> omega]; rfl) | (rw [z53, List.map_append, show backX t m k = max 0 (m[k] - 0) + 0 by simp only [backX, one, ho, hi, ea, if_true, if_false, Bool.false_eq_true] <;> omega]; rfl) | (rw [z53, List.map_append, show backX t m k = max 0 (m[k] - 0) by simp only [backX, one, ho, hi, ea, if_true, if_false, Bool.false_eq_true] <;> omega]; rfl) | (rw [z53, List.map_append, show backX t m k = max 0 (m[k]) by simp only [backX, one, ho, hi, ea, if_true, if_false, Bool.false_eq_true] <;> omega]; rfl), nx (by rw [st _ _ ho hr]; first | rfl | (simp only [one, if_true, if_false, Bool.false_eq_true, Bool.true_and, decide_eq_false_iff_not]; omega))⟩⟩⟩⟩
  · rintro s ⟨rfl, hall⟩
    have hok : okB t m = true := zus hall
    have hbl := z52 t m m.length
    simp (maxSteps := 2000000) (disch := first | omega | (simp only [lenS]; try omega)) only [go_sem, reduceAdd, reduceEqDiff, reduceLeDiff, reduceSub, hok]
    rfl
theorem wfg (a b : List Int) (hl : a.length = b.length) (hb : b.length < 2^62) : C w8x [ints a, ints b] [] = some (.bool (zbg a b), []) := by
  refine w1t ?_
  simp (maxSteps := 2000000) (disch := first | omega | (simp only [lenS]; try omega)) only [wcz, go_sem, reduceAdd, reduceEqDiff, reduceLeDiff, reduceSub]
  refine W_for b.length (fun k s => s = ⟨[ints a, .any, .any, .any, .any, ints b, I b.length, I k, .any, .any], []⟩ ∧ ((a.zip b).take k).all (fun p => decide (p.2 ≤ p.1)) = true) ?_ ?_ ?_
  · simp (maxSteps := 2000000) (disch := first | omega | (simp only [lenS]; try omega)) only [go_sem, reduceAdd, reduceEqDiff, reduceLeDiff, reduceSub]
    rfl
  · rintro k s hk ⟨rfl, hall⟩
    simp (maxSteps := 2000000) (disch := first | omega | (simp only [lenS]; try omega)) only [go_sem, reduceAdd, reduceEqDiff, reduceLeDiff, reduceSub]
    have hz : k < (a.zip b).length := by simp; omega
    refine ⟨fun h => ?_, fun h => ⟨rfl, z2z hz hall (by simp; omega)⟩⟩
    have : zbg a b = false := z2y hz (by simp; omega)
    rw [this]
  · rintro s ⟨rfl, hall⟩
    simp (maxSteps := 2000000) (disch := first | omega | (simp only [lenS]; try omega)) only [go_sem, reduceAdd, reduceEqDiff, reduceLeDiff, reduceSub]
    rw [List.take_of_length_le (by simp; omega)] at hall
    unfold zbg
    rw [hall]
theorem wg5 (a b : List Int) (hl : a.length < 2^62) : C w9j [ints a, ints b] [] = some (.bool (decide (a = b)), []) := by
  refine w21 ?_
  simp (maxSteps := 2000000) (disch := first | omega | (simp only [lenS]; try omega)) only [wdl, go_sem, reduceAdd, reduceEqDiff, reduceLeDiff, reduceSub]
  refine ⟨fun h => ?_, fun h => ?_⟩
  · have : a ≠ b := fun e => h (by rw [e])
    simp [this]
  refine W_for a.length (fun k s => s = ⟨[ints a, ints b, .any, .any, .any, I a.length, I k, .any, .any], []⟩ ∧ a.take k = b.take k) ?_ ?_ ?_
  · simp (maxSteps := 2000000) (disch := first | omega | (simp only [lenS]; try omega)) only [go_sem, reduceAdd, reduceEqDiff, reduceLeDiff, reduceSub]
    rfl
  · rintro k s hk ⟨rfl, hall⟩
    simp (maxSteps := 2000000) (disch := first | omega | (simp only [lenS]; try omega)) only [go_sem, reduceAdd, reduceEqDiff, reduceLeDiff, reduceSub]
    refine ⟨fun h => ?_, fun h => ⟨rfl, ?_⟩⟩
    · have : a ≠ b := fun e => h (by simp [e])
      simp [this]
    · rw [z1e0 hk, z1e0 (show k < b.length by omega), hall, h]
  · rintro s ⟨rfl, hall⟩
    simp (maxSteps := 2000000) (disch := first | omega | (simp only [lenS]; try omega)) only [go_sem, reduceAdd, reduceEqDiff, reduceLeDiff, reduceSub]
    rw [List.take_length, List.take_of_length_le (by omega)] at hall
    simp [hall]
theorem wff (a b : List Int) (hl : a.length = b.length) (hb : b.length < 2^60) : C w8w [ints a, ints b] [] = some (I (cmpL a b), []) := by
  refine w1s ?_
  simp (maxSteps := 2000000) (disch := first | omega | (simp only [lenS]; try omega)) only [wcy, go_sem, reduceAdd, reduceEqDiff, reduceLeDiff, reduceSub]
  refine W_for a.length (fun k s => s = ⟨[ints a, ints b, .any, .any, I a.length, I k, .any, .any, .any], []⟩ ∧ a.take k = b.take k) ?_ ?_ ?_
  · simp (maxSteps := 2000000) (disch := first | omega | (simp only [lenS]; try omega)) only [go_sem, reduceAdd, reduceEqDiff, reduceLeDiff, reduceSub]
    simp
  · rintro k s hk ⟨rfl, h2⟩
    have e1 : a[k]? = some a[k] := List.getElem?_eq_getElem hk
    have hkb2 : k < b.length := by omega
    have e2 : b[k]? = some b[k] := List.getElem?_eq_getElem hkb2
    have e3 := zaa h2 hk hkb2
    have e4 : cmpI a[k] b[k] = 0 → a.take (k + 1) = b.take (k + 1) := fun h => by rw [z1e0 hk, z1e0 hkb2, h2, za9 h]
    generalize a[k] = x at *
    generalize b[k] = y at *
    unfold cmpI at e3 e4
    by_cases h5 : x < y
    · simp only [h5, if_true] at e3
      simp (maxSteps := 2000000) (disch := first | omega | (simp only [lenS]; try omega)) only [go_sem, reduceAdd, reduceEqDiff, reduceLeDiff, reduceSub, e1, e2, h5]
      rw [e3 (by decide)]
    · by_cases h6 : y < x
      · simp only [h5, h6, if_true, if_false] at e3
        simp (maxSteps := 2000000) (disch := first | omega | (simp only [lenS]; try omega)) only [go_sem, reduceAdd, reduceEqDiff, reduceLeDiff, reduceSub, e1, e2, h5, h6]
        rw [e3 (by decide)]
      · simp only [h5, h6, if_false] at e4
        simp (maxSteps := 2000000) (disch := first | omega | (simp only [lenS]; try omega)) only [go_sem, reduceAdd, reduceEqDiff, reduceLeDiff, reduceSub, e1, e2, h5, h6]
        exact ⟨rfl, e4 trivial⟩
  · rintro s ⟨rfl, h2⟩
    have := zac h2 (by omega)
    simp (maxSteps := 2000000) (disch := first | omega | (simp only [lenS]; try omega)) only [go_sem, reduceAdd, reduceEqDiff, reduceLeDiff, reduceSub]
    rw [this, if_neg (by omega)]
theorem wfv (l : List (List Int)) (m : List Int) (n : Nat) (hn : n < 2^30) (hx : ∀ x ∈ l, x.length = n) (hm : m.length = n) (hl : l.length < 2^30) (hs : l.Pairwise ltL) : Lw (C w9c [rows l, ints m] []) fun r => r = (.un wgp false 1 ((inOrd l m).map ints), []) ∨ (m ∈ l ∧ r = (rows (inOrd l m), [])) := by
  refine w31 ?_
  simp (maxSteps := 2000000) (disch := first | omega | (simp only [lenS]; try omega)) only [wde, go_sem, reduceAdd, reduceEqDiff, reduceLeDiff, reduceSub]
  refine W_for l.length (fun k s => ∃ (d : Bool) (o : List (List Int)), o.length ≤ l.length + 1 ∧ s = ⟨[rows l, ints m, .any, .ref 0 1 0 o.length, .bool d, .any, .any, rows l, I l.length, I k, .any, .any, .any, .any], [.row wgp false 1 (o.map ints)]⟩ ∧ ((d = false ∧ o = l.take k ∧ ∀ x ∈ l.take k, 0 < cmpL m x) ∨ (d = true ∧ ∃ j, j < k ∧ o = l.take j ++ m :: (l.take k).drop j ∧ (∀ x ∈ l.take j, 0 < cmpL m x) ∧ ∀ x, l[j]? = some x → cmpL m x < 0))) ?_ ?_ ?_
  · simp (maxSteps := 2000000) (disch := first | omega | (simp only [lenS]; try omega)) only [go_sem, reduceAdd, reduceEqDiff, reduceLeDiff, reduceSub]
    exact ⟨false, [], by simp⟩
  · rintro k s hk ⟨d, o, ho, rfl, hd⟩
    have e1 : l[k]? = some l[k] := List.getElem?_eq_getElem hk
    have e2 := wff m l[k] (by rw [hm, hx _ (List.getElem_mem hk)]) (by rw [hx _ (List.getElem_mem hk)]; omega)
    have e3 : l.take (k + 1) = l.take k ++ [l[k]] := List.take_succ_eq_append_getElem hk
    have e4 : cmpL m l[k] = 0 → inOrd l m = l := fun h => zlt hs (by rw [zad.1 h]; exact List.getElem_mem hk)
    have hlk : (l.take k).length = k := by simp; omega
    by_cases h0 : cmpL m l[k] = 0
    · rw [h0] at e2
      simp (maxSteps := 2000000) (disch := first | omega | (simp only [lenS]; try omega)) only [go_sem, reduceAdd, reduceEqDiff, reduceLeDiff, reduceSub, e1, e2]
      exact .inr ⟨by rw [zad.1 h0]; exact List.getElem_mem hk, by rw [e4 h0]⟩
    · rcases hd with ⟨rfl, rfl, h1⟩ | ⟨rfl, j, hj, rfl, h1, h2⟩
      · by_cases h3 : cmpL m l[k] < 0
        · have h4 : ∀ x, l[k]? = some x → cmpL m x < 0 := fun x h => by rw [e1] at h; rw [← Option.some.inj h]; exact h3
          have h5 : (l.take (k + 1)).drop k = [l[k]] := by rw [e3, List.drop_append, hlk]; simp [List.drop_eq_nil_of_le, hlk]
          generalize hy : l[k] = y at *
          generalize hc : cmpL m y = c at *
          simp (maxSteps := 2000000) (disch := first | omega | (simp only [lenS]; try omega)) only [go_sem, reduceAdd, reduceEqDiff, reduceLeDiff, reduceSub, e1, e2, h0, h3]
          refine ⟨true, l.take k ++ m :: (l.take (k + 1)).drop k, by rw [h5]; simp; omega, ?_, .inr ⟨rfl, k, by omega, rfl, h1, h4⟩⟩
          rw [h5]; simp [hlk]
        · have h4 : ∀ x ∈ l.take (k + 1), 0 < cmpL m x := fun x h => by
            rw [e3, List.mem_append] at h
            rcases h with h | h
            · exact h1 x h
            · rw [List.mem_singleton] at h; subst h; omega
          generalize hy : l[k] = y at *
          generalize hc : cmpL m y = c at *
          simp (maxSteps := 2000000) (disch := first | omega | (simp only [lenS]; try omega)) only [go_sem, reduceAdd, reduceEqDiff, reduceLeDiff, reduceSub, e1, e2, h0, h3]
          refine ⟨false, l.take (k + 1), by simp; omega, ?_, .inl ⟨rfl, rfl, h4⟩⟩
          rw [e3]; simp [hlk]
      · have h5 : (l.take (k + 1)).drop j = (l.take k).drop j ++ [l[k]] := by rw [e3, List.drop_append_of_le_length (by rw [hlk]; omega)]
        have h6 : (l.take j ++ m :: (l.take k).drop j).length = k + 1 := by simp; omega
        have h7 : (l.take j ++ m :: (l.take (k + 1)).drop j) = (l.take j ++ m :: (l.take k).drop j) ++ [l[k]] := by rw [h5]; simp
        have h8 : ∃ W, l.take j ++ m :: (l.take k).drop j = W := ⟨_, rfl⟩
        obtain ⟨W, hW⟩ := h8
        rw [hW] at h6 h7 ⊢
        generalize hy : l[k] = y at *
        generalize hc : cmpL m y = c at *
        by_cases h3 : c < 0
        · simp (maxSteps := 2000000) (disch := first | omega | (simp only [lenS]; try omega)) only [go_sem, reduceAdd, reduceEqDiff, reduceLeDiff, reduceSub, e1, e2, h0, h3, h6]
          refine ⟨true, l.take j ++ m :: (l.take (k + 1)).drop j, by rw [h7]; simp; omega, ?_, .inr ⟨rfl, j, by omega, rfl, h1, h2⟩⟩
          rw [h7]; simp [h6]
        · simp (maxSteps := 2000000) (disch := first | omega | (simp only [lenS]; try omega)) only [go_sem, reduceAdd, reduceEqDiff, reduceLeDiff, reduceSub, e1, e2, h0, h3, h6]
          refine ⟨true, l.take j ++ m :: (l.take (k + 1)).drop j, by rw [h7]; simp; omega, ?_, .inr ⟨rfl, j, by omega, rfl, h1, h2⟩⟩
          rw [h7]; simp [h6]
  · rintro s ⟨d, o, ho, rfl, hd⟩
    rcases hd with ⟨rfl, rfl, h1⟩ | ⟨rfl, j, hj, rfl, h1, h2⟩
    · rw [List.take_length] at h1 ⊢
      have h3 := zls (l := l) (m := m) (j := l.length) (by rw [List.take_length]; exact h1) (fun x h => by rw [List.getElem?_eq_none (Nat.le_refl _)] at h; cases h)
      rw [h3]
      simp (maxSteps := 2000000) (disch := first | omega | (simp only [lenS]; try omega)) only [go_sem, reduceAdd, reduceEqDiff, reduceLeDiff, reduceSub]
      exact .inl (by simp)
    · have h3 := zls h1 h2
      rw [List.take_length, ← h3]
      simp (maxSteps := 2000000) (disch := first | omega | (simp only [lenS]; try omega)) only [go_sem, reduceAdd, reduceEqDiff, reduceLeDiff, reduceSub]
      first | exact .inl trivial | exact .inl rfl
theorem wfx (l : List (List Int)) (n : Nat) (hn : n < 2^30) (hx : ∀ x ∈ l, x.length = n) (hl : l.length < 2^20) : Lw (C w9d [rows l] []) fun r => r = (.un wgp false 1 ((zow l).map ints), []) ∨ r = (rows (zow l), []) := by
  refine w32 ?_
  simp (maxSteps := 2000000) (disch := first | omega | (simp only [lenS]; try omega)) only [wdf, go_sem, reduceAdd, reduceEqDiff, reduceLeDiff, reduceSub]
  refine W_for l.length (fun i s => ∃ (V : PV) (K : List Blk), ((V = .ref 0 1 0 (zot l i).length ∧ K = [.row wgp false 1 ((zot l i).map ints)]) ∨ (V = rows (zot l i) ∧ K = [])) ∧ s = ⟨[rows l, .any, V, .any, .any, .any, rows l, I l.length, I i, .any, .any, .any, .any, .any, .any], K⟩) ?_ ?_ ?_
  · simp (maxSteps := 2000000) (disch := first | omega | (simp only [lenS]; try omega)) only [go_sem, reduceAdd, reduceEqDiff, reduceLeDiff, reduceSub]
    exact ⟨_, _, .inl ⟨rfl, rfl⟩, rfl⟩
  · rintro i s hi ⟨V, K, hV, rfl⟩
    have e1 : l[i]? = some l[i] := List.getElem?_eq_getElem hi
    obtain ⟨f1, f2, f3⟩ := zou l i
    have hxi := hx _ (List.getElem_mem hi)
    have hKx : ∀ x ∈ zot l i, x.length = n := fun x h => hx x (List.mem_of_mem_take ((f2 x).1 h).1)
    obtain ⟨_, e2, hr⟩ := wfv (zot l i) l[i] n hn hKx hxi (by omega) f1
    have e3 := zov hi
    have e4 : zor l l[i] = l.all fun x => !zbg l[i] x || decide (l[i] = x) := rfl
    have e5 := wfz l[i] (by omega)
    have hil := zlu (zot l i) l[i]
    have hne : l[i] ∈ inOrd (zot l i) l[i] := (zlv _ _ _).2 (.inl rfl)
    rw [e3]
    generalize zot l i = A at *
    generalize l[i] = x at *
    generalize inOrd A x = B at *
    rcases hV with ⟨rfl, rfl⟩ | ⟨rfl, rfl⟩
    · simp (maxSteps := 2000000) (disch := first | omega | (simp only [lenS]; try omega)) only [go_sem, reduceAdd, reduceEqDiff, reduceLeDiff, reduceSub, e1]
      refine W_for l.length (fun k s => s = ⟨[rows l, .any, .ref 0 1 0 A.length, ints x, .bool ((l.take k).all fun y => !zbg x y || decide (x = y)), .any, rows l, I l.length, I i, .any, rows l, I l.length, I k, .any, .any], [.row wgp false 1 (A.map ints)]⟩) ?_ ?_ ?_
      · simp (maxSteps := 2000000) (disch := first | omega | (simp only [lenS]; try omega)) only [go_sem, reduceAdd, reduceEqDiff, reduceLeDiff, reduceSub]
        simp
      · rintro k s hk rfl
        have g1 : l[k]? = some l[k] := List.getElem?_eq_getElem hk
        have g2 := hx _ (List.getElem_mem hk)
        have g3 : ((l.take (k + 1)).all fun y => !zbg x y || decide (x = y)) = (((l.take k).all fun y => !zbg x y || decide (x = y)) && (!zbg x l[k] || decide (x = l[k]))) := by
          rw [List.take_succ_eq_append_getElem hk, List.all_append]; simp
        have g4 := wfg x l[k] (by omega) (by omega)
        have g5 := wg5 x l[k] (by omega)
        rw [g3]
        generalize ((l.take k).all fun y => !zbg x y || decide (x = y)) = T at *
        generalize l[k] = y at *
        generalize zbg x y = c at *
        generalize decide (x = y) = q at *
        cases T <;> cases c <;> cases q <;> simp (maxSteps := 2000000) (disch := first | omega | (simp only [lenS]; try omega)) only [go_sem, reduceAdd, reduceEqDiff, reduceLeDiff, reduceSub, g1, g4, g5]
        all_goals first | done | rfl
      · rintro s rfl
        rw [List.take_length, ← e4]
        cases zor l x with
        | true =>
          rcases hr with rfl | ⟨_, rfl⟩
          · simp (maxSteps := 2000000) (disch := first | omega | (simp only [lenS]; try omega)) only [go_sem, reduceAdd, reduceEqDiff, reduceLeDiff, reduceSub, e5, e2]
            exact ⟨_, _, .inl ⟨rfl, rfl⟩, rfl⟩
          · obtain ⟨b, B', rfl⟩ : ∃ b B', B = b :: B' := by
              cases B with
              | nil => simp at hne
              | cons b B' => exact ⟨b, B', rfl⟩
            simp (maxSteps := 2000000) (disch := first | omega | (simp only [lenS]; try omega)) only [go_sem, reduceAdd, reduceEqDiff, reduceLeDiff, reduceSub, e5, e2]
            exact ⟨_, _, .inr ⟨rfl, rfl⟩, rfl⟩
        | false =>
          simp (maxSteps := 2000000) (disch := first | omega | (simp only [lenS]; try omega)) only [go_sem, reduceAdd, reduceEqDiff, reduceLeDiff, reduceSub]
          exact ⟨_, _, .inl ⟨rfl, rfl⟩, rfl⟩
    · simp (maxSteps := 2000000) (disch := first | omega | (simp only [lenS]; try omega)) only [go_sem, reduceAdd, reduceEqDiff, reduceLeDiff, reduceSub, e1]
      refine W_for l.length (fun k s => s = ⟨[rows l, .any, rows A, ints x, .bool ((l.take k).all fun y => !zbg x y || decide (x = y)), .any, rows l, I l.length, I i, .any, rows l, I l.length, I k, .any, .any], []⟩) ?_ ?_ ?_
      · simp (maxSteps := 2000000) (disch := first | omega | (simp only [lenS]; try omega)) only [go_sem, reduceAdd, reduceEqDiff, reduceLeDiff, reduceSub]
        simp
      · rintro k s hk rfl
        have g1 : l[k]? = some l[k] := List.getElem?_eq_getElem hk
        have g2 := hx _ (List.getElem_mem hk)
        have g3 : ((l.take (k + 1)).all fun y => !zbg x y || decide (x = y)) = (((l.take k).all fun y => !zbg x y || decide (x = y)) && (!zbg x l[k] || decide (x = l[k]))) := by
          rw [List.take_succ_eq_append_getElem hk, List.all_append]; simp
        have g4 := wfg x l[k] (by omega) (by omega)
        have g5 := wg5 x l[k] (by omega)
        rw [g3]
        generalize ((l.take k).all fun y => !zbg x y || decide (x = y)) = T at *
        generalize l[k] = y at *
        generalize zbg x y = c at *
        generalize decide (x = y) = q at *
        cases T <;> cases c <;> cases q <;> simp (maxSteps := 2000000) (disch := first | omega | (simp only [lenS]; try omega)) only [go_sem, reduceAdd, reduceEqDiff, reduceLeDiff, reduceSub, g1, g4, g5]
        all_goals first | done | rfl
      · rintro s rfl
        rw [List.take_length, ← e4]
        cases zor l x with
        | true =>
          rcases hr with rfl | ⟨_, rfl⟩
          · simp (maxSteps := 2000000) (disch := first | omega | (simp only [lenS]; try omega)) only [go_sem, reduceAdd, reduceEqDiff, reduceLeDiff, reduceSub, e5, e2]
            exact ⟨_, _, .inl ⟨rfl, rfl⟩, rfl⟩
          · obtain ⟨b, B', rfl⟩ : ∃ b B', B = b :: B' := by
              cases B with
              | nil => simp at hne
              | cons b B' => exact ⟨b, B', rfl⟩
            simp (maxSteps := 2000000) (disch := first | omega | (simp only [lenS]; try omega)) only [go_sem, reduceAdd, reduceEqDiff, reduceLeDiff, reduceSub, e5, e2]
            exact ⟨_, _, .inr ⟨rfl, rfl⟩, rfl⟩
        | false =>
          simp (maxSteps := 2000000) (disch := first | omega | (simp only [lenS]; try omega)) only [go_sem, reduceAdd, reduceEqDiff, reduceLeDiff, reduceSub]
          exact ⟨_, _, .inr ⟨rfl, rfl⟩, rfl⟩
  · rintro s ⟨V, K, hV, rfl⟩
    unfold zow
    rcases hV with ⟨rfl, rfl⟩ | ⟨rfl, rfl⟩
    · simp (maxSteps := 2000000) (disch := first | omega | (simp only [lenS]; try omega)) only [go_sem, reduceAdd, reduceEqDiff, reduceLeDiff, reduceSub]
      exact .inl trivial
    · simp (maxSteps := 2000000) (disch := first | omega | (simp only [lenS]; try omega)) only [go_sem, reduceAdd, reduceEqDiff, reduceLeDiff, reduceSub]
      exact .inr trivial
theorem wgg (a b : List (List Int)) (ha : a.length < 2^60) (hx : ∀ x ∈ a, x.length < 2^60) : C w9u [rows a, rows b] [] = some (.bool (decide (a = b)), []) := by
  refine w2b ?_
  simp (maxSteps := 2000000) (disch := first | omega | (simp only [lenS]; try omega)) only [wdw, go_sem, reduceAdd, reduceEqDiff, reduceLeDiff, reduceSub]
  refine ⟨fun h => ?_, fun h => ?_⟩
  · rw [decide_eq_false]
    intro e; subst e; exact h rfl
  have hlen : a.length = b.length := by omega
  refine W_for a.length (fun k s => s = ⟨[rows a, rows b, .any, .any, .any, I a.length, I k, .any, .any], []⟩ ∧ a.take k = b.take k) ?_ ?_ ?_
  · simp (maxSteps := 2000000) (disch := first | omega | (simp only [lenS]; try omega)) only [go_sem, reduceAdd, reduceEqDiff, reduceLeDiff, reduceSub]
    simp
  · rintro k s hk ⟨rfl, hall⟩
    have hkb : k < b.length := by omega
    have e := wg5 a[k] b[k] (by have := hx _ (List.getElem_mem hk); omega)
    have e1 : a[k]? = some a[k] := List.getElem?_eq_getElem hk
    have e2 : b[k]? = some b[k] := List.getElem?_eq_getElem hkb
    have h1 : a[k] = b[k] → a.take (k + 1) = b.take (k + 1) := fun h => by rw [z1e0 hk, z1e0 hkb, hall, h]
    have h2 : a[k] ≠ b[k] → a ≠ b := fun h e => h (by subst e; rfl)
    generalize a[k] = x at *
    generalize b[k] = y at *
    simp (maxSteps := 2000000) (disch := first | omega | (simp only [lenS]; try omega)) only [go_sem, reduceAdd, reduceEqDiff, reduceLeDiff, reduceSub, e1, e2, e]
    by_cases hxy : x = y
    · simp only [hxy, decide_true, not_true, false_implies, true_implies, true_and, and_true, h1 hxy]
      first | done | trivial | simp
    · simp only [hxy, decide_false]
      simp [h2 hxy]
  · rintro s ⟨rfl, hall⟩
    rw [List.take_length, hlen, List.take_length] at hall
    simp (maxSteps := 2000000) (disch := first | omega | (simp only [lenS]; try omega)) only [go_sem, reduceAdd, reduceEqDiff, reduceLeDiff, reduceSub]
    simp [hall]
def basQ (o : Option (List (List Int) × Int)) (r : PV × List Blk) : Prop :=
  (o = none ∧ r = (.tup [.un wgp false 1 [], I 0, .bool false], [])) ∨ ∃ l k, o = some (l, k) ∧ (r = (.tup [.un wgp false 1 (l.map ints), I k, .bool true], []) ∨ r = (.tup [rows l, I k, .bool true], []))
theorem w6b : basQ none (.tup [.un wgp false 1 [], I 0, .bool false], []) := .inl ⟨rfl, rfl⟩
theorem w6d (l : List (List Int)) (k : Int) : basQ (some (l, k)) (.tup [.un wgp false 1 (l.map ints), I k, .bool true], []) := .inr ⟨l, k, rfl, .inl rfl⟩
theorem w6c (l : List (List Int)) (k : Int) : basQ (some (l, k)) (.tup [rows l, I k, .bool true], []) := .inr ⟨l, k, rfl, .inr rfl⟩
theorem wgf (n : Net) (m : List Int) (b : Int) (hn : smN n) (hm : m.length < 2^62) (ho : okBas n m b = true) : Lw (C w9t [encN n, ints m, I b] []) (basQ (basV n m b)) := by
    have hrun := w6g ho
    obtain ⟨hmk, hb1, hb2⟩ := we5 ho
    have hgn := (zro hmk).1
    have hgp := ziv hgn
    have hfirst := Bas.first hmk
    generalize basV n m b = v at *
    generalize outs n.pl.toNat [m] + 1 = F at *
    have htn := hn.1
    have hml := zim (zro hmk).2
    have own := wfz m (by omega)
    refine w34 ?_
    simp (maxSteps := 2000000) (disch := first | omega | (simp only [lenS]; try omega)) only [wdv, go_sem, reduceAdd, reduceEqDiff, reduceLeDiff, reduceSub]
    simp (maxSteps := 2000000) (disch := first | omega | (simp only [lenS]; try omega)) only [go_sem, reduceAdd, reduceEqDiff, reduceLeDiff, reduceSub, own]
    refine z1a (fun j s => ∃ (l : List (List Int)) (r : Int), Bas n l ∧ runB n b j l r = some v ∧ (s = ⟨[.any, .any, I b, .ptr 0 0, .any, .any, .any, .ref 1 1 0 l.length, I r, .any, .any, .any, .any, .any, .any, .any, .any, .any, .any, .any, .any, .any, .any, .any, .any, .any], [.box wgm [I n.pl, trs n.tr], .row wgp false 1 (l.map ints)]⟩ ∨ s = ⟨[.any, .any, I b, .ptr 0 0, .any, .any, .any, rows l, I r, .any, .any, .any, .any, .any, .any, .any, .any, .any, .any, .any, .any, .any, .any, .any, .any, .any], [.box wgm [I n.pl, trs n.tr]]⟩)) F ?_ ?_
    · refine ⟨[m], 0, hfirst, hrun, .inl ?_⟩
      simp (maxSteps := 2000000) (disch := first | omega | (simp only [lenS]; try omega)) only [go_sem, reduceAdd, reduceEqDiff, reduceLeDiff, reduceSub]
      first | done | rfl
    · rintro j s ⟨l, r, hl, hr, hs⟩
      cases j with
      | zero => cases hr
      | succ j =>
      have hll := hl.len
      have hlg := hl.good
      rcases hs with rfl | rfl
      · simp (maxSteps := 2000000) (disch := first | omega | (simp only [lenS]; try omega)) only [go_sem, reduceAdd, reduceEqDiff, reduceLeDiff, reduceSub]
        refine W_for l.length (fun k s => inBox (allS n (l.take k)) = true ∧ s = ⟨[.any, .any, I b, .ptr 0 0, .any, .any, .any, .ref 1 1 0 l.length, I r, .ref 2 1 0 (l ++ allS n (l.take k)).length, .any, .any, .any, .any, .ref 1 1 0 l.length, I l.length, I k, .any, .any, .any, .any, .any, .any, .any, .any, .any], [.box wgm [I n.pl, trs n.tr], .row wgp false 1 (l.map ints), .row wgp false 1 ((l ++ allS n (l.take k)).map ints)]⟩) ?_ ?_ ?_
        · refine ⟨rfl, ?_⟩
          rw [show l ++ allS n (l.take 0) = l by simp [allS]]
          simp (maxSteps := 2000000) (disch := first | omega | (simp only [lenS]; try omega)) only [go_sem, reduceAdd, reduceEqDiff, reduceLeDiff, reduceSub]
          first | done | rfl
        · rintro k s hk ⟨hbx, rfl⟩
          have hx := zim (hlg _ (List.getElem_mem hk))
          have e1 : l[k]? = some l[k] := List.getElem?_eq_getElem hk
          have hal := z2v n (l.take k)
          have hpre := w6a n l (k + 1)
          rw [z2x hk] at hpre ⊢
          have hlk : (l.take k).length ≤ 60 := by have := List.length_take_le k l; omega
          have hmul : (l.take k).length * n.tr.length ≤ 60 * 24 := Nat.mul_le_mul hlk hgp.2.2.1
          have hbad := fun i (h : inBox (allS n (l.take k) ++ stpK n l[k] i) = false) => z16e (b := b) (f := j) (r := r) (waq h (by
            obtain ⟨c, hc⟩ := wgi n l[k] i
            obtain ⟨d, hd⟩ := hpre
            rw [hd, hc]; exact ⟨c ++ d, by simp⟩))
          rw [← List.append_assoc]
          generalize hA : l ++ allS n (l.take k) = A at *
          have hAl : A.length ≤ 60 + 60 * 24 := by rw [← hA, List.length_append]; omega
          generalize allS n (l.take k) = B at *
          generalize l[k] = x at *
          simp (maxSteps := 2000000) (disch := first | omega | (simp only [lenS]; try omega)) only [go_sem, reduceAdd, reduceEqDiff, reduceLeDiff, reduceSub, e1]
          refine W_for n.tr.length (fun i s => inBox (stpK n x i) = true ∧ s = ⟨[.any, .any, I b, .ptr 0 0, .any, .any, .any, .ref 1 1 0 l.length, I r, .ref 2 1 0 (A ++ stpK n x i).length, ints x, .any, .any, .any, .ref 1 1 0 l.length, I l.length, I k, .any, trs n.tr, I n.tr.length, I i, .any, .any, .any, .any, .any], [.box wgm [I n.pl, trs n.tr], .row wgp false 1 (l.map ints), .row wgp false 1 ((A ++ stpK n x i).map ints)]⟩) ?_ ?_ ?_
          · refine ⟨rfl, ?_⟩
            rw [z1cl, List.append_nil]
            simp (maxSteps := 2000000) (disch := first | omega | (simp only [lenS]; try omega)) only [go_sem, reduceAdd, reduceEqDiff, reduceLeDiff, reduceSub]
            first | done | rfl
          · rintro i s hi ⟨hbi2, rfl⟩
            have g1 : n.tr[i]? = some n.tr[i] := List.getElem?_eq_getElem hi
            have hsm := hn.2 _ (List.getElem_mem hi)
            have g2 := wgh n.tr[i] x hsm (by omega) hx.2.2.2.2
            have hst := z1ck (n := n) (x := x) hi
            have hsf := z1ci (n := n) (x := x) hi
            have hkl := z1cj n x i
            have hbl := z54 n.tr[i] x
            have hbad2 := hbad (i + 1)
            generalize n.tr[i] = t at *
            cases hok : okB t x with
            | false =>
              rw [hsf hok]
              simp only [hok, Bool.false_eq_true, if_false] at g2
              simp (maxSteps := 2000000) (disch := first | omega | (simp only [lenS]; try omega)) only [go_sem, reduceAdd, reduceEqDiff, reduceLeDiff, reduceSub, g1, g2]
              first | exact ⟨hbi2, rfl⟩ | (refine ⟨hbi2, ?_⟩; simp)
            | true =>
              rw [hst hok] at hbad2 ⊢
              simp only [hok, if_true] at g2
              generalize stpK n x i = S at *
              generalize backM t x = y at *
              have g3 := wfa n.pl y (by omega)
              have e4 : goodM n.pl y = y.all (inB 0 50) := by
                have h1 : inB 1 16 n.pl = true := by simp [inB]; omega
                have h2 : ((y.length : Int) == n.pl) = true := by simp; omega
                simp only [goodM, h1, h2, Bool.true_and]
              rw [e4] at g3
              rw [wao, wap] at *
              cases hy : y.all (inB 0 50) with
              | false =>
                rw [hy] at g3
                have := hbad2 (by rw [wao, wap, hy]; simp)
                rw [this] at hr
                cases hr
                simp (maxSteps := 2000000) (disch := first | omega | (simp only [lenS]; try omega)) only [go_sem, reduceAdd, reduceEqDiff, reduceLeDiff, reduceSub, g1, g2, g3]
                exact w6b
              | true =>
                rw [hy] at g3
                simp (maxSteps := 2000000) (disch := first | omega | (simp only [lenS]; try omega)) only [go_sem, reduceAdd, reduceEqDiff, reduceLeDiff, reduceSub, g1, g2, g3]
                refine ⟨by simp [hbi2], ?_⟩
                simp
                try omega
          · rintro s ⟨hbi2, rfl⟩
            simp (maxSteps := 2000000) (disch := first | omega | (simp only [lenS]; try omega)) only [go_sem, reduceAdd, reduceEqDiff, reduceLeDiff, reduceSub]
            refine ⟨by rw [wao, hbx]; exact hbi2, ?_⟩
            first | rfl | simp [stpL]
        · rintro s ⟨hbx, rfl⟩
          rw [List.take_length] at hbx ⊢
          have hall := hl.all hbx
          have hal := z2v n l
          have hmul : l.length * n.tr.length ≤ 60 * 24 := Nat.mul_le_mul hll hgp.2.2.1
          obtain ⟨_, e3, e30⟩ := wfx (l ++ allS n l) n.pl.toNat (by omega) (fun x hx => by have := zim (hall x hx); omega) (by rw [List.length_append]; omega)
          have hnl := (zoy (l ++ allS n l)).2.2
          have hal2 : (l ++ allS n l).length ≤ 1500 := by rw [List.length_append]; omega
          have hbig := z16d (b := b) (f := j) (r := r) hbx
          have hend := z16f (b := b) (f := j) (r := r) hbx
          have hnext := z16h (b := b) (f := j) (r := r) hbx
          have hbn := fun h => hl.next (b := b) hbx h hb2
          have e4 := fun h => wgg (nextB n l) l h
          have hlx : ∀ x ∈ nextB n l, x.length < 2^60 := fun x hx => by
            have := zim (hall x (((zoy _).2.1 x).1 hx).1); omega
          change _ = (PV.un wgp false 1 ((nextB n l).map ints), _) ∨ _ = (rows (nextB n l), _) at e30
          change (nextB n l).length ≤ _ at hnl
          generalize nextB n l = N at *
          generalize l ++ allS n l = A at *
          have e4 := e4 (by omega) hlx
          rcases e30 with rfl | rfl
          all_goals
            by_cases h2 : b < N.length
            · rw [hbig h2] at hr
              cases hr
              simp (maxSteps := 2000000) (disch := first | omega | (simp only [lenS]; try omega)) only [go_sem, reduceAdd, reduceEqDiff, reduceLeDiff, reduceSub, e3, h2]
              first | exact w6b | exact ⟨fun _ => w6b, fun _ => w6b⟩
            · by_cases h3 : N = l
              · rw [hend h2 h3] at hr
                cases hr
                rw [decide_eq_true h3] at e4
                simp (maxSteps := 2000000) (disch := first | omega | (simp only [lenS]; try omega)) only [go_sem, reduceAdd, reduceEqDiff, reduceLeDiff, reduceSub, e3, e4, h2]
                first | exact w6d l r | exact w6c l r | exact ⟨fun _ => w6d l r, fun _ => w6d l r⟩ | exact ⟨fun _ => w6c l r, fun _ => w6c l r⟩
              · rw [hnext h2 h3] at hr
                rw [decide_eq_false h3] at e4
                simp (maxSteps := 2000000) (disch := first | omega | (simp only [lenS]; try omega)) only [go_sem, reduceAdd, reduceEqDiff, reduceLeDiff, reduceSub, e3, e4, h2]
                first
                  | exact ⟨j, by omega, N, _, hbn h2, hr, .inl rfl⟩
                  | exact ⟨j, by omega, N, _, hbn h2, hr, .inr rfl⟩
                  | exact ⟨fun _ => ⟨j, by omega, N, _, hbn h2, hr, .inr rfl⟩, fun _ => ⟨j, by omega, N, _, hbn h2, hr, .inr rfl⟩⟩
      · simp (maxSteps := 2000000) (disch := first | omega | (simp only [lenS]; try omega)) only [go_sem, reduceAdd, reduceEqDiff, reduceLeDiff, reduceSub]
        refine W_for l.length (fun k s => inBox (allS n (l.take k)) = true ∧ s = ⟨[.any, .any, I b, .ptr 0 0, .any, .any, .any, rows l, I r, .ref 1 1 0 (l ++ allS n (l.take k)).length, .any, .any, .any, .any, rows l, I l.length, I k, .any, .any, .any, .any, .any, .any, .any, .any, .any], [.box wgm [I n.pl, trs n.tr], .row wgp false 1 ((l ++ allS n (l.take k)).map ints)]⟩) ?_ ?_ ?_
        · refine ⟨rfl, ?_⟩
          rw [show l ++ allS n (l.take 0) = l by simp [allS]]
          simp (maxSteps := 2000000) (disch := first | omega | (simp only [lenS]; try omega)) only [go_sem, reduceAdd, reduceEqDiff, reduceLeDiff, reduceSub]
          first | done | rfl
        · rintro k s hk ⟨hbx, rfl⟩
          have hx := zim (hlg _ (List.getElem_mem hk))
          have e1 : l[k]? = some l[k] := List.getElem?_eq_getElem hk
          have hal := z2v n (l.take k)
          have hpre := w6a n l (k + 1)
          rw [z2x hk] at hpre ⊢
          have hlk : (l.take k).length ≤ 60 := by have := List.length_take_le k l; omega
          have hmul : (l.take k).length * n.tr.length ≤ 60 * 24 := Nat.mul_le_mul hlk hgp.2.2.1
          have hbad := fun i (h : inBox (allS n (l.take k) ++ stpK n l[k] i) = false) => z16e (b := b) (f := j) (r := r) (waq h (by
            obtain ⟨c, hc⟩ := wgi n l[k] i
            obtain ⟨d, hd⟩ := hpre
            rw [hd, hc]; exact ⟨c ++ d, by simp⟩))
          rw [← List.append_assoc]
          generalize hA : l ++ allS n (l.take k) = A at *
          have hAl : A.length ≤ 60 + 60 * 24 := by rw [← hA, List.length_append]; omega
          generalize allS n (l.take k) = B at *
          generalize l[k] = x at *
          simp (maxSteps := 2000000) (disch := first | omega | (simp only [lenS]; try omega)) only [go_sem, reduceAdd, reduceEqDiff, reduceLeDiff, reduceSub, e1]
          refine W_for n.tr.length (fun i s => inBox (stpK n x i) = true ∧ s = ⟨[.any, .any, I b, .ptr 0 0, .any, .any, .any, rows l, I r, .ref 1 1 0 (A ++ stpK n x i).length, ints x, .any, .any, .any, rows l, I l.length, I k, .any, trs n.tr, I n.tr.length, I i, .any, .any, .any, .any, .any], [.box wgm [I n.pl, trs n.tr], .row wgp false 1 ((A ++ stpK n x i).map ints)]⟩) ?_ ?_ ?_
          · refine ⟨rfl, ?_⟩
            rw [z1cl, List.append_nil]
            simp (maxSteps := 2000000) (disch := first | omega | (simp only [lenS]; try omega)) only [go_sem, reduceAdd, reduceEqDiff, reduceLeDiff, reduceSub]
            first | done | rfl
          · rintro i s hi ⟨hbi2, rfl⟩
            have g1 : n.tr[i]? = some n.tr[i] := List.getElem?_eq_getElem hi
            have hsm := hn.2 _ (List.getElem_mem hi)
            have g2 := wgh n.tr[i] x hsm (by omega) hx.2.2.2.2
            have hst := z1ck (n := n) (x := x) hi
            have hsf := z1ci (n := n) (x := x) hi
            have hkl := z1cj n x i
            have hbl := z54 n.tr[i] x
            have hbad2 := hbad (i + 1)
            generalize n.tr[i] = t at *
            cases hok : okB t x with
            | false =>
              rw [hsf hok]
              simp only [hok, Bool.false_eq_true, if_false] at g2
              simp (maxSteps := 2000000) (disch := first | omega | (simp only [lenS]; try omega)) only [go_sem, reduceAdd, reduceEqDiff, reduceLeDiff, reduceSub, g1, g2]
              first | exact ⟨hbi2, rfl⟩ | (refine ⟨hbi2, ?_⟩; simp)
            | true =>
              rw [hst hok] at hbad2 ⊢
              simp only [hok, if_true] at g2
              generalize stpK n x i = S at *
              generalize backM t x = y at *
              have g3 := wfa n.pl y (by omega)
              have e4 : goodM n.pl y = y.all (inB 0 50) := by
                have h1 : inB 1 16 n.pl = true := by simp [inB]; omega
                have h2 : ((y.length : Int) == n.pl) = true := by simp; omega
                simp only [goodM, h1, h2, Bool.true_and]
              rw [e4] at g3
              rw [wao, wap] at *
              cases hy : y.all (inB 0 50) with
              | false =>
                rw [hy] at g3
                have := hbad2 (by rw [wao, wap, hy]; simp)
                rw [this] at hr
                cases hr
                simp (maxSteps := 2000000) (disch := first | omega | (simp only [lenS]; try omega)) only [go_sem, reduceAdd, reduceEqDiff, reduceLeDiff, reduceSub, g1, g2, g3]
                exact w6b
              | true =>
                rw [hy] at g3
                simp (maxSteps := 2000000) (disch := first | omega | (simp only [lenS]; try omega)) only [go_sem, reduceAdd, reduceEqDiff, reduceLeDiff, reduceSub, g1, g2, g3]
                refine ⟨by simp [hbi2], ?_⟩
                simp
                try omega
          · rintro s ⟨hbi2, rfl⟩
            simp (maxSteps := 2000000) (disch := first | omega | (simp only [lenS]; try omega)) only [go_sem, reduceAdd, reduceEqDiff, reduceLeDiff, reduceSub]
            refine ⟨by rw [wao, hbx]; exact hbi2, ?_⟩
            first | rfl | simp [stpL]
        · rintro s ⟨hbx, rfl⟩
          rw [List.take_length] at hbx ⊢
          have hall := hl.all hbx
          have hal := z2v n l
          have hmul : l.length * n.tr.length ≤ 60 * 24 := Nat.mul_le_mul hll hgp.2.2.1
          obtain ⟨_, e3, e30⟩ := wfx (l ++ allS n l) n.pl.toNat (by omega) (fun x hx => by have := zim (hall x hx); omega) (by rw [List.length_append]; omega)
          have hnl := (zoy (l ++ allS n l)).2.2
          have hal2 : (l ++ allS n l).length ≤ 1500 := by rw [List.length_append]; omega
          have hbig := z16d (b := b) (f := j) (r := r) hbx
          have hend := z16f (b := b) (f := j) (r := r) hbx
          have hnext := z16h (b := b) (f := j) (r := r) hbx
          have hbn := fun h => hl.next (b := b) hbx h hb2
          have e4 := fun h => wgg (nextB n l) l h
          have hlx : ∀ x ∈ nextB n l, x.length < 2^60 := fun x hx => by
            have := zim (hall x (((zoy _).2.1 x).1 hx).1); omega
          change _ = (PV.un wgp false 1 ((nextB n l).map ints), _) ∨ _ = (rows (nextB n l), _) at e30
          change (nextB n l).length ≤ _ at hnl
          generalize nextB n l = N at *
          generalize l ++ allS n l = A at *
          have e4 := e4 (by omega) hlx
          rcases e30 with rfl | rfl
          all_goals
            by_cases h2 : b < N.length
            · rw [hbig h2] at hr
              cases hr
              simp (maxSteps := 2000000) (disch := first | omega | (simp only [lenS]; try omega)) only [go_sem, reduceAdd, reduceEqDiff, reduceLeDiff, reduceSub, e3, h2]
              first | exact w6b | exact ⟨fun _ => w6b, fun _ => w6b⟩
            · by_cases h3 : N = l
              · rw [hend h2 h3] at hr
                cases hr
                rw [decide_eq_true h3] at e4
                simp (maxSteps := 2000000) (disch := first | omega | (simp only [lenS]; try omega)) only [go_sem, reduceAdd, reduceEqDiff, reduceLeDiff, reduceSub, e3, e4, h2]
                first | exact w6d l r | exact w6c l r | exact ⟨fun _ => w6d l r, fun _ => w6d l r⟩ | exact ⟨fun _ => w6c l r, fun _ => w6c l r⟩
              · rw [hnext h2 h3] at hr
                rw [decide_eq_false h3] at e4
                simp (maxSteps := 2000000) (disch := first | omega | (simp only [lenS]; try omega)) only [go_sem, reduceAdd, reduceEqDiff, reduceLeDiff, reduceSub, e3, e4, h2]
                first
                  | exact ⟨j, by omega, N, _, hbn h2, hr, .inl rfl⟩
                  | exact ⟨j, by omega, N, _, hbn h2, hr, .inr rfl⟩
                  | exact ⟨fun _ => ⟨j, by omega, N, _, hbn h2, hr, .inr rfl⟩, fun _ => ⟨j, by omega, N, _, hbn h2, hr, .inr rfl⟩⟩
def bbQ (v : Option (List (List Int) × Int)) (r : PV × List Blk) : Prop :=
  (v = none ∧ r = (.tup [.un wgp false 1 [], .bool false], [])) ∨ ∃ l k, v = some (l, k) ∧ (r = (.tup [.un wgp false 1 (l.map ints), .bool true], []) ∨ r = (.tup [rows l, .bool true], []))
theorem w6f {n : Net} {m : List Int} {b : Int} (h : okBas n m b = false) : basV n m b = none := by unfold basV; rw [h]; rfl
theorem wf3 (n : Net) (m : List Int) (b : Int) (hn : smN n) (hm : m.length < 2^62) : Lw (C w8k [encN n, ints m, I b] []) (bbQ (basV n m b)) := by
  have i1 := wge n m b hn hm
  cases ho : okBas n m b with
  | false =>
    rw [ho] at i1
    rw [w6f ho]
    refine w2n ?_
    simp (maxSteps := 2000000) (disch := first | omega | (simp only [lenS]; try omega)) only [wcm, go_sem, reduceAdd, reduceEqDiff, reduceLeDiff, reduceSub]
    simp (maxSteps := 2000000) (disch := first | omega | (simp only [lenS]; try omega)) only [go_sem, reduceAdd, reduceEqDiff, reduceLeDiff, reduceSub, i1]
    exact .inl ⟨rfl, rfl⟩
  | true =>
    rw [ho] at i1
    obtain ⟨_, e, hq⟩ := wgf n m b hn hm ho
    generalize basV n m b = v at *
    rcases hq with ⟨rfl, rfl⟩ | ⟨l, k, rfl, rfl | rfl⟩
    · refine w2n ?_
      simp (maxSteps := 2000000) (disch := first | omega | (simp only [lenS]; try omega)) only [wcm, go_sem, reduceAdd, reduceEqDiff, reduceLeDiff, reduceSub]
      simp (maxSteps := 2000000) (disch := first | omega | (simp only [lenS]; try omega)) only [go_sem, reduceAdd, reduceEqDiff, reduceLeDiff, reduceSub, i1, e]
      exact .inl ⟨rfl, rfl⟩
    · refine w2n ?_
      simp (maxSteps := 2000000) (disch := first | omega | (simp only [lenS]; try omega)) only [wcm, go_sem, reduceAdd, reduceEqDiff, reduceLeDiff, reduceSub]
      simp (maxSteps := 2000000) (disch := first | omega | (simp only [lenS]; try omega)) only [go_sem, reduceAdd, reduceEqDiff, reduceLeDiff, reduceSub, i1, e]
      exact .inr ⟨l, k, rfl, .inl rfl⟩
    · refine w2n ?_
      simp (maxSteps := 2000000) (disch := first | omega | (simp only [lenS]; try omega)) only [wcm, go_sem, reduceAdd, reduceEqDiff, reduceLeDiff, reduceSub]
      simp (maxSteps := 2000000) (disch := first | omega | (simp only [lenS]; try omega)) only [go_sem, reduceAdd, reduceEqDiff, reduceLeDiff, reduceSub, i1, e]
      first | exact .inr ⟨l, k, rfl, .inr rfl⟩ | exact ⟨fun _ => .inr ⟨l, k, rfl, .inr rfl⟩, fun _ => .inr ⟨l, k, rfl, .inr rfl⟩⟩
theorem wf5 (n : Net) (start m : List Int) (b : Int) (hn : smN n) (hs : start.length < 2^60) (hm : m.length < 2^62) : C w8m [encN n, ints start, ints m, I b] [] = some (.tup [.bool (cbV n start m b), .bool (cbO n start m b)], []) := by
  obtain ⟨_, e, hq⟩ := wf3 n m b hn hm
  have g := wfa n.pl start (by omega)
  have hf := fun l r => w6e (n := n) (m := m) (b := b) (l := l) (r := r)
  unfold cbV cbO
  generalize basV n m b = v at *
  rcases hq with ⟨rfl, rfl⟩ | ⟨l, k, rfl, hq⟩
  · simp only [Option.isSome_none, Bool.false_and]
    refine w1j ?_
    simp (maxSteps := 2000000) (disch := first | omega | (simp only [lenS]; try omega)) only [wco, go_sem, reduceAdd, reduceEqDiff, reduceLeDiff, reduceSub]
    simp (maxSteps := 2000000) (disch := first | omega | (simp only [lenS]; try omega)) only [go_sem, reduceAdd, reduceEqDiff, reduceLeDiff, reduceSub, e]
    first | done | rfl
  · obtain ⟨_, hb, _⟩ := hf l k rfl
    simp only [Option.isSome_some, Bool.true_and]
    have hbl := hb.len
    cases hg : goodM n.pl start with
    | false =>
      rw [hg] at g
      rcases hq with rfl | rfl
      all_goals
        refine w1j ?_
        simp (maxSteps := 2000000) (disch := first | omega | (simp only [lenS]; try omega)) only [wco, go_sem, reduceAdd, reduceEqDiff, reduceLeDiff, reduceSub]
        simp (maxSteps := 2000000) (disch := first | omega | (simp only [lenS]; try omega)) only [go_sem, reduceAdd, reduceEqDiff, reduceLeDiff, reduceSub, e, g]
        first | done | rfl | simp
    | true =>
      rw [hg] at g
      have hgl := zim hg
      have hcv : ∀ j, (hj : j < l.length) → C w8x [ints start, ints l[j]] [] = some (.bool (zbg start l[j]), []) := fun j hj => by
        have := zim (hb.good _ (List.getElem_mem hj))
        exact wfg start l[j] (by omega) (by omega)
      rcases hq with rfl | rfl
      · refine w1j ?_
        simp (maxSteps := 2000000) (disch := first | omega | (simp only [lenS]; try omega)) only [wco, go_sem, reduceAdd, reduceEqDiff, reduceLeDiff, reduceSub]
        simp (maxSteps := 2000000) (disch := first | omega | (simp only [lenS]; try omega)) only [go_sem, reduceAdd, reduceEqDiff, reduceLeDiff, reduceSub, e, g]
        refine W_for l.length (fun j s => s = ⟨[.any, ints start, .any, .any, .any, .any, .any, .any, .any, .any, .any, .ref 0 1 0 l.length, I l.length, I j, .any, .any], [.row wgp false 1 (l.map ints)]⟩ ∧ above (l.take j) start = false) ?_ ?_ ?_
        · simp (maxSteps := 2000000) (disch := first | omega | (simp only [lenS]; try omega)) only [go_sem, reduceAdd, reduceEqDiff, reduceLeDiff, reduceSub]
          first | exact ⟨rfl, rfl⟩ | rfl
        · rintro j s hj ⟨rfl, h0⟩
          have e1 : l[j]? = some l[j] := List.getElem?_eq_getElem hj
          have c1 := hcv j hj
          have h1 := fun h => z3e (p := fun x => zbg start x) hj h0 h
          have h2 := fun h => z3f (p := fun x => zbg start x) hj h
          generalize l[j] = x at *
          generalize zbg start x = c at *
          cases c
          · simp (maxSteps := 2000000) (disch := first | omega | (simp only [lenS]; try omega)) only [go_sem, reduceAdd, reduceEqDiff, reduceLeDiff, reduceSub, e1, c1]
            exact ⟨rfl, h1 rfl⟩
          · simp (maxSteps := 2000000) (disch := first | omega | (simp only [lenS]; try omega)) only [go_sem, reduceAdd, reduceEqDiff, reduceLeDiff, reduceSub, e1, c1]
            rw [show above l start = true from h2 rfl]
            first | done | rfl
        · rintro s ⟨rfl, h0⟩
          rw [List.take_length] at h0
          simp (maxSteps := 2000000) (disch := first | omega | (simp only [lenS]; try omega)) only [go_sem, reduceAdd, reduceEqDiff, reduceLeDiff, reduceSub]
          rw [h0]
          first | done | rfl
      · refine w1j ?_
        simp (maxSteps := 2000000) (disch := first | omega | (simp only [lenS]; try omega)) only [wco, go_sem, reduceAdd, reduceEqDiff, reduceLeDiff, reduceSub]
        simp (maxSteps := 2000000) (disch := first | omega | (simp only [lenS]; try omega)) only [go_sem, reduceAdd, reduceEqDiff, reduceLeDiff, reduceSub, e, g]
        all_goals
          refine W_for l.length (fun j s => s = ⟨[.any, ints start, .any, .any, .any, .any, .any, .any, .any, .any, .any, rows l, I l.length, I j, .any, .any], []⟩ ∧ above (l.take j) start = false) ?_ ?_ ?_
          · simp (maxSteps := 2000000) (disch := first | omega | (simp only [lenS]; try omega)) only [go_sem, reduceAdd, reduceEqDiff, reduceLeDiff, reduceSub]
            first | exact ⟨rfl, rfl⟩ | rfl
          · rintro j s hj ⟨rfl, h0⟩
            have e1 : l[j]? = some l[j] := List.getElem?_eq_getElem hj
            have c1 := hcv j hj
            have h1 := fun h => z3e (p := fun x => zbg start x) hj h0 h
            have h2 := fun h => z3f (p := fun x => zbg start x) hj h
            generalize l[j] = x at *
            generalize zbg start x = c at *
            cases c
            · simp (maxSteps := 2000000) (disch := first | omega | (simp only [lenS]; try omega)) only [go_sem, reduceAdd, reduceEqDiff, reduceLeDiff, reduceSub, e1, c1]
              exact ⟨rfl, h1 rfl⟩
            · simp (maxSteps := 2000000) (disch := first | omega | (simp only [lenS]; try omega)) only [go_sem, reduceAdd, reduceEqDiff, reduceLeDiff, reduceSub, e1, c1]
              rw [show above l start = true from h2 rfl]
              first | done | rfl
          · rintro s ⟨rfl, h0⟩
            rw [List.take_length] at h0
            simp (maxSteps := 2000000) (disch := first | omega | (simp only [lenS]; try omega)) only [go_sem, reduceAdd, reduceEqDiff, reduceLeDiff, reduceSub]
            rw [h0]
            first | done | rfl
def bbPV : Option (List (List Int) × Int) → PV
  | none => .un wgp false 1 []
  | some (l, _) => rows l
theorem w9w (n : Net) (m : List Int) (b : Int) (hn : smN n) (hm : m.length < 2^62) : C w6r [encN n, ints m, I b] [] = some (.tup [bbPV (basV n m b), .bool (basV n m b).isSome], []) := by
  have h := wac n m b hn hm
  generalize basV n m b = v at *
  rcases v with _ | ⟨l, r⟩
  · simp only [basPV, bbPV, Option.isSome_none] at h ⊢
    refine w02 ?_
    simp (maxSteps := 2000000) (disch := first | omega | (simp only [lenS]; try omega)) only [wau, go_sem, reduceAdd, reduceEqDiff, reduceLeDiff, reduceSub]
    simp (maxSteps := 2000000) (disch := first | omega | (simp only [lenS]; try omega)) only [go_sem, reduceAdd, reduceEqDiff, reduceLeDiff, reduceSub, h]
    first | done | rfl
  · simp only [basPV, bbPV, Option.isSome_some] at h ⊢
    refine w02 ?_
    simp (maxSteps := 2000000) (disch := first | omega | (simp only [lenS]; try omega)) only [wau, go_sem, reduceAdd, reduceEqDiff, reduceLeDiff, reduceSub]
    simp (maxSteps := 2000000) (disch := first | omega | (simp only [lenS]; try omega)) only [go_sem, reduceAdd, reduceEqDiff, reduceLeDiff, reduceSub, h]
    first | done | rfl
def brV (v : Option (List (List Int) × Int)) : Int := match v with
  | none => 0
  | some (_, r) => r
theorem w9x (n : Net) (m : List Int) (b : Int) (hn : smN n) (hm : m.length < 2^62) : C w6s [encN n, ints m, I b] [] = some (.tup [I (brV (basV n m b)), .bool (basV n m b).isSome], []) := by
  have h := wac n m b hn hm
  generalize basV n m b = v at *
  rcases v with _ | ⟨l, r⟩
  · simp only [basPV, brV, Option.isSome_none] at h ⊢
    refine w03 ?_
    simp (maxSteps := 2000000) (disch := first | omega | (simp only [lenS]; try omega)) only [wav, go_sem, reduceAdd, reduceEqDiff, reduceLeDiff, reduceSub]
    simp (maxSteps := 2000000) (disch := first | omega | (simp only [lenS]; try omega)) only [go_sem, reduceAdd, reduceEqDiff, reduceLeDiff, reduceSub, h]
    first | done | rfl
  · simp only [basPV, brV, Option.isSome_some] at h ⊢
    refine w03 ?_
    simp (maxSteps := 2000000) (disch := first | omega | (simp only [lenS]; try omega)) only [wav, go_sem, reduceAdd, reduceEqDiff, reduceLeDiff, reduceSub]
    simp (maxSteps := 2000000) (disch := first | omega | (simp only [lenS]; try omega)) only [go_sem, reduceAdd, reduceEqDiff, reduceLeDiff, reduceSub, h]
    first | done | rfl
theorem wf4 (n : Net) (m : List Int) (b : Int) (hn : smN n) (hm : m.length < 2^62) : C w8l [encN n, ints m, I b] [] = some (.tup [I (brV (basV n m b)), .bool (basV n m b).isSome], []) := by
  have i1 := wge n m b hn hm
  cases ho : okBas n m b with
  | false =>
    rw [ho] at i1
    rw [w6f ho]
    refine w1i ?_
    simp (maxSteps := 2000000) (disch := first | omega | (simp only [lenS]; try omega)) only [wcn, go_sem, reduceAdd, reduceEqDiff, reduceLeDiff, reduceSub]
    simp (maxSteps := 2000000) (disch := first | omega | (simp only [lenS]; try omega)) only [go_sem, reduceAdd, reduceEqDiff, reduceLeDiff, reduceSub, i1]
    first | done | rfl
  | true =>
    rw [ho] at i1
    obtain ⟨_, e, hq⟩ := wgf n m b hn hm ho
    generalize basV n m b = v at *
    rcases hq with ⟨rfl, rfl⟩ | ⟨l, k, rfl, rfl | rfl⟩
    all_goals
      refine w1i ?_
      simp (maxSteps := 2000000) (disch := first | omega | (simp only [lenS]; try omega)) only [wcn, go_sem, reduceAdd, reduceEqDiff, reduceLeDiff, reduceSub]
      simp (maxSteps := 2000000) (disch := first | omega | (simp only [lenS]; try omega)) only [go_sem, reduceAdd, reduceEqDiff, reduceLeDiff, reduceSub, i1, e]
      first | done | rfl | simp [brV]
theorem wdz (a b : List Int) (hl : a.length < 2^62) : C w7l [ints a, ints b] [] = some (.bool (decide (a = b)), []) := by
  refine w0w ?_
  simp (maxSteps := 2000000) (disch := first | omega | (simp only [lenS]; try omega)) only [wbp, go_sem, reduceAdd, reduceEqDiff, reduceLeDiff, reduceSub]
  refine ⟨fun h => ?_, fun h => ?_⟩
  · have : a ≠ b := fun e => h (by rw [e])
    simp [this]
  refine W_for a.length (fun k s => s = ⟨[ints a, ints b, .any, .any, .any, I a.length, I k, .any, .any], []⟩ ∧ a.take k = b.take k) ?_ ?_ ?_
  · simp (maxSteps := 2000000) (disch := first | omega | (simp only [lenS]; try omega)) only [go_sem, reduceAdd, reduceEqDiff, reduceLeDiff, reduceSub]
    rfl
  · rintro k s hk ⟨rfl, hall⟩
    simp (maxSteps := 2000000) (disch := first | omega | (simp only [lenS]; try omega)) only [go_sem, reduceAdd, reduceEqDiff, reduceLeDiff, reduceSub]
    refine ⟨fun h => ?_, fun h => ⟨rfl, ?_⟩⟩
    · have : a ≠ b := fun e => h (by simp [e])
      simp [this]
    · rw [z1e0 hk, z1e0 (show k < b.length by omega), hall, h]
  · rintro s ⟨rfl, hall⟩
    simp (maxSteps := 2000000) (disch := first | omega | (simp only [lenS]; try omega)) only [go_sem, reduceAdd, reduceEqDiff, reduceLeDiff, reduceSub]
    rw [List.take_length, List.take_of_length_le (by omega)] at hall
    simp [hall]
theorem we0 (a : List (List Int)) (hl : a.length < 2^62) (hx : ∀ x ∈ a, x.length < 2^62) : C w7m [rows a, rows a] [] = some (.bool true, []) := by
  refine w0x ?_
  simp (maxSteps := 2000000) (disch := first | omega | (simp only [lenS]; try omega)) only [wbq, go_sem, reduceAdd, reduceEqDiff, reduceLeDiff, reduceSub]
  refine W_for a.length (fun k s => s = ⟨[rows a, rows a, .any, .any, .any, I a.length, I k, .any, .any], []⟩) ?_ ?_ ?_
  · simp (maxSteps := 2000000) (disch := first | omega | (simp only [lenS]; try omega)) only [go_sem, reduceAdd, reduceEqDiff, reduceLeDiff, reduceSub]
    rfl
  · rintro k s hk rfl
    have hk2 := hx _ (List.getElem_mem hk)
    simp (maxSteps := 2000000) (disch := first | omega | (simp only [lenS]; try omega)) only [go_sem, reduceAdd, reduceEqDiff, reduceLeDiff, reduceSub, wdz]
    rfl
  · rintro s rfl
    simp (maxSteps := 2000000) (disch := first | omega | (simp only [lenS]; try omega)) only [go_sem, reduceAdd, reduceEqDiff, reduceLeDiff, reduceSub]
theorem wa9 (p : Int) (m : List Int) (hl : m.length < 2^62) : C w75 [ints m, .pv (.agg [I p]) 0] [] = some (.bool (!goodM p m), []) := by
  refine w0g ?_
  simp (maxSteps := 2000000) (disch := first | omega | (simp only [lenS]; try omega)) only [wb9, go_sem, reduceAdd, reduceEqDiff, reduceLeDiff, reduceSub]
  simp (maxSteps := 2000000) (disch := first | omega | (simp only [lenS]; try omega)) only [go_sem, reduceAdd, reduceEqDiff, reduceLeDiff, reduceSub, wa2 p m hl]
  grind
theorem waa (p : Int) (l : List (List Int)) (hl : l.length < 2^62) (hm : ∀ m ∈ l, m.length < 2^62) : C w74 [I p, rows l] [] = some (.bool (l.all (goodM p)), []) := by
  refine w0f ?_
  simp (maxSteps := 2000000) (disch := first | omega | (simp only [lenS]; try omega)) only [wb8, go_sem, reduceAdd, reduceEqDiff, reduceLeDiff, reduceSub]
  have h := wed l w75 [.pv (.agg [I p]) 0] rfl (fun _ _ => rfl) (fun m => !goodM p m) (fun x hx => wa9 p x (hm x hx)) hl
  simp (maxSteps := 2000000) (disch := first | omega | (simp only [lenS]; try omega)) only [go_sem, reduceAdd, reduceEqDiff, reduceLeDiff, reduceSub, h]
  have : (l.any fun m => !goodM p m) = !l.all (goodM p) := by rw [List.any_eq_not_all_not]; simp
  rw [this]; grind
def we6 (p : Int) (l : List (List Int)) : Bool := inB 1 16 p && decide (l.length ≤ 400) && l.all (goodM p)
theorem wa5 (p : Int) (l : List (List Int)) (hs : l.length < 65536) (hx : ∀ x ∈ l, x.length < 2^40) : C w70 [I p, rows l] [] = some (.tup [if we6 p l then .un wgp false 1 ((zow l).map ints) else .un wgp false 1 [], .bool (we6 p l)], []) := by
  have h1 := waa p l (by omega) (fun m h => by have := hx m h; omega)
  have h2 := wan p 1 16
  unfold we6
  cases hp : inB 1 16 p with
  | false =>
    rw [hp] at h2
    refine w0b ?_
    simp (maxSteps := 2000000) (disch := first | omega | (simp only [lenS]; try omega)) only [wb4, go_sem, reduceAdd, reduceEqDiff, reduceLeDiff, reduceSub]
    simp (maxSteps := 2000000) (disch := first | omega | (simp only [lenS]; try omega)) only [go_sem, reduceAdd, reduceEqDiff, reduceLeDiff, reduceSub, h2]
    done
  | true =>
    rw [hp] at h2
    by_cases h4 : l.length ≤ 400
    · cases hg : l.all (goodM p) with
      | false =>
        rw [hg] at h1
        refine w0b ?_
        simp (maxSteps := 2000000) (disch := first | omega | (simp only [lenS]; try omega)) only [wb4, go_sem, reduceAdd, reduceEqDiff, reduceLeDiff, reduceSub]
        simp (maxSteps := 2000000) (disch := first | omega | (simp only [lenS]; try omega)) only [go_sem, reduceAdd, reduceEqDiff, reduceLeDiff, reduceSub, h1, h2, h4]
        done
      | true =>
        rw [hg] at h1
        have h3 := wal l p.toNat (by simp [inB] at hp; omega) (fun x h => by have := zim (List.all_eq_true.1 hg x h); omega) hs
        refine w0b ?_
        simp (maxSteps := 2000000) (disch := first | omega | (simp only [lenS]; try omega)) only [wb4, go_sem, reduceAdd, reduceEqDiff, reduceLeDiff, reduceSub]
        simp (maxSteps := 2000000) (disch := first | omega | (simp only [lenS]; try omega)) only [go_sem, reduceAdd, reduceEqDiff, reduceLeDiff, reduceSub, h1, h2, h3, h4]
        done
    · refine w0b ?_
      simp (maxSteps := 2000000) (disch := first | omega | (simp only [lenS]; try omega)) only [wb4, go_sem, reduceAdd, reduceEqDiff, reduceLeDiff, reduceSub]
      simp (maxSteps := 2000000) (disch := first | omega | (simp only [lenS]; try omega)) only [go_sem, reduceAdd, reduceEqDiff, reduceLeDiff, reduceSub, h2, h4]
      done
theorem wa0 (p : Int) (a b : List Int) (ha : a.length < 2^62) (hb : b.length < 2^62) : C w6t [I p, ints a, ints b] [] = some (.tup [.bool (goodM p a && goodM p b && zbg a b), .bool (goodM p a && goodM p b)], []) := by
  refine w04 ?_
  simp (maxSteps := 2000000) (disch := first | omega | (simp only [lenS]; try omega)) only [waw, go_sem, reduceAdd, reduceEqDiff, reduceLeDiff, reduceSub]
  have h := waa p [a, b] (by simp) (by simp [ha, hb])
  simp only [rows, go_sem] at h
  simp (maxSteps := 2000000) (disch := first | omega | (simp only [lenS]; try omega)) only [go_sem, reduceAdd, reduceEqDiff, reduceLeDiff, reduceSub, h]
  refine ⟨fun h => ?_, fun h => by simp [h]⟩
  obtain ⟨h1, h2⟩ := ziq h
  simp (maxSteps := 2000000) (disch := first | omega | (simp only [lenS]; try omega)) only [go_sem, reduceAdd, reduceEqDiff, reduceLeDiff, reduceSub, wad a b h1 hb]
  grind
theorem wai (m : List Int) (p : Int) (h : 0 ≤ p ∧ p.toNat < m.length) : C w7e [I p, .pv (.agg [ints m]) 0] [] = some (.bool (at_ m p == 0), []) := by
  obtain ⟨h1, h2⟩ := h
  refine w0p ?_
  simp (maxSteps := 2000000) (disch := first | omega | (simp only [lenS]; try omega)) only [wbi, go_sem, reduceAdd, reduceEqDiff, reduceLeDiff, reduceSub]
  simp only [at_eq h2]
  grind
theorem wei (l : List Int) (g : FuncId) (caps : List PV) (hc : refsL caps = []) (hcv : ∀ m h, z1fh [] m h caps = some caps) (p : Int → Bool) (hp : ∀ x ∈ l, C g (I x :: caps) [] = some (.bool (p x), [])) (hl : l.length < 2^62) :
    C w81 [ints l, .clo g caps] [] = some (I (idxI l p), []) := by
  refine w18 ?_
  simp (maxSteps := 2000000) (disch := first | omega | (simp only [lenS]; try omega)) only [wc3, go_sem, reduceAdd, reduceEqDiff, reduceLeDiff, reduceSub]
  refine W_for l.length (fun k s => s = ⟨[ints l, .clo g caps, .any, .any, I l.length, I k, .any, .any], []⟩ ∧ (l.take k).any p = false) ?_ ?_ ?_
  · simp (maxSteps := 2000000) (disch := first | omega | (simp only [lenS]; try omega)) only [go_sem, reduceAdd, reduceEqDiff, reduceLeDiff, reduceSub, hc]
    rfl
  · rintro k s hk ⟨rfl, hall⟩
    simp (maxSteps := 2000000) (disch := first | omega | (simp only [lenS]; try omega)) only [go_sem, reduceAdd, reduceEqDiff, reduceLeDiff, reduceSub, hc, hcv, hp _ (List.getElem_mem hk)]
    exact ⟨fun h => by rw [zk1 hk hall h], fun h => ⟨rfl, z3e hk hall h⟩⟩
  · rintro s ⟨rfl, hall⟩
    simp (maxSteps := 2000000) (disch := first | omega | (simp only [lenS]; try omega)) only [go_sem, reduceAdd, reduceEqDiff, reduceLeDiff, reduceSub]
    rw [List.take_length] at hall
    rw [zk0 hall]
theorem wec (l : List Int) (g : FuncId) (caps : List PV) (hc : refsL caps = []) (hcv : ∀ m h, z1fh [] m h caps = some caps) (p : Int → Bool) (hp : ∀ x ∈ l, C g (I x :: caps) [] = some (.bool (p x), [])) (hl : l.length < 2^62) :
    C w7v [ints l, .clo g caps] [] = some (.bool (l.any p), []) := by
  refine w12 ?_
  simp (maxSteps := 2000000) (disch := first | omega | (simp only [lenS]; try omega)) only [wbx, go_sem, reduceAdd, reduceEqDiff, reduceLeDiff, reduceSub]
  simp (maxSteps := 2000000) (disch := first | omega | (simp only [lenS]; try omega)) only [go_sem, reduceAdd, reduceEqDiff, reduceLeDiff, reduceSub, hc, hcv, wei l g caps hc hcv p hp hl]
  have := zjx l p
  grind
theorem waj (t : Tr) (m : List Int) (ht : ∀ q ∈ t.inn, 0 ≤ q ∧ q.toNat < m.length) (hl : t.inn.length < 2^62) : C w7d [encT t, ints m] [] = some (.bool (canT t m), []) := by
  refine w0o ?_
  simp (maxSteps := 2000000) (disch := first | omega | (simp only [lenS]; try omega)) only [wbh, go_sem, reduceAdd, reduceEqDiff, reduceLeDiff, reduceSub]
  have h := wec t.inn w7e [.pv (.agg [ints m]) 0] rfl (fun _ _ => rfl) (fun p => at_ m p == 0) (fun x hx => wai m x (ht x hx)) hl
  simp (maxSteps := 2000000) (disch := first | omega | (simp only [lenS]; try omega)) only [go_sem, reduceAdd, reduceEqDiff, reduceLeDiff, reduceSub, h]
  have : (t.inn.any fun p => at_ m p == 0) = !canT t m := by rw [canT, List.any_eq_not_all_not]
  rw [this]; simp
theorem wae (n : Net) (m : List Int) (hg : goodN n = true) (hm : (m.length : Int) = n.pl) : C w79 [encN n, ints m] [] = some (.un t_int true 1 ((enabL n m).map I), []) := by
  have hb := ziv hg
  refine w0k ?_
  simp (maxSteps := 2000000) (disch := first | omega | (simp only [lenS]; try omega)) only [wbd, go_sem, reduceAdd, reduceEqDiff, reduceLeDiff, reduceSub]
  refine W_for n.tr.length (fun k s => s = ⟨[.any, ints m, .any, .any, .ref 0 1 0 (enabK n m k).length, .any, .any, trs n.tr, I n.tr.length, I k, .any, .any], [.row t_int true 1 ((enabK n m k).map I)]⟩) ?_ ?_ ?_
  · simp (maxSteps := 2000000) (disch := first | omega | (simp only [lenS]; try omega)) only [go_sem, reduceAdd, reduceEqDiff, reduceLeDiff, reduceSub]
    rfl
  · rintro k s hk rfl
    have hT := hb.2.2.2 _ (List.getElem_mem hk)
    have h2 := zcs n m k
    simp (maxSteps := 2000000) (disch := first | omega | (simp only [lenS]; try omega)) only [go_sem, reduceAdd, reduceEqDiff, reduceLeDiff, reduceSub, waj _ m (zj2 hT hm).1 (by have := (zj1 hT (by omega)).1; omega)]
    refine ⟨fun h => ?_, fun h => ?_⟩
    · rw [zct hk h, List.map_append]; simp
    · rw [zcr hk h]; rfl
  · rintro s rfl
    simp (maxSteps := 2000000) (disch := first | omega | (simp only [lenS]; try omega)) only [go_sem, reduceAdd, reduceEqDiff, reduceLeDiff, reduceSub]
    rfl
theorem wag (t : Tr) (m : List Int) (h1 : ∀ q ∈ t.inn, 0 ≤ q ∧ q.toNat < m.length) (h2 : ∀ q ∈ t.out, 0 ≤ q ∧ q.toNat < m.length) (h3 : ∀ q ∈ t.rst, 0 ≤ q ∧ q.toNat < m.length) (hl : smT t) (hm : m.length < 2^30) (hb : ∀ x ∈ m, 0 ≤ x ∧ x ≤ 50) :
    C w7b [encT t, ints m] [] = some (.un t_int true 1 ((zg1 t m).map I), []) := by
  obtain ⟨g1, g2, g3⟩ := hl
  refine w0m ?_
  simp (maxSteps := 2000000) (disch := first | omega | (simp only [lenS]; try omega)) only [wbf, go_sem, reduceAdd, reduceEqDiff, reduceLeDiff, reduceSub]
  simp (maxSteps := 2000000) (disch := first | omega | (simp only [lenS]; try omega)) only [go_sem, reduceAdd, reduceEqDiff, reduceLeDiff, reduceSub, we7]
  refine W_for t.inn.length (fun k s => s = ⟨[.any, .any, .ptr 0 0, .any, .ref 1 1 0 m.length, .any, .any, .any, ints t.inn, I t.inn.length, I k, .any, .any, .any, .any, .any, .any, .any, .any, .any], [.box wgo [ints t.inn, ints t.out, ints t.rst], .row t_int true 1 ((decL m (t.inn.take k)).map I)]⟩) ?_ ?_ ?_
  · simp (maxSteps := 2000000) (disch := first | omega | (simp only [lenS]; try omega)) only [go_sem, reduceAdd, reduceEqDiff, reduceLeDiff, reduceSub]
    rfl
  · rintro k s hk rfl
    obtain ⟨h4, h5⟩ := h1 _ (List.getElem_mem hk)
    have h6 := zbu m (t.inn.take k)
    have h7 := z4k (p := t.inn[k]) (zbt (l := t.inn.take k) hb (fun p hp => (h1 p (List.mem_of_mem_take hp)).2)) (by omega)
    have h8 : (t.inn.take k).length = k := by simp; omega
    simp (maxSteps := 2000000) (disch := first | omega | (simp only [lenS]; try omega)) only [go_sem, reduceAdd, reduceEqDiff, reduceLeDiff, reduceSub, at_eq]
    rw [zbv hk]; rfl
  · rintro s rfl
    simp (maxSteps := 2000000) (disch := first | omega | (simp only [lenS]; try omega)) only [go_sem, reduceAdd, reduceEqDiff, reduceLeDiff, reduceSub, List.take_length]
    have b1 := zbt (l := t.inn) hb (fun p hp => (h1 p hp).2)
    have l1 := zbu m t.inn
    generalize e1 : decL m t.inn = m1 at b1 l1 ⊢
    refine W_for t.rst.length (fun k s => s = ⟨[.any, .any, .ptr 0 0, .any, .ref 1 1 0 m.length, .any, .any, .any, .any, .any, .any, .any, ints t.rst, I t.rst.length, I k, .any, .any, .any, .any, .any], [.box wgo [ints t.inn, ints t.out, ints t.rst], .row t_int true 1 ((zerL m1 (t.rst.take k)).map I)]⟩) ?_ ?_ ?_
    · simp (maxSteps := 2000000) (disch := first | omega | (simp only [lenS]; try omega)) only [go_sem, reduceAdd, reduceEqDiff, reduceLeDiff, reduceSub]
      rfl
    · rintro k s hk rfl
      obtain ⟨h4, h5⟩ := h3 _ (List.getElem_mem hk)
      have h6 := z1gn m1 (t.rst.take k)
      simp (maxSteps := 2000000) (disch := first | omega | (simp only [lenS]; try omega)) only [go_sem, reduceAdd, reduceEqDiff, reduceLeDiff, reduceSub]
      rw [z1go hk]; rfl
    · rintro s rfl
      simp (maxSteps := 2000000) (disch := first | omega | (simp only [lenS]; try omega)) only [go_sem, reduceAdd, reduceEqDiff, reduceLeDiff, reduceSub, List.take_length]
      have b2 := z1gm (l := t.rst) b1 (by omega)
      have l2 := z1gn m1 t.rst
      generalize e2 : zerL m1 t.rst = m2 at b2 l2 ⊢
      refine W_for t.out.length (fun k s => s = ⟨[.any, .any, .any, .any, .ref 0 1 0 m.length, .any, .any, .any, .any, .any, .any, .any, .any, .any, .any, .any, ints t.out, I t.out.length, I k, .any], [.row t_int true 1 ((incL m2 (t.out.take k)).map I)]⟩) ?_ ?_ ?_
      · simp (maxSteps := 2000000) (disch := first | omega | (simp only [lenS]; try omega)) only [go_sem, reduceAdd, reduceEqDiff, reduceLeDiff, reduceSub]
        rfl
      · rintro k s hk rfl
        obtain ⟨h4, h5⟩ := h2 _ (List.getElem_mem hk)
        have h6 := zlz m2 (t.out.take k)
        have h7 := z4k (p := t.out[k]) (zly (l := t.out.take k) b2 (fun p hp => by have := (h2 p (List.mem_of_mem_take hp)).2; omega)) (by omega)
        have h8 : (t.out.take k).length = k := by simp; omega
        simp (maxSteps := 2000000) (disch := first | omega | (simp only [lenS]; try omega)) only [go_sem, reduceAdd, reduceEqDiff, reduceLeDiff, reduceSub, at_eq]
        rw [zm0 hk]; rfl
      · rintro s rfl
        have h6 := zlz m2 t.out
        simp (maxSteps := 2000000) (disch := first | omega | (simp only [lenS]; try omega)) only [go_sem, reduceAdd, reduceEqDiff, reduceLeDiff, reduceSub, List.take_length]
        subst e2 e1; rfl
abbrev encA (a : Arc3) : PV := .agg [I a.src, I a.by_, I a.dst]
def arcPV (l : List Arc3) : PV := if l = [] then .nil true 3 else .un wgk true 3 (l.map encA)
def exPV (r : Ex) : PV := if r.code = 0 then .agg [.un wgp false 1 (r.sp.ms.map ints), arcPV r.sp.ar] else .agg [.nil false 1, .nil true 3]
def w6j (r : Ex) : Int := if r.code = 0 then 1 else r.code
theorem w6k {n : Net} {start : List Int} {b : Int} (hm : zrn n start = true) (hb : 1 ≤ b) : ExOk n start b ⟨⟨[start], []⟩, 0⟩ := by
  refine ⟨rfl, fun m hm2 => ?_, by simp; omega, by simp, fun a ha => by simp at ha, fun j hj hl => ?_⟩
  · simp only [List.mem_singleton] at hm2; subst hm2; exact hm
  · simp only [List.length_cons, List.length_nil] at hl; omega
theorem wa6 (x m : List Int) (hx : x.length < 2^62) : C w72 [ints x, .pv (.agg [ints m]) 0] [] = some (.bool (decide (x = m)), []) := by
  refine w0d ?_
  simp (maxSteps := 2000000) (disch := first | omega | (simp only [lenS]; try omega)) only [wb6, go_sem, reduceAdd, reduceEqDiff, reduceLeDiff, reduceSub]
  simp (maxSteps := 2000000) (disch := first | omega | (simp only [lenS]; try omega)) only [go_sem, reduceAdd, reduceEqDiff, reduceLeDiff, reduceSub, weg]
  grind
theorem wa7 (ms : List (List Int)) (A : List PV) (m : List Int) (hl : ms.length < 2^62) (hx : ∀ x ∈ ms, x.length < 2^62) : C w71 [.agg [rows ms, .sl true 3 A], ints m] [] = some (I (findM ms m), []) := by
  have h := wej ms w72 [.pv (.agg [ints m]) 0] rfl (fun _ _ => rfl) (fun x => decide (x = m)) (fun x h => wa6 x m (hx x h)) hl
  refine w0c ?_
  simp (maxSteps := 2000000) (disch := first | omega | (simp only [lenS]; try omega)) only [wb5, go_sem, reduceAdd, reduceEqDiff, reduceLeDiff, reduceSub]
  simp (maxSteps := 2000000) (disch := first | omega | (simp only [lenS]; try omega)) only [go_sem, reduceAdd, reduceEqDiff, reduceLeDiff, reduceSub, h]
  rfl
theorem waf (n : Net) (start : List Int) (b : Int) (hm : zrn n start = true) (hb : 1 ≤ b ∧ b ≤ 400) : C w7a [encN n, ints start, I b] [] = some (.tup [exPV (exAll n start b), I (w6j (exAll n start b))], []) := by
  obtain ⟨hg, hmk⟩ := zro hm
  have hn := ziv hg
  have hs := zim hmk
  refine w0l ?_
  simp (maxSteps := 2000000) (disch := first | omega | (simp only [lenS]; try omega)) only [wbe, go_sem, reduceAdd, reduceEqDiff, reduceLeDiff, reduceSub]
  simp (maxSteps := 2000000) (disch := first | omega | (simp only [lenS]; try omega)) only [go_sem, reduceAdd, reduceEqDiff, reduceLeDiff, reduceSub, we7]
  generalize hR : exAll n start b = R
  refine z1a (fun d s => ∃ (k : Nat) (c : Ex), d + k = b.toNat + 1 ∧ ExOk n start b c ∧ c.code = 0 ∧ k ≤ c.sp.ms.length ∧ c.sp.ar.length ≤ 24 * k ∧ exRun n b (d + 1) k c = R ∧ ((s = ⟨[.any, .any, I b, .ptr 0 0, .ptr 1 0, .any, .ptr 2 0, I k, .any, .any, .any, .any, .any, .any, .any, .any, .any, .any, .any], [.box wgm [I n.pl, trs n.tr], .box wgn [.nil false 1, .nil true 3], .box wgn [.ref 3 1 0 c.sp.ms.length, .nil true 3], .row wgp false 1 (c.sp.ms.map ints)]⟩ ∧ c.sp.ar = []) ∨ (s = ⟨[.any, .any, I b, .ptr 0 0, .ptr 1 0, .any, .ptr 2 0, I k, .any, .any, .any, .any, .any, .any, .any, .any, .any, .any, .any], [.box wgm [I n.pl, trs n.tr], .box wgn [.nil false 1, .nil true 3], .box wgn [.ref 3 1 0 c.sp.ms.length, .ref 4 3 0 c.sp.ar.length], .row wgp false 1 (c.sp.ms.map ints), .row wgk true 3 (c.sp.ar.map encA)]⟩ ∧ c.sp.ar ≠ []))) (b.toNat + 1) ?_ ?_
  · refine ⟨0, ⟨⟨[start], []⟩, 0⟩, by omega, w6k hm hb.1, rfl, by omega, by simp, hR, .inl ⟨?_, rfl⟩⟩
    simp (maxSteps := 2000000) (disch := first | omega | (simp only [lenS]; try omega)) only [go_sem, reduceAdd, reduceEqDiff, reduceLeDiff, reduceSub]
    rfl
  · rintro d s ⟨k, c, hd, hok, hc0, hk, hal, hrun, hcs⟩
    have hlb := hok.lenb
    by_cases hkl : k < c.sp.ms.length
    · have hmem := zi4 hkl
      have hmg := zro (hok.good _ hmem)
      have hml := zim hmg.2
      have en := wae n (c.sp.ms.getD k []) hg hml.2.2.1
      have hLl : (enabL n (c.sp.ms.getD k [])).length ≤ n.tr.length := zcs ..
      have er : exRun n b (d + 1) k c = exRun n b d (k + 1) (exL n b k c (enabL n (c.sp.ms.getD k []))) := by
        show (if c.code ≠ 0 then c else if k < c.sp.ms.length then _ else c) = _
        rw [if_neg (by omega), if_pos hkl]
      rw [er] at hrun
      have hen : ∀ t ∈ enabL n (c.sp.ms.getD k []), t ∈ enabL n (c.sp.ms.getD k []) := fun t h => h
      generalize hL : enabL n (c.sp.ms.getD k []) = L at *
      rcases hcs with ⟨rfl, har⟩ | ⟨rfl, har⟩
      all_goals
        simp (maxSteps := 2000000) (disch := first | omega | (simp only [lenS]; try omega)) only [go_sem, reduceAdd, reduceEqDiff, reduceLeDiff, reduceSub, zi5, en]
        refine W_for L.length (fun j s => ∃ c' : Ex, ExOk n start b c' ∧ c'.code = 0 ∧ k < c'.sp.ms.length ∧ enabL n (c'.sp.ms.getD k []) = L ∧ c'.sp.ar.length ≤ 24 * k + j ∧ exRun n b d (k + 1) (exL n b k c' (L.drop j)) = R ∧ ((s = ⟨[.any, .any, I b, .ptr 0 0, .ptr 1 0, .any, .ptr 2 0, I k, .any, .any, .any, .any, .ref 3 1 0 L.length, I L.length, I j, .any, .any, .any, .any], [.box wgm [I n.pl, trs n.tr], .box wgn [.nil false 1, .nil true 3], .box wgn [.ref 4 1 0 c'.sp.ms.length, .nil true 3], .row t_int true 1 (L.map I), .row wgp false 1 (c'.sp.ms.map ints)]⟩ ∧ c'.sp.ar = []) ∨ (s = ⟨[.any, .any, I b, .ptr 0 0, .ptr 1 0, .any, .ptr 2 0, I k, .any, .any, .any, .any, .ref 3 1 0 L.length, I L.length, I j, .any, .any, .any, .any], [.box wgm [I n.pl, trs n.tr], .box wgn [.nil false 1, .nil true 3], .box wgn [.ref 4 1 0 c'.sp.ms.length, .ref 5 3 0 c'.sp.ar.length], .row t_int true 1 (L.map I), .row wgp false 1 (c'.sp.ms.map ints), .row wgk true 3 (c'.sp.ar.map encA)]⟩ ∧ c'.sp.ar ≠ []))) ?_ ?_ ?_
        · refine ⟨c, hok, hc0, hkl, hL, by omega, hrun, ?_⟩
          first
          | refine .inl ⟨?_, har⟩
            simp (maxSteps := 2000000) (disch := first | omega | (simp only [lenS]; try omega)) only [go_sem, reduceAdd, reduceEqDiff, reduceLeDiff, reduceSub]
            done
          | refine .inl ⟨?_, har⟩
            simp (maxSteps := 2000000) (disch := first | omega | (simp only [lenS]; try omega)) only [go_sem, reduceAdd, reduceEqDiff, reduceLeDiff, reduceSub]
            rfl
          | refine .inr ⟨?_, har⟩
            simp (maxSteps := 2000000) (disch := first | omega | (simp only [lenS]; try omega)) only [go_sem, reduceAdd, reduceEqDiff, reduceLeDiff, reduceSub]
            done
          | refine .inr ⟨?_, har⟩
            simp (maxSteps := 2000000) (disch := first | omega | (simp only [lenS]; try omega)) only [go_sem, reduceAdd, reduceEqDiff, reduceLeDiff, reduceSub]
            rfl
        · rintro j s hj ⟨c', hok', hc0', hkl', hL', hal', hrun', hcs'⟩
          have hlb' := hok'.lenb
          have ht : L[j] ∈ enabL n (c'.sp.ms.getD k []) := by rw [hL']; exact List.getElem_mem hj
          obtain ⟨t1, t2, t3⟩ := zcu.1 ht
          have hT := hn.2.2.2 (trAt n L[j]) (by rw [← z1ed t2]; exact List.getElem_mem _)
          have hm2 := zim (zro (hok'.good _ (zi4 hkl'))).2
          have hx := zj2 hT hm2.2.2.1
          have hy := zj1 hT (by omega)
          have hfire := wag (trAt n L[j]) (c'.sp.ms.getD k []) hx.1 hx.2.1 hx.2.2 ⟨by omega, by omega, by omega⟩ (by omega) hm2.2.2.2.2
          have hMl := zg3 (trAt n L[j]) (c'.sp.ms.getD k [])
          have hok2 := ze4 hok' hkl' ht
          have hxs : ∀ x ∈ c'.sp.ms, x.length < 2^62 := fun x hx => by have := zim (zro (hok'.good x hx)).2; omega
          rw [zdl hj] at hrun'
          have f1 := ze9 (n := n) (b := b) (k := k) (s := c') (t := L[j]) hc0'
          have f2 := ze5 (n := n) (b := b) (k := k) (s := c') (t := L[j]) hc0'
          have f3 := ze1 (n := n) (b := b) (k := k) (s := c') (t := L[j]) hc0'
          have f4 := ze3 (n := n) (b := b) (k := k) (s := c') (t := L[j]) hc0'
          generalize hM : zg1 (trAt n L[j]) (c'.sp.ms.getD k []) = M at *
          have ck : C w73 [ints M, I 0, I 50] [] = some (.bool (M.all (inB 0 50)), []) := wa8 M 0 50 (by omega)
          have fd := fun A => wa7 c'.sp.ms A M (by omega) hxs
          have hsl : ∀ c2 : Ex, c2.code ≠ 0 → exRun n b d (k + 1) (exL n b k c2 (L.drop (j + 1))) = c2 := fun c2 h => by rw [zdn h, zdu h]
          cases ha : M.all (inB 0 50) with
          | false =>
            rw [f1 ha, hsl _ (by simp)] at hrun'
            subst hrun'
            rw [ha] at ck
            rcases hcs' with ⟨rfl, har'⟩ | ⟨rfl, har'⟩ <;> simp (maxSteps := 2000000) (disch := first | omega | (simp only [lenS]; try omega)) only [go_sem, reduceAdd, reduceEqDiff, reduceLeDiff, reduceSub, zi5, z1ed, hfire, ck, exPV, w6j]
          | true =>
            rw [ha] at ck
            by_cases h2 : 0 ≤ findM c'.sp.ms M
            · rw [f2 ha h2] at hrun' hok2
              rcases hcs' with ⟨rfl, har'⟩ | ⟨rfl, har'⟩
              · simp (maxSteps := 2000000) (disch := first | omega | (simp only [lenS]; try omega)) only [go_sem, reduceAdd, reduceEqDiff, reduceLeDiff, reduceSub, zi5, z1ed, hfire, ck, fd]
                refine ⟨_, hok2, rfl, hkl', hL', by simp only [List.length_append, List.length_cons, List.length_nil]; omega, hrun', .inr ⟨?_, by simp⟩⟩
                simp [har']
              · simp (maxSteps := 2000000) (disch := first | omega | (simp only [lenS]; try omega)) only [go_sem, reduceAdd, reduceEqDiff, reduceLeDiff, reduceSub, zi5, z1ed, hfire, ck, fd]
                refine ⟨_, hok2, rfl, hkl', hL', by simp only [List.length_append, List.length_cons, List.length_nil]; omega, hrun', .inr ⟨?_, by simp⟩⟩
                simp
            · by_cases h3 : b ≤ c'.sp.ms.length
              · rw [f3 ha h2 h3, hsl _ (by simp)] at hrun'
                subst hrun'
                rcases hcs' with ⟨rfl, har'⟩ | ⟨rfl, har'⟩ <;> simp (maxSteps := 2000000) (disch := first | omega | (simp only [lenS]; try omega)) only [go_sem, reduceAdd, reduceEqDiff, reduceLeDiff, reduceSub, zi5, z1ed, hfire, ck, fd, exPV, w6j]
              · rw [f4 ha h2 h3] at hrun' hok2
                rcases hcs' with ⟨rfl, har'⟩ | ⟨rfl, har'⟩
                · simp (maxSteps := 2000000) (disch := first | omega | (simp only [lenS]; try omega)) only [go_sem, reduceAdd, reduceEqDiff, reduceLeDiff, reduceSub, zi5, z1ed, hfire, ck, fd]
                  refine ⟨_, hok2, rfl, by simp only [List.length_append]; omega, by simp only; rw [zi0 hkl']; exact hL', by simp only [List.length_append, List.length_cons, List.length_nil]; omega, hrun', .inr ⟨?_, by simp⟩⟩
                  simp [har']
                · simp (maxSteps := 2000000) (disch := first | omega | (simp only [lenS]; try omega)) only [go_sem, reduceAdd, reduceEqDiff, reduceLeDiff, reduceSub, zi5, z1ed, hfire, ck, fd]
                  refine ⟨_, hok2, rfl, by simp only [List.length_append]; omega, by simp only; rw [zi0 hkl']; exact hL', by simp only [List.length_append, List.length_cons, List.length_nil]; omega, hrun', .inr ⟨?_, by simp⟩⟩
                  simp
        · rintro s ⟨c', hok', hc0', hkl', hL', hal', hrun', hcs'⟩
          rw [List.drop_length] at hrun'
          have hlb' := hok'.lenb
          rcases hcs' with ⟨rfl, har'⟩ | ⟨rfl, har'⟩
          · simp (maxSteps := 2000000) (disch := first | omega | (simp only [lenS]; try omega)) only [go_sem, reduceAdd, reduceEqDiff, reduceLeDiff, reduceSub]
            refine ⟨d - 1, by omega, k + 1, c', by omega, hok', hc0', by omega, by omega, by rw [show d - 1 + 1 = d by omega]; exact hrun', .inl ⟨rfl, har'⟩⟩
          · simp (maxSteps := 2000000) (disch := first | omega | (simp only [lenS]; try omega)) only [go_sem, reduceAdd, reduceEqDiff, reduceLeDiff, reduceSub]
            refine ⟨d - 1, by omega, k + 1, c', by omega, hok', hc0', by omega, by omega, by rw [show d - 1 + 1 = d by omega]; exact hrun', .inr ⟨rfl, har'⟩⟩
    · have er : exRun n b (d + 1) k c = c := by
        show (if c.code ≠ 0 then c else if k < c.sp.ms.length then _ else c) = _
        rw [if_neg (by omega), if_neg hkl]
      rw [er] at hrun
      subst hrun
      rcases hcs with ⟨rfl, har⟩ | ⟨rfl, har⟩
      · simp (maxSteps := 2000000) (disch := first | omega | (simp only [lenS]; try omega)) only [go_sem, reduceAdd, reduceEqDiff, reduceLeDiff, reduceSub]
        simp [exPV, w6j, hc0, arcPV, har]
      · simp (maxSteps := 2000000) (disch := first | omega | (simp only [lenS]; try omega)) only [go_sem, reduceAdd, reduceEqDiff, reduceLeDiff, reduceSub]
        simp [exPV, w6j, hc0, arcPV, har]
theorem wa1 (n : Net) (start : List Int) (b : Int) (hn : smN n) (hs : start.length < 2^62) : C w6w [encN n, ints start, I b] [] = some (.tup [if okEx n start b then exPV (exAll n start b) else .agg [.nil false 1, .nil true 3], I (if okEx n start b then w6j (exAll n start b) else 0), .bool (okEx n start b)], []) := by
  refine w07 ?_
  simp (maxSteps := 2000000) (disch := first | omega | (simp only [lenS]; try omega)) only [wb0, go_sem, reduceAdd, reduceEqDiff, reduceLeDiff, reduceSub]
  simp (maxSteps := 2000000) (disch := first | omega | (simp only [lenS]; try omega)) only [go_sem, reduceAdd, reduceEqDiff, reduceLeDiff, reduceSub, wak n start hn hs, wan]
  cases h1 : zrn n start with
  | false => simp [okEx, h1]
  | true =>
    cases h2 : inB 1 400 b with
    | false => simp [okEx, h1, h2]
    | true =>
      have hok : okEx n start b = true := by simp [okEx, h1, h2]
      obtain ⟨_, hb⟩ := zv7 hok
      have hx := waf n start b h1 hb
      generalize exAll n start b = R at *
      by_cases hc : R.code = 0
      · by_cases ha : R.sp.ar = []
        · simp only [exPV, w6j, arcPV, hc, ha, if_true] at hx ⊢
          simp (maxSteps := 2000000) (disch := first | omega | (simp only [lenS]; try omega)) only [go_sem, reduceAdd, reduceEqDiff, reduceLeDiff, reduceSub, hx, hok]
        · simp only [exPV, w6j, arcPV, hc, ha, if_true, if_false] at hx ⊢
          simp (maxSteps := 2000000) (disch := first | omega | (simp only [lenS]; try omega)) only [go_sem, reduceAdd, reduceEqDiff, reduceLeDiff, reduceSub, hx, hok]
      · simp only [exPV, w6j, hc, if_false] at hx ⊢
        simp (maxSteps := 2000000) (disch := first | omega | (simp only [lenS]; try omega)) only [go_sem, reduceAdd, reduceEqDiff, reduceLeDiff, reduceSub, hx, hok]
theorem w6l (n : Net) (start : List Int) (b : Int) (hn : smN n) (hs : start.length < 2^62) : ∃ (V : PV) (c : Int), C w6w [encN n, ints start, I b] [] = some (.tup [V, I c, .bool (okEx n start b)], []) ∧ ((V = .agg [.nil false 1, .nil true 3] ∧ (okEx n start b = true → c ≠ 1)) ∨ (okEx n start b = true ∧ (exAll n start b).code = 0 ∧ c = 1 ∧ (V = .agg [.un wgp false 1 ((exAll n start b).sp.ms.map ints), .nil true 3] ∨ V = .agg [.un wgp false 1 ((exAll n start b).sp.ms.map ints), .un wgk true 3 ((exAll n start b).sp.ar.map encA)]))) := by
  have hx := wa1 n start b hn hs
  have hcode := zde n start b
  cases ho : okEx n start b with
  | false =>
    simp only [ho, Bool.false_eq_true, if_false] at hx
    exact ⟨_, _, hx, .inl ⟨rfl, fun h => by cases h⟩⟩
  | true =>
    simp only [ho, if_true] at hx
    by_cases hc : (exAll n start b).code = 0
    · simp only [exPV, w6j, hc, if_true] at hx
      by_cases ha : (exAll n start b).sp.ar = []
      · simp only [arcPV, ha, if_true] at hx
        exact ⟨_, _, hx, .inr ⟨rfl, hc, rfl, .inl rfl⟩⟩
      · simp only [arcPV, ha, if_false] at hx
        exact ⟨_, _, hx, .inr ⟨rfl, hc, rfl, .inr rfl⟩⟩
    · simp only [exPV, w6j, hc, if_false] at hx
      exact ⟨_, _, hx, .inl ⟨rfl, fun _ => by omega⟩⟩
theorem laws_FnBackward_ok (a b : List Int) (ha2 : ∀ x ∈ a, 0 ≤ x ∧ x < 256) (hb2 : ∀ x ∈ b, 0 ≤ x ∧ x < 256) : C w7j [bys a, bys b] [] = some (.bool true, []) := by
  refine w0u ?_
  simp (maxSteps := 2000000) (disch := first | omega | (simp only [lenS]; try omega)) only [wbn, go_sem, reduceAdd, reduceEqDiff, reduceLeDiff, reduceSub]
  simp (maxSteps := 2000000) (disch := first | omega | (simp only [lenS]; try omega)) only [go_sem, reduceAdd, reduceEqDiff, reduceLeDiff, reduceSub, wdy]
  intro hbig
  simp only [Bool.or_eq_false_iff, decide_eq_false_iff_not] at hbig
  obtain ⟨_, e1, n, m, k, bg, rfl, h1, h2, h3, h4, h5⟩ := wf6 a (by omega) ha2
  have i1 := w9z n m k bg h1.smN (by omega) (by omega)
  have i2 := wf5 n m k bg h1.smN (by omega) (by omega)
  have i3 := w9w n k bg h1.smN (by omega)
  obtain ⟨_, i4, hq⟩ := wf3 n k bg h1.smN (by omega)
  have i5 := w9x n k bg h1.smN (by omega)
  have i6 := wf4 n k bg h1.smN (by omega)
  obtain ⟨V, cx, i7, hV⟩ := w6l n m 400 h1.smN (by omega)
  have hfct := fun l r => w6e (n := n) (m := k) (b := bg) (l := l) (r := r)
  have hrn := fun h => w6g (n := n) (m := k) (b := bg) h
  unfold cbV cbO at i1 i2
  generalize outs n.pl.toNat [k] + 1 = F at *
  generalize basV n k bg = v at *
  have hl30 := h1.1
  rcases hq with ⟨rfl, rfl⟩ | ⟨l, r, rfl, hq⟩
  · have s0 := we0 [] (by simp) (by simp)
    simp only [rows, List.map_nil] at s0
    simp only [bbPV, brV, Option.isSome_none, Bool.false_and] at i1 i2 i3 i5 i6
    generalize okEx n m 400 = ox at *
    rcases hV with ⟨rfl, _⟩ | ⟨_, _, _, rfl | rfl⟩
    all_goals
      cases ox
      all_goals
        simp (maxSteps := 2000000) (disch := first | omega | (simp only [lenS]; try omega)) only [go_sem, reduceAdd, reduceEqDiff, reduceLeDiff, reduceSub, e1, i1, i2, i3, i4, i5, i6, s0, i7]
        try (first | done | rfl)
  · obtain ⟨g1, g2, g3⟩ := hfct l r rfl
    have hrun := hrn g1
    obtain ⟨q1, q2, q3⟩ := we5 g1
    have hll := g2.len
    have hpl := ziv (zro q1).1
    have hkm := (zro q1).2
    have hlx : ∀ x ∈ l, x.length < 2^40 := fun x hx => by have := zim (g2.good x hx); omega
    have sl := we0 l (by omega) (fun x hx => by have := hlx x hx; omega)
    have lm := wa5 n.pl l (by omega) hlx
    have okl : we6 n.pl l = true := by
      have h6 : inB 1 16 n.pl = true := by simp [inB]; omega
      simp only [we6, h6, Bool.true_and, Bool.and_eq_true, decide_eq_true_eq, List.all_eq_true]
      exact ⟨by omega, g2.good⟩
    simp only [okl, if_true, g2.lst] at lm
    simp only [bbPV, brV, Option.isSome_some, Bool.true_and] at i1 i2 i3 i5 i6
    have hcov : ∀ j, (hj : j < l.length) → C w6t [I n.pl, ints k, ints l[j]] [] = some (.tup [.bool (zbg k l[j]), .bool true], []) := fun j hj => by
      have g := g2.good _ (List.getElem_mem hj)
      have := zim g
      have e := wa0 n.pl k l[j] (by omega) (by omega)
      rw [hkm, g] at e
      simpa using e
    have hlaw := fun hs hc => z55 (start := m) (B := 400) hrun q3 q1 hs (by omega) hc
    generalize habv : above l m = ab at *
    have hgm : okEx n m 400 = goodM n.pl m := by
      have h6 : inB 1 400 400 = true := by decide
      simp only [okEx, h6, Bool.and_true, zrn, (zro q1).1, Bool.true_and]
    rw [hgm] at i7 hV
    have hgd : goodM n.pl m = true → zrn n m = true := fun h => by simp only [zrn, (zro q1).1, h, Bool.and_self]
    have hne : (l.map ints).isEmpty = false := by
      cases l with
      | nil => simp [above] at g3
      | cons => rfl
    have hal : above (l.take l.length) k = true := by rw [List.take_length]; exact g3
    obtain ⟨AB, hAB⟩ : ∃ x : Bool, x = ab := ⟨ab, rfl⟩
    have hany0 := fun hg hc => hlaw (hgd hg) hc
    have hspc : goodM n.pl m = true → ∀ x ∈ (exAll n m 400).sp.ms, goodM n.pl x = true := fun hg x hx => (zro ((zdf (hgd hg) (by omega)).1.good x hx)).2
    have hspl : goodM n.pl m = true → (exAll n m 400).sp.ms.length ≤ 400 := fun hg => (zdf (hgd hg) (by omega)).1.lenb
    have hsp2 : goodM n.pl m = true → ∀ j, (hj : j < (exAll n m 400).sp.ms.length) → C w6t [I n.pl, ints (exAll n m 400).sp.ms[j], ints k] [] = some (.tup [.bool (zbg (exAll n m 400).sp.ms[j] k), .bool true], []) := fun hg j hj => by
      have g := hspc hg _ (List.getElem_mem hj)
      have := zim g
      have e := wa0 n.pl (exAll n m 400).sp.ms[j] k (by omega) (by omega)
      rw [hkm, g] at e
      simpa using e
    clear hspc
    generalize (exAll n m 400).sp.ms = ms at *
    generalize (exAll n m 400).sp.ar = ar at *
    generalize (exAll n m 400).code = cd at *
    rcases hq with rfl | rfl
    all_goals
      cases ab
      all_goals
        obtain ⟨GM, hGM⟩ : ∃ x : Bool, x = goodM n.pl m := ⟨_, rfl⟩
        obtain ⟨V7, h7⟩ : ∃ x : Bool, x = (goodM n.pl m && AB) := ⟨_, rfl⟩
        cases hgm2 : goodM n.pl m <;> rw [hgm2] at i1 i2 i7 hV hGM h7 <;> simp only [Bool.true_and, Bool.false_and] at i1 i2 h7
        all_goals
          simp (maxSteps := 2000000) (disch := first | omega | (simp only [lenS]; try omega)) only [go_sem, reduceAdd, reduceEqDiff, reduceLeDiff, reduceSub, e1, i1, i2, i3, i4, i5, i6, sl, lm, hne]
          refine W_for l.length (fun j s => s = ⟨[.any, .any, .any, .ptr 0 0, .ref 1 1 0 m.length, .ref 2 1 0 k.length, .any, .bool V7, .bool GM, .any, .any, rows l, .any, .any, .any, .any, .any, .any, .any, .ref 3 1 0 l.length, .bool true, .bool (above (l.take j) k), .any, .any, .any, .any, .any, .any, .any, .any, .any, .any, .any, .any, .any, rows l, I l.length, I j, .any, .any, .any, .any, .any, .any, .any, .any], [.box wgm [I n.pl, .ref 4 3 0 n.tr.length], .row t_int true 1 (m.map I), .fro true 1 (k.map I), .row wgp false 1 (l.map ints), .fro false 3 (n.tr.map encT)]⟩) ?_ ?_ ?_
          · simp (maxSteps := 2000000) (disch := first | omega | (simp only [lenS]; try omega)) only [go_sem, reduceAdd, reduceEqDiff, reduceLeDiff, reduceSub]
            subst hGM h7
            try subst hAB
            first | done | rfl
          · rintro j s hj rfl
            have c1 := hcov j hj
            have c2 : l[j]? = some l[j] := List.getElem?_eq_getElem hj
            have c3 : above (l.take (j + 1)) k = (above (l.take j) k || zbg k l[j]) := by
              unfold above; rw [z1e0 hj, List.any_append]; simp
            rw [c3]
            generalize above (l.take j) k = p at *
            generalize zbg k l[j] = q at *
            generalize l[j] = x at *
            cases p <;> cases q <;> simp (maxSteps := 2000000) (disch := first | omega | (simp only [lenS]; try omega)) only [go_sem, reduceAdd, reduceEqDiff, reduceLeDiff, reduceSub, c1, c2]
            all_goals first | done | rfl
          · rintro s rfl
            rw [hal]
            subst hGM
            first
              | (rcases hV with ⟨rfl, hV⟩ | ⟨hV, _⟩
                 · simp (maxSteps := 2000000) (disch := first | omega | (simp only [lenS]; try omega)) only [go_sem, reduceAdd, reduceEqDiff, reduceLeDiff, reduceSub, sl, i7]
                   first | done | rfl
                 · cases hV)
              | skip
            all_goals
              subst V7
              have hany := fun hc => hany0 hgm2 hc
              have hsp2 := hsp2 hgm2
              have hspl := hspl hgm2
              rcases hV with ⟨rfl, hV⟩ | ⟨_, hV, rfl, rfl | rfl⟩
              · have hV := hV rfl
                simp (maxSteps := 2000000) (disch := first | omega | (simp only [lenS]; try omega)) only [go_sem, reduceAdd, reduceEqDiff, reduceLeDiff, reduceSub, sl, i7, hV]
                first | done | rfl
              · have hany := hany hV
                simp (maxSteps := 2000000) (disch := first | omega | (simp only [lenS]; try omega)) only [go_sem, reduceAdd, reduceEqDiff, reduceLeDiff, reduceSub, sl, i7]
                refine W_for ms.length (fun j s => s = ⟨[.any, .any, .any, .ptr 0 0, .any, .ref 1 1 0 k.length, .any, .bool AB, .any, .any, .any, .any, .any, .any, .any, .any, .any, .any, .any, .any, .any, .any, .any, .any, .any, .any, .any, .any, .bool ((ms.take j).any fun x => zbg x k), .any, .any, .any, .any, .any, .any, .any, .any, .any, .any, .any, .any, .ref 2 1 0 ms.length, I ms.length, I j, .any, .any], [.box wgm [I n.pl, .ref 3 3 0 n.tr.length], .fro true 1 (k.map I), .row wgp false 1 (ms.map ints), .fro false 3 (n.tr.map encT)]⟩) ?_ ?_ ?_
                · simp (maxSteps := 2000000) (disch := first | omega | (simp only [lenS]; try omega)) only [go_sem, reduceAdd, reduceEqDiff, reduceLeDiff, reduceSub]
                  subst hAB
                  first | done | rfl
                · rintro j s hj rfl
                  have c1 := hsp2 j hj
                  have c2 : ms[j]? = some ms[j] := List.getElem?_eq_getElem hj
                  have c3 : ((ms.take (j + 1)).any fun x => zbg x k) = (((ms.take j).any fun x => zbg x k) || zbg ms[j] k) := by
                    rw [z1e0 hj, List.any_append]; simp
                  rw [c3]
                  generalize ((ms.take j).any fun x => zbg x k) = p at *
                  generalize zbg ms[j] k = q at *
                  generalize ms[j] = x at *
                  cases p <;> cases q <;> simp (maxSteps := 2000000) (disch := first | omega | (simp only [lenS]; try omega)) only [go_sem, reduceAdd, reduceEqDiff, reduceLeDiff, reduceSub, c1, c2]
                  all_goals first | done | rfl
                · rintro s rfl
                  rw [List.take_length, hany]
                  subst hAB
                  simp (maxSteps := 2000000) (disch := first | omega | (simp only [lenS]; try omega)) only [go_sem, reduceAdd, reduceEqDiff, reduceLeDiff, reduceSub]
                  first | done | rfl
              · have hany := hany hV
                simp (maxSteps := 2000000) (disch := first | omega | (simp only [lenS]; try omega)) only [go_sem, reduceAdd, reduceEqDiff, reduceLeDiff, reduceSub, sl, i7]
                refine W_for ms.length (fun j s => s = ⟨[.any, .any, .any, .ptr 0 0, .any, .ref 1 1 0 k.length, .any, .bool AB, .any, .any, .any, .any, .any, .any, .any, .any, .any, .any, .any, .any, .any, .any, .any, .any, .any, .any, .any, .any, .bool ((ms.take j).any fun x => zbg x k), .any, .any, .any, .any, .any, .any, .any, .any, .any, .any, .any, .any, .ref 2 1 0 ms.length, I ms.length, I j, .any, .any], [.box wgm [I n.pl, .ref 3 3 0 n.tr.length], .fro true 1 (k.map I), .row wgp false 1 (ms.map ints), .fro false 3 (n.tr.map encT)]⟩) ?_ ?_ ?_
                · simp (maxSteps := 2000000) (disch := first | omega | (simp only [lenS]; try omega)) only [go_sem, reduceAdd, reduceEqDiff, reduceLeDiff, reduceSub]
                  subst hAB
                  first | done | rfl
                · rintro j s hj rfl
                  have c1 := hsp2 j hj
                  have c2 : ms[j]? = some ms[j] := List.getElem?_eq_getElem hj
                  have c3 : ((ms.take (j + 1)).any fun x => zbg x k) = (((ms.take j).any fun x => zbg x k) || zbg ms[j] k) := by
                    rw [z1e0 hj, List.any_append]; simp
                  rw [c3]
                  generalize ((ms.take j).any fun x => zbg x k) = p at *
                  generalize zbg ms[j] k = q at *
                  generalize ms[j] = x at *
                  cases p <;> cases q <;> simp (maxSteps := 2000000) (disch := first | omega | (simp only [lenS]; try omega)) only [go_sem, reduceAdd, reduceEqDiff, reduceLeDiff, reduceSub, c1, c2]
                  all_goals first | done | rfl
                · rintro s rfl
                  rw [List.take_length, hany]
                  subst hAB
                  simp (maxSteps := 2000000) (disch := first | omega | (simp only [lenS]; try omega)) only [go_sem, reduceAdd, reduceEqDiff, reduceLeDiff, reduceSub]
                  first | done | rfl
end Go.Proofs.YtbaclnecajkknaaGreat.Pi
