/- The functions that the law reaches: what they answer. Conditions: those that each theorem names. -/
import Derived.Test.YtngjepmopahgdaaIrFnWays
import Derived.Test.YtngjepmopahgdaaPlBase
import Derived.Test.YtngjepmopahgdaaPlNet
import Derived.Test.YtngjepmopahgdaaPlFire
import Derived.Test.YtngjepmopahgdaaPlTurn
import Derived.Test.YtngjepmopahgdaaPlBack
import Derived.Test.YtngjepmopahgdaaPlFlow
import Derived.Test.YtngjepmopahgdaaFnFnWays0
namespace Go.Proofs.Ytngjepmopahgdaa.Pi
open Go
set_option linter.all false
set_option maxHeartbeats 4000000
set_option maxRecDepth 20000
theorem laws_FnWays_ok (a b : List Int) (ha2 : ∀ x ∈ a, 0 ≤ x ∧ x < 256) (hb2 : ∀ x ∈ b, 0 ≤ x ∧ x < 256) : C f_laws_FnWays [bys a, bys b] [] = some (.bool true, []) := by
  refine C_laws_FnWays ?_
  simp (maxSteps := 2000000) (disch := (first | omega | (simp only [List.length_append, List.length_take, List.length_replicate, List.length_map, List.length_set, List.length_cons, List.length_nil, List.length_zipWith, List.length_drop, List.length_range]; first | done | omega))) only [ir_laws_FnWays, go_sem, Nat.reduceAdd, Nat.reduceEqDiff, Nat.reduceLeDiff, Nat.reduceSub]
  simp (maxSteps := 2000000) (disch := (first | omega | (simp only [List.length_append, List.length_take, List.length_replicate, List.length_map, List.length_set, List.length_cons, List.length_nil, List.length_zipWith, List.length_drop, List.length_range]; first | done | omega))) only [go_sem, Nat.reduceAdd, Nat.reduceEqDiff, Nat.reduceLeDiff, Nat.reduceSub, laws_big_ok]
  intro hbig
  simp only [Bool.or_eq_false_iff, decide_eq_false_iff_not] at hbig
  obtain ⟨_, e1, f, rfl, h1⟩ := spec_DrawShortNet_ok a (by omega) ha2
  have hsn := h1.smN
  have hn30 := h1.1
  have h0 : f.net.tr ≠ [] := List.length_pos_iff.1 h1.1.1
  obtain ⟨_, d1, n, p, q, rfl, g1⟩ := spec_DrawOnWay_ok b (by omega) hb2
  have t1 := impl_OnWay_ok n p q g1.smN
  have t2 := spec_OnWay_ok n p q g1.smN
  have e2 := impl_GoodFlow_ok f hsn
  have e3 := impl_ShortNet_ok f hsn h0 (by omega)
  have e4 := spec_ShortNet_ok f hsn h0 (by omega)
  have e5 := impl_StartOf_ok f hsn
  have e6 := spec_StartOf_ok f hsn
  have e7 := impl_EndOf_ok f hsn
  have e8 := spec_EndOf_ok f hsn
  have e9 := spec_GoodFlow_ok f hsn
  have n0 : C f_laws_sameInts [.sl true 1 [], .sl true 1 []] [] = some (.bool true, []) := laws_sameInts_ok [] [] (by simp)
  have m0 : C f_laws_sameNet [.agg [I 0, .sl false 3 []], .agg [I 0, .sl false 3 []]] [] = some (.bool true, []) := laws_sameNet_ok ⟨0, []⟩ ⟨by simp, by simp⟩
  have tl : ∃ (P T : List Int) (v : Bool), C f_impl_OnWay [encN n, I p, I q] [] = some (.tup [.un t_int true 1 (P.map I), .un t_int true 1 (T.map I), .bool v], []) ∧ C f_spec_OnWay [encN n, I p, I q] [] = some (.tup [.un t_int true 1 (P.map I), .un t_int true 1 (T.map I), .bool v], []) ∧ C f_laws_sameInts [ints P, ints P] [] = some (.bool true, []) ∧ C f_laws_sameInts [ints T, ints T] [] = some (.bool true, []) := by
    refine ⟨_, _, _, t1, t2, ?_, ?_⟩
    · have hP : (if okWay n p q then wayP n p q else []).length < 2^62 := by
        split
        · rename_i h
          have hg : goodN n = true := by simp only [okWay, Bool.and_eq_true] at h; exact h.1.1
          have := goodN_parts hg
          have h1 := bothK_len (reachC n false p).pl (reachC n true q).pl (reachC n false p).pl.length
          have h2 := reachC_len n false p
          unfold wayP bothL; omega
        · simp
      have := laws_sameInts_ok (if okWay n p q then wayP n p q else []) (if okWay n p q then wayP n p q else []) hP
      simpa using this
    · have hT : (if okWay n p q then wayT n p q else []).length < 2^62 := by
        split
        · have h1 := bothK_len (reachC n false p).tr (reachC n true q).tr (reachC n false p).tr.length
          have h2 := reachC_len n false p
          have h3 := g1.1
          unfold wayT bothL; omega
        · simp
      have := laws_sameInts_ok (if okWay n p q then wayT n p q else []) (if okWay n p q then wayT n p q else []) hT
      simpa using this
  clear t1 t2
  obtain ⟨P, T, v, t1, t2, t3, t4⟩ := tl
  cases hg : goodFl f with
  | false =>
    simp only [hg, Bool.false_and, Bool.false_eq_true, if_false, List.map_nil] at e2 e3 e4 e5 e6 e7 e8 e9
    cases v <;>
    simp (maxSteps := 2000000) (disch := (first | omega | (simp only [List.length_append, List.length_take, List.length_replicate, List.length_map, List.length_set, List.length_cons, List.length_nil, List.length_zipWith, List.length_drop, List.length_range]; first | done | omega))) only [go_sem, Nat.reduceAdd, Nat.reduceEqDiff, Nat.reduceLeDiff, Nat.reduceSub, e1, e2, e3, e4, e5, e6, e7, e8, e9, n0, m0, d1, t1, t2, t3, t4]
  | true =>
    obtain ⟨k1, k2, k3, k4, k5, k6, k7⟩ := goodFl_parts hg
    have hb := goodN_parts k1
    have hok : okWay f.net f.src f.dst = true := by
      simp only [goodFl, Bool.and_eq_true] at hg; exact hg.1.1.1.1
    have o1 := impl_OnWay_ok f.net f.src f.dst hsn
    simp only [hok, if_true] at o1
    have lS : (oneM f.net.pl.toNat f.src).length = f.net.pl.toNat := by simp [oneM]
    have lD : (oneM f.net.pl.toNat f.dst).length = f.net.pl.toNat := by simp [oneM]
    have n1 := laws_sameInts_ok (oneM f.net.pl.toNat f.src) (oneM f.net.pl.toNat f.src) (by omega)
    have n2 := laws_sameInts_ok (oneM f.net.pl.toNat f.dst) (oneM f.net.pl.toNat f.dst) (by omega)
    simp only [decide_true] at n1 n2
    cases hs : goodN (shortN f) with
    | false =>
      simp only [hg, hs, Bool.and_false, Bool.and_true, Bool.false_eq_true, if_false, if_true] at e2 e3 e4 e5 e6 e7 e8 e9
      simp (maxSteps := 2000000) (disch := (first | omega | (simp only [List.length_append, List.length_take, List.length_replicate, List.length_map, List.length_set, List.length_cons, List.length_nil, List.length_zipWith, List.length_drop, List.length_range]; first | done | omega))) only [go_sem, Nat.reduceAdd, Nat.reduceEqDiff, Nat.reduceLeDiff, Nat.reduceSub, e1, e2, e3, e4, e5, e6, e7, e8, e9, n0, m0, n1, n2, o1, d1]
      cases v <;>
      simp (maxSteps := 2000000) (disch := (first | omega | (simp only [List.length_append, List.length_take, List.length_replicate, List.length_map, List.length_set, List.length_cons, List.length_nil, List.length_zipWith, List.length_drop, List.length_range]; first | done | omega))) only [go_sem, Nat.reduceAdd, Nat.reduceEqDiff, Nat.reduceLeDiff, Nat.reduceSub, t1, t2, t3, t4]
    | true =>
      have hsm := shortN_sm hsn (by omega : f.net.tr.length < 2^30)
      have m1 := laws_sameNet_ok (shortN f) hsm
      obtain ⟨s1, s2⟩ := short_back hg hs
      have f1 := impl_Fire_t (shortN f) (oneM f.net.pl.toNat f.dst) f.net.tr.length hsm (by omega) s1
      rw [s2] at f1
      simp only [hg, hs, Bool.and_self, if_true] at e2 e3 e4 e5 e6 e7 e8 e9
      simp only [encN, show (shortN f).pl = f.net.pl from rfl] at e3 m1 f1
      simp (maxSteps := 2000000) (disch := (first | omega | (simp only [List.length_append, List.length_take, List.length_replicate, List.length_map, List.length_set, List.length_cons, List.length_nil, List.length_zipWith, List.length_drop, List.length_range]; first | done | omega))) only [go_sem, Nat.reduceAdd, Nat.reduceEqDiff, Nat.reduceLeDiff, Nat.reduceSub, e1, e2, e3, e4, e5, e6, e7, e8, e9, n0, m1, n1, n2, o1, f1, d1]
      cases v <;>
      simp (maxSteps := 2000000) (disch := (first | omega | (simp only [List.length_append, List.length_take, List.length_replicate, List.length_map, List.length_set, List.length_cons, List.length_nil, List.length_zipWith, List.length_drop, List.length_range]; first | done | omega))) only [go_sem, Nat.reduceAdd, Nat.reduceEqDiff, Nat.reduceLeDiff, Nat.reduceSub, t1, t2, t3, t4]
end Go.Proofs.Ytngjepmopahgdaa.Pi
