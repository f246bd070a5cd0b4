/- The functions that the law reaches: what they answer. Conditions: those that each theorem names. -/
import Derived.Test.YtkkifebmicbbaaaIrFnExactFuseTrans
import Derived.Test.YtkkifebmicbbaaaPlBase
import Derived.Test.YtkkifebmicbbaaaPlNet
import Derived.Test.YtkkifebmicbbaaaPlFire
import Derived.Test.YtkkifebmicbbaaaPlTurn
import Derived.Test.YtkkifebmicbbaaaPlBack
import Derived.Test.YtkkifebmicbbaaaPlFlow
import Derived.Test.YtkkifebmicbbaaaPlMask
import Derived.Test.YtkkifebmicbbaaaPlSpec
import Derived.Test.YtkkifebmicbbaaaPlArg
import Derived.Test.YtkkifebmicbbaaaPlDrop
import Derived.Test.YtkkifebmicbbaaaPlSiph
import Derived.Test.YtkkifebmicbbaaaPlFuse
import Derived.Test.YtkkifebmicbbaaaPlFus
import Derived.Test.YtkkifebmicbbaaaFnFnExactFuseTrans0
namespace Go.Proofs.Ytkkifebmicbbaaa.Pi
open Go
set_option linter.all false
set_option maxHeartbeats 40000000
set_option maxRecDepth 20000
theorem impl_fuseTrans_ok (f : Fl) (hg : goodFl f = true) (hr : hasR f.net = false) : C f_impl_fuseTrans [encF f] [] = some (.tup [match resFT f with | some p => .agg [I (f.net.pl - 1), .unn t_impl_Trans 3 (((fusedT f p).map (dropT p)).map encT), I (lessP p f.src), I (lessP p f.dst)] | none => .agg [I 0, .nil false 3, I 0, I 0], .bool (resFT f).isSome], []) := by
  obtain ⟨hgn, hs, hd, -, -, -, -⟩ := goodFl_parts hg
  obtain ⟨hp1, hp2, hn, hT⟩ := goodN_parts hgn
  obtain ⟨P, hP⟩ : ∃ P : Nat, f.net.pl = P := ⟨f.net.pl.toNat, by omega⟩
  have hsm := smF_of hg hr
  have hlens : ∀ u ∈ f.net.tr, u.inn.length ≤ 16 ∧ u.out.length ≤ 16 := fun u hu => by have := goodT_lens (hT u hu) ⟨by omega, hp2⟩; omega
  have hk2 : ∀ p : Int, (idxL (fun t => hasB t.inn p) f.net).length ≤ 24 := fun p => Nat.le_trans (idxK_len _ _ _) hn
  have hg3 : ∀ p : Int, (idxL (fun t => hasB t.out p) f.net).length ≤ 24 := fun p => Nat.le_trans (idxK_len _ _ _) hn
  refine C_impl_fuseTrans ?_
  simp (maxSteps := 2000000) (disch := (first | omega | (simp only [List.length_append, List.length_take, List.length_replicate, List.length_map, List.length_set, List.length_cons, List.length_nil, List.length_zipWith, List.length_drop, List.length_range]; first | done | omega))) only [ir_impl_fuseTrans, go_sem, Nat.reduceAdd, Nat.reduceEqDiff, Nat.reduceLeDiff, Nat.reduceSub]
  refine W_for P (fun i st => st = ⟨[.any, .ptr 0 0, .ptr 1 0, .any, .any, .any, .any, .any, .any, .any, I f.net.pl, I i, .any, .any, .any], [.box t_impl_Flow [I f.net.pl, trs f.net.tr, I f.src, I f.dst], .box t_impl_Flow [I 0, .nil false 3, I 0, I 0]]⟩ ∧ ∀ j, j < i → okFT f j = false) ?_ ?_ ?_
  · simp (maxSteps := 2000000) (disch := (first | omega | (simp only [List.length_append, List.length_take, List.length_replicate, List.length_map, List.length_set, List.length_cons, List.length_nil, List.length_zipWith, List.length_drop, List.length_range]; first | done | omega))) only [go_sem, Nat.reduceAdd, Nat.reduceEqDiff, Nat.reduceLeDiff, Nat.reduceSub]
    exact ⟨rfl, fun q' h => by omega⟩
  · rintro i st hi ⟨rfl, hall⟩
    have next : okFT f i = false → ∀ j, j < i + 1 → okFT f j = false := by
      intro h j hj
      rcases Nat.lt_or_ge j i with h5 | h5
      · exact hall j h5
      · rw [show j = i by omega]; exact h
    have s1 := impl_isInner_ok f i
    have t1 := impl_withTrans_f f.net i hgn
    have u1 := impl_withTrans_t f.net i hgn
    unfold encF at s1
    unfold takI at t1
    unfold givI at u1
    have w1 := hk2 i
    have w3 := hg3 i
    cases b1 : innerP f (i : Int) with
    | false =>
      rw [b1] at s1
      simp (maxSteps := 2000000) (disch := (first | omega | (simp only [List.length_append, List.length_take, List.length_replicate, List.length_map, List.length_set, List.length_cons, List.length_nil, List.length_zipWith, List.length_drop, List.length_range]; first | done | omega))) only [go_sem, Nat.reduceAdd, Nat.reduceEqDiff, Nat.reduceLeDiff, Nat.reduceSub, s1, t1, u1]
      exact ⟨rfl, next (okFT_inner b1)⟩
    | true =>
      rw [b1] at s1
      by_cases hG : (idxL (fun t => hasB t.out (i : Int)) f.net).length = 1
      case neg =>
        have nx := next (okFT_giv hG)
        generalize idxL (fun t => hasB t.out (i : Int)) f.net = G at *
        simp (maxSteps := 2000000) (disch := (first | omega | (simp only [List.length_append, List.length_take, List.length_replicate, List.length_map, List.length_set, List.length_cons, List.length_nil, List.length_zipWith, List.length_drop, List.length_range]; first | done | omega))) only [go_sem, Nat.reduceAdd, Nat.reduceEqDiff, Nat.reduceLeDiff, Nat.reduceSub, s1, t1, u1]
        exact ⟨rfl, nx⟩
      by_cases hK : (idxL (fun t => hasB t.inn (i : Int)) f.net).length = 1
      case neg =>
        have nx := next (okFT_tak hK)
        generalize idxL (fun t => hasB t.out (i : Int)) f.net = G at *
        generalize idxL (fun t => hasB t.inn (i : Int)) f.net = K at *
        simp (maxSteps := 2000000) (disch := (first | omega | (simp only [List.length_append, List.length_take, List.length_replicate, List.length_map, List.length_set, List.length_cons, List.length_nil, List.length_zipWith, List.length_drop, List.length_range]; first | done | omega))) only [go_sem, Nat.reduceAdd, Nat.reduceEqDiff, Nat.reduceLeDiff, Nat.reduceSub, s1, t1, u1]
        exact ⟨rfl, nx⟩
      obtain ⟨g, hgl, hG1⟩ := idxL_one hG
      obtain ⟨t, htl, hK1⟩ := idxL_one hK
      rw [hG1] at u1
      rw [hK1] at t1
      by_cases hgt : g = t
      · subst hgt
        have nx := next (okFT_same hG1 hK1)
        simp (maxSteps := 2000000) (disch := (first | omega | (simp only [List.length_append, List.length_take, List.length_replicate, List.length_map, List.length_set, List.length_cons, List.length_nil, List.length_zipWith, List.length_drop, List.length_range]; first | done | omega))) only [go_sem, Nat.reduceAdd, Nat.reduceEqDiff, Nat.reduceLeDiff, Nat.reduceSub, Int.toNat_zero, List.getElem_cons_zero, s1, t1, u1]
        exact ⟨rfl, nx⟩
      have hokE := okFT_eq b1 hG1 hK1 hgt
      have hfuE := fusedT_eq (f := f) (p := i) hG1 hK1
      have lA := hlens _ (List.getElem_mem hgl)
      have lB := hlens _ (List.getElem_mem htl)
      have pA := (goodT_places (hT _ (List.getElem_mem hgl))).2.1
      have pB := (goodT_places (hT _ (List.getElem_mem htl))).2.1
      have hm := impl_meet_ok f.net.tr[g].out f.net.tr[t].out (fun x hx => by have := pA x hx; omega) (fun x hx => by have := pB x hx; omega) (by omega) (by omega)
      have egl : f.net.tr[g]? = some f.net.tr[g] := List.getElem?_eq_getElem hgl
      have etl : f.net.tr[t]? = some f.net.tr[t] := List.getElem?_eq_getElem htl
      unfold okAB at hokE
      rw [trN_eq hgl, trN_eq htl] at hokE hfuE
      by_cases c1 : f.net.tr[t].inn.length = 1
      case neg =>
        simp (maxSteps := 2000000) (disch := (first | omega | (simp only [List.length_append, List.length_take, List.length_replicate, List.length_map, List.length_set, List.length_cons, List.length_nil, List.length_zipWith, List.length_drop, List.length_range]; first | done | omega))) only [go_sem, Nat.reduceAdd, Nat.reduceEqDiff, Nat.reduceLeDiff, Nat.reduceSub, Int.toNat_zero, List.getElem_cons_zero, s1, t1, u1, egl, etl]
        exact ⟨by decide, rfl, next (by rw [hokE]; simp [c1])⟩
      by_cases c2 : f.net.tr[t].out.length = 0
      case pos =>
        simp (maxSteps := 2000000) (disch := (first | omega | (simp only [List.length_append, List.length_take, List.length_replicate, List.length_map, List.length_set, List.length_cons, List.length_nil, List.length_zipWith, List.length_drop, List.length_range]; first | done | omega))) only [go_sem, Nat.reduceAdd, Nat.reduceEqDiff, Nat.reduceLeDiff, Nat.reduceSub, Int.toNat_zero, List.getElem_cons_zero, s1, t1, u1, egl, etl, c1, c2]
        exact ⟨by decide, rfl, next (by rw [hokE]; simp [c2])⟩
      cases c3 : meetB f.net.tr[g].out f.net.tr[t].out with
      | true =>
        rw [c3] at hm
        simp (maxSteps := 2000000) (disch := (first | omega | (simp only [List.length_append, List.length_take, List.length_replicate, List.length_map, List.length_set, List.length_cons, List.length_nil, List.length_zipWith, List.length_drop, List.length_range]; first | done | omega))) only [go_sem, Nat.reduceAdd, Nat.reduceEqDiff, Nat.reduceLeDiff, Nat.reduceSub, Int.toNat_zero, List.getElem_cons_zero, s1, t1, u1, egl, etl, c1, c2, hm]
        exact ⟨by decide, rfl, next (by rw [hokE, c3]; simp)⟩
      | false =>
        rw [c3] at hm
        have hok : okFT f i = true := by rw [hokE, c3]; simp [c1, c2]
        have hres : resFT f = some i := fnd_some (by omega) hall hok
        have hown := impl_cloneNet_ok f.net hgn (by intro e; rw [e] at hgl; simp at hgl)
        have m1 := impl_maskOf_ok f.net.tr[g].out (fun x hx => by have := pA x hx; omega) (by omega)
        have m2 := impl_maskOf_ok f.net.tr[t].out (fun x hx => by have := pB x hx; omega) (by omega)
        have hmx := mixO_mask (a := f.net.tr[g].out) (b := f.net.tr[t].out) (p := i) (fun x hx => by have := pA x hx; omega) (fun x hx => by have := pB x hx; omega) (by omega)
        have hg2 := goodN_mix (p := i) hgn hgl htl
        have hwt := impl_withoutTrans_ok ⟨⟨f.net.pl, f.net.tr.set g (mixT f.net.tr[g] f.net.tr[t] i)⟩, f.src, f.dst⟩ t hg2 (by simpa using htl) (by simp only [List.length_set]; omega)
        have hst := impl_setOf_ok (mixO f.net.tr[g].out f.net.tr[t].out i) (fun x hx => (mixO_mem hx).elim (fun h => by have := pA x h; omega) (fun h => by have := pB x h; omega)) (mixO_incr (places_incr (goodT_parts (hT _ (List.getElem_mem hgl))).2.2.1)) (by have hx := mixO_len f.net.tr[g].out f.net.tr[t].out (i : Int); have la := lA.2; have lb := lB.2; clear hmx; omega)
        have n1 : maskN f.net.tr[g].out < 2 ^ 62 := maskN_lt (fun x hx => by have := pA x hx; omega)
        have n2 : maskN f.net.tr[t].out < 2 ^ 62 := maskN_lt (fun x hx => by have := pB x hx; omega)
        have n3 : 2 ^ i < 2 ^ 62 := Nat.pow_lt_pow_right (by decide) (by omega)
        have h4 : (1 : Int) * 2 ^ min i 64 = ((2 ^ i : Nat) : Int) := by rw [show min i 64 = i by omega]; simp
        have h5 : IntKind.i64.wrap ((2 ^ i : Nat) : Int) = ((2 ^ i : Nat) : Int) := wraps_i62 _ (Int.natCast_nonneg _) (by exact_mod_cast n3)
        have h6 := andNot_i64 n1 n3
        have n4 : maskN f.net.tr[g].out &&& (2 ^ 64 - (2 ^ i + 1)) < 2 ^ 62 := Nat.lt_of_le_of_lt Nat.and_le_left n1
        have h7 := or_i64 n4 n2
        rw [show ((i : Int)).toNat = i from rfl] at hmx
        have hsm2 := smF_mix (p := i) hsm hlens hgl htl
        rw [trN_eq hgl, trN_eq htl] at hsm2
        have hlv := impl_withoutPlace_gen ⟨⟨f.net.pl, (f.net.tr.set g (mixT f.net.tr[g] f.net.tr[t] i)).eraseIdx t⟩, f.src, f.dst⟩ i (smF_erase hsm2) ⟨by omega, by show (i : Int) < f.net.pl; omega⟩
        have hne : (((f.net.tr.set g (mixT f.net.tr[g] f.net.tr[t] i)).eraseIdx t).map (dropT i)) ≠ [] := by
          intro e
          have := congrArg List.length e
          rw [List.length_map, List.length_eraseIdx_of_lt (by simpa using htl), List.length_set, List.length_nil] at this
          omega
        rw [resN_ne hne] at hlv
        clear hne hlens hsm2
        unfold mixT at hlv hfuE hwt
        rw [← hmx] at h7
        have hml := mixO_len f.net.tr[g].out f.net.tr[t].out (i : Int)
        generalize mixO f.net.tr[g].out f.net.tr[t].out (i : Int) = L at *
        unfold encF trs at hlv hwt
        rw [List.map_set] at hwt
        have hwt2 : C f_impl_withoutTrans [.agg [I f.net.pl, .sl false 3 ((f.net.tr.map encT).set g (.agg [ints f.net.tr[g].inn, ints L, ints f.net.tr[g].rst])), I f.src, I f.dst], I t] [] = _ := hwt
        rw [hres]
        simp (maxSteps := 2000000) (disch := (first | omega | (simp only [List.length_append, List.length_take, List.length_replicate, List.length_map, List.length_set, List.length_cons, List.length_nil, List.length_zipWith, List.length_drop, List.length_range]; first | done | omega))) only [go_sem, Nat.reduceAdd, Nat.reduceEqDiff, Nat.reduceLeDiff, Nat.reduceSub, Int.toNat_zero, List.getElem_cons_zero, s1, t1, u1, egl, etl, c1, c2, hm, hown, m1, m2, h4, h5, h6, h7, hst, hwt2, hlv]
        refine ⟨by decide, ?_⟩
        rw [hfuE]
        first | done | rfl
  · rintro st ⟨rfl, hall⟩
    have hres : resFT f = none := fnd_none (fun q h => hall q (by omega))
    rw [hres]
    simp (maxSteps := 2000000) (disch := (first | omega | (simp only [List.length_append, List.length_take, List.length_replicate, List.length_map, List.length_set, List.length_cons, List.length_nil, List.length_zipWith, List.length_drop, List.length_range]; first | done | omega))) only [go_sem, Nat.reduceAdd, Nat.reduceEqDiff, Nat.reduceLeDiff, Nat.reduceSub]
    rfl
theorem impl_FuseTrans_ok (f : Fl) (hn : smN f.net) : C f_impl_FuseTrans [encF f] [] = some (.tup [match fuseTV f with | some g => .agg [I g.net.pl, .unn t_impl_Trans 3 (g.net.tr.map encT), I g.src, I g.dst] | none => .agg [I 0, .nil false 3, I 0, I 0], .bool (fuseTV f).isSome], []) := by
  have hA := impl_isReducible_ok f hn
  unfold encF at hA
  refine C_impl_FuseTrans ?_
  simp (maxSteps := 2000000) (disch := (first | omega | (simp only [List.length_append, List.length_take, List.length_replicate, List.length_map, List.length_set, List.length_cons, List.length_nil, List.length_zipWith, List.length_drop, List.length_range]; first | done | omega))) only [ir_impl_FuseTrans, go_sem, Nat.reduceAdd, Nat.reduceEqDiff, Nat.reduceLeDiff, Nat.reduceSub]
  cases ho : okRed f with
  | false =>
    simp (maxSteps := 2000000) (disch := (first | omega | (simp only [List.length_append, List.length_take, List.length_replicate, List.length_map, List.length_set, List.length_cons, List.length_nil, List.length_zipWith, List.length_drop, List.length_range]; first | done | omega))) only [go_sem, Nat.reduceAdd, Nat.reduceEqDiff, Nat.reduceLeDiff, Nat.reduceSub, hA, ho]
    simp [fuseTV, ho]
  | true =>
    have ho' := ho
    simp only [okRed, Bool.and_eq_true, Bool.not_eq_true'] at ho'
    have hD := impl_fuseTrans_ok f ho'.1 ho'.2
    unfold encF at hD
    have e : fuseTV f = (resFT f).map fun (q : Nat) => leaveF f (fusedT f q) (q : Int) := by simp [fuseTV, ho]
    rw [e]
    cases hq : resFT f with
    | none =>
      rw [hq] at hD
      simp only [Option.isSome_none] at hD
      simp (maxSteps := 2000000) (disch := (first | omega | (simp only [List.length_append, List.length_take, List.length_replicate, List.length_map, List.length_set, List.length_cons, List.length_nil, List.length_zipWith, List.length_drop, List.length_range]; first | done | omega))) only [go_sem, Nat.reduceAdd, Nat.reduceEqDiff, Nat.reduceLeDiff, Nat.reduceSub, hA, ho, hD]
      rfl
    | some q =>
      rw [hq] at hD
      simp only [Option.isSome_some] at hD
      simp (maxSteps := 2000000) (disch := (first | omega | (simp only [List.length_append, List.length_take, List.length_replicate, List.length_map, List.length_set, List.length_cons, List.length_nil, List.length_zipWith, List.length_drop, List.length_range]; first | done | omega))) only [go_sem, Nat.reduceAdd, Nat.reduceEqDiff, Nat.reduceLeDiff, Nat.reduceSub, hA, ho, hD]
      rfl
theorem laws_eqIntS_ok (a b : List Int) (ha : a.length < 2^62) (hb : b.length < 2^62) : C f_laws_eqIntS [ints a, ints b] [] = some (.bool (decide (a = b)), []) := by
  refine C_laws_eqIntS ?_
  simp (maxSteps := 2000000) (disch := (first | omega | (simp only [List.length_append, List.length_take, List.length_replicate, List.length_map, List.length_set, List.length_cons, List.length_nil, List.length_zipWith, List.length_drop, List.length_range]; first | done | omega))) only [ir_laws_eqIntS, go_sem, Nat.reduceAdd, Nat.reduceEqDiff, Nat.reduceLeDiff, Nat.reduceSub]
  refine ⟨fun h => ?_, fun h => ?_⟩
  · rw [decide_eq_false]
    rintro rfl
    omega
  have hl : a.length = b.length := by omega
  refine W_for a.length (fun k s => s = ⟨[ints a, ints b, .any, I k, .any, .any, .any], []⟩ ∧ a.take k = b.take k) ?_ ?_ ?_
  · simp (maxSteps := 2000000) (disch := (first | omega | (simp only [List.length_append, List.length_take, List.length_replicate, List.length_map, List.length_set, List.length_cons, List.length_nil, List.length_zipWith, List.length_drop, List.length_range]; first | done | omega))) only [go_sem, Nat.reduceAdd, Nat.reduceEqDiff, Nat.reduceLeDiff, Nat.reduceSub]
    rfl
  · rintro k s hk ⟨rfl, he⟩
    simp (maxSteps := 2000000) (disch := (first | omega | (simp only [List.length_append, List.length_take, List.length_replicate, List.length_map, List.length_set, List.length_cons, List.length_nil, List.length_zipWith, List.length_drop, List.length_range]; first | done | omega))) only [go_sem, Nat.reduceAdd, Nat.reduceEqDiff, Nat.reduceLeDiff, Nat.reduceSub]
    refine ⟨fun h => ?_, fun h => ⟨rfl, dec_take hk (by omega) he h⟩⟩
    rw [dec_ne hk (by omega) h]
  · rintro s ⟨rfl, he⟩
    simp (maxSteps := 2000000) (disch := (first | omega | (simp only [List.length_append, List.length_take, List.length_replicate, List.length_map, List.length_set, List.length_cons, List.length_nil, List.length_zipWith, List.length_drop, List.length_range]; first | done | omega))) only [go_sem, Nat.reduceAdd, Nat.reduceEqDiff, Nat.reduceLeDiff, Nat.reduceSub]
    rw [List.take_length, take_all (by omega)] at he
    simp [he]
theorem laws_eqTrans_ok (a b : Tr) (ha : smT a) (hb : smT b) : C f_laws_eqTrans [encT a, encT b] [] = some (.bool (decide (a = b)), []) := by
  obtain ⟨a1, a2, a3⟩ := ha
  obtain ⟨b1, b2, b3⟩ := hb
  have e : (a = b) ↔ a.inn = b.inn ∧ a.out = b.out ∧ a.rst = b.rst := by
    cases a; cases b; simp
  simp only [e]
  refine C_laws_eqTrans ?_
  simp (maxSteps := 2000000) (disch := (first | omega | (simp only [List.length_append, List.length_take, List.length_replicate, List.length_map, List.length_set, List.length_cons, List.length_nil, List.length_zipWith, List.length_drop, List.length_range]; first | done | omega))) only [ir_laws_eqTrans, go_sem, Nat.reduceAdd, Nat.reduceEqDiff, Nat.reduceLeDiff, Nat.reduceSub]
  simp (maxSteps := 2000000) (disch := (first | omega | (simp only [List.length_append, List.length_take, List.length_replicate, List.length_map, List.length_set, List.length_cons, List.length_nil, List.length_zipWith, List.length_drop, List.length_range]; first | done | omega))) only [go_sem, Nat.reduceAdd, Nat.reduceEqDiff, Nat.reduceLeDiff, Nat.reduceSub, laws_eqIntS_ok]
  grind
theorem laws_eqTransS_ok (a b : List Tr) (ha : a.length < 2^62) (hb : b.length < 2^62) (ha2 : ∀ t ∈ a, smT t) (hb2 : ∀ t ∈ b, smT t) : C f_laws_eqTransS [trs a, trs b] [] = some (.bool (decide (a = b)), []) := by
  refine C_laws_eqTransS ?_
  simp (maxSteps := 2000000) (disch := (first | omega | (simp only [List.length_append, List.length_take, List.length_replicate, List.length_map, List.length_set, List.length_cons, List.length_nil, List.length_zipWith, List.length_drop, List.length_range]; first | done | omega))) only [ir_laws_eqTransS, go_sem, Nat.reduceAdd, Nat.reduceEqDiff, Nat.reduceLeDiff, Nat.reduceSub]
  refine ⟨fun h => ?_, fun h => ?_⟩
  · rw [decide_eq_false]
    rintro rfl
    omega
  have hl : a.length = b.length := by omega
  refine W_for a.length (fun k s => s = ⟨[trs a, trs b, .any, I k, .any, .any, .any], []⟩ ∧ a.take k = b.take k) ?_ ?_ ?_
  · simp (maxSteps := 2000000) (disch := (first | omega | (simp only [List.length_append, List.length_take, List.length_replicate, List.length_map, List.length_set, List.length_cons, List.length_nil, List.length_zipWith, List.length_drop, List.length_range]; first | done | omega))) only [go_sem, Nat.reduceAdd, Nat.reduceEqDiff, Nat.reduceLeDiff, Nat.reduceSub]
    rfl
  · rintro k s hk ⟨rfl, he⟩
    have hk2 : k < b.length := by omega
    simp (maxSteps := 2000000) (disch := (first | omega | (simp only [List.length_append, List.length_take, List.length_replicate, List.length_map, List.length_set, List.length_cons, List.length_nil, List.length_zipWith, List.length_drop, List.length_range]; first | done | omega))) only [go_sem, Nat.reduceAdd, Nat.reduceEqDiff, Nat.reduceLeDiff, Nat.reduceSub, laws_eqTrans_ok _ _ (ha2 _ (List.getElem_mem hk)) (hb2 _ (List.getElem_mem hk2))]
    refine ⟨fun h => ⟨rfl, dec_take hk (by omega) he h⟩, fun h => ?_⟩
    rw [dec_ne hk (by omega) h]
  · rintro s ⟨rfl, he⟩
    simp (maxSteps := 2000000) (disch := (first | omega | (simp only [List.length_append, List.length_take, List.length_replicate, List.length_map, List.length_set, List.length_cons, List.length_nil, List.length_zipWith, List.length_drop, List.length_range]; first | done | omega))) only [go_sem, Nat.reduceAdd, Nat.reduceEqDiff, Nat.reduceLeDiff, Nat.reduceSub]
    rw [List.take_length, take_all (by omega)] at he
    simp [he]
theorem laws_eqNet_ok (a b : Net) (ha : smN a) (hb : smN b) : C f_laws_eqNet [encN a, encN b] [] = some (.bool (decide (a = b)), []) := by
  obtain ⟨a1, a2⟩ := ha
  obtain ⟨b1, b2⟩ := hb
  have e : (a = b) ↔ a.pl = b.pl ∧ a.tr = b.tr := by
    cases a; cases b; simp
  simp only [e]
  refine C_laws_eqNet ?_
  simp (maxSteps := 2000000) (disch := (first | omega | (simp only [List.length_append, List.length_take, List.length_replicate, List.length_map, List.length_set, List.length_cons, List.length_nil, List.length_zipWith, List.length_drop, List.length_range]; first | done | omega))) only [ir_laws_eqNet, go_sem, Nat.reduceAdd, Nat.reduceEqDiff, Nat.reduceLeDiff, Nat.reduceSub]
  refine ⟨fun h => by simp [h], fun h1 => ?_⟩
  simp (maxSteps := 2000000) (disch := (first | omega | (simp only [List.length_append, List.length_take, List.length_replicate, List.length_map, List.length_set, List.length_cons, List.length_nil, List.length_zipWith, List.length_drop, List.length_range]; first | done | omega))) only [go_sem, Nat.reduceAdd, Nat.reduceEqDiff, Nat.reduceLeDiff, Nat.reduceSub, laws_eqTransS_ok a.tr b.tr (by omega) (by omega) a2 b2]
  grind
theorem laws_eqFlow_ok (a b : Fl) (ha : smN a.net) (hb : smN b.net) : C f_laws_eqFlow [encF a, encF b] [] = some (.bool (decide (a.net = b.net ∧ a.src = b.src ∧ a.dst = b.dst)), []) := by
  refine C_laws_eqFlow ?_
  simp (maxSteps := 2000000) (disch := (first | omega | (simp only [List.length_append, List.length_take, List.length_replicate, List.length_map, List.length_set, List.length_cons, List.length_nil, List.length_zipWith, List.length_drop, List.length_range]; first | done | omega))) only [ir_laws_eqFlow, go_sem, Nat.reduceAdd, Nat.reduceEqDiff, Nat.reduceLeDiff, Nat.reduceSub]
  simp (maxSteps := 2000000) (disch := (first | omega | (simp only [List.length_append, List.length_take, List.length_replicate, List.length_map, List.length_set, List.length_cons, List.length_nil, List.length_zipWith, List.length_drop, List.length_range]; first | done | omega))) only [go_sem, Nat.reduceAdd, Nat.reduceEqDiff, Nat.reduceLeDiff, Nat.reduceSub, laws_eqNet_ok a.net b.net ha hb]
  grind
theorem laws_markIntS_ok (l : List Int) (k : Int) (t : TypeId) (hl : l.length ≤ 2^36) (h0 : 0 ≤ k) (h1 : k < 2^61) : C f_laws_markIntS [.ref 0 1 0 l.length, I k] [.row t true 1 (l.map I)] = some (I (k + l.length), [.row t true 1 ((markL k l.length).map I)]) := by
  refine C_laws_markIntS ?_
  simp (maxSteps := 2000000) (disch := (first | omega | (simp only [List.length_append, List.length_take, List.length_replicate, List.length_map, List.length_set, List.length_cons, List.length_nil, List.length_zipWith, List.length_drop, List.length_range]; first | done | omega))) only [ir_laws_markIntS, go_sem, Nat.reduceAdd, Nat.reduceEqDiff, Nat.reduceLeDiff, Nat.reduceSub]
  refine W_for l.length (fun i s => s = ⟨[.ref 0 1 0 l.length, I (k + i), .any, I i, .any], [.row t true 1 ((markP k l i).map I)]⟩) ?_ ?_ ?_
  · simp (maxSteps := 2000000) (disch := (first | omega | (simp only [List.length_append, List.length_take, List.length_replicate, List.length_map, List.length_set, List.length_cons, List.length_nil, List.length_zipWith, List.length_drop, List.length_range]; first | done | omega))) only [go_sem, Nat.reduceAdd, Nat.reduceEqDiff, Nat.reduceLeDiff, Nat.reduceSub]
    rw [markP_zero]
    simp
  · rintro i s hi rfl
    have h2 := markP_len (k := k) (l := l) (i := i) (by omega)
    have h3 := markP_step (k := k) hi
    simp (maxSteps := 2000000) (disch := (first | omega | (simp only [List.length_append, List.length_take, List.length_replicate, List.length_map, List.length_set, List.length_cons, List.length_nil, List.length_zipWith, List.length_drop, List.length_range]; first | done | omega))) only [go_sem, Nat.reduceAdd, Nat.reduceEqDiff, Nat.reduceLeDiff, Nat.reduceSub, h2]
    rw [← h3]
    simp
    omega
  · rintro s rfl
    have h2 := markP_len (k := k) (l := l) (i := l.length) (by omega)
    simp (maxSteps := 2000000) (disch := (first | omega | (simp only [List.length_append, List.length_take, List.length_replicate, List.length_map, List.length_set, List.length_cons, List.length_nil, List.length_zipWith, List.length_drop, List.length_range]; first | done | omega))) only [go_sem, Nat.reduceAdd, Nat.reduceEqDiff, Nat.reduceLeDiff, Nat.reduceSub, h2]
    rw [markP_all]
theorem laws_markIntS_nil (k : Int) : C f_laws_markIntS [.sl true 1 [], I k] [] = some (I k, []) := by
  refine C_laws_markIntS ?_
  simp (maxSteps := 2000000) (disch := (first | omega | (simp only [List.length_append, List.length_take, List.length_replicate, List.length_map, List.length_set, List.length_cons, List.length_nil, List.length_zipWith, List.length_drop, List.length_range]; first | done | omega))) only [ir_laws_markIntS, go_sem, Nat.reduceAdd, Nat.reduceEqDiff, Nat.reduceLeDiff, Nat.reduceSub]
  refine W_for 0 (fun i s => s = ⟨[.sl true 1 [], I k, .any, I 0, .any], []⟩) ?_ ?_ ?_
  · simp (maxSteps := 2000000) (disch := (first | omega | (simp only [List.length_append, List.length_take, List.length_replicate, List.length_map, List.length_set, List.length_cons, List.length_nil, List.length_zipWith, List.length_drop, List.length_range]; first | done | omega))) only [go_sem, Nat.reduceAdd, Nat.reduceEqDiff, Nat.reduceLeDiff, Nat.reduceSub]
  · rintro i s hi rfl
    omega
  · rintro s rfl
    simp (maxSteps := 2000000) (disch := (first | omega | (simp only [List.length_append, List.length_take, List.length_replicate, List.length_map, List.length_set, List.length_cons, List.length_nil, List.length_zipWith, List.length_drop, List.length_range]; first | done | omega))) only [go_sem, Nat.reduceAdd, Nat.reduceEqDiff, Nat.reduceLeDiff, Nat.reduceSub]
/-- ... on a row that lies in a row. -/
theorem laws_markIntS_cell {sz off : Nat} {cs : List PV} (l : List Int) (k : Int) (hc : cs[off]? = some (ints l)) (hs : cs.length = sz) (hok : okE false sz (.agg cs) = true) (hl : l.length ≤ 2^36) (h0 : 0 ≤ k) (h1 : k < 2^61) :
    kcallV C f_laws_markIntS sz off (.agg cs) (I k) = some (I (k + l.length), .agg (cs.set off (ints (markL k l.length)))) := by
  refine kcallV_cell hc hs hok (by simp [markL_len]) (fun h => ?_) (fun h => ⟨0, ?_⟩)
  · have : l = [] := by simpa using h
    subst this
    simpa using laws_markIntS_nil k
  · have := laws_markIntS_ok l k 0 hl h0 h1
    simpa using this
theorem laws_markTransS_c0 (l q r : List Int) (k : Int) (hl : l.length ≤ 2^36) (h0 : 0 ≤ k) (h1 : k < 2^61) : kcallV C f_laws_markIntS 3 0 (.agg [ints l, ints q, ints r]) (I k) = some (I (k + l.length), .agg [ints (markL k l.length), ints q, ints r]) :=
  laws_markIntS_cell l k rfl rfl rfl hl h0 h1
theorem laws_markTransS_c1 (l q r : List Int) (k : Int) (hl : l.length ≤ 2^36) (h0 : 0 ≤ k) (h1 : k < 2^61) : kcallV C f_laws_markIntS 3 1 (.agg [ints q, ints l, ints r]) (I k) = some (I (k + l.length), .agg [ints q, ints (markL k l.length), ints r]) :=
  laws_markIntS_cell l k rfl rfl rfl hl h0 h1
theorem laws_markTransS_c2 (l q r : List Int) (k : Int) (hl : l.length ≤ 2^36) (h0 : 0 ≤ k) (h1 : k < 2^61) : kcallV C f_laws_markIntS 3 2 (.agg [ints q, ints r, ints l]) (I k) = some (I (k + l.length), .agg [ints q, ints r, ints (markL k l.length)]) :=
  laws_markIntS_cell l k rfl rfl rfl hl h0 h1
theorem laws_markTransS_ok (l : List Tr) (t : TypeId) (k : Int) (hl : l.length ≤ 2^20) (hb : ∀ t ∈ l, mtLen t ≤ 2^30) (h0 : 0 ≤ k) (h1 : k ≤ 2^40) : C f_laws_markTransS [.ref 0 3 0 l.length, I k] [.lin t 3 (l.map encT)] = some (I (k + mtN l l.length), [.lin t 3 ((mtP k l l.length).map encT)]) := by
  refine C_laws_markTransS ?_
  simp (maxSteps := 2000000) (disch := (first | omega | (simp only [List.length_append, List.length_take, List.length_replicate, List.length_map, List.length_set, List.length_cons, List.length_nil, List.length_zipWith, List.length_drop, List.length_range]; first | done | omega))) only [ir_laws_markTransS, go_sem, Nat.reduceAdd, Nat.reduceEqDiff, Nat.reduceLeDiff, Nat.reduceSub]
  refine W_for l.length (fun i st => st = ⟨[.ref 0 3 0 l.length, I (k + mtN l i), .any, I i, .any], [.lin t 3 ((mtP k l i).map encT)]⟩) ?_ ?_ ?_
  · simp (maxSteps := 2000000) (disch := (first | omega | (simp only [List.length_append, List.length_take, List.length_replicate, List.length_map, List.length_set, List.length_cons, List.length_nil, List.length_zipWith, List.length_drop, List.length_range]; first | done | omega))) only [go_sem, Nat.reduceAdd, Nat.reduceEqDiff, Nat.reduceLeDiff, Nat.reduceSub]
    simp [mtN, mtP]
  · rintro i st hi rfl
    have e1 : (mtP k l i).length = l.length := mtP_len k l i
    have e2 : (mtP k l i)[i]? = some l[i] := by rw [mtP_get k l i i (by omega), List.getElem?_eq_getElem hi]
    have e3 := mtN_le hb i (by omega)
    have e4 := hb _ (List.getElem_mem hi)
    have e5 := mtN_step hi
    have e6 := mtP_step (k := k) hi
    have e7 : mtLen l[i] = l[i].inn.length + l[i].out.length + l[i].rst.length := rfl
    have e8 : i * 2^30 ≤ 2^20 * 2^30 := Nat.mul_le_mul_right _ (by omega)
    rw [e6, e5]
    generalize hM : mtP k l i = M at *
    generalize l[i] = t at *
    generalize hK : k + (mtN l i : Int) = K at *
    have e9 : 0 ≤ K ∧ K ≤ 2^52 := by omega
    simp (maxSteps := 2000000) (disch := (first | omega | (simp only [List.length_append, List.length_take, List.length_replicate, List.length_map, List.length_set, List.length_cons, List.length_nil, List.length_zipWith, List.length_drop, List.length_range]; first | done | omega))) only [go_sem, Nat.reduceAdd, Nat.reduceEqDiff, Nat.reduceLeDiff, Nat.reduceSub, e1, e2, laws_markTransS_c0, laws_markTransS_c1, laws_markTransS_c2, List.getElem?_set_self, List.set_set]
    rw [show k + ((mtN l i + mtLen t : Nat) : Int) = K + t.inn.length + t.out.length + t.rst.length by omega, List.map_set]
    rfl
  · rintro st rfl
    have e1 : (mtP k l l.length).length = l.length := mtP_len k l l.length
    simp (maxSteps := 2000000) (disch := (first | omega | (simp only [List.length_append, List.length_take, List.length_replicate, List.length_map, List.length_set, List.length_cons, List.length_nil, List.length_zipWith, List.length_drop, List.length_range]; first | done | omega))) only [go_sem, Nat.reduceAdd, Nat.reduceEqDiff, Nat.reduceLeDiff, Nat.reduceSub, e1]
theorem laws_markTransS_nil (k : Int) : C f_laws_markTransS [.nil false 3, I k] [] = some (I k, []) := by
  refine C_laws_markTransS ?_
  simp (maxSteps := 2000000) (disch := (first | omega | (simp only [List.length_append, List.length_take, List.length_replicate, List.length_map, List.length_set, List.length_cons, List.length_nil, List.length_zipWith, List.length_drop, List.length_range]; first | done | omega))) only [ir_laws_markTransS, go_sem, Nat.reduceAdd, Nat.reduceEqDiff, Nat.reduceLeDiff, Nat.reduceSub]
  refine W_for 0 (fun i s => s = ⟨[.nil false 3, I k, .any, I 0, .any], []⟩) ?_ ?_ ?_
  · simp (maxSteps := 2000000) (disch := (first | omega | (simp only [List.length_append, List.length_take, List.length_replicate, List.length_map, List.length_set, List.length_cons, List.length_nil, List.length_zipWith, List.length_drop, List.length_range]; first | done | omega))) only [go_sem, Nat.reduceAdd, Nat.reduceEqDiff, Nat.reduceLeDiff, Nat.reduceSub]
  · rintro i s hi rfl
    omega
  · rintro s rfl
    simp (maxSteps := 2000000) (disch := (first | omega | (simp only [List.length_append, List.length_take, List.length_replicate, List.length_map, List.length_set, List.length_cons, List.length_nil, List.length_zipWith, List.length_drop, List.length_range]; first | done | omega))) only [go_sem, Nat.reduceAdd, Nat.reduceEqDiff, Nat.reduceLeDiff, Nat.reduceSub]
theorem laws_markNet_ok (c : Int) (l : List Tr) (t : TypeId) (k : Int) (hl : l.length ≤ 2^20) (hb : ∀ t ∈ l, mtLen t ≤ 2^30) (h0 : 0 ≤ k) (h1 : k ≤ 2^40) : C f_laws_markNet [.agg [I c, .ref 0 3 0 l.length], I k] [.lin t 3 (l.map encT)] = some (I (k + mtN l l.length), [.lin t 3 ((mtP k l l.length).map encT)]) := by
  have h := laws_markTransS_ok l t k hl hb h0 h1
  refine C_laws_markNet ?_
  simp (maxSteps := 2000000) (disch := (first | omega | (simp only [List.length_append, List.length_take, List.length_replicate, List.length_map, List.length_set, List.length_cons, List.length_nil, List.length_zipWith, List.length_drop, List.length_range]; first | done | omega))) only [ir_laws_markNet, go_sem, Nat.reduceAdd, Nat.reduceEqDiff, Nat.reduceLeDiff, Nat.reduceSub]
  simp (maxSteps := 2000000) (disch := (first | omega | (simp only [List.length_append, List.length_take, List.length_replicate, List.length_map, List.length_set, List.length_cons, List.length_nil, List.length_zipWith, List.length_drop, List.length_range]; first | done | omega))) only [go_sem, Nat.reduceAdd, Nat.reduceEqDiff, Nat.reduceLeDiff, Nat.reduceSub, h]
theorem laws_markNet_nil (c k : Int) : C f_laws_markNet [.agg [I c, .nil false 3], I k] [] = some (I k, []) := by
  have h := laws_markTransS_nil k
  refine C_laws_markNet ?_
  simp (maxSteps := 2000000) (disch := (first | omega | (simp only [List.length_append, List.length_take, List.length_replicate, List.length_map, List.length_set, List.length_cons, List.length_nil, List.length_zipWith, List.length_drop, List.length_range]; first | done | omega))) only [ir_laws_markNet, go_sem, Nat.reduceAdd, Nat.reduceEqDiff, Nat.reduceLeDiff, Nat.reduceSub]
  simp (maxSteps := 2000000) (disch := (first | omega | (simp only [List.length_append, List.length_take, List.length_replicate, List.length_map, List.length_set, List.length_cons, List.length_nil, List.length_zipWith, List.length_drop, List.length_range]; first | done | omega))) only [go_sem, Nat.reduceAdd, Nat.reduceEqDiff, Nat.reduceLeDiff, Nat.reduceSub, h]
theorem laws_markFlow_ok (c x y : Int) (l : List Tr) (t : TypeId) (k : Int) (hl : l.length ≤ 2^20) (hb : ∀ t ∈ l, mtLen t ≤ 2^30) (h0 : 0 ≤ k) (h1 : k ≤ 2^40) : C f_laws_markFlow [.agg [I c, .ref 0 3 0 l.length, I x, I y], I k] [.lin t 3 (l.map encT)] = some (I (k + mtN l l.length), [.lin t 3 ((mtP k l l.length).map encT)]) := by
  have h := laws_markNet_ok c l t k hl hb h0 h1
  refine C_laws_markFlow ?_
  simp (maxSteps := 2000000) (disch := (first | omega | (simp only [List.length_append, List.length_take, List.length_replicate, List.length_map, List.length_set, List.length_cons, List.length_nil, List.length_zipWith, List.length_drop, List.length_range]; first | done | omega))) only [ir_laws_markFlow, go_sem, Nat.reduceAdd, Nat.reduceEqDiff, Nat.reduceLeDiff, Nat.reduceSub]
  simp (maxSteps := 2000000) (disch := (first | omega | (simp only [List.length_append, List.length_take, List.length_replicate, List.length_map, List.length_set, List.length_cons, List.length_nil, List.length_zipWith, List.length_drop, List.length_range]; first | done | omega))) only [go_sem, Nat.reduceAdd, Nat.reduceEqDiff, Nat.reduceLeDiff, Nat.reduceSub, h]
theorem laws_markFlow_nil (c x y k : Int) : C f_laws_markFlow [.agg [I c, .nil false 3, I x, I y], I k] [] = some (I k, []) := by
  have h := laws_markNet_nil c k
  refine C_laws_markFlow ?_
  simp (maxSteps := 2000000) (disch := (first | omega | (simp only [List.length_append, List.length_take, List.length_replicate, List.length_map, List.length_set, List.length_cons, List.length_nil, List.length_zipWith, List.length_drop, List.length_range]; first | done | omega))) only [ir_laws_markFlow, go_sem, Nat.reduceAdd, Nat.reduceEqDiff, Nat.reduceLeDiff, Nat.reduceSub]
  simp (maxSteps := 2000000) (disch := (first | omega | (simp only [List.length_append, List.length_take, List.length_replicate, List.length_map, List.length_set, List.length_cons, List.length_nil, List.length_zipWith, List.length_drop, List.length_range]; first | done | omega))) only [go_sem, Nat.reduceAdd, Nat.reduceEqDiff, Nat.reduceLeDiff, Nat.reduceSub, h]
theorem laws_heldIntS_ok (k : Int) (n : Nat) (hl : n < 2^60) (h0 : 0 ≤ k) (h1 : k < 2^61) : C f_laws_heldIntS [ints (markL k n), I k] [] = some (I (k + n), []) := by
  have hn := markL_len k n
  refine C_laws_heldIntS ?_
  simp (maxSteps := 2000000) (disch := (first | omega | (simp only [List.length_append, List.length_take, List.length_replicate, List.length_map, List.length_set, List.length_cons, List.length_nil, List.length_zipWith, List.length_drop, List.length_range]; first | done | omega))) only [ir_laws_heldIntS, go_sem, Nat.reduceAdd, Nat.reduceEqDiff, Nat.reduceLeDiff, Nat.reduceSub]
  refine W_for n (fun i s => s = ⟨[ints (markL k n), I (k + i), .any, I i, .any, .any], []⟩) ?_ ?_ ?_
  · simp (maxSteps := 2000000) (disch := (first | omega | (simp only [List.length_append, List.length_take, List.length_replicate, List.length_map, List.length_set, List.length_cons, List.length_nil, List.length_zipWith, List.length_drop, List.length_range]; first | done | omega))) only [go_sem, Nat.reduceAdd, Nat.reduceEqDiff, Nat.reduceLeDiff, Nat.reduceSub]
    simp
  · rintro i s hi rfl
    have e : (markL k n)[i]? = some (k + i) := by simp [markL, hi]
    simp (maxSteps := 2000000) (disch := (first | omega | (simp only [List.length_append, List.length_take, List.length_replicate, List.length_map, List.length_set, List.length_cons, List.length_nil, List.length_zipWith, List.length_drop, List.length_range]; first | done | omega))) only [go_sem, Nat.reduceAdd, Nat.reduceEqDiff, Nat.reduceLeDiff, Nat.reduceSub, hn, e]
    rw [show k + ((i + 1 : Nat) : Int) = k + i + 1 by omega]
    rfl
  · rintro s rfl
    simp (maxSteps := 2000000) (disch := (first | omega | (simp only [List.length_append, List.length_take, List.length_replicate, List.length_map, List.length_set, List.length_cons, List.length_nil, List.length_zipWith, List.length_drop, List.length_range]; first | done | omega))) only [go_sem, Nat.reduceAdd, Nat.reduceEqDiff, Nat.reduceLeDiff, Nat.reduceSub, hn]
theorem laws_heldTransS_ok (l : List Tr) (k : Int) (hl : l.length ≤ 2^20) (hb : ∀ t ∈ l, mtLen t ≤ 2^30) (h0 : 0 ≤ k) (h1 : k ≤ 2^40) : C f_laws_heldTransS [trs (mtP k l l.length), I k] [] = some (I (k + mtN l l.length), []) := by
  have hn := mtP_len k l l.length
  refine C_laws_heldTransS ?_
  simp (maxSteps := 2000000) (disch := (first | omega | (simp only [List.length_append, List.length_take, List.length_replicate, List.length_map, List.length_set, List.length_cons, List.length_nil, List.length_zipWith, List.length_drop, List.length_range]; first | done | omega))) only [ir_laws_heldTransS, go_sem, Nat.reduceAdd, Nat.reduceEqDiff, Nat.reduceLeDiff, Nat.reduceSub]
  refine W_for l.length (fun i st => st = ⟨[trs (mtP k l l.length), I (k + mtN l i), .any, I i, .any, .any, .any, .any], []⟩) ?_ ?_ ?_
  · simp (maxSteps := 2000000) (disch := (first | omega | (simp only [List.length_append, List.length_take, List.length_replicate, List.length_map, List.length_set, List.length_cons, List.length_nil, List.length_zipWith, List.length_drop, List.length_range]; first | done | omega))) only [go_sem, Nat.reduceAdd, Nat.reduceEqDiff, Nat.reduceLeDiff, Nat.reduceSub]
    simp [mtN]
  · rintro i st hi rfl
    have e := mtP_got k l l.length i hi hi
    have e3 := mtN_le hb i (by omega)
    have e4 := hb _ (List.getElem_mem hi)
    have e5 := mtN_step hi
    have e7 := mtLen_eq l[i]
    have e8 : i * 2^30 ≤ 2^20 * 2^30 := Nat.mul_le_mul_right _ (by omega)
    rw [e5]
    generalize mtP k l l.length = M at *
    generalize l[i] = t at *
    generalize hK : k + (mtN l i : Int) = K at *
    have e9 : 0 ≤ K ∧ K ≤ 2^52 := by omega
    have d1 := laws_heldIntS_ok K t.inn.length (by omega) (by omega) (by omega)
    have d2 := laws_heldIntS_ok (K + t.inn.length) t.out.length (by omega) (by omega) (by omega)
    have d3 := laws_heldIntS_ok (K + t.inn.length + t.out.length) t.rst.length (by omega) (by omega) (by omega)
    unfold mtTr at e
    simp (maxSteps := 2000000) (disch := (first | omega | (simp only [List.length_append, List.length_take, List.length_replicate, List.length_map, List.length_set, List.length_cons, List.length_nil, List.length_zipWith, List.length_drop, List.length_range]; first | done | omega))) only [go_sem, Nat.reduceAdd, Nat.reduceEqDiff, Nat.reduceLeDiff, Nat.reduceSub, hn, e, d1, d2, d3]
    rw [show k + ((mtN l i + mtLen t : Nat) : Int) = K + t.inn.length + t.out.length + t.rst.length by omega]
    rfl
  · rintro st rfl
    simp (maxSteps := 2000000) (disch := (first | omega | (simp only [List.length_append, List.length_take, List.length_replicate, List.length_map, List.length_set, List.length_cons, List.length_nil, List.length_zipWith, List.length_drop, List.length_range]; first | done | omega))) only [go_sem, Nat.reduceAdd, Nat.reduceEqDiff, Nat.reduceLeDiff, Nat.reduceSub, hn]
theorem laws_heldNet_ok (c : Int) (l : List Tr) (k : Int) (hl : l.length ≤ 2^20) (hb : ∀ t ∈ l, mtLen t ≤ 2^30) (h0 : 0 ≤ k) (h1 : k ≤ 2^40) : C f_laws_heldNet [.agg [I c, trs (mtP k l l.length)], I k] [] = some (I (k + mtN l l.length), []) := by
  have h := laws_heldTransS_ok l k hl hb h0 h1
  have hN := mtN_le hb l.length (by omega)
  have e8 : l.length * 2^30 ≤ 2^20 * 2^30 := Nat.mul_le_mul_right _ (by omega)
  refine C_laws_heldNet ?_
  simp (maxSteps := 2000000) (disch := (first | omega | (simp only [List.length_append, List.length_take, List.length_replicate, List.length_map, List.length_set, List.length_cons, List.length_nil, List.length_zipWith, List.length_drop, List.length_range]; first | done | omega))) only [ir_laws_heldNet, go_sem, Nat.reduceAdd, Nat.reduceEqDiff, Nat.reduceLeDiff, Nat.reduceSub]
  simp (maxSteps := 2000000) (disch := (first | omega | (simp only [List.length_append, List.length_take, List.length_replicate, List.length_map, List.length_set, List.length_cons, List.length_nil, List.length_zipWith, List.length_drop, List.length_range]; first | done | omega))) only [go_sem, Nat.reduceAdd, Nat.reduceEqDiff, Nat.reduceLeDiff, Nat.reduceSub, h]
theorem laws_heldFlow_ok (c x y : Int) (l : List Tr) (k : Int) (hl : l.length ≤ 2^20) (hb : ∀ t ∈ l, mtLen t ≤ 2^30) (h0 : 0 ≤ k) (h1 : k ≤ 2^40) : C f_laws_heldFlow [.agg [I c, trs (mtP k l l.length), I x, I y], I k] [] = some (I (k + mtN l l.length), []) := by
  have h := laws_heldNet_ok c l k hl hb h0 h1
  have hN := mtN_le hb l.length (by omega)
  have e8 : l.length * 2^30 ≤ 2^20 * 2^30 := Nat.mul_le_mul_right _ (by omega)
  refine C_laws_heldFlow ?_
  simp (maxSteps := 2000000) (disch := (first | omega | (simp only [List.length_append, List.length_take, List.length_replicate, List.length_map, List.length_set, List.length_cons, List.length_nil, List.length_zipWith, List.length_drop, List.length_range]; first | done | omega))) only [ir_laws_heldFlow, go_sem, Nat.reduceAdd, Nat.reduceEqDiff, Nat.reduceLeDiff, Nat.reduceSub]
  simp (maxSteps := 2000000) (disch := (first | omega | (simp only [List.length_append, List.length_take, List.length_replicate, List.length_map, List.length_set, List.length_cons, List.length_nil, List.length_zipWith, List.length_drop, List.length_range]; first | done | omega))) only [go_sem, Nat.reduceAdd, Nat.reduceEqDiff, Nat.reduceLeDiff, Nat.reduceSub, h]
theorem laws_FnExactFuseTrans_ok (f : Fl) (hl : f.net.tr.length < 2^63) (ht : ∀ t ∈ f.net.tr, t.inn.length < 2^63 ∧ t.out.length < 2^63 ∧ t.rst.length < 2^63) : C f_laws_FnExactFuseTrans [encF f] [] = some (.bool true, []) := by
  have hsz := laws_szFlow_ok f 1048576 (by omega) (by omega) hl ht
  refine C_laws_FnExactFuseTrans ?_
  simp (maxSteps := 2000000) (disch := (first | omega | (simp only [List.length_append, List.length_take, List.length_replicate, List.length_map, List.length_set, List.length_cons, List.length_nil, List.length_zipWith, List.length_drop, List.length_range]; first | done | omega))) only [ir_laws_FnExactFuseTrans, go_sem, Nat.reduceAdd, Nat.reduceEqDiff, Nat.reduceLeDiff, Nat.reduceSub]
  simp (maxSteps := 2000000) (disch := (first | omega | (simp only [List.length_append, List.length_take, List.length_replicate, List.length_map, List.length_set, List.length_cons, List.length_nil, List.length_zipWith, List.length_drop, List.length_range]; first | done | omega))) only [go_sem, Nat.reduceAdd, Nat.reduceEqDiff, Nat.reduceLeDiff, Nat.reduceSub, hsz]
  refine fun h => ?_
  have hs := szNt_smN h (by omega)
  have hsm := szNt_small h (by omega)
  have hto := laws_toFlow_ok f (by omega) (fun t h => by have := hsm.2 t h; omega)
  have hb : ∀ t ∈ f.net.tr, mtLen t ≤ 2^30 := fun t h => by have := hsm.2 t h; unfold mtLen; omega
  have hmk := laws_markFlow_ok f.net.pl f.src f.dst f.net.tr t_impl_Trans 1 (by omega) hb (by omega) (by omega)
  have hmn := mtN_le hb f.net.tr.length (by omega)
  have hmn2 : f.net.tr.length * 2^30 ≤ 1048576 * 2^30 := Nat.mul_le_mul_right _ (by omega)
  have h1 := spec_FuseTrans_ok f hs
  have h2 := impl_FuseTrans_ok f hs
  have heq := laws_eqFlow_ok f f hs hs
  rw [decide_eq_true ⟨rfl, rfl, rfl⟩] at heq
  unfold encF at heq
  have hV : ∀ g, fuseTV f = some g → smN g.net ∧ g.net.tr.length ≤ 24 ∧ ∀ t ∈ g.net.tr, mtLen t ≤ 2^30 := by
    intro g hg
    obtain ⟨hL, hlen⟩ := fuseTV_small hg
    exact ⟨⟨by omega, fun t ht => by have := hlen t ht; exact ⟨by omega, by omega, by omega⟩⟩, hL, fun t ht => by have := hlen t ht; unfold mtLen; omega⟩
  generalize mtP 1 f.net.tr f.net.tr.length = P at *
  cases hg : fuseTV f with
  | none =>
    rw [hg] at h1 h2
    have h3 : C f_laws_eqFlow [.agg [I 0, .sl false 3 [], I 0, I 0], .agg [I 0, .sl false 3 [], I 0, I 0]] [] = some (.bool true, []) := by
      have := laws_eqFlow_ok ⟨⟨0, []⟩, 0, 0⟩ ⟨⟨0, []⟩, 0, 0⟩ ⟨by simp, by simp⟩ ⟨by simp, by simp⟩
      rw [decide_eq_true ⟨rfl, rfl, rfl⟩] at this
      exact this
    have h4 := laws_markFlow_nil 0 0 0 1
    have h5 : C f_laws_heldFlow [.agg [I 0, .sl false 3 [], I 0, I 0], I 1] [] = some (I 1, []) := laws_heldFlow_ok 0 0 0 [] 1 (by simp) (by simp) (by omega) (by omega)
    simp only [Option.isSome_none] at h1 h2
    simp (maxSteps := 2000000) (disch := (first | omega | (simp only [List.length_append, List.length_take, List.length_replicate, List.length_map, List.length_set, List.length_cons, List.length_nil, List.length_zipWith, List.length_drop, List.length_range]; first | done | omega))) only [go_sem, Nat.reduceAdd, Nat.reduceEqDiff, Nat.reduceLeDiff, Nat.reduceSub, hto, h1, h2, heq, hmk, h3, h4, h5]
  | some g =>
    rw [hg] at h1 h2
    obtain ⟨hgs, hgl, hgb⟩ := hV g hg
    have h3 := laws_eqFlow_ok g g hgs hgs
    rw [decide_eq_true ⟨rfl, rfl, rfl⟩] at h3
    unfold encF at h3
    have h4 := laws_markFlow_ok g.net.pl g.src g.dst g.net.tr t_impl_Trans 1 (by omega) hgb (by omega) (by omega)
    have h5 := laws_heldFlow_ok g.net.pl g.src g.dst g.net.tr 1 (by omega) hgb (by omega) (by omega)
    have h6 := mtP_len 1 g.net.tr g.net.tr.length
    have h7 := mtN_le hgb g.net.tr.length (by omega)
    simp only [Option.isSome_some] at h1 h2
    generalize mtP 1 g.net.tr g.net.tr.length = M at *
    simp (maxSteps := 2000000) (disch := (first | omega | (simp only [List.length_append, List.length_take, List.length_replicate, List.length_map, List.length_set, List.length_cons, List.length_nil, List.length_zipWith, List.length_drop, List.length_range]; first | done | omega))) only [go_sem, Nat.reduceAdd, Nat.reduceEqDiff, Nat.reduceLeDiff, Nat.reduceSub, hto, h1, h2, heq, hmk, h3, h4, h5, h6]
end Go.Proofs.Ytkkifebmicbbaaa.Pi
