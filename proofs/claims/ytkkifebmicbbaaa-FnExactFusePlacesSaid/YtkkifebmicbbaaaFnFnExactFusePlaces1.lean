/- The functions that the law reaches: what they answer. Conditions: those that each theorem names. -/
import Derived.Test.YtkkifebmicbbaaaIrFnExactFusePlaces
import Derived.Test.YtkkifebmicbbaaaPlBase
import Derived.Test.YtkkifebmicbbaaaPlNet
import Derived.Test.YtkkifebmicbbaaaPlFire
import Derived.Test.YtkkifebmicbbaaaPlTurn
import Derived.Test.YtkkifebmicbbaaaPlBack
import Derived.Test.YtkkifebmicbbaaaPlFlow
import Derived.Test.YtkkifebmicbbaaaPlMask
import Derived.Test.YtkkifebmicbbaaaPlSpec
import Derived.Test.YtkkifebmicbbaaaPlArg
import Derived.Test.YtkkifebmicbbaaaPlDrop
import Derived.Test.YtkkifebmicbbaaaPlFuse
import Derived.Test.YtkkifebmicbbaaaPlFus
import Derived.Test.YtkkifebmicbbaaaPlSiph
import Derived.Test.YtkkifebmicbbaaaFnFnExactFusePlaces0
namespace Go.Proofs.Ytkkifebmicbbaaa.Pi
open Go
set_option linter.all false
set_option maxHeartbeats 40000000
set_option maxRecDepth 20000
theorem impl_fusePlaces_ok (f : Fl) (hg : goodFl f = true) (hr : hasR f.net = false) : C f_impl_fusePlaces [encF f] [] = some (.tup [match resFP f with | some i => .agg [I (f.net.pl - 1), .unn t_impl_Trans 3 (((fusedP f i).map (dropT (at_ (trN f.net i).inn 0))).map encT), I (lessP (at_ (trN f.net i).inn 0) f.src), I (lessP (at_ (trN f.net i).inn 0) f.dst)] | none => .agg [I 0, .nil false 3, I 0, I 0], .bool (resFP f).isSome], []) := by
  obtain ⟨hgn, hs, hd, -, hsp, -, -⟩ := goodFl_parts hg
  obtain ⟨hp1, hp2, hn, hT⟩ := goodN_parts hgn
  have hsm := smF_of hg hr
  have hlens : ∀ u ∈ f.net.tr, u.inn.length ≤ 16 ∧ u.out.length ≤ 16 := fun u hu => by have := goodT_lens (hT u hu) ⟨by omega, hp2⟩; omega
  have hk2 : ∀ p : Int, (idxL (fun t => hasB t.inn p) f.net).length ≤ 24 := fun p => Nat.le_trans (idxK_len _ _ _) hn
  refine C_impl_fusePlaces ?_
  simp (maxSteps := 2000000) (disch := (first | omega | (simp only [List.length_append, List.length_take, List.length_replicate, List.length_map, List.length_set, List.length_cons, List.length_nil, List.length_zipWith, List.length_drop, List.length_range]; first | done | omega))) only [ir_impl_fusePlaces, go_sem, Nat.reduceAdd, Nat.reduceEqDiff, Nat.reduceLeDiff, Nat.reduceSub]
  refine W_for f.net.tr.length (fun k st => st = ⟨[.any, .ptr 0 0, .ptr 1 0, .any, .any, .any, .any, .any, .any, .any, .any, .any, trs f.net.tr, I f.net.tr.length, I k, .any, .any, .any, .any, .any, .any, .any, .any], [.box t_impl_Flow [I f.net.pl, trs f.net.tr, I f.src, I f.dst], .box t_impl_Flow [I 0, .nil false 3, I 0, I 0]]⟩ ∧ ∀ j, j < k → okFP f j = false) ?_ ?_ ?_
  · simp (maxSteps := 2000000) (disch := (first | omega | (simp only [List.length_append, List.length_take, List.length_replicate, List.length_map, List.length_set, List.length_cons, List.length_nil, List.length_zipWith, List.length_drop, List.length_range]; first | done | omega))) only [go_sem, Nat.reduceAdd, Nat.reduceEqDiff, Nat.reduceLeDiff, Nat.reduceSub]
    exact ⟨rfl, fun q' h => by omega⟩
  · rintro k st hk ⟨rfl, hall⟩
    have next : okFP f k = false → ∀ j, j < k + 1 → okFP f j = false := by
      intro h j hj
      rcases Nat.lt_or_ge j k with h5 | h5
      · exact hall j h5
      · rw [show j = k by omega]; exact h
    have ekl : f.net.tr[k]? = some f.net.tr[k] := List.getElem?_eq_getElem hk
    have lA := hlens _ (List.getElem_mem hk)
    have pAi := (goodT_places (hT _ (List.getElem_mem hk))).1
    have pAo := (goodT_places (hT _ (List.getElem_mem hk))).2.1
    have x1 := okFP_inn (f := f) (k := k)
    have x2 := okFP_out (f := f) (k := k)
    have x3 := fun p q => okFP_eq (f := f) (k := k) (p := p) (q := q)
    have x4 := fun p q => fusedP_eq (f := f) (k := k) (p := p) (q := q)
    have hE : encT f.net.tr[k] = .agg [ints f.net.tr[k].inn, ints f.net.tr[k].out, ints f.net.tr[k].rst] := rfl
    rw [trN_eq hk] at x1 x2 x3 x4
    have hspo : spoils f f.net.tr[k] = false := hsp _ (List.getElem_mem hk)
    have hone : f.net.tr.length = 1 → ∀ p, f.net.tr[k].inn = [p] → p = f.src := by
      intro h1 p hp
      have hk0 : k = 0 := by omega
      subst hk0
      exact goodFl_one hg h1 (by rw [trN_eq hk]; exact hp)
    have hat : trN f.net k = f.net.tr[k] := trN_eq hk
    generalize f.net.tr[k] = u at *
    by_cases c1 : u.inn.length = 1
    case neg =>
      simp (maxSteps := 2000000) (disch := (first | omega | (simp only [List.length_append, List.length_take, List.length_replicate, List.length_map, List.length_set, List.length_cons, List.length_nil, List.length_zipWith, List.length_drop, List.length_range]; first | done | omega))) only [go_sem, Nat.reduceAdd, Nat.reduceEqDiff, Nat.reduceLeDiff, Nat.reduceSub, ekl, hE]
      exact ⟨rfl, next (x1 c1)⟩
    by_cases c2 : u.out.length = 1
    case neg =>
      simp (maxSteps := 2000000) (disch := (first | omega | (simp only [List.length_append, List.length_take, List.length_replicate, List.length_map, List.length_set, List.length_cons, List.length_nil, List.length_zipWith, List.length_drop, List.length_range]; first | done | omega))) only [go_sem, Nat.reduceAdd, Nat.reduceEqDiff, Nat.reduceLeDiff, Nat.reduceSub, ekl, hE, c1]
      exact ⟨rfl, next (x2 c2)⟩
    obtain ⟨p, hp⟩ := List.length_eq_one_iff.1 c1
    obtain ⟨q, hq⟩ := List.length_eq_one_iff.1 c2
    have y3 := x3 p q hp hq
    have y4 := x4 p q hp hq
    have pp : 0 ≤ p ∧ p < f.net.pl := pAi p (by rw [hp]; simp)
    have pq : 0 ≤ q ∧ q < f.net.pl := pAo q (by rw [hq]; simp)
    have hE2 : encT u = .agg [.sl true 1 [I p], .sl true 1 [I q], ints u.rst] := by rw [hE, hp, hq]; rfl
    have hcf := slices_ContainsFunc_sl_impl_Trans_impl_Trans_ok f.net.tr f_impl_fusePlaces_1 [.pv (.agg [I p]) 0, .pv (.agg [I q]) 0] rfl (fun _ _ => rfl) (fun t => hasB t.out p && hasB t.out q) (fun x hx => impl_fusePlaces_1_ok x p q (by have := hlens x hx; omega)) (by omega)
    have t1 := impl_withTrans_f f.net p hgn
    unfold takI at t1
    have w1 := hk2 p
    by_cases c3 : p = f.src
    case pos =>
      have nx := next (by rw [y3]; simp [c3])
      clear y3 hspo
      subst c3
      generalize (f.net.tr.any fun u => hasB u.out f.src && hasB u.out q) = b at hcf
      cases b
      all_goals
        simp (maxSteps := 2000000) (disch := (first | omega | (simp only [List.length_append, List.length_take, List.length_replicate, List.length_map, List.length_set, List.length_cons, List.length_nil, List.length_zipWith, List.length_drop, List.length_range]; first | done | omega))) only [go_sem, Nat.reduceAdd, Nat.reduceEqDiff, Nat.reduceLeDiff, Nat.reduceSub, ekl, hE2, Int.toNat_zero, List.getElem_cons_zero, hcf]
        exact ⟨rfl, nx⟩
    by_cases c4 : p = q
    case pos =>
      have nx := next (by rw [y3]; simp [c4])
      clear y3
      subst c4
      generalize (f.net.tr.any fun u => hasB u.out p && hasB u.out p) = b at hcf
      cases b
      all_goals
        simp (maxSteps := 2000000) (disch := (first | omega | (simp only [List.length_append, List.length_take, List.length_replicate, List.length_map, List.length_set, List.length_cons, List.length_nil, List.length_zipWith, List.length_drop, List.length_range]; first | done | omega))) only [go_sem, Nat.reduceAdd, Nat.reduceEqDiff, Nat.reduceLeDiff, Nat.reduceSub, ekl, hE2, Int.toNat_zero, List.getElem_cons_zero, hcf, c3]
        exact ⟨rfl, nx⟩
    by_cases c5 : (idxL (fun t => hasB t.inn p) f.net).length = 1
    case neg =>
      have nx := next (by rw [y3]; unfold takI; simp [c5])
      generalize idxL (fun t => hasB t.inn p) f.net = G at *
      clear y3
      generalize (f.net.tr.any fun u => hasB u.out p && hasB u.out q) = b at hcf
      cases b
      all_goals
        simp (maxSteps := 2000000) (disch := (first | omega | (simp only [List.length_append, List.length_take, List.length_replicate, List.length_map, List.length_set, List.length_cons, List.length_nil, List.length_zipWith, List.length_drop, List.length_range]; first | done | omega))) only [go_sem, Nat.reduceAdd, Nat.reduceEqDiff, Nat.reduceLeDiff, Nat.reduceSub, ekl, hE2, Int.toNat_zero, List.getElem_cons_zero, hcf, c3, c4, t1]
        exact ⟨rfl, nx⟩
    cases c6 : (f.net.tr.any fun u => hasB u.out p && hasB u.out q) with
    | true =>
      rw [c6] at hcf
      simp (maxSteps := 2000000) (disch := (first | omega | (simp only [List.length_append, List.length_take, List.length_replicate, List.length_map, List.length_set, List.length_cons, List.length_nil, List.length_zipWith, List.length_drop, List.length_range]; first | done | omega))) only [go_sem, Nat.reduceAdd, Nat.reduceEqDiff, Nat.reduceLeDiff, Nat.reduceSub, ekl, hE2, Int.toNat_zero, List.getElem_cons_zero, hcf, c3, c4, t1, c5]
      exact ⟨rfl, next (by rw [y3, c6]; simp)⟩
    | false =>
      rw [c6] at hcf
      have hok : okFP f k = true := by rw [y3, c6]; unfold takI; simp [c3, c4, c5]
      have hres : resFP f = some k := fnd_some hk hall hok
      have h2 : 2 ≤ f.net.tr.length := by
        apply Decidable.byContradiction
        intro h
        exact c3 (hone (by omega) p hp)
      have hwt := impl_withoutTrans_ok f k hgn hk h2
      unfold encF trs at hwt
      have hEl : (f.net.tr.eraseIdx k).length = f.net.tr.length - 1 := List.length_eraseIdx_of_lt hk
      have hEm : ∀ t ∈ f.net.tr.eraseIdx k, t ∈ f.net.tr := fun t ht => List.mem_of_mem_eraseIdx ht
      rw [hres]
      generalize hEE : f.net.tr.eraseIdx k = E at *
      simp (maxSteps := 2000000) (disch := (first | omega | (simp only [List.length_append, List.length_take, List.length_replicate, List.length_map, List.length_set, List.length_cons, List.length_nil, List.length_zipWith, List.length_drop, List.length_range]; first | done | omega))) only [go_sem, Nat.reduceAdd, Nat.reduceEqDiff, Nat.reduceLeDiff, Nat.reduceSub, ekl, hE2, Int.toNat_zero, List.getElem_cons_zero, hcf, c3, c4, t1, c5, hwt]
      refine W_for E.length (fun j st => st = ⟨[.any, .any, .ptr 0 0, .any, .any, .any, .ptr 1 0, .ptr 2 0, .any, .ptr 3 0, .any, .any, .any, .any, .any, .any, .any, .any, .ref 4 3 0 E.length, I E.length, I j, .any, .any], [.box t_impl_Flow [I 0, .nil false 3, I 0, I 0], .box t_int [I p], .box t_int [I q], .box t_impl_Flow [I f.net.pl, .ref 4 3 0 E.length, I f.src, I f.dst], .row t_impl_Trans false 3 ((mapK (replO p q) E j).map encT)]⟩) ?_ ?_ ?_
      · simp (maxSteps := 2000000) (disch := (first | omega | (simp only [List.length_append, List.length_take, List.length_replicate, List.length_map, List.length_set, List.length_cons, List.length_nil, List.length_zipWith, List.length_drop, List.length_range]; first | done | omega))) only [go_sem, Nat.reduceAdd, Nat.reduceEqDiff, Nat.reduceLeDiff, Nat.reduceSub]
        rw [mapK_zero]
        rfl
      · rintro j st hj rfl
        have e1 := mapK_len (replO p q) E j
        have e2 := mapK_get (g := replO p q) hj
        have hmj := hEm _ (List.getElem_mem hj)
        have lB := hlens _ hmj
        have pB := (goodT_places (hT _ hmj)).2.1
        have iB := (goodT_parts (hT _ hmj)).2.2.1
        have hh := slices_Contains_sl_int_int_ok E[j].out p (by omega)
        have m1 := impl_maskOf_ok E[j].out (fun x hx => by have := pB x hx; omega) (by omega)
        have hmx := mixO_mask (a := E[j].out) (b := [q]) (p := p) (fun x hx => by have := pB x hx; omega) (fun x hx => by simp at hx; omega) (by omega)
        rw [maskN_one] at hmx
        have hst := impl_setOf_ok (mixO E[j].out [q] p) (fun x hx => (mixO_mem hx).elim (fun h => by have := pB x h; omega) (fun h => by simp at h; omega)) (mixO_incr (places_incr iB)) (by have hx := mixO_len E[j].out [q] p; have la := lB.2; simp only [List.length_cons, List.length_nil] at hx; clear hmx; omega)
        have n1 : maskN E[j].out < 2 ^ 62 := maskN_lt (fun x hx => by have := pB x hx; omega)
        have n2 : 2 ^ q.toNat < 2 ^ 62 := Nat.pow_lt_pow_right (by decide) (by omega)
        have n3 : 2 ^ p.toNat < 2 ^ 62 := Nat.pow_lt_pow_right (by decide) (by omega)
        have h4 : (1 : Int) * 2 ^ min p.toNat 64 = ((2 ^ p.toNat : Nat) : Int) := by rw [show min p.toNat 64 = p.toNat by omega]; simp
        have h5 : IntKind.i64.wrap ((2 ^ p.toNat : Nat) : Int) = ((2 ^ p.toNat : Nat) : Int) := wraps_i62 _ (Int.natCast_nonneg _) (by exact_mod_cast n3)
        have h4q : (1 : Int) * 2 ^ min q.toNat 64 = ((2 ^ q.toNat : Nat) : Int) := by rw [show min q.toNat 64 = q.toNat by omega]; simp
        have h5q : IntKind.i64.wrap ((2 ^ q.toNat : Nat) : Int) = ((2 ^ q.toNat : Nat) : Int) := wraps_i62 _ (Int.natCast_nonneg _) (by exact_mod_cast n2)
        have h6 := andNot_i64 n1 n3
        have n4 : maskN E[j].out &&& (2 ^ 64 - (2 ^ p.toNat + 1)) < 2 ^ 62 := Nat.lt_of_le_of_lt Nat.and_le_left n1
        have h7 := or_i64 n4 n2
        rw [← hmx] at h7
        cases hb : hasB E[j].out p with
        | false =>
          rw [mapK_same hj (by unfold replO; rw [hb]; rfl)]
          generalize mapK (replO p q) E j = M at *
          simp (maxSteps := 2000000) (disch := (first | omega | (simp only [List.length_append, List.length_take, List.length_replicate, List.length_map, List.length_set, List.length_cons, List.length_nil, List.length_zipWith, List.length_drop, List.length_range]; first | done | omega))) only [go_sem, Nat.reduceAdd, Nat.reduceEqDiff, Nat.reduceLeDiff, Nat.reduceSub, e2, hh, hb]
          first | done | rfl
        | true =>
          rw [mapK_set hj, show replO p q E[j] = ⟨E[j].inn, mixO E[j].out [q] p, E[j].rst⟩ by unfold replO; rw [if_pos hb], List.map_set]
          have hml := mixO_len E[j].out [q] p
          simp only [List.length_cons, List.length_nil] at hml
          generalize mapK (replO p q) E j = M at *
          generalize mixO E[j].out [q] p = L at *
          clear hmx
          simp (maxSteps := 2000000) (disch := (first | omega | (simp only [List.length_append, List.length_take, List.length_replicate, List.length_map, List.length_set, List.length_cons, List.length_nil, List.length_zipWith, List.length_drop, List.length_range]; first | done | omega))) only [go_sem, Nat.reduceAdd, Nat.reduceEqDiff, Nat.reduceLeDiff, Nat.reduceSub, e2, hh, hb, m1, h4, h5, h4q, h5q, h6, h7, hst]
          rfl
      · rintro st rfl
        have hlv := impl_withoutPlace_gen ⟨⟨f.net.pl, (f.net.tr.map (replO p q)).eraseIdx k⟩, f.src, f.dst⟩ p (smF_erase (smF_repl hsm hlens pq)) pp
        rw [map_erase, hEE] at hlv y4
        have hne : ((E.map (replO p q)).map (dropT p)) ≠ [] := by
          intro e
          have := congrArg List.length e
          rw [List.length_map, List.length_map, List.length_nil] at this
          omega
        rw [resN_ne hne] at hlv
        rw [mapK_all]
        unfold encF trs at hlv
        simp (maxSteps := 2000000) (disch := (first | omega | (simp only [List.length_append, List.length_take, List.length_replicate, List.length_map, List.length_set, List.length_cons, List.length_nil, List.length_zipWith, List.length_drop, List.length_range]; first | done | omega))) only [go_sem, Nat.reduceAdd, Nat.reduceEqDiff, Nat.reduceLeDiff, Nat.reduceSub, hlv]
        rw [y4, hat, hp]
        first | done | rfl
  · rintro st ⟨rfl, hall⟩
    have hres : resFP f = none := fnd_none (fun q h => hall q (by omega))
    rw [hres]
    simp (maxSteps := 2000000) (disch := (first | omega | (simp only [List.length_append, List.length_take, List.length_replicate, List.length_map, List.length_set, List.length_cons, List.length_nil, List.length_zipWith, List.length_drop, List.length_range]; first | done | omega))) only [go_sem, Nat.reduceAdd, Nat.reduceEqDiff, Nat.reduceLeDiff, Nat.reduceSub]
    rfl
theorem impl_FusePlaces_ok (f : Fl) (hn : smN f.net) : C f_impl_FusePlaces [encF f] [] = some (.tup [match fusePV f with | some g => .agg [I g.net.pl, .unn t_impl_Trans 3 (g.net.tr.map encT), I g.src, I g.dst] | none => .agg [I 0, .nil false 3, I 0, I 0], .bool (fusePV f).isSome], []) := by
  have hA := impl_isReducible_ok f hn
  unfold encF at hA
  refine C_impl_FusePlaces ?_
  simp (maxSteps := 2000000) (disch := (first | omega | (simp only [List.length_append, List.length_take, List.length_replicate, List.length_map, List.length_set, List.length_cons, List.length_nil, List.length_zipWith, List.length_drop, List.length_range]; first | done | omega))) only [ir_impl_FusePlaces, go_sem, Nat.reduceAdd, Nat.reduceEqDiff, Nat.reduceLeDiff, Nat.reduceSub]
  cases ho : okRed f with
  | false =>
    simp (maxSteps := 2000000) (disch := (first | omega | (simp only [List.length_append, List.length_take, List.length_replicate, List.length_map, List.length_set, List.length_cons, List.length_nil, List.length_zipWith, List.length_drop, List.length_range]; first | done | omega))) only [go_sem, Nat.reduceAdd, Nat.reduceEqDiff, Nat.reduceLeDiff, Nat.reduceSub, hA, ho]
    simp [fusePV, ho]
  | true =>
    have ho' := ho
    simp only [okRed, Bool.and_eq_true, Bool.not_eq_true'] at ho'
    have hD := impl_fusePlaces_ok f ho'.1 ho'.2
    unfold encF at hD
    have e : fusePV f = (resFP f).map fun (i : Nat) => leaveF f (fusedP f i) (at_ (trN f.net i).inn 0) := by simp [fusePV, ho]
    rw [e]
    cases hq : resFP f with
    | none =>
      rw [hq] at hD
      simp only [Option.isSome_none] at hD
      simp (maxSteps := 2000000) (disch := (first | omega | (simp only [List.length_append, List.length_take, List.length_replicate, List.length_map, List.length_set, List.length_cons, List.length_nil, List.length_zipWith, List.length_drop, List.length_range]; first | done | omega))) only [go_sem, Nat.reduceAdd, Nat.reduceEqDiff, Nat.reduceLeDiff, Nat.reduceSub, hA, ho, hD]
      rfl
    | some q =>
      rw [hq] at hD
      simp only [Option.isSome_some] at hD
      simp (maxSteps := 2000000) (disch := (first | omega | (simp only [List.length_append, List.length_take, List.length_replicate, List.length_map, List.length_set, List.length_cons, List.length_nil, List.length_zipWith, List.length_drop, List.length_range]; first | done | omega))) only [go_sem, Nat.reduceAdd, Nat.reduceEqDiff, Nat.reduceLeDiff, Nat.reduceSub, hA, ho, hD]
      rfl
theorem laws_eqIntS_ok (a b : List Int) (ha : a.length < 2^62) (hb : b.length < 2^62) : C f_laws_eqIntS [ints a, ints b] [] = some (.bool (decide (a = b)), []) := by
  refine C_laws_eqIntS ?_
  simp (maxSteps := 2000000) (disch := (first | omega | (simp only [List.length_append, List.length_take, List.length_replicate, List.length_map, List.length_set, List.length_cons, List.length_nil, List.length_zipWith, List.length_drop, List.length_range]; first | done | omega))) only [ir_laws_eqIntS, go_sem, Nat.reduceAdd, Nat.reduceEqDiff, Nat.reduceLeDiff, Nat.reduceSub]
  refine ⟨fun h => ?_, fun h => ?_⟩
  · rw [decide_eq_false]
    rintro rfl
    omega
  have hl : a.length = b.length := by omega
  refine W_for a.length (fun k s => s = ⟨[ints a, ints b, .any, I k, .any, .any, .any], []⟩ ∧ a.take k = b.take k) ?_ ?_ ?_
  · simp (maxSteps := 2000000) (disch := (first | omega | (simp only [List.length_append, List.length_take, List.length_replicate, List.length_map, List.length_set, List.length_cons, List.length_nil, List.length_zipWith, List.length_drop, List.length_range]; first | done | omega))) only [go_sem, Nat.reduceAdd, Nat.reduceEqDiff, Nat.reduceLeDiff, Nat.reduceSub]
    rfl
  · rintro k s hk ⟨rfl, he⟩
    simp (maxSteps := 2000000) (disch := (first | omega | (simp only [List.length_append, List.length_take, List.length_replicate, List.length_map, List.length_set, List.length_cons, List.length_nil, List.length_zipWith, List.length_drop, List.length_range]; first | done | omega))) only [go_sem, Nat.reduceAdd, Nat.reduceEqDiff, Nat.reduceLeDiff, Nat.reduceSub]
    refine ⟨fun h => ?_, fun h => ⟨rfl, dec_take hk (by omega) he h⟩⟩
    rw [dec_ne hk (by omega) h]
  · rintro s ⟨rfl, he⟩
    simp (maxSteps := 2000000) (disch := (first | omega | (simp only [List.length_append, List.length_take, List.length_replicate, List.length_map, List.length_set, List.length_cons, List.length_nil, List.length_zipWith, List.length_drop, List.length_range]; first | done | omega))) only [go_sem, Nat.reduceAdd, Nat.reduceEqDiff, Nat.reduceLeDiff, Nat.reduceSub]
    rw [List.take_length, take_all (by omega)] at he
    simp [he]
theorem laws_eqTrans_ok (a b : Tr) (ha : smT a) (hb : smT b) : C f_laws_eqTrans [encT a, encT b] [] = some (.bool (decide (a = b)), []) := by
  obtain ⟨a1, a2, a3⟩ := ha
  obtain ⟨b1, b2, b3⟩ := hb
  have e : (a = b) ↔ a.inn = b.inn ∧ a.out = b.out ∧ a.rst = b.rst := by
    cases a; cases b; simp
  simp only [e]
  refine C_laws_eqTrans ?_
  simp (maxSteps := 2000000) (disch := (first | omega | (simp only [List.length_append, List.length_take, List.length_replicate, List.length_map, List.length_set, List.length_cons, List.length_nil, List.length_zipWith, List.length_drop, List.length_range]; first | done | omega))) only [ir_laws_eqTrans, go_sem, Nat.reduceAdd, Nat.reduceEqDiff, Nat.reduceLeDiff, Nat.reduceSub]
  simp (maxSteps := 2000000) (disch := (first | omega | (simp only [List.length_append, List.length_take, List.length_replicate, List.length_map, List.length_set, List.length_cons, List.length_nil, List.length_zipWith, List.length_drop, List.length_range]; first | done | omega))) only [go_sem, Nat.reduceAdd, Nat.reduceEqDiff, Nat.reduceLeDiff, Nat.reduceSub, laws_eqIntS_ok]
  grind
theorem laws_eqTransS_ok (a b : List Tr) (ha : a.length < 2^62) (hb : b.length < 2^62) (ha2 : ∀ t ∈ a, smT t) (hb2 : ∀ t ∈ b, smT t) : C f_laws_eqTransS [trs a, trs b] [] = some (.bool (decide (a = b)), []) := by
  refine C_laws_eqTransS ?_
  simp (maxSteps := 2000000) (disch := (first | omega | (simp only [List.length_append, List.length_take, List.length_replicate, List.length_map, List.length_set, List.length_cons, List.length_nil, List.length_zipWith, List.length_drop, List.length_range]; first | done | omega))) only [ir_laws_eqTransS, go_sem, Nat.reduceAdd, Nat.reduceEqDiff, Nat.reduceLeDiff, Nat.reduceSub]
  refine ⟨fun h => ?_, fun h => ?_⟩
  · rw [decide_eq_false]
    rintro rfl
    omega
  have hl : a.length = b.length := by omega
  refine W_for a.length (fun k s => s = ⟨[trs a, trs b, .any, I k, .any, .any, .any], []⟩ ∧ a.take k = b.take k) ?_ ?_ ?_
  · simp (maxSteps := 2000000) (disch := (first | omega | (simp only [List.length_append, List.length_take, List.length_replicate, List.length_map, List.length_set, List.length_cons, List.length_nil, List.length_zipWith, List.length_drop, List.length_range]; first | done | omega))) only [go_sem, Nat.reduceAdd, Nat.reduceEqDiff, Nat.reduceLeDiff, Nat.reduceSub]
    rfl
  · rintro k s hk ⟨rfl, he⟩
    have hk2 : k < b.length := by omega
    simp (maxSteps := 2000000) (disch := (first | omega | (simp only [List.length_append, List.length_take, List.length_replicate, List.length_map, List.length_set, List.length_cons, List.length_nil, List.length_zipWith, List.length_drop, List.length_range]; first | done | omega))) only [go_sem, Nat.reduceAdd, Nat.reduceEqDiff, Nat.reduceLeDiff, Nat.reduceSub, laws_eqTrans_ok _ _ (ha2 _ (List.getElem_mem hk)) (hb2 _ (List.getElem_mem hk2))]
    refine ⟨fun h => ⟨rfl, dec_take hk (by omega) he h⟩, fun h => ?_⟩
    rw [dec_ne hk (by omega) h]
  · rintro s ⟨rfl, he⟩
    simp (maxSteps := 2000000) (disch := (first | omega | (simp only [List.length_append, List.length_take, List.length_replicate, List.length_map, List.length_set, List.length_cons, List.length_nil, List.length_zipWith, List.length_drop, List.length_range]; first | done | omega))) only [go_sem, Nat.reduceAdd, Nat.reduceEqDiff, Nat.reduceLeDiff, Nat.reduceSub]
    rw [List.take_length, take_all (by omega)] at he
    simp [he]
theorem laws_eqNet_ok (a b : Net) (ha : smN a) (hb : smN b) : C f_laws_eqNet [encN a, encN b] [] = some (.bool (decide (a = b)), []) := by
  obtain ⟨a1, a2⟩ := ha
  obtain ⟨b1, b2⟩ := hb
  have e : (a = b) ↔ a.pl = b.pl ∧ a.tr = b.tr := by
    cases a; cases b; simp
  simp only [e]
  refine C_laws_eqNet ?_
  simp (maxSteps := 2000000) (disch := (first | omega | (simp only [List.length_append, List.length_take, List.length_replicate, List.length_map, List.length_set, List.length_cons, List.length_nil, List.length_zipWith, List.length_drop, List.length_range]; first | done | omega))) only [ir_laws_eqNet, go_sem, Nat.reduceAdd, Nat.reduceEqDiff, Nat.reduceLeDiff, Nat.reduceSub]
  refine ⟨fun h => by simp [h], fun h1 => ?_⟩
  simp (maxSteps := 2000000) (disch := (first | omega | (simp only [List.length_append, List.length_take, List.length_replicate, List.length_map, List.length_set, List.length_cons, List.length_nil, List.length_zipWith, List.length_drop, List.length_range]; first | done | omega))) only [go_sem, Nat.reduceAdd, Nat.reduceEqDiff, Nat.reduceLeDiff, Nat.reduceSub, laws_eqTransS_ok a.tr b.tr (by omega) (by omega) a2 b2]
  grind
theorem laws_eqFlow_ok (a b : Fl) (ha : smN a.net) (hb : smN b.net) : C f_laws_eqFlow [encF a, encF b] [] = some (.bool (decide (a.net = b.net ∧ a.src = b.src ∧ a.dst = b.dst)), []) := by
  refine C_laws_eqFlow ?_
  simp (maxSteps := 2000000) (disch := (first | omega | (simp only [List.length_append, List.length_take, List.length_replicate, List.length_map, List.length_set, List.length_cons, List.length_nil, List.length_zipWith, List.length_drop, List.length_range]; first | done | omega))) only [ir_laws_eqFlow, go_sem, Nat.reduceAdd, Nat.reduceEqDiff, Nat.reduceLeDiff, Nat.reduceSub]
  simp (maxSteps := 2000000) (disch := (first | omega | (simp only [List.length_append, List.length_take, List.length_replicate, List.length_map, List.length_set, List.length_cons, List.length_nil, List.length_zipWith, List.length_drop, List.length_range]; first | done | omega))) only [go_sem, Nat.reduceAdd, Nat.reduceEqDiff, Nat.reduceLeDiff, Nat.reduceSub, laws_eqNet_ok a.net b.net ha hb]
  grind
theorem laws_markIntS_ok (l : List Int) (k : Int) (t : TypeId) (hl : l.length ≤ 2^36) (h0 : 0 ≤ k) (h1 : k < 2^61) : C f_laws_markIntS [.ref 0 1 0 l.length, I k] [.row t true 1 (l.map I)] = some (I (k + l.length), [.row t true 1 ((markL k l.length).map I)]) := by
  refine C_laws_markIntS ?_
  simp (maxSteps := 2000000) (disch := (first | omega | (simp only [List.length_append, List.length_take, List.length_replicate, List.length_map, List.length_set, List.length_cons, List.length_nil, List.length_zipWith, List.length_drop, List.length_range]; first | done | omega))) only [ir_laws_markIntS, go_sem, Nat.reduceAdd, Nat.reduceEqDiff, Nat.reduceLeDiff, Nat.reduceSub]
  refine W_for l.length (fun i s => s = ⟨[.ref 0 1 0 l.length, I (k + i), .any, I i, .any], [.row t true 1 ((markP k l i).map I)]⟩) ?_ ?_ ?_
  · simp (maxSteps := 2000000) (disch := (first | omega | (simp only [List.length_append, List.length_take, List.length_replicate, List.length_map, List.length_set, List.length_cons, List.length_nil, List.length_zipWith, List.length_drop, List.length_range]; first | done | omega))) only [go_sem, Nat.reduceAdd, Nat.reduceEqDiff, Nat.reduceLeDiff, Nat.reduceSub]
    rw [markP_zero]
    simp
  · rintro i s hi rfl
    have h2 := markP_len (k := k) (l := l) (i := i) (by omega)
    have h3 := markP_step (k := k) hi
    simp (maxSteps := 2000000) (disch := (first | omega | (simp only [List.length_append, List.length_take, List.length_replicate, List.length_map, List.length_set, List.length_cons, List.length_nil, List.length_zipWith, List.length_drop, List.length_range]; first | done | omega))) only [go_sem, Nat.reduceAdd, Nat.reduceEqDiff, Nat.reduceLeDiff, Nat.reduceSub, h2]
    rw [← h3]
    simp
    omega
  · rintro s rfl
    have h2 := markP_len (k := k) (l := l) (i := l.length) (by omega)
    simp (maxSteps := 2000000) (disch := (first | omega | (simp only [List.length_append, List.length_take, List.length_replicate, List.length_map, List.length_set, List.length_cons, List.length_nil, List.length_zipWith, List.length_drop, List.length_range]; first | done | omega))) only [go_sem, Nat.reduceAdd, Nat.reduceEqDiff, Nat.reduceLeDiff, Nat.reduceSub, h2]
    rw [markP_all]
theorem laws_markIntS_nil (k : Int) : C f_laws_markIntS [.sl true 1 [], I k] [] = some (I k, []) := by
  refine C_laws_markIntS ?_
  simp (maxSteps := 2000000) (disch := (first | omega | (simp only [List.length_append, List.length_take, List.length_replicate, List.length_map, List.length_set, List.length_cons, List.length_nil, List.length_zipWith, List.length_drop, List.length_range]; first | done | omega))) only [ir_laws_markIntS, go_sem, Nat.reduceAdd, Nat.reduceEqDiff, Nat.reduceLeDiff, Nat.reduceSub]
  refine W_for 0 (fun i s => s = ⟨[.sl true 1 [], I k, .any, I 0, .any], []⟩) ?_ ?_ ?_
  · simp (maxSteps := 2000000) (disch := (first | omega | (simp only [List.length_append, List.length_take, List.length_replicate, List.length_map, List.length_set, List.length_cons, List.length_nil, List.length_zipWith, List.length_drop, List.length_range]; first | done | omega))) only [go_sem, Nat.reduceAdd, Nat.reduceEqDiff, Nat.reduceLeDiff, Nat.reduceSub]
  · rintro i s hi rfl
    omega
  · rintro s rfl
    simp (maxSteps := 2000000) (disch := (first | omega | (simp only [List.length_append, List.length_take, List.length_replicate, List.length_map, List.length_set, List.length_cons, List.length_nil, List.length_zipWith, List.length_drop, List.length_range]; first | done | omega))) only [go_sem, Nat.reduceAdd, Nat.reduceEqDiff, Nat.reduceLeDiff, Nat.reduceSub]
/-- ... on a row that lies in a row. -/
theorem laws_markIntS_cell {sz off : Nat} {cs : List PV} (l : List Int) (k : Int) (hc : cs[off]? = some (ints l)) (hs : cs.length = sz) (hok : okE false sz (.agg cs) = true) (hl : l.length ≤ 2^36) (h0 : 0 ≤ k) (h1 : k < 2^61) :
    kcallV C f_laws_markIntS sz off (.agg cs) (I k) = some (I (k + l.length), .agg (cs.set off (ints (markL k l.length)))) := by
  refine kcallV_cell hc hs hok (by simp [markL_len]) (fun h => ?_) (fun h => ⟨0, ?_⟩)
  · have : l = [] := by simpa using h
    subst this
    simpa using laws_markIntS_nil k
  · have := laws_markIntS_ok l k 0 hl h0 h1
    simpa using this
theorem laws_markTransS_c0 (l q r : List Int) (k : Int) (hl : l.length ≤ 2^36) (h0 : 0 ≤ k) (h1 : k < 2^61) : kcallV C f_laws_markIntS 3 0 (.agg [ints l, ints q, ints r]) (I k) = some (I (k + l.length), .agg [ints (markL k l.length), ints q, ints r]) :=
  laws_markIntS_cell l k rfl rfl rfl hl h0 h1
theorem laws_markTransS_c1 (l q r : List Int) (k : Int) (hl : l.length ≤ 2^36) (h0 : 0 ≤ k) (h1 : k < 2^61) : kcallV C f_laws_markIntS 3 1 (.agg [ints q, ints l, ints r]) (I k) = some (I (k + l.length), .agg [ints q, ints (markL k l.length), ints r]) :=
  laws_markIntS_cell l k rfl rfl rfl hl h0 h1
theorem laws_markTransS_c2 (l q r : List Int) (k : Int) (hl : l.length ≤ 2^36) (h0 : 0 ≤ k) (h1 : k < 2^61) : kcallV C f_laws_markIntS 3 2 (.agg [ints q, ints r, ints l]) (I k) = some (I (k + l.length), .agg [ints q, ints r, ints (markL k l.length)]) :=
  laws_markIntS_cell l k rfl rfl rfl hl h0 h1
theorem laws_markTransS_ok (l : List Tr) (t : TypeId) (k : Int) (hl : l.length ≤ 2^20) (hb : ∀ t ∈ l, mtLen t ≤ 2^30) (h0 : 0 ≤ k) (h1 : k ≤ 2^40) : C f_laws_markTransS [.ref 0 3 0 l.length, I k] [.lin t 3 (l.map encT)] = some (I (k + mtN l l.length), [.lin t 3 ((mtP k l l.length).map encT)]) := by
  refine C_laws_markTransS ?_
  simp (maxSteps := 2000000) (disch := (first | omega | (simp only [List.length_append, List.length_take, List.length_replicate, List.length_map, List.length_set, List.length_cons, List.length_nil, List.length_zipWith, List.length_drop, List.length_range]; first | done | omega))) only [ir_laws_markTransS, go_sem, Nat.reduceAdd, Nat.reduceEqDiff, Nat.reduceLeDiff, Nat.reduceSub]
  refine W_for l.length (fun i st => st = ⟨[.ref 0 3 0 l.length, I (k + mtN l i), .any, I i, .any], [.lin t 3 ((mtP k l i).map encT)]⟩) ?_ ?_ ?_
  · simp (maxSteps := 2000000) (disch := (first | omega | (simp only [List.length_append, List.length_take, List.length_replicate, List.length_map, List.length_set, List.length_cons, List.length_nil, List.length_zipWith, List.length_drop, List.length_range]; first | done | omega))) only [go_sem, Nat.reduceAdd, Nat.reduceEqDiff, Nat.reduceLeDiff, Nat.reduceSub]
    simp [mtN, mtP]
  · rintro i st hi rfl
    have e1 : (mtP k l i).length = l.length := mtP_len k l i
    have e2 : (mtP k l i)[i]? = some l[i] := by rw [mtP_get k l i i (by omega), List.getElem?_eq_getElem hi]
    have e3 := mtN_le hb i (by omega)
    have e4 := hb _ (List.getElem_mem hi)
    have e5 := mtN_step hi
    have e6 := mtP_step (k := k) hi
    have e7 : mtLen l[i] = l[i].inn.length + l[i].out.length + l[i].rst.length := rfl
    have e8 : i * 2^30 ≤ 2^20 * 2^30 := Nat.mul_le_mul_right _ (by omega)
    rw [e6, e5]
    generalize hM : mtP k l i = M at *
    generalize l[i] = t at *
    generalize hK : k + (mtN l i : Int) = K at *
    have e9 : 0 ≤ K ∧ K ≤ 2^52 := by omega
    simp (maxSteps := 2000000) (disch := (first | omega | (simp only [List.length_append, List.length_take, List.length_replicate, List.length_map, List.length_set, List.length_cons, List.length_nil, List.length_zipWith, List.length_drop, List.length_range]; first | done | omega))) only [go_sem, Nat.reduceAdd, Nat.reduceEqDiff, Nat.reduceLeDiff, Nat.reduceSub, e1, e2, laws_markTransS_c0, laws_markTransS_c1, laws_markTransS_c2, List.getElem?_set_self, List.set_set]
    rw [show k + ((mtN l i + mtLen t : Nat) : Int) = K + t.inn.length + t.out.length + t.rst.length by omega, List.map_set]
    rfl
  · rintro st rfl
    have e1 : (mtP k l l.length).length = l.length := mtP_len k l l.length
    simp (maxSteps := 2000000) (disch := (first | omega | (simp only [List.length_append, List.length_take, List.length_replicate, List.length_map, List.length_set, List.length_cons, List.length_nil, List.length_zipWith, List.length_drop, List.length_range]; first | done | omega))) only [go_sem, Nat.reduceAdd, Nat.reduceEqDiff, Nat.reduceLeDiff, Nat.reduceSub, e1]
theorem laws_markTransS_nil (k : Int) : C f_laws_markTransS [.nil false 3, I k] [] = some (I k, []) := by
  refine C_laws_markTransS ?_
  simp (maxSteps := 2000000) (disch := (first | omega | (simp only [List.length_append, List.length_take, List.length_replicate, List.length_map, List.length_set, List.length_cons, List.length_nil, List.length_zipWith, List.length_drop, List.length_range]; first | done | omega))) only [ir_laws_markTransS, go_sem, Nat.reduceAdd, Nat.reduceEqDiff, Nat.reduceLeDiff, Nat.reduceSub]
  refine W_for 0 (fun i s => s = ⟨[.nil false 3, I k, .any, I 0, .any], []⟩) ?_ ?_ ?_
  · simp (maxSteps := 2000000) (disch := (first | omega | (simp only [List.length_append, List.length_take, List.length_replicate, List.length_map, List.length_set, List.length_cons, List.length_nil, List.length_zipWith, List.length_drop, List.length_range]; first | done | omega))) only [go_sem, Nat.reduceAdd, Nat.reduceEqDiff, Nat.reduceLeDiff, Nat.reduceSub]
  · rintro i s hi rfl
    omega
  · rintro s rfl
    simp (maxSteps := 2000000) (disch := (first | omega | (simp only [List.length_append, List.length_take, List.length_replicate, List.length_map, List.length_set, List.length_cons, List.length_nil, List.length_zipWith, List.length_drop, List.length_range]; first | done | omega))) only [go_sem, Nat.reduceAdd, Nat.reduceEqDiff, Nat.reduceLeDiff, Nat.reduceSub]
theorem laws_markNet_ok (c : Int) (l : List Tr) (t : TypeId) (k : Int) (hl : l.length ≤ 2^20) (hb : ∀ t ∈ l, mtLen t ≤ 2^30) (h0 : 0 ≤ k) (h1 : k ≤ 2^40) : C f_laws_markNet [.agg [I c, .ref 0 3 0 l.length], I k] [.lin t 3 (l.map encT)] = some (I (k + mtN l l.length), [.lin t 3 ((mtP k l l.length).map encT)]) := by
  have h := laws_markTransS_ok l t k hl hb h0 h1
  refine C_laws_markNet ?_
  simp (maxSteps := 2000000) (disch := (first | omega | (simp only [List.length_append, List.length_take, List.length_replicate, List.length_map, List.length_set, List.length_cons, List.length_nil, List.length_zipWith, List.length_drop, List.length_range]; first | done | omega))) only [ir_laws_markNet, go_sem, Nat.reduceAdd, Nat.reduceEqDiff, Nat.reduceLeDiff, Nat.reduceSub]
  simp (maxSteps := 2000000) (disch := (first | omega | (simp only [List.length_append, List.length_take, List.length_replicate, List.length_map, List.length_set, List.length_cons, List.length_nil, List.length_zipWith, List.length_drop, List.length_range]; first | done | omega))) only [go_sem, Nat.reduceAdd, Nat.reduceEqDiff, Nat.reduceLeDiff, Nat.reduceSub, h]
theorem laws_markNet_nil (c k : Int) : C f_laws_markNet [.agg [I c, .nil false 3], I k] [] = some (I k, []) := by
  have h := laws_markTransS_nil k
  refine C_laws_markNet ?_
  simp (maxSteps := 2000000) (disch := (first | omega | (simp only [List.length_append, List.length_take, List.length_replicate, List.length_map, List.length_set, List.length_cons, List.length_nil, List.length_zipWith, List.length_drop, List.length_range]; first | done | omega))) only [ir_laws_markNet, go_sem, Nat.reduceAdd, Nat.reduceEqDiff, Nat.reduceLeDiff, Nat.reduceSub]
  simp (maxSteps := 2000000) (disch := (first | omega | (simp only [List.length_append, List.length_take, List.length_replicate, List.length_map, List.length_set, List.length_cons, List.length_nil, List.length_zipWith, List.length_drop, List.length_range]; first | done | omega))) only [go_sem, Nat.reduceAdd, Nat.reduceEqDiff, Nat.reduceLeDiff, Nat.reduceSub, h]
theorem laws_markFlow_ok (c x y : Int) (l : List Tr) (t : TypeId) (k : Int) (hl : l.length ≤ 2^20) (hb : ∀ t ∈ l, mtLen t ≤ 2^30) (h0 : 0 ≤ k) (h1 : k ≤ 2^40) : C f_laws_markFlow [.agg [I c, .ref 0 3 0 l.length, I x, I y], I k] [.lin t 3 (l.map encT)] = some (I (k + mtN l l.length), [.lin t 3 ((mtP k l l.length).map encT)]) := by
  have h := laws_markNet_ok c l t k hl hb h0 h1
  refine C_laws_markFlow ?_
  simp (maxSteps := 2000000) (disch := (first | omega | (simp only [List.length_append, List.length_take, List.length_replicate, List.length_map, List.length_set, List.length_cons, List.length_nil, List.length_zipWith, List.length_drop, List.length_range]; first | done | omega))) only [ir_laws_markFlow, go_sem, Nat.reduceAdd, Nat.reduceEqDiff, Nat.reduceLeDiff, Nat.reduceSub]
  simp (maxSteps := 2000000) (disch := (first | omega | (simp only [List.length_append, List.length_take, List.length_replicate, List.length_map, List.length_set, List.length_cons, List.length_nil, List.length_zipWith, List.length_drop, List.length_range]; first | done | omega))) only [go_sem, Nat.reduceAdd, Nat.reduceEqDiff, Nat.reduceLeDiff, Nat.reduceSub, h]
theorem laws_markFlow_nil (c x y k : Int) : C f_laws_markFlow [.agg [I c, .nil false 3, I x, I y], I k] [] = some (I k, []) := by
  have h := laws_markNet_nil c k
  refine C_laws_markFlow ?_
  simp (maxSteps := 2000000) (disch := (first | omega | (simp only [List.length_append, List.length_take, List.length_replicate, List.length_map, List.length_set, List.length_cons, List.length_nil, List.length_zipWith, List.length_drop, List.length_range]; first | done | omega))) only [ir_laws_markFlow, go_sem, Nat.reduceAdd, Nat.reduceEqDiff, Nat.reduceLeDiff, Nat.reduceSub]
  simp (maxSteps := 2000000) (disch := (first | omega | (simp only [List.length_append, List.length_take, List.length_replicate, List.length_map, List.length_set, List.length_cons, List.length_nil, List.length_zipWith, List.length_drop, List.length_range]; first | done | omega))) only [go_sem, Nat.reduceAdd, Nat.reduceEqDiff, Nat.reduceLeDiff, Nat.reduceSub, h]
theorem laws_heldIntS_ok (k : Int) (n : Nat) (hl : n < 2^60) (h0 : 0 ≤ k) (h1 : k < 2^61) : C f_laws_heldIntS [ints (markL k n), I k] [] = some (I (k + n), []) := by
  have hn := markL_len k n
  refine C_laws_heldIntS ?_
  simp (maxSteps := 2000000) (disch := (first | omega | (simp only [List.length_append, List.length_take, List.length_replicate, List.length_map, List.length_set, List.length_cons, List.length_nil, List.length_zipWith, List.length_drop, List.length_range]; first | done | omega))) only [ir_laws_heldIntS, go_sem, Nat.reduceAdd, Nat.reduceEqDiff, Nat.reduceLeDiff, Nat.reduceSub]
  refine W_for n (fun i s => s = ⟨[ints (markL k n), I (k + i), .any, I i, .any, .any], []⟩) ?_ ?_ ?_
  · simp (maxSteps := 2000000) (disch := (first | omega | (simp only [List.length_append, List.length_take, List.length_replicate, List.length_map, List.length_set, List.length_cons, List.length_nil, List.length_zipWith, List.length_drop, List.length_range]; first | done | omega))) only [go_sem, Nat.reduceAdd, Nat.reduceEqDiff, Nat.reduceLeDiff, Nat.reduceSub]
    simp
  · rintro i s hi rfl
    have e : (markL k n)[i]? = some (k + i) := by simp [markL, hi]
    simp (maxSteps := 2000000) (disch := (first | omega | (simp only [List.length_append, List.length_take, List.length_replicate, List.length_map, List.length_set, List.length_cons, List.length_nil, List.length_zipWith, List.length_drop, List.length_range]; first | done | omega))) only [go_sem, Nat.reduceAdd, Nat.reduceEqDiff, Nat.reduceLeDiff, Nat.reduceSub, hn, e]
    rw [show k + ((i + 1 : Nat) : Int) = k + i + 1 by omega]
    rfl
  · rintro s rfl
    simp (maxSteps := 2000000) (disch := (first | omega | (simp only [List.length_append, List.length_take, List.length_replicate, List.length_map, List.length_set, List.length_cons, List.length_nil, List.length_zipWith, List.length_drop, List.length_range]; first | done | omega))) only [go_sem, Nat.reduceAdd, Nat.reduceEqDiff, Nat.reduceLeDiff, Nat.reduceSub, hn]
theorem laws_heldTransS_ok (l : List Tr) (k : Int) (hl : l.length ≤ 2^20) (hb : ∀ t ∈ l, mtLen t ≤ 2^30) (h0 : 0 ≤ k) (h1 : k ≤ 2^40) : C f_laws_heldTransS [trs (mtP k l l.length), I k] [] = some (I (k + mtN l l.length), []) := by
  have hn := mtP_len k l l.length
  refine C_laws_heldTransS ?_
  simp (maxSteps := 2000000) (disch := (first | omega | (simp only [List.length_append, List.length_take, List.length_replicate, List.length_map, List.length_set, List.length_cons, List.length_nil, List.length_zipWith, List.length_drop, List.length_range]; first | done | omega))) only [ir_laws_heldTransS, go_sem, Nat.reduceAdd, Nat.reduceEqDiff, Nat.reduceLeDiff, Nat.reduceSub]
  refine W_for l.length (fun i st => st = ⟨[trs (mtP k l l.length), I (k + mtN l i), .any, I i, .any, .any, .any, .any], []⟩) ?_ ?_ ?_
  · simp (maxSteps := 2000000) (disch := (first | omega | (simp only [List.length_append, List.length_take, List.length_replicate, List.length_map, List.length_set, List.length_cons, List.length_nil, List.length_zipWith, List.length_drop, List.length_range]; first | done | omega))) only [go_sem, Nat.reduceAdd, Nat.reduceEqDiff, Nat.reduceLeDiff, Nat.reduceSub]
    simp [mtN]
  · rintro i st hi rfl
    have e := mtP_got k l l.length i hi hi
    have e3 := mtN_le hb i (by omega)
    have e4 := hb _ (List.getElem_mem hi)
    have e5 := mtN_step hi
    have e7 := mtLen_eq l[i]
    have e8 : i * 2^30 ≤ 2^20 * 2^30 := Nat.mul_le_mul_right _ (by omega)
    rw [e5]
    generalize mtP k l l.length = M at *
    generalize l[i] = t at *
    generalize hK : k + (mtN l i : Int) = K at *
    have e9 : 0 ≤ K ∧ K ≤ 2^52 := by omega
    have d1 := laws_heldIntS_ok K t.inn.length (by omega) (by omega) (by omega)
    have d2 := laws_heldIntS_ok (K + t.inn.length) t.out.length (by omega) (by omega) (by omega)
    have d3 := laws_heldIntS_ok (K + t.inn.length + t.out.length) t.rst.length (by omega) (by omega) (by omega)
    unfold mtTr at e
    simp (maxSteps := 2000000) (disch := (first | omega | (simp only [List.length_append, List.length_take, List.length_replicate, List.length_map, List.length_set, List.length_cons, List.length_nil, List.length_zipWith, List.length_drop, List.length_range]; first | done | omega))) only [go_sem, Nat.reduceAdd, Nat.reduceEqDiff, Nat.reduceLeDiff, Nat.reduceSub, hn, e, d1, d2, d3]
    rw [show k + ((mtN l i + mtLen t : Nat) : Int) = K + t.inn.length + t.out.length + t.rst.length by omega]
    rfl
  · rintro st rfl
    simp (maxSteps := 2000000) (disch := (first | omega | (simp only [List.length_append, List.length_take, List.length_replicate, List.length_map, List.length_set, List.length_cons, List.length_nil, List.length_zipWith, List.length_drop, List.length_range]; first | done | omega))) only [go_sem, Nat.reduceAdd, Nat.reduceEqDiff, Nat.reduceLeDiff, Nat.reduceSub, hn]
theorem laws_heldNet_ok (c : Int) (l : List Tr) (k : Int) (hl : l.length ≤ 2^20) (hb : ∀ t ∈ l, mtLen t ≤ 2^30) (h0 : 0 ≤ k) (h1 : k ≤ 2^40) : C f_laws_heldNet [.agg [I c, trs (mtP k l l.length)], I k] [] = some (I (k + mtN l l.length), []) := by
  have h := laws_heldTransS_ok l k hl hb h0 h1
  have hN := mtN_le hb l.length (by omega)
  have e8 : l.length * 2^30 ≤ 2^20 * 2^30 := Nat.mul_le_mul_right _ (by omega)
  refine C_laws_heldNet ?_
  simp (maxSteps := 2000000) (disch := (first | omega | (simp only [List.length_append, List.length_take, List.length_replicate, List.length_map, List.length_set, List.length_cons, List.length_nil, List.length_zipWith, List.length_drop, List.length_range]; first | done | omega))) only [ir_laws_heldNet, go_sem, Nat.reduceAdd, Nat.reduceEqDiff, Nat.reduceLeDiff, Nat.reduceSub]
  simp (maxSteps := 2000000) (disch := (first | omega | (simp only [List.length_append, List.length_take, List.length_replicate, List.length_map, List.length_set, List.length_cons, List.length_nil, List.length_zipWith, List.length_drop, List.length_range]; first | done | omega))) only [go_sem, Nat.reduceAdd, Nat.reduceEqDiff, Nat.reduceLeDiff, Nat.reduceSub, h]
theorem laws_heldFlow_ok (c x y : Int) (l : List Tr) (k : Int) (hl : l.length ≤ 2^20) (hb : ∀ t ∈ l, mtLen t ≤ 2^30) (h0 : 0 ≤ k) (h1 : k ≤ 2^40) : C f_laws_heldFlow [.agg [I c, trs (mtP k l l.length), I x, I y], I k] [] = some (I (k + mtN l l.length), []) := by
  have h := laws_heldNet_ok c l k hl hb h0 h1
  have hN := mtN_le hb l.length (by omega)
  have e8 : l.length * 2^30 ≤ 2^20 * 2^30 := Nat.mul_le_mul_right _ (by omega)
  refine C_laws_heldFlow ?_
  simp (maxSteps := 2000000) (disch := (first | omega | (simp only [List.length_append, List.length_take, List.length_replicate, List.length_map, List.length_set, List.length_cons, List.length_nil, List.length_zipWith, List.length_drop, List.length_range]; first | done | omega))) only [ir_laws_heldFlow, go_sem, Nat.reduceAdd, Nat.reduceEqDiff, Nat.reduceLeDiff, Nat.reduceSub]
  simp (maxSteps := 2000000) (disch := (first | omega | (simp only [List.length_append, List.length_take, List.length_replicate, List.length_map, List.length_set, List.length_cons, List.length_nil, List.length_zipWith, List.length_drop, List.length_range]; first | done | omega))) only [go_sem, Nat.reduceAdd, Nat.reduceEqDiff, Nat.reduceLeDiff, Nat.reduceSub, h]
theorem laws_FnExactFusePlaces_ok (f : Fl) (hl : f.net.tr.length < 2^63) (ht : ∀ t ∈ f.net.tr, t.inn.length < 2^63 ∧ t.out.length < 2^63 ∧ t.rst.length < 2^63) : C f_laws_FnExactFusePlaces [encF f] [] = some (.bool true, []) := by
  have hsz := laws_szFlow_ok f 1048576 (by omega) (by omega) hl ht
  refine C_laws_FnExactFusePlaces ?_
  simp (maxSteps := 2000000) (disch := (first | omega | (simp only [List.length_append, List.length_take, List.length_replicate, List.length_map, List.length_set, List.length_cons, List.length_nil, List.length_zipWith, List.length_drop, List.length_range]; first | done | omega))) only [ir_laws_FnExactFusePlaces, go_sem, Nat.reduceAdd, Nat.reduceEqDiff, Nat.reduceLeDiff, Nat.reduceSub]
  simp (maxSteps := 2000000) (disch := (first | omega | (simp only [List.length_append, List.length_take, List.length_replicate, List.length_map, List.length_set, List.length_cons, List.length_nil, List.length_zipWith, List.length_drop, List.length_range]; first | done | omega))) only [go_sem, Nat.reduceAdd, Nat.reduceEqDiff, Nat.reduceLeDiff, Nat.reduceSub, hsz]
  refine fun h => ?_
  have hs := szNt_smN h (by omega)
  have hsm := szNt_small h (by omega)
  have hto := laws_toFlow_ok f (by omega) (fun t h => by have := hsm.2 t h; omega)
  have hb : ∀ t ∈ f.net.tr, mtLen t ≤ 2^30 := fun t h => by have := hsm.2 t h; unfold mtLen; omega
  have hmk := laws_markFlow_ok f.net.pl f.src f.dst f.net.tr t_impl_Trans 1 (by omega) hb (by omega) (by omega)
  have hmn := mtN_le hb f.net.tr.length (by omega)
  have hmn2 : f.net.tr.length * 2^30 ≤ 1048576 * 2^30 := Nat.mul_le_mul_right _ (by omega)
  have h1 := spec_FusePlaces_ok f hs
  have h2 := impl_FusePlaces_ok f hs
  have heq := laws_eqFlow_ok f f hs hs
  rw [decide_eq_true ⟨rfl, rfl, rfl⟩] at heq
  unfold encF at heq
  have hV : ∀ g, fusePV f = some g → smN g.net ∧ g.net.tr.length ≤ 24 ∧ ∀ t ∈ g.net.tr, mtLen t ≤ 2^30 := by
    intro g hg
    obtain ⟨hL, hlen⟩ := fusePV_small hg
    exact ⟨⟨by omega, fun t ht => by have := hlen t ht; exact ⟨by omega, by omega, by omega⟩⟩, hL, fun t ht => by have := hlen t ht; unfold mtLen; omega⟩
  generalize mtP 1 f.net.tr f.net.tr.length = P at *
  cases hg : fusePV f with
  | none =>
    rw [hg] at h1 h2
    have h3 : C f_laws_eqFlow [.agg [I 0, .sl false 3 [], I 0, I 0], .agg [I 0, .sl false 3 [], I 0, I 0]] [] = some (.bool true, []) := by
      have := laws_eqFlow_ok ⟨⟨0, []⟩, 0, 0⟩ ⟨⟨0, []⟩, 0, 0⟩ ⟨by simp, by simp⟩ ⟨by simp, by simp⟩
      rw [decide_eq_true ⟨rfl, rfl, rfl⟩] at this
      exact this
    have h4 := laws_markFlow_nil 0 0 0 1
    have h5 : C f_laws_heldFlow [.agg [I 0, .sl false 3 [], I 0, I 0], I 1] [] = some (I 1, []) := laws_heldFlow_ok 0 0 0 [] 1 (by simp) (by simp) (by omega) (by omega)
    simp only [Option.isSome_none] at h1 h2
    simp (maxSteps := 2000000) (disch := (first | omega | (simp only [List.length_append, List.length_take, List.length_replicate, List.length_map, List.length_set, List.length_cons, List.length_nil, List.length_zipWith, List.length_drop, List.length_range]; first | done | omega))) only [go_sem, Nat.reduceAdd, Nat.reduceEqDiff, Nat.reduceLeDiff, Nat.reduceSub, hto, h1, h2, heq, hmk, h3, h4, h5]
  | some g =>
    rw [hg] at h1 h2
    obtain ⟨hgs, hgl, hgb⟩ := hV g hg
    have h3 := laws_eqFlow_ok g g hgs hgs
    rw [decide_eq_true ⟨rfl, rfl, rfl⟩] at h3
    unfold encF at h3
    have h4 := laws_markFlow_ok g.net.pl g.src g.dst g.net.tr t_impl_Trans 1 (by omega) hgb (by omega) (by omega)
    have h5 := laws_heldFlow_ok g.net.pl g.src g.dst g.net.tr 1 (by omega) hgb (by omega) (by omega)
    have h6 := mtP_len 1 g.net.tr g.net.tr.length
    have h7 := mtN_le hgb g.net.tr.length (by omega)
    simp only [Option.isSome_some] at h1 h2
    generalize mtP 1 g.net.tr g.net.tr.length = M at *
    simp (maxSteps := 2000000) (disch := (first | omega | (simp only [List.length_append, List.length_take, List.length_replicate, List.length_map, List.length_set, List.length_cons, List.length_nil, List.length_zipWith, List.length_drop, List.length_range]; first | done | omega))) only [go_sem, Nat.reduceAdd, Nat.reduceEqDiff, Nat.reduceLeDiff, Nat.reduceSub, hto, h1, h2, heq, hmk, h3, h4, h5, h6]
end Go.Proofs.Ytkkifebmicbbaaa.Pi
