/- The functions that the law reaches: what they answer. Conditions: those that each theorem names. -/
import Derived.Test.YtldlbpdbbbajfaaIrFnKeptAll
import Derived.Test.YtldlbpdbbbajfaaPlBase
import Derived.Test.YtldlbpdbbbajfaaPlNet
import Derived.Test.YtldlbpdbbbajfaaPlFire
import Derived.Test.YtldlbpdbbbajfaaPlTurn
import Derived.Test.YtldlbpdbbbajfaaPlBack
import Derived.Test.YtldlbpdbbbajfaaPlFlow
import Derived.Test.YtldlbpdbbbajfaaPlMask
import Derived.Test.YtldlbpdbbbajfaaPlSiph
import Derived.Test.YtldlbpdbbbajfaaPlKept
import Derived.Test.YtldlbpdbbbajfaaPlBits
import Derived.Test.YtldlbpdbbbajfaaPlSpace
import Derived.Test.YtldlbpdbbbajfaaPlWay
import Derived.Test.YtldlbpdbbbajfaaFnFnKeptAll0
namespace Go.Proofs.Ytldlbpdbbbajfaa.Pi
open Go
set_option linter.all false
set_option maxHeartbeats 40000000
set_option maxRecDepth 20000
theorem laws_FnKeptAll_ok (a b : List Int) (ha2 : ∀ x ∈ a, 0 ≤ x ∧ x < 256) (hb2 : ∀ x ∈ b, 0 ≤ x ∧ x < 256) : C f_laws_FnKeptAll [bys a, bys b] [] = some (.bool true, []) := by
  refine C_laws_FnKeptAll ?_
  simp (maxSteps := 2000000) (disch := (first | omega | (simp only [List.length_append, List.length_take, List.length_replicate, List.length_map, List.length_set, List.length_cons, List.length_nil, List.length_zipWith, List.length_drop, List.length_range]; first | done | omega))) only [ir_laws_FnKeptAll, go_sem, Nat.reduceAdd, Nat.reduceEqDiff, Nat.reduceLeDiff, Nat.reduceSub]
  simp (maxSteps := 2000000) (disch := (first | omega | (simp only [List.length_append, List.length_take, List.length_replicate, List.length_map, List.length_set, List.length_cons, List.length_nil, List.length_zipWith, List.length_drop, List.length_range]; first | done | omega))) only [go_sem, Nat.reduceAdd, Nat.reduceEqDiff, Nat.reduceLeDiff, Nat.reduceSub, laws_big_ok]
  intro hbig
  simp only [Bool.or_eq_false_iff, decide_eq_false_iff_not] at hbig
  obtain ⟨_, e1, n, rfl, h1⟩ := spec_DrawSmallInvariants_ok a (by omega) ha2
  have hsn := h1.smN
  have htr := h1.1
  obtain ⟨_, e2, z, rfl, h4, h5⟩ := laws_numberOf_ok b (by omega) hb2
  have i1 := impl_SmallInvariants_ok n hsn
  have i2 := spec_SmallInvariants_ok n hsn
  have i3 := impl_IsKept_ok n hsn
  have i4 := spec_IsKept_ok n hsn
  cases hk : okSm n with
  | false =>
    simp only [hk, Bool.false_eq_true, if_false, Bool.false_and] at i1 i2 i3 i4
    have s1 : C f_laws_sameLists [.sl false 1 [], .sl false 1 []] [] = some (.bool true, []) := laws_sameLists_ok [] (by simp) (by simp)
    simp (maxSteps := 2000000) (disch := (first | omega | (simp only [List.length_append, List.length_take, List.length_replicate, List.length_map, List.length_set, List.length_cons, List.length_nil, List.length_zipWith, List.length_drop, List.length_range]; first | done | omega))) only [go_sem, Nat.reduceAdd, Nat.reduceEqDiff, Nat.reduceLeDiff, Nat.reduceSub, e1, i1, i2, i3, i4, s1]
    refine W_for 0 (fun k s => s = ⟨[.any, bys b, .any, .ptr 0 0, .ref 1 1 0 0, .any, .any, .any, .bool false, .any, .any, .any, .any, .any, .any, .any, .any, .any, .any, .any, .any, .any, .any, .any, .any, .any, .any, .any, .any, .any, .any, .ref 1 1 0 0, I 0, I 0, .any, .any, .any, .any, .any, .any, .any, .any, .any, .any, .any, .any, .any, .any, .any, .any, .any, .any, .any, .any], [.box t_impl_Net [I n.pl, .ref 2 3 0 n.tr.length], .row t_sl_int false 1 [], .fro false 3 (n.tr.map encT)]⟩) ?_ ?_ ?_
    · simp (maxSteps := 2000000) (disch := (first | omega | (simp only [List.length_append, List.length_take, List.length_replicate, List.length_map, List.length_set, List.length_cons, List.length_nil, List.length_zipWith, List.length_drop, List.length_range]; first | done | omega))) only [go_sem, Nat.reduceAdd, Nat.reduceEqDiff, Nat.reduceLeDiff, Nat.reduceSub]
      trivial
    · intro k s hk; omega
    · rintro s rfl
      simp (maxSteps := 2000000) (disch := (first | omega | (simp only [List.length_append, List.length_take, List.length_replicate, List.length_map, List.length_set, List.length_cons, List.length_nil, List.length_zipWith, List.length_drop, List.length_range]; first | done | omega))) only [go_sem, Nat.reduceAdd, Nat.reduceEqDiff, Nat.reduceLeDiff, Nat.reduceSub]
  | true =>
    obtain ⟨hg, hr, h10⟩ := okSm_parts hk
    have hgp := goodN_parts hg
    have hL := smallI_in h10
    have s1 := laws_sameLists_ok ((smallI n).map setN) (by simp; omega) (fun x hx => by
      obtain ⟨r, _, rfl⟩ := List.mem_map.1 hx
      have := setN_len r; omega)
    simp only [rows, List.map_map, Function.comp_def] at s1
    simp only [hk, if_true, Bool.true_and] at i1 i2 i3 i4
    have hmin : ∀ i j, (hi : i < (smallI n).length) → (hj : j < (smallI n).length) → i ≠ j → withinB (setN (smallI n)[j]) (setN (smallI n)[i]) = false := fun i j hi hj hij => by
      cases hw : withinB (setN (smallI n)[j]) (setN (smallI n)[i]) with
      | false => rfl
      | true => exact absurd (within_and (hL.1 _ (List.getElem_mem hj)).2.2 hw) (smK_within hi hj hij)
    have hinv : ∀ r ∈ smallI n, isInv n (rowW n r) = true := fun r hr => smK_has (2 ^ n.pl.toNat - 1) r hr
    have hkt := fun (m l : List Int) (hkb : keptB n = true) => kept_total (m := m) (l := l) hk hkb hg hr
    generalize smallI n = L at *
    have hne : ∀ r ∈ L, (setN r).length ≠ 0 := fun r hr => by
      have := setN_ne (r := r) ⟨(hL.1 r hr).1, (hL.1 r hr).2.2⟩
      intro e; exact this (List.eq_nil_of_length_eq_zero e)
    have hokw : ∀ r ∈ L, okW n (rowW n r) = true := fun r hrL => by
      have h1 := rowW_in n r
      have h2 : plainN n = true := by simp [plainN, hg, hr]
      simp only [okW, h2, Bool.true_and, Bool.and_eq_true, decide_eq_true_eq, List.all_eq_true, inB]
      exact ⟨by omega, fun x hx => by have := h1.2 x hx; omega⟩
    cases hkb : keptB n <;> rw [hkb] at i3 i4
    · simp (maxSteps := 2000000) (disch := (first | omega | (simp only [List.length_append, List.length_take, List.length_replicate, List.length_map, List.length_set, List.length_cons, List.length_nil, List.length_zipWith, List.length_drop, List.length_range]; first | done | omega))) only [go_sem, Nat.reduceAdd, Nat.reduceEqDiff, Nat.reduceLeDiff, Nat.reduceSub, e1, i1, i2, i3, i4, s1]
      refine W_for L.length (fun k s => s = ⟨[.any, bys b, .any, .ptr 0 0, .ref 1 1 0 L.length, .any, .any, .any, .bool (keptB n), .any, .any, .any, .any, .any, .any, .any, .any, .any, .any, .any, .any, .any, .any, .any, .any, .any, .any, .any, .any, .any, .any, .ref 1 1 0 L.length, I L.length, I k, .any, .any, .any, .any, .any, .any, .any, .any, .any, .any, .any, .any, .any, .any, .any, .any, .any, .any, .any, .any], [.box t_impl_Net [I n.pl, .ref 2 3 0 n.tr.length], .row t_sl_int false 1 (L.map fun r => ints (setN r)), .fro false 3 (n.tr.map encT)]⟩) ?_ ?_ ?_
      · rw [hkb]
        simp (maxSteps := 2000000) (disch := (first | omega | (simp only [List.length_append, List.length_take, List.length_replicate, List.length_map, List.length_set, List.length_cons, List.length_nil, List.length_zipWith, List.length_drop, List.length_range]; first | done | omega))) only [go_sem, Nat.reduceAdd, Nat.reduceEqDiff, Nat.reduceLeDiff, Nat.reduceSub]
        rfl
      · rintro k s hk rfl
        have hm := List.getElem_mem hk
        have hLk := hL.1 _ hm
        have hsl := setN_lt hLk.2.1
        have hsl2 := setN_len L[k]
        have hne1 := hne _ hm
        have i5 := impl_IsInvariant_ok n (rowW n L[k]) hsn (by rw [(rowW_in n L[k]).1]; omega)
        rw [hokw _ hm, hinv _ hm] at i5
        have hpre : ∀ j, ((((setN L[k]).take j).foldl (fun a p => a.set p.toNat 1) (List.replicate n.pl.toNat (0:Int)))).length = n.pl.toNat := fun j => by
          rw [(rowF_in _ _ (fun y hy => by simp at hy; omega)).1]; simp
        simp (maxSteps := 2000000) (disch := (first | omega | (simp only [List.length_append, List.length_take, List.length_replicate, List.length_map, List.length_set, List.length_cons, List.length_nil, List.length_zipWith, List.length_drop, List.length_range]; first | done | omega))) only [go_sem, Nat.reduceAdd, Nat.reduceEqDiff, Nat.reduceLeDiff, Nat.reduceSub]
        refine W_for (setN L[k]).length (fun j s => s = ⟨[.any, bys b, .any, .ptr 0 0, .ref 1 1 0 L.length, .any, .any, .any, .bool (keptB n), .any, .any, .any, I k, ints (setN L[k]), .ref 2 1 0 n.pl.toNat, .any, .any, .any, .any, .any, .any, .any, .any, .any, .any, .any, .any, .any, .any, .any, .any, .ref 1 1 0 L.length, I L.length, I k, .any, ints (setN L[k]), I (setN L[k]).length, I j, .any, .any, .any, .any, .any, .any, .any, .any, .any, .any, .any, .any, .any, .any, .any, .any], [.box t_impl_Net [I n.pl, .ref 3 3 0 n.tr.length], .row t_sl_int false 1 (L.map fun r => ints (setN r)), .row t_int true 1 ((((setN L[k]).take j).foldl (fun a p => a.set p.toNat 1) (List.replicate n.pl.toNat 0)).map I), .fro false 3 (n.tr.map encT)]⟩) ?_ ?_ ?_
        · simp (maxSteps := 2000000) (disch := (first | omega | (simp only [List.length_append, List.length_take, List.length_replicate, List.length_map, List.length_set, List.length_cons, List.length_nil, List.length_zipWith, List.length_drop, List.length_range]; first | done | omega))) only [go_sem, Nat.reduceAdd, Nat.reduceEqDiff, Nat.reduceLeDiff, Nat.reduceSub]
          rw [List.foldl_nil, List.map_replicate]; rfl
        · rintro j s hj rfl
          have h3 := hsl _ (List.getElem_mem hj)
          have h4' := hpre j
          rw [foldl_snoc _ _ hj]
          simp (maxSteps := 2000000) (disch := (first | omega | (simp only [List.length_append, List.length_take, List.length_replicate, List.length_map, List.length_set, List.length_cons, List.length_nil, List.length_zipWith, List.length_drop, List.length_range]; first | done | omega))) only [go_sem, Nat.reduceAdd, Nat.reduceEqDiff, Nat.reduceLeDiff, Nat.reduceSub]
          trivial
        · rintro s rfl
          have h4' := hpre (setN L[k]).length
          rw [List.take_length] at h4' ⊢
          rw [show (setN L[k]).foldl (fun a p => a.set p.toNat 1) (List.replicate n.pl.toNat 0) = rowW n L[k] from rfl] at h4' ⊢
          generalize rowW n L[k] = W0 at *
          simp (maxSteps := 2000000) (disch := (first | omega | (simp only [List.length_append, List.length_take, List.length_replicate, List.length_map, List.length_set, List.length_cons, List.length_nil, List.length_zipWith, List.length_drop, List.length_range]; first | done | omega))) only [go_sem, Nat.reduceAdd, Nat.reduceEqDiff, Nat.reduceLeDiff, Nat.reduceSub, i5]
          refine W_for L.length (fun j s => s = ⟨[.any, bys b, .any, .ptr 0 0, .ref 1 1 0 L.length, .any, .any, .any, .bool (keptB n), .any, .any, .any, I k, ints (setN L[k]), .any, .any, .any, .any, .any, .any, .any, .any, .any, .any, .any, .any, .any, .any, .any, .any, .any, .ref 1 1 0 L.length, I L.length, I k, .any, .any, .any, .any, .any, .any, .ref 1 1 0 L.length, I L.length, I j, .any, .any, .any, .any, .any, .any, .any, .any, .any, .any, .any], [.box t_impl_Net [I n.pl, .ref 2 3 0 n.tr.length], .row t_sl_int false 1 (L.map fun r => ints (setN r)), .fro false 3 (n.tr.map encT)]⟩) ?_ ?_ ?_
          · simp (maxSteps := 2000000) (disch := (first | omega | (simp only [List.length_append, List.length_take, List.length_replicate, List.length_map, List.length_set, List.length_cons, List.length_nil, List.length_zipWith, List.length_drop, List.length_range]; first | done | omega))) only [go_sem, Nat.reduceAdd, Nat.reduceEqDiff, Nat.reduceLeDiff, Nat.reduceSub]
            rfl
          · rintro j s hj rfl
            have w1 := laws_within_ok (setN L[j]) (setN L[k]) (by have := setN_len L[j]; omega) (by omega)
            by_cases hij : k = j
            · subst hij
              simp (maxSteps := 2000000) (disch := (first | omega | (simp only [List.length_append, List.length_take, List.length_replicate, List.length_map, List.length_set, List.length_cons, List.length_nil, List.length_zipWith, List.length_drop, List.length_range]; first | done | omega))) only [go_sem, Nat.reduceAdd, Nat.reduceEqDiff, Nat.reduceLeDiff, Nat.reduceSub]
              try rfl
            · have hij2 : ¬ ((k : Int) = j) := by omega
              rw [hmin k j hk hj hij] at w1
              simp (maxSteps := 2000000) (disch := (first | omega | (simp only [List.length_append, List.length_take, List.length_replicate, List.length_map, List.length_set, List.length_cons, List.length_nil, List.length_zipWith, List.length_drop, List.length_range]; first | done | omega))) only [go_sem, Nat.reduceAdd, Nat.reduceEqDiff, Nat.reduceLeDiff, Nat.reduceSub, w1, hij2]
              try rfl
          · rintro s rfl
            simp (maxSteps := 2000000) (disch := (first | omega | (simp only [List.length_append, List.length_take, List.length_replicate, List.length_map, List.length_set, List.length_cons, List.length_nil, List.length_zipWith, List.length_drop, List.length_range]; first | done | omega))) only [go_sem, Nat.reduceAdd, Nat.reduceEqDiff, Nat.reduceLeDiff, Nat.reduceSub]
            try rfl
      · rintro s rfl
        rw [hkb]
        simp (maxSteps := 2000000) (disch := (first | omega | (simp only [List.length_append, List.length_take, List.length_replicate, List.length_map, List.length_set, List.length_cons, List.length_nil, List.length_zipWith, List.length_drop, List.length_range]; first | done | omega))) only [go_sem, Nat.reduceAdd, Nat.reduceEqDiff, Nat.reduceLeDiff, Nat.reduceSub]
    · simp (maxSteps := 2000000) (disch := (first | omega | (simp only [List.length_append, List.length_take, List.length_replicate, List.length_map, List.length_set, List.length_cons, List.length_nil, List.length_zipWith, List.length_drop, List.length_range]; first | done | omega))) only [go_sem, Nat.reduceAdd, Nat.reduceEqDiff, Nat.reduceLeDiff, Nat.reduceSub, e1, i1, i2, i3, i4, s1]
      refine W_for L.length (fun k s => s = ⟨[.any, bys b, .any, .ptr 0 0, .ref 1 1 0 L.length, .any, .any, .any, .bool (keptB n), .any, .any, .any, .any, .any, .any, .any, .any, .any, .any, .any, .any, .any, .any, .any, .any, .any, .any, .any, .any, .any, .any, .ref 1 1 0 L.length, I L.length, I k, .any, .any, .any, .any, .any, .any, .any, .any, .any, .any, .any, .any, .any, .any, .any, .any, .any, .any, .any, .any], [.box t_impl_Net [I n.pl, .ref 2 3 0 n.tr.length], .row t_sl_int false 1 (L.map fun r => ints (setN r)), .fro false 3 (n.tr.map encT)]⟩) ?_ ?_ ?_
      · rw [hkb]
        simp (maxSteps := 2000000) (disch := (first | omega | (simp only [List.length_append, List.length_take, List.length_replicate, List.length_map, List.length_set, List.length_cons, List.length_nil, List.length_zipWith, List.length_drop, List.length_range]; first | done | omega))) only [go_sem, Nat.reduceAdd, Nat.reduceEqDiff, Nat.reduceLeDiff, Nat.reduceSub]
        rfl
      · rintro k s hk rfl
        have hm := List.getElem_mem hk
        have hLk := hL.1 _ hm
        have hsl := setN_lt hLk.2.1
        have hsl2 := setN_len L[k]
        have hne1 := hne _ hm
        have i5 := impl_IsInvariant_ok n (rowW n L[k]) hsn (by rw [(rowW_in n L[k]).1]; omega)
        rw [hokw _ hm, hinv _ hm] at i5
        have hpre : ∀ j, ((((setN L[k]).take j).foldl (fun a p => a.set p.toNat 1) (List.replicate n.pl.toNat (0:Int)))).length = n.pl.toNat := fun j => by
          rw [(rowF_in _ _ (fun y hy => by simp at hy; omega)).1]; simp
        simp (maxSteps := 2000000) (disch := (first | omega | (simp only [List.length_append, List.length_take, List.length_replicate, List.length_map, List.length_set, List.length_cons, List.length_nil, List.length_zipWith, List.length_drop, List.length_range]; first | done | omega))) only [go_sem, Nat.reduceAdd, Nat.reduceEqDiff, Nat.reduceLeDiff, Nat.reduceSub]
        refine W_for (setN L[k]).length (fun j s => s = ⟨[.any, bys b, .any, .ptr 0 0, .ref 1 1 0 L.length, .any, .any, .any, .bool (keptB n), .any, .any, .any, I k, ints (setN L[k]), .ref 2 1 0 n.pl.toNat, .any, .any, .any, .any, .any, .any, .any, .any, .any, .any, .any, .any, .any, .any, .any, .any, .ref 1 1 0 L.length, I L.length, I k, .any, ints (setN L[k]), I (setN L[k]).length, I j, .any, .any, .any, .any, .any, .any, .any, .any, .any, .any, .any, .any, .any, .any, .any, .any], [.box t_impl_Net [I n.pl, .ref 3 3 0 n.tr.length], .row t_sl_int false 1 (L.map fun r => ints (setN r)), .row t_int true 1 ((((setN L[k]).take j).foldl (fun a p => a.set p.toNat 1) (List.replicate n.pl.toNat 0)).map I), .fro false 3 (n.tr.map encT)]⟩) ?_ ?_ ?_
        · simp (maxSteps := 2000000) (disch := (first | omega | (simp only [List.length_append, List.length_take, List.length_replicate, List.length_map, List.length_set, List.length_cons, List.length_nil, List.length_zipWith, List.length_drop, List.length_range]; first | done | omega))) only [go_sem, Nat.reduceAdd, Nat.reduceEqDiff, Nat.reduceLeDiff, Nat.reduceSub]
          rw [List.foldl_nil, List.map_replicate]; rfl
        · rintro j s hj rfl
          have h3 := hsl _ (List.getElem_mem hj)
          have h4' := hpre j
          rw [foldl_snoc _ _ hj]
          simp (maxSteps := 2000000) (disch := (first | omega | (simp only [List.length_append, List.length_take, List.length_replicate, List.length_map, List.length_set, List.length_cons, List.length_nil, List.length_zipWith, List.length_drop, List.length_range]; first | done | omega))) only [go_sem, Nat.reduceAdd, Nat.reduceEqDiff, Nat.reduceLeDiff, Nat.reduceSub]
          trivial
        · rintro s rfl
          have h4' := hpre (setN L[k]).length
          rw [List.take_length] at h4' ⊢
          rw [show (setN L[k]).foldl (fun a p => a.set p.toNat 1) (List.replicate n.pl.toNat 0) = rowW n L[k] from rfl] at h4' ⊢
          generalize rowW n L[k] = W0 at *
          simp (maxSteps := 2000000) (disch := (first | omega | (simp only [List.length_append, List.length_take, List.length_replicate, List.length_map, List.length_set, List.length_cons, List.length_nil, List.length_zipWith, List.length_drop, List.length_range]; first | done | omega))) only [go_sem, Nat.reduceAdd, Nat.reduceEqDiff, Nat.reduceLeDiff, Nat.reduceSub, i5]
          refine W_for L.length (fun j s => s = ⟨[.any, bys b, .any, .ptr 0 0, .ref 1 1 0 L.length, .any, .any, .any, .bool (keptB n), .any, .any, .any, I k, ints (setN L[k]), .any, .any, .any, .any, .any, .any, .any, .any, .any, .any, .any, .any, .any, .any, .any, .any, .any, .ref 1 1 0 L.length, I L.length, I k, .any, .any, .any, .any, .any, .any, .ref 1 1 0 L.length, I L.length, I j, .any, .any, .any, .any, .any, .any, .any, .any, .any, .any, .any], [.box t_impl_Net [I n.pl, .ref 2 3 0 n.tr.length], .row t_sl_int false 1 (L.map fun r => ints (setN r)), .fro false 3 (n.tr.map encT)]⟩) ?_ ?_ ?_
          · simp (maxSteps := 2000000) (disch := (first | omega | (simp only [List.length_append, List.length_take, List.length_replicate, List.length_map, List.length_set, List.length_cons, List.length_nil, List.length_zipWith, List.length_drop, List.length_range]; first | done | omega))) only [go_sem, Nat.reduceAdd, Nat.reduceEqDiff, Nat.reduceLeDiff, Nat.reduceSub]
            rfl
          · rintro j s hj rfl
            have w1 := laws_within_ok (setN L[j]) (setN L[k]) (by have := setN_len L[j]; omega) (by omega)
            by_cases hij : k = j
            · subst hij
              simp (maxSteps := 2000000) (disch := (first | omega | (simp only [List.length_append, List.length_take, List.length_replicate, List.length_map, List.length_set, List.length_cons, List.length_nil, List.length_zipWith, List.length_drop, List.length_range]; first | done | omega))) only [go_sem, Nat.reduceAdd, Nat.reduceEqDiff, Nat.reduceLeDiff, Nat.reduceSub]
              try rfl
            · have hij2 : ¬ ((k : Int) = j) := by omega
              rw [hmin k j hk hj hij] at w1
              simp (maxSteps := 2000000) (disch := (first | omega | (simp only [List.length_append, List.length_take, List.length_replicate, List.length_map, List.length_set, List.length_cons, List.length_nil, List.length_zipWith, List.length_drop, List.length_range]; first | done | omega))) only [go_sem, Nat.reduceAdd, Nat.reduceEqDiff, Nat.reduceLeDiff, Nat.reduceSub, w1, hij2]
              try rfl
          · rintro s rfl
            simp (maxSteps := 2000000) (disch := (first | omega | (simp only [List.length_append, List.length_take, List.length_replicate, List.length_map, List.length_set, List.length_cons, List.length_nil, List.length_zipWith, List.length_drop, List.length_range]; first | done | omega))) only [go_sem, Nat.reduceAdd, Nat.reduceEqDiff, Nat.reduceLeDiff, Nat.reduceSub]
            try rfl
      · rintro s rfl
        rw [hkb]
        simp (maxSteps := 2000000) (disch := (first | omega | (simp only [List.length_append, List.length_take, List.length_replicate, List.length_map, List.length_set, List.length_cons, List.length_nil, List.length_zipWith, List.length_drop, List.length_range]; first | done | omega))) only [go_sem, Nat.reduceAdd, Nat.reduceEqDiff, Nat.reduceLeDiff, Nat.reduceSub]
        refine W_for n.pl.toNat (fun j s => ∃ m : List Int, s = ⟨[.any, bys b, .any, .ptr 0 0, .any, .any, .any, .any, .any, .any, .any, .any, .any, .any, .any, .any, .any, .any, .any, .any, .ref 1 1 0 m.length, I j, .any, .any, .any, .any, .any, .any, .any, .any, .any, .any, .any, .any, .any, .any, .any, .any, .any, .any, .any, .any, .any, .any, .any, .any, .any, .any, .any, .any, .any, .any, .any, .any], [.box t_impl_Net [I n.pl, .ref 2 3 0 n.tr.length], .row t_int true 1 (m.map I), .fro false 3 (n.tr.map encT)]⟩ ∧ m.length = j ∧ ∀ x ∈ m, 0 ≤ x ∧ x ≤ 1) ?_ ?_ ?_
        · refine ⟨[], ?_, rfl, by simp⟩
          simp (maxSteps := 2000000) (disch := (first | omega | (simp only [List.length_append, List.length_take, List.length_replicate, List.length_map, List.length_set, List.length_cons, List.length_nil, List.length_zipWith, List.length_drop, List.length_range]; first | done | omega))) only [go_sem, Nat.reduceAdd, Nat.reduceEqDiff, Nat.reduceLeDiff, Nat.reduceSub]
          rfl
        · rintro j s hj ⟨m, rfl, rfl, hm⟩
          simp (maxSteps := 2000000) (disch := (first | omega | (simp only [List.length_append, List.length_take, List.length_replicate, List.length_map, List.length_set, List.length_cons, List.length_nil, List.length_zipWith, List.length_drop, List.length_range]; first | done | omega))) only [go_sem, Nat.reduceAdd, Nat.reduceEqDiff, Nat.reduceLeDiff, Nat.reduceSub, e2]
          refine ⟨m ++ [_], by rw [List.map_append, List.length_append]; rfl, by simp, fun x hx => ?_⟩
          rcases List.mem_append.1 hx with hx | hx
          · exact hm x hx
          · simp only [List.mem_cons, List.not_mem_nil, or_false] at hx
            subst hx
            have h7 := shr_le (min (IntKind.u64.wrap (2 * (m.length : Int))).toNat 64) h4
            exact and_one h7.1 (by omega)
        · rintro s ⟨m, rfl, hml, hm⟩
          have hmg : goodM n.pl m = true := by
            simp only [goodM, Bool.and_eq_true, List.all_eq_true, inB, decide_eq_true_eq, beq_iff_eq]
            exact ⟨⟨by omega, by omega⟩, fun x hx => by have := hm x hx; omega⟩
          have hmk : marked n m = true := by simp [marked, hg, hmg]
          have t1 := impl_TotalOf_ok n.pl m (by omega)
          simp only [hmg, if_true] at t1
          have hkt' := fun l => hkt m l hkb (by omega) (fun x hx => (hm x hx).1)
          simp (maxSteps := 2000000) (disch := (first | omega | (simp only [List.length_append, List.length_take, List.length_replicate, List.length_map, List.length_set, List.length_cons, List.length_nil, List.length_zipWith, List.length_drop, List.length_range]; first | done | omega))) only [go_sem, Nat.reduceAdd, Nat.reduceEqDiff, Nat.reduceLeDiff, Nat.reduceSub, t1]
          refine W_for 10 (fun k s => ∃ l : List Int, s = ⟨[.any, bys b, .any, .ptr 0 0, .any, .any, .any, .any, .any, .any, .any, .any, .any, .any, .any, .any, .any, .any, .any, .any, .ref 1 1 0 m.length, .any, I (sumI m), .bool true, .ref 2 1 0 l.length, I k, .any, .any, .any, .any, .any, .any, .any, .any, .any, .any, .any, .any, .any, .any, .any, .any, .any, .any, .any, .any, .any, .any, .any, .any, .any, .any, .any, .any], [.box t_impl_Net [I n.pl, .ref 3 3 0 n.tr.length], .row t_int true 1 (m.map I), .row t_int true 1 (l.map I), .fro false 3 (n.tr.map encT)]⟩ ∧ l.length = k ∧ ∀ t ∈ l, 0 ≤ t ∧ t < n.tr.length) ?_ ?_ ?_
          · refine ⟨[], ?_, rfl, by simp⟩
            simp (maxSteps := 2000000) (disch := (first | omega | (simp only [List.length_append, List.length_take, List.length_replicate, List.length_map, List.length_set, List.length_cons, List.length_nil, List.length_zipWith, List.length_drop, List.length_range]; first | done | omega))) only [go_sem, Nat.reduceAdd, Nat.reduceEqDiff, Nat.reduceLeDiff, Nat.reduceSub]
            rfl
          · rintro k s hk ⟨l, rfl, rfl, hl⟩
            have hq0 : 0 ≤ z.tdiv (l.length + 1) := Int.tdiv_nonneg h4 (by omega)
            have hq1 : z.tdiv (l.length + 1) ≤ z := by
              rw [Int.tdiv_eq_ediv_of_nonneg h4]
              exact Int.ediv_le_self _ h4
            have hm0 : 0 ≤ (z.tdiv (l.length + 1)).tmod n.tr.length := Int.tmod_nonneg _ hq0
            have hm1 : (z.tdiv (l.length + 1)).tmod n.tr.length < n.tr.length := Int.tmod_lt_of_pos _ (by omega)
            simp (maxSteps := 2000000) (disch := (first | omega | (simp only [List.length_append, List.length_take, List.length_replicate, List.length_map, List.length_set, List.length_cons, List.length_nil, List.length_zipWith, List.length_drop, List.length_range]; first | done | omega))) only [go_sem, Nat.reduceAdd, Nat.reduceEqDiff, Nat.reduceLeDiff, Nat.reduceSub, e2]
            refine ⟨l ++ [(z.tdiv (l.length + 1)).tmod n.tr.length], ?_, by simp, fun t ht => ?_⟩
            · rw [List.map_append, List.length_append]; rfl
            · rcases List.mem_append.1 ht with ht | ht
              · exact hl t ht
              · simp only [List.mem_cons, List.not_mem_nil, or_false] at ht
                subst ht; exact ⟨hm0, hm1⟩
          · rintro s ⟨l, rfl, hl6, hl⟩
            have hlt : ∀ t ∈ l, 0 ≤ t ∧ t.toNat < n.tr.length := fun t ht => by have := hl t ht; omega
            have har : areTr n l = true := by
              simp only [areTr, Bool.and_eq_true, decide_eq_true_eq, List.all_eq_true, inB]
              exact ⟨by omega, fun t ht => by have := hl t ht; omega⟩
            obtain ⟨_, f1, X, rfl, hX⟩ := impl_FireAll_ok n m l hsn (by omega) (by omega)
            have hoks : okSeq n m l = true := by simp [okSeq, hmk, har]
            have hK6 := many_le n m l
            have hmx := fsq_marked (k := many n m l) hmk hK6 (fun j hj => many_ok hj (by omega))
            have hxl := fsq_len n m (l.take (many n m l))
            have hx5 := (goodM_len (marked_parts hmx).2).2.2.2.2
            simp only [hoks, if_true, true_and, forall_const] at f1 hX
            have hfin := hkt' (l.take (many n m l)) (fun x hx => (hx5 x hx).1) (fun t ht => hlt t (List.mem_of_mem_take ht))
            generalize hKe : many n m l = K at *
            generalize fsq n m (l.take K) = x at *
            generalize sumI m = S at *
            rcases hX with ⟨rfl, hK⟩ | ⟨rfl, hK⟩
            · simp (maxSteps := 2000000) (disch := (first | omega | (simp only [List.length_append, List.length_take, List.length_replicate, List.length_map, List.length_set, List.length_cons, List.length_nil, List.length_zipWith, List.length_drop, List.length_range]; first | done | omega))) only [go_sem, Nat.reduceAdd, Nat.reduceEqDiff, Nat.reduceLeDiff, Nat.reduceSub, f1]
              refine W_for x.length (fun j s => s = ⟨[.any, .any, .any, .any, .any, .any, .any, .any, .any, .any, .any, .any, .any, .any, .any, .any, .any, .any, .any, .any, .any, .any, I S, .any, .any, .any, .any, .any, .any, .any, .any, .any, .any, .any, .any, .any, .any, .any, .any, .any, .any, .any, .any, .any, .any, .any, .any, .any, .any, ints x, I x.length, I j, .any, .any], []⟩) ?_ ?_ ?_
              · simp (maxSteps := 2000000) (disch := (first | omega | (simp only [List.length_append, List.length_take, List.length_replicate, List.length_map, List.length_set, List.length_cons, List.length_nil, List.length_zipWith, List.length_drop, List.length_range]; first | done | omega))) only [go_sem, Nat.reduceAdd, Nat.reduceEqDiff, Nat.reduceLeDiff, Nat.reduceSub]
                rfl
              · rintro j s hj rfl
                have q := hfin _ (List.getElem_mem hj)
                simp (maxSteps := 2000000) (disch := (first | omega | (simp only [List.length_append, List.length_take, List.length_replicate, List.length_map, List.length_set, List.length_cons, List.length_nil, List.length_zipWith, List.length_drop, List.length_range]; first | done | omega))) only [go_sem, Nat.reduceAdd, Nat.reduceEqDiff, Nat.reduceLeDiff, Nat.reduceSub]
                first
                  | rfl
                  | exact ⟨fun h => absurd h (by omega), fun _ => rfl⟩
                  | trivial
              · rintro s rfl
                simp (maxSteps := 2000000) (disch := (first | omega | (simp only [List.length_append, List.length_take, List.length_replicate, List.length_map, List.length_set, List.length_cons, List.length_nil, List.length_zipWith, List.length_drop, List.length_range]; first | done | omega))) only [go_sem, Nat.reduceAdd, Nat.reduceEqDiff, Nat.reduceLeDiff, Nat.reduceSub]
                try trivial
            · simp (maxSteps := 2000000) (disch := (first | omega | (simp only [List.length_append, List.length_take, List.length_replicate, List.length_map, List.length_set, List.length_cons, List.length_nil, List.length_zipWith, List.length_drop, List.length_range]; first | done | omega))) only [go_sem, Nat.reduceAdd, Nat.reduceEqDiff, Nat.reduceLeDiff, Nat.reduceSub, f1]
              refine W_for x.length (fun j s => s = ⟨[.any, .any, .any, .any, .any, .any, .any, .any, .any, .any, .any, .any, .any, .any, .any, .any, .any, .any, .any, .any, .any, .any, I S, .any, .any, .any, .any, .any, .any, .any, .any, .any, .any, .any, .any, .any, .any, .any, .any, .any, .any, .any, .any, .any, .any, .any, .any, .any, .any, .ref 0 1 0 x.length, I x.length, I j, .any, .any], [.row t_int true 1 (x.map I)]⟩) ?_ ?_ ?_
              · simp (maxSteps := 2000000) (disch := (first | omega | (simp only [List.length_append, List.length_take, List.length_replicate, List.length_map, List.length_set, List.length_cons, List.length_nil, List.length_zipWith, List.length_drop, List.length_range]; first | done | omega))) only [go_sem, Nat.reduceAdd, Nat.reduceEqDiff, Nat.reduceLeDiff, Nat.reduceSub]
                rfl
              · rintro j s hj rfl
                have q := hfin _ (List.getElem_mem hj)
                simp (maxSteps := 2000000) (disch := (first | omega | (simp only [List.length_append, List.length_take, List.length_replicate, List.length_map, List.length_set, List.length_cons, List.length_nil, List.length_zipWith, List.length_drop, List.length_range]; first | done | omega))) only [go_sem, Nat.reduceAdd, Nat.reduceEqDiff, Nat.reduceLeDiff, Nat.reduceSub]
                first
                  | rfl
                  | exact ⟨fun h => absurd h (by omega), fun _ => rfl⟩
                  | trivial
              · rintro s rfl
                simp (maxSteps := 2000000) (disch := (first | omega | (simp only [List.length_append, List.length_take, List.length_replicate, List.length_map, List.length_set, List.length_cons, List.length_nil, List.length_zipWith, List.length_drop, List.length_range]; first | done | omega))) only [go_sem, Nat.reduceAdd, Nat.reduceEqDiff, Nat.reduceLeDiff, Nat.reduceSub]
                try trivial
end Go.Proofs.Ytldlbpdbbbajfaa.Pi
