/- The functions that the law reaches: what they answer. Conditions: those that each theorem names. -/
import Derived.Test.YtblolnhajgmbdaaIrFnLaidOut
import Derived.Test.YtblolnhajgmbdaaPlBase
import Derived.Test.YtblolnhajgmbdaaPlNet
import Derived.Test.YtblolnhajgmbdaaPlFire
import Derived.Test.YtblolnhajgmbdaaPlTurn
import Derived.Test.YtblolnhajgmbdaaPlBack
import Derived.Test.YtblolnhajgmbdaaPlFlow
import Derived.Test.YtblolnhajgmbdaaPlMask
import Derived.Test.YtblolnhajgmbdaaPlSpec
import Derived.Test.YtblolnhajgmbdaaPlArg
import Derived.Test.YtblolnhajgmbdaaPlDraw
import Derived.Test.YtblolnhajgmbdaaPlSiph
import Derived.Test.YtblolnhajgmbdaaPlKept
import Derived.Test.YtblolnhajgmbdaaFnFnLaidOut0
namespace Go.Proofs.Ytblolnhajgmbdaa.Pi
open Go
set_option linter.all false
set_option maxHeartbeats 40000000
set_option maxRecDepth 20000
theorem spec_l3Back_ok (n : Net) (p : Int) (hg : goodN n = true) (hp : 0 ≤ p ∧ p < n.pl) : C f_spec_l3Back [encN n, I p] [] = some (.tup [.un t_bool true 1 ((reachC n true p).pl.map PV.bool), .un t_bool true 1 ((reachC n true p).tr.map PV.bool)], []) := by
  have hb := goodN_parts hg
  have hlen := reachC_len n true p
  rw [reachC_eq] at hlen ⊢
  refine C_spec_l3Back ?_
  simp (maxSteps := 2000000) (disch := (first | omega | (simp only [List.length_append, List.length_take, List.length_replicate, List.length_map, List.length_set, List.length_cons, List.length_nil, List.length_zipWith, List.length_drop, List.length_range]; first | done | omega))) only [ir_spec_l3Back, go_sem, Nat.reduceAdd, Nat.reduceEqDiff, Nat.reduceLeDiff, Nat.reduceSub]
  simp (maxSteps := 2000000) (disch := (first | omega | (simp only [List.length_append, List.length_take, List.length_replicate, List.length_map, List.length_set, List.length_cons, List.length_nil, List.length_zipWith, List.length_drop, List.length_range]; first | done | omega))) only [go_sem, Nat.reduceAdd, Nat.reduceEqDiff, Nat.reduceLeDiff, Nat.reduceSub, List.getElem_replicate]
  generalize hR : clRun n true (cntF (List.replicate n.tr.length false) + 1) ⟨(List.replicate n.pl.toNat false).set p.toNat true, List.replicate n.tr.length false, true⟩ = R at *
  refine W_down (fun k s => ∃ c : Cl, c.pl.length = n.pl.toNat ∧ c.tr.length = n.tr.length ∧ ((k = cntF c.tr + 1 ∧ s = ⟨[.any, .any, .ptr 0 0, .any, .any, .ref 1 1 0 n.pl.toNat, .ref 2 1 0 n.tr.length, .bool true, .any, .any, .any, .any, .any, .any, .any, .any, .any, .any, .any, .any, .any, .any, .any, .any, .any, .any, .any], [.box t_impl_Net [I n.pl, trs n.tr], .row t_bool true 1 (c.pl.map PV.bool), .row t_bool true 1 (c.tr.map PV.bool)]⟩ ∧ clRun n true (cntF c.tr + 1) c = R) ∨ (k = 0 ∧ s = ⟨[.any, .any, .ptr 0 0, .any, .any, .ref 1 1 0 n.pl.toNat, .ref 2 1 0 n.tr.length, .bool false, .any, .any, .any, .any, .any, .any, .any, .any, .any, .any, .any, .any, .any, .any, .any, .any, .any, .any, .any], [.box t_impl_Net [I n.pl, trs n.tr], .row t_bool true 1 (c.pl.map PV.bool), .row t_bool true 1 (c.tr.map PV.bool)]⟩ ∧ c = R))) (cntF (List.replicate n.tr.length false) + 1) ?_ ?_
  · refine ⟨⟨(List.replicate n.pl.toNat false).set p.toNat true, List.replicate n.tr.length false, true⟩, by simp, by simp, .inl ⟨rfl, ?_, hR⟩⟩
    simp (maxSteps := 2000000) (disch := (first | omega | (simp only [List.length_append, List.length_take, List.length_replicate, List.length_map, List.length_set, List.length_cons, List.length_nil, List.length_zipWith, List.length_drop, List.length_range]; first | done | omega))) only [go_sem, Nat.reduceAdd, Nat.reduceEqDiff, Nat.reduceLeDiff, Nat.reduceSub]
    simp
  · rintro k0 s ⟨c, hc1, hc2, ⟨rfl, rfl, hc⟩ | ⟨rfl, rfl, rfl⟩⟩
    · have hcl := fun k => clK_len n true c k
      simp (maxSteps := 2000000) (disch := (first | omega | (simp only [List.length_append, List.length_take, List.length_replicate, List.length_map, List.length_set, List.length_cons, List.length_nil, List.length_zipWith, List.length_drop, List.length_range]; first | done | omega))) only [go_sem, Nat.reduceAdd, Nat.reduceEqDiff, Nat.reduceLeDiff, Nat.reduceSub]
      refine W_for n.tr.length (fun k s => s = ⟨[.any, .any, .ptr 0 0, .any, .any, .ref 1 1 0 n.pl.toNat, .ref 2 1 0 n.tr.length, .bool (clK n true c k).ch, .any, .any, .any, .any, .any, .any, trs n.tr, I n.tr.length, I k, .any, .any, .any, .any, .any, .any, .any, .any, .any, .any], [.box t_impl_Net [I n.pl, trs n.tr], .row t_bool true 1 ((clK n true c k).pl.map PV.bool), .row t_bool true 1 ((clK n true c k).tr.map PV.bool)]⟩) ?_ ?_ ?_
      · simp (maxSteps := 2000000) (disch := (first | omega | (simp only [List.length_append, List.length_take, List.length_replicate, List.length_map, List.length_set, List.length_cons, List.length_nil, List.length_zipWith, List.length_drop, List.length_range]; first | done | omega))) only [go_sem, Nat.reduceAdd, Nat.reduceEqDiff, Nat.reduceLeDiff, Nat.reduceSub]
        rfl
      · rintro k s hk rfl
        have hT := hb.2.2.2 _ (List.getElem_mem hk)
        have hLs := goodT_lens hT (by omega)
        obtain ⟨_, g1, g2, g3⟩ := goodT_parts hT
        have p1 := places_in g2
        have p2 := places_in g1
        have hd := hcl k
        have hstep := clK_succ n true c k
        have htr : n.tr[k] = trN n k := (trN_eq hk).symm
        rw [htr] at hLs p1 p2
        have s1 : (clK n true c k).tr.getD k false = true → clK n true c (k + 1) = clK n true c k := fun h => hstep.trans (clStep_no (.inl h))
        have s2 : hitB (clK n true c k).pl (sideI true (trN n k)) = false → clK n true c (k + 1) = clK n true c k := fun h => hstep.trans (clStep_no (.inr h))
        have s3 : (clK n true c k).tr.getD k false = false → hitB (clK n true c k).pl (sideI true (trN n k)) = true → clK n true c (k + 1) = ⟨markB (clK n true c k).pl (sideO true (trN n k)), (clK n true c k).tr.set k true, true⟩ := fun h h2 => hstep.trans (clStep_yes h h2)
        simp only [sideI, sideO, Bool.false_eq_true, if_false, if_true] at s2 s3
        clear hstep
        generalize clK n true c k = d at *
        generalize clK n true c (k + 1) = d' at *
        simp (maxSteps := 2000000) (disch := (first | omega | (simp only [List.length_append, List.length_take, List.length_replicate, List.length_map, List.length_set, List.length_cons, List.length_nil, List.length_zipWith, List.length_drop, List.length_range]; first | done | omega))) only [go_sem, Nat.reduceAdd, Nat.reduceEqDiff, Nat.reduceLeDiff, Nat.reduceSub]
        simp only [htr]
        generalize trN n k = tr at *
        refine W_for tr.out.length (fun j s => s = ⟨[.any, .any, .ptr 0 0, .any, .any, .ref 1 1 0 n.pl.toNat, .ref 2 1 0 n.tr.length, .bool d.ch, I k, .ptr 3 0, .bool ((tr.out.take j).any fun p => d.pl.getD p.toNat false), .any, .any, .any, trs n.tr, I n.tr.length, I k, .any, ints tr.out, I tr.out.length, I j, .any, .any, .any, .any, .any, .any], [.box t_impl_Net [I n.pl, trs n.tr], .row t_bool true 1 (d.pl.map PV.bool), .row t_bool true 1 (d.tr.map PV.bool), .box t_impl_Trans [ints tr.inn, ints tr.out, ints tr.rst]]⟩) ?_ ?_ ?_
        · simp (maxSteps := 2000000) (disch := (first | omega | (simp only [List.length_append, List.length_take, List.length_replicate, List.length_map, List.length_set, List.length_cons, List.length_nil, List.length_zipWith, List.length_drop, List.length_range]; first | done | omega))) only [go_sem, Nat.reduceAdd, Nat.reduceEqDiff, Nat.reduceLeDiff, Nat.reduceSub]
          rfl
        · rintro j s hj rfl
          have h1 := p1 _ (List.getElem_mem hj)
          have h2 : tr.out[j].toNat < d.pl.length := by omega
          simp (maxSteps := 2000000) (disch := (first | omega | (simp only [List.length_append, List.length_take, List.length_replicate, List.length_map, List.length_set, List.length_cons, List.length_nil, List.length_zipWith, List.length_drop, List.length_range]; first | done | omega))) only [go_sem, Nat.reduceAdd, Nat.reduceEqDiff, Nat.reduceLeDiff, Nat.reduceSub]
          refine ⟨fun h => ?_, fun h => ⟨fun h3 => ?_, fun h3 => ?_⟩⟩
          · rw [any_more hj h]; rfl
          · rw [any_here hj (by rw [← getD_eq h2]; exact h3)]; rfl
          · rw [any_take hj h (by rw [← getD_eq h2]; exact h3)]; rfl
        · rintro s rfl
          have hkd : k < d.tr.length := by omega
          simp (maxSteps := 2000000) (disch := (first | omega | (simp only [List.length_append, List.length_take, List.length_replicate, List.length_map, List.length_set, List.length_cons, List.length_nil, List.length_zipWith, List.length_drop, List.length_range]; first | done | omega))) only [go_sem, Nat.reduceAdd, Nat.reduceEqDiff, Nat.reduceLeDiff, Nat.reduceSub, List.take_length]
          refine ⟨fun h => ⟨fun h3 => ?_, fun h3 => ?_⟩, fun h => ?_⟩
          · rw [s1 (by rw [← getD_eq hkd]; exact h3)]; rfl
          · have e := s3 (by rw [← getD_eq hkd]; exact h3) h
            subst e
            refine W_for tr.inn.length (fun j s => s = ⟨[.any, .any, .ptr 0 0, .any, .any, .ref 1 1 0 n.pl.toNat, .ref 2 1 0 n.tr.length, .bool true, .any, .any, .any, .any, .any, .any, trs n.tr, I n.tr.length, I k, .any, .any, .any, .any, .any, .any, ints tr.inn, I tr.inn.length, I j, .any], [.box t_impl_Net [I n.pl, trs n.tr], .row t_bool true 1 ((markB d.pl (tr.inn.take j)).map PV.bool), .row t_bool true 1 ((d.tr.set k true).map PV.bool)]⟩) ?_ ?_ ?_
            · simp (maxSteps := 2000000) (disch := (first | omega | (simp only [List.length_append, List.length_take, List.length_replicate, List.length_map, List.length_set, List.length_cons, List.length_nil, List.length_zipWith, List.length_drop, List.length_range]; first | done | omega))) only [go_sem, Nat.reduceAdd, Nat.reduceEqDiff, Nat.reduceLeDiff, Nat.reduceSub]
              rfl
            · rintro j s hj rfl
              have h1 := p2 _ (List.getElem_mem hj)
              have h2 : tr.inn[j].toNat < d.pl.length := by omega
              have h4 := markB_len d.pl (tr.inn.take j)
              simp (maxSteps := 2000000) (disch := (first | omega | (simp only [List.length_append, List.length_take, List.length_replicate, List.length_map, List.length_set, List.length_cons, List.length_nil, List.length_zipWith, List.length_drop, List.length_range]; first | done | omega))) only [go_sem, Nat.reduceAdd, Nat.reduceEqDiff, Nat.reduceLeDiff, Nat.reduceSub]
              rw [markB_take hj]; rfl
            · rintro s rfl
              simp (maxSteps := 2000000) (disch := (first | omega | (simp only [List.length_append, List.length_take, List.length_replicate, List.length_map, List.length_set, List.length_cons, List.length_nil, List.length_zipWith, List.length_drop, List.length_range]; first | done | omega))) only [go_sem, Nat.reduceAdd, Nat.reduceEqDiff, Nat.reduceLeDiff, Nat.reduceSub, List.take_length]
              rfl
          · rw [s2 h]; rfl
      · rintro s rfl
        simp (maxSteps := 2000000) (disch := (first | omega | (simp only [List.length_append, List.length_take, List.length_replicate, List.length_map, List.length_set, List.length_cons, List.length_nil, List.length_zipWith, List.length_drop, List.length_range]; first | done | omega))) only [go_sem, Nat.reduceAdd, Nat.reduceEqDiff, Nat.reduceLeDiff, Nat.reduceSub]
        have hn := clRun_next (n := n) (bk := true) hc2
        rw [hc] at hn
        cases e : (clRound n true c).ch with
        | true =>
          have h1 := (clK_cnt (n := n) (bk := true) (s := c) (k := n.tr.length) (by omega)).2 e
          simp only [e, if_true] at hn
          refine ⟨cntF (clRound n true c).tr + 1, by unfold clRound; omega, clRound n true c, by unfold clRound; have := hcl n.tr.length; omega, by unfold clRound; have := hcl n.tr.length; omega, .inl ⟨rfl, ?_, hn.symm⟩⟩
          unfold clRound at e ⊢
          rw [e]
        | false =>
          simp only [e, Bool.false_eq_true, if_false] at hn
          refine ⟨0, by omega, clRound n true c, by unfold clRound; have := hcl n.tr.length; omega, by unfold clRound; have := hcl n.tr.length; omega, .inr ⟨rfl, ?_, hn.symm⟩⟩
          unfold clRound at e ⊢
          rw [e]
    · simp (maxSteps := 2000000) (disch := (first | omega | (simp only [List.length_append, List.length_take, List.length_replicate, List.length_map, List.length_set, List.length_cons, List.length_nil, List.length_zipWith, List.length_drop, List.length_range]; first | done | omega))) only [go_sem, Nat.reduceAdd, Nat.reduceEqDiff, Nat.reduceLeDiff, Nat.reduceSub]
theorem spec_l3Both_ok (a b : List Bool) (ha : a.length < 2^30) (hab : a.length ≤ b.length) : C f_spec_l3Both [bls a, bls b] [] = some (.un t_int true 1 ((bothL a b).map I), []) := by
  refine C_spec_l3Both ?_
  simp (maxSteps := 2000000) (disch := (first | omega | (simp only [List.length_append, List.length_take, List.length_replicate, List.length_map, List.length_set, List.length_cons, List.length_nil, List.length_zipWith, List.length_drop, List.length_range]; first | done | omega))) only [ir_spec_l3Both, go_sem, Nat.reduceAdd, Nat.reduceEqDiff, Nat.reduceLeDiff, Nat.reduceSub]
  refine W_for a.length (fun k s => s = ⟨[bls a, bls b, .any, .ref 0 1 0 (bothK a b k).length, .any, I a.length, I k, .any, .any], [.row t_int true 1 ((bothK a b k).map I)]⟩) ?_ ?_ ?_
  · simp (maxSteps := 2000000) (disch := (first | omega | (simp only [List.length_append, List.length_take, List.length_replicate, List.length_map, List.length_set, List.length_cons, List.length_nil, List.length_zipWith, List.length_drop, List.length_range]; first | done | omega))) only [go_sem, Nat.reduceAdd, Nat.reduceEqDiff, Nat.reduceLeDiff, Nat.reduceSub]
    rfl
  · rintro k s hk rfl
    have h2 := bothK_len a b k
    have hkb : k < b.length := by omega
    have e1 := getD_eq hk
    have e2 := getD_eq hkb
    simp (maxSteps := 2000000) (disch := (first | omega | (simp only [List.length_append, List.length_take, List.length_replicate, List.length_map, List.length_set, List.length_cons, List.length_nil, List.length_zipWith, List.length_drop, List.length_range]; first | done | omega))) only [go_sem, Nat.reduceAdd, Nat.reduceEqDiff, Nat.reduceLeDiff, Nat.reduceSub]
    rw [e1, e2]
    refine ⟨fun h => ⟨fun h3 => ?_, fun h3 => ?_⟩, fun h => ?_⟩
    · rw [bothK_t h h3, List.map_append]; simp
    · rw [bothK_f (by rw [h, h3]; rfl)]; rfl
    · rw [bothK_f (by rw [h]; rfl)]; rfl
  · rintro s rfl
    simp (maxSteps := 2000000) (disch := (first | omega | (simp only [List.length_append, List.length_take, List.length_replicate, List.length_map, List.length_set, List.length_cons, List.length_nil, List.length_zipWith, List.length_drop, List.length_range]; first | done | omega))) only [go_sem, Nat.reduceAdd, Nat.reduceEqDiff, Nat.reduceLeDiff, Nat.reduceSub]
    rfl
theorem spec_OnWay_ok (n : Net) (a b : Int) (hn : smN n) : C f_spec_OnWay [encN n, I a, I b] [] = some (.tup [.un t_int true 1 ((if okWay n a b then wayP n a b else []).map I), .un t_int true 1 ((if okWay n a b then wayT n a b else []).map I), .bool (okWay n a b)], []) := by
  refine C_spec_OnWay ?_
  simp (maxSteps := 2000000) (disch := (first | omega | (simp only [List.length_append, List.length_take, List.length_replicate, List.length_map, List.length_set, List.length_cons, List.length_nil, List.length_zipWith, List.length_drop, List.length_range]; first | done | omega))) only [ir_spec_OnWay, go_sem, Nat.reduceAdd, Nat.reduceEqDiff, Nat.reduceLeDiff, Nat.reduceSub]
  simp (maxSteps := 2000000) (disch := (first | omega | (simp only [List.length_append, List.length_take, List.length_replicate, List.length_map, List.length_set, List.length_cons, List.length_nil, List.length_zipWith, List.length_drop, List.length_range]; first | done | omega))) only [go_sem, Nat.reduceAdd, Nat.reduceEqDiff, Nat.reduceLeDiff, Nat.reduceSub, spec_GoodNet_ok n hn, spec_l1In_ok]
  cases hg : goodN n with
  | false => simp [okWay, hg]
  | true =>
    have hb := goodN_parts hg
    cases h1 : inB 0 (n.pl - 1) a with
    | false => simp (maxSteps := 2000000) (disch := (first | omega | (simp only [List.length_append, List.length_take, List.length_replicate, List.length_map, List.length_set, List.length_cons, List.length_nil, List.length_zipWith, List.length_drop, List.length_range]; first | done | omega))) only [go_sem, Nat.reduceAdd, Nat.reduceEqDiff, Nat.reduceLeDiff, Nat.reduceSub, h1]; simp [okWay, hg, h1]
    | true =>
      cases h2 : inB 0 (n.pl - 1) b with
      | false => simp (maxSteps := 2000000) (disch := (first | omega | (simp only [List.length_append, List.length_take, List.length_replicate, List.length_map, List.length_set, List.length_cons, List.length_nil, List.length_zipWith, List.length_drop, List.length_range]; first | done | omega))) only [go_sem, Nat.reduceAdd, Nat.reduceEqDiff, Nat.reduceLeDiff, Nat.reduceSub, h1, h2]; simp [okWay, hg, h1, h2]
      | true =>
        have hok : okWay n a b = true := by simp [okWay, hg, h1, h2]
        have ha : 0 ≤ a ∧ a < n.pl := by simp [inB] at h1; omega
        have hb2 : 0 ≤ b ∧ b < n.pl := by simp [inB] at h2; omega
        have l1 := reachC_len n false a
        have l2 := reachC_len n true b
        simp (maxSteps := 2000000) (disch := (first | omega | (simp only [List.length_append, List.length_take, List.length_replicate, List.length_map, List.length_set, List.length_cons, List.length_nil, List.length_zipWith, List.length_drop, List.length_range]; first | done | omega))) only [go_sem, Nat.reduceAdd, Nat.reduceEqDiff, Nat.reduceLeDiff, Nat.reduceSub, h1, h2, spec_l3Forward_ok n a hg ha, spec_l3Back_ok n b hg hb2, hok]
        simp (maxSteps := 2000000) (disch := (first | omega | (simp only [List.length_append, List.length_take, List.length_replicate, List.length_map, List.length_set, List.length_cons, List.length_nil, List.length_zipWith, List.length_drop, List.length_range]; first | done | omega))) only [go_sem, Nat.reduceAdd, Nat.reduceEqDiff, Nat.reduceLeDiff, Nat.reduceSub, spec_l3Both_ok (reachC n false a).pl (reachC n true b).pl (by omega) (by omega), spec_l3Both_ok (reachC n false a).tr (reachC n true b).tr (by omega) (by omega)]
        rfl
theorem spec_GoodFlow_ok (f : Fl) (hf : smN f.net) : C f_spec_GoodFlow [encF f] [] = some (.bool (goodFl f), []) := by
  have hl := hf.1
  have hw := spec_OnWay_ok f.net f.src f.dst hf
  have hP : (wayP f.net f.src f.dst).length < 2^62 ∨ goodN f.net = false := by
    cases hg : goodN f.net with
    | false => exact .inr rfl
    | true =>
      have := goodN_parts hg
      have h1 := bothK_len (reachC f.net false f.src).pl (reachC f.net true f.dst).pl (reachC f.net false f.src).pl.length
      have h2 := reachC_len f.net false f.src
      exact .inl (by unfold wayP bothL; omega)
  have hT : (wayT f.net f.src f.dst).length < 2^62 := by
    have h1 := bothK_len (reachC f.net false f.src).tr (reachC f.net true f.dst).tr (reachC f.net false f.src).tr.length
    have h2 := reachC_len f.net false f.src
    unfold wayT bothL; omega
  refine C_spec_GoodFlow ?_
  simp (maxSteps := 2000000) (disch := (first | omega | (simp only [List.length_append, List.length_take, List.length_replicate, List.length_map, List.length_set, List.length_cons, List.length_nil, List.length_zipWith, List.length_drop, List.length_range]; first | done | omega))) only [ir_spec_GoodFlow, go_sem, Nat.reduceAdd, Nat.reduceEqDiff, Nat.reduceLeDiff, Nat.reduceSub]
  cases hok : okWay f.net f.src f.dst with
  | false =>
    simp only [hok] at hw
    simp (maxSteps := 2000000) (disch := (first | omega | (simp only [List.length_append, List.length_take, List.length_replicate, List.length_map, List.length_set, List.length_cons, List.length_nil, List.length_zipWith, List.length_drop, List.length_range]; first | done | omega))) only [go_sem, Nat.reduceAdd, Nat.reduceEqDiff, Nat.reduceLeDiff, Nat.reduceSub, hw]
    simp [goodFl, hok]
  | true =>
    have hg : goodN f.net = true := by simp only [okWay, Bool.and_eq_true] at hok; exact hok.1.1
    have hb := goodN_parts hg
    have hP : (wayP f.net f.src f.dst).length < 2^62 := by
      rcases hP with h | h
      · exact h
      · rw [hg] at h; cases h
    simp only [hok, if_true] at hw
    simp (maxSteps := 2000000) (disch := (first | omega | (simp only [List.length_append, List.length_take, List.length_replicate, List.length_map, List.length_set, List.length_cons, List.length_nil, List.length_zipWith, List.length_drop, List.length_range]; first | done | omega))) only [go_sem, Nat.reduceAdd, Nat.reduceEqDiff, Nat.reduceLeDiff, Nat.reduceSub, hw]
    refine ⟨fun h => by simp [goodFl, h], fun h => ⟨fun h2 => by simp [goodFl, h2], fun h2 => ⟨fun h3 => ?_, fun h3 => ?_⟩⟩⟩
    · have : ¬ (wayT f.net f.src f.dst).length = f.net.tr.length := by omega
      simp [goodFl, this]
    refine W_for f.net.tr.length (fun k s => s = ⟨[.any, .ptr 0 0, .any, .any, .any, .any, .any, .any, trs f.net.tr, I f.net.tr.length, I k, .any, .any], [.box t_impl_Flow [I f.net.pl, trs f.net.tr, I f.src, I f.dst]]⟩ ∧ (f.net.tr.take k).all (fun t => !spoils f t) = true) ?_ ?_ ?_
    · simp (maxSteps := 2000000) (disch := (first | omega | (simp only [List.length_append, List.length_take, List.length_replicate, List.length_map, List.length_set, List.length_cons, List.length_nil, List.length_zipWith, List.length_drop, List.length_range]; first | done | omega))) only [go_sem, Nat.reduceAdd, Nat.reduceEqDiff, Nat.reduceLeDiff, Nat.reduceSub]
      rfl
    · rintro k s hk ⟨rfl, hall⟩
      have hT := hb.2.2.2 _ (List.getElem_mem hk)
      have hLs := goodT_lens hT (by omega)
      simp (maxSteps := 2000000) (disch := (first | omega | (simp only [List.length_append, List.length_take, List.length_replicate, List.length_map, List.length_set, List.length_cons, List.length_nil, List.length_zipWith, List.length_drop, List.length_range]; first | done | omega))) only [go_sem, Nat.reduceAdd, Nat.reduceEqDiff, Nat.reduceLeDiff, Nat.reduceSub, spec_l1Has_ok]
      have gs : spoils f f.net.tr[k] = true → goodFl f = false := fun hs => by
        have : (f.net.tr.all fun t => !spoils f t) = false := all_false hk (by simp [hs])
        simp [goodFl, this]
      exact ⟨fun a => by rw [gs (by simp [spoils, a])], fun a => ⟨fun b => by rw [gs (by simp [spoils, b])], fun b => ⟨fun c => by rw [gs (by simp [spoils, c])], fun c => ⟨fun d => by rw [gs (by simp [spoils, d])], fun d => ⟨rfl, all_take hk hall (by simp [spoils, a, b, c, d])⟩⟩⟩⟩⟩
    · rintro s ⟨rfl, hall⟩
      simp (maxSteps := 2000000) (disch := (first | omega | (simp only [List.length_append, List.length_take, List.length_replicate, List.length_map, List.length_set, List.length_cons, List.length_nil, List.length_zipWith, List.length_drop, List.length_range]; first | done | omega))) only [go_sem, Nat.reduceAdd, Nat.reduceEqDiff, Nat.reduceLeDiff, Nat.reduceSub]
      rw [List.take_length] at hall
      have h4 : (wayT f.net f.src f.dst).length = f.net.tr.length := by omega
      simp [goodFl, hok, h, h2, h4]
      simpa using hall
theorem spec_GoodSpec_ok (s : Spc) (hs : smSpc s) : C f_spec_GoodSpec [encS s] [] = some (.bool (goodS s), []) := by
  obtain ⟨hl, ht⟩ := hs
  refine C_spec_GoodSpec ?_
  simp (maxSteps := 2000000) (disch := (first | omega | (simp only [List.length_append, List.length_take, List.length_replicate, List.length_map, List.length_set, List.length_cons, List.length_nil, List.length_zipWith, List.length_drop, List.length_range]; first | done | omega))) only [ir_spec_GoodSpec, go_sem, Nat.reduceAdd, Nat.reduceEqDiff, Nat.reduceLeDiff, Nat.reduceSub]
  simp (maxSteps := 2000000) (disch := (first | omega | (simp only [List.length_append, List.length_take, List.length_replicate, List.length_map, List.length_set, List.length_cons, List.length_nil, List.length_zipWith, List.length_drop, List.length_range]; first | done | omega))) only [go_sem, Nat.reduceAdd, Nat.reduceEqDiff, Nat.reduceLeDiff, Nat.reduceSub, spec_l1In_ok]
  refine ⟨fun h1 => ⟨fun h2 => ?_, fun h2 => by simp [goodS, okTasks, h2]⟩, fun h1 => by simp [goodS, okTasks, h1]⟩
  have hc : 2 ≤ s.conds ∧ s.conds ≤ 8 := by simpa [inB] using h1
  have hn : 1 ≤ s.tasks.length ∧ s.tasks.length ≤ 6 := by simp [inB] at h2; omega
  refine W_for s.tasks.length (fun i st => st = ⟨[.any, .ptr 0 0, .any, .any, .any, .any, I s.tasks.length, I i, .any, .any], [.box t_impl_Spec [I s.conds, tks s.tasks]]⟩ ∧ ∀ k, k < i → goodK s k (tkN s k) = true) ?_ ?_ ?_
  · simp (maxSteps := 2000000) (disch := (first | omega | (simp only [List.length_append, List.length_take, List.length_replicate, List.length_map, List.length_set, List.length_cons, List.length_nil, List.length_zipWith, List.length_drop, List.length_range]; first | done | omega))) only [go_sem, Nat.reduceAdd, Nat.reduceEqDiff, Nat.reduceLeDiff, Nat.reduceSub]
    exact ⟨rfl, fun k hk => by omega⟩
  · rintro i st hi ⟨rfl, hall⟩
    have hT := spec_l13Task_ok s i hi hn.2 hc (ht _ (List.getElem_mem hi))
    rw [← tkN_eq hi] at hT
    simp (maxSteps := 2000000) (disch := (first | omega | (simp only [List.length_append, List.length_take, List.length_replicate, List.length_map, List.length_set, List.length_cons, List.length_nil, List.length_zipWith, List.length_drop, List.length_range]; first | done | omega))) only [go_sem, Nat.reduceAdd, Nat.reduceEqDiff, Nat.reduceLeDiff, Nat.reduceSub, hT]
    refine ⟨fun h => ⟨rfl, fun k hk => ?_⟩, fun h => ?_⟩
    · rcases Nat.lt_or_ge k i with h5 | h5
      · exact hall k h5
      · rw [show k = i by omega]; exact h
    · have : okTasks s = false := by
        rw [Bool.eq_false_iff]
        intro he
        have := (okTasks_parts he).2.2 i hi
        rw [h] at this; cases this
      simp [goodS, this]
  · rintro st ⟨rfl, hall⟩
    have hok : okTasks s = true := by
      simp only [okTasks, h1, h2, Bool.true_and, List.all_eq_true, List.mem_range]
      exact hall
    have hf := spec_l13Lay_ok s hok
    have hg := spec_GoodFlow_ok (flS s) (flS_sm hok)
    have e : (trS s).length = (mvS s).length := trU_len s s.tasks.length
    have h3 := mvU_len hok s.tasks.length (by omega)
    have h4 : (mvS s).length ≤ 60 := by unfold mvS; omega
    unfold encF flS at hg
    simp only at hg
    simp (maxSteps := 2000000) (disch := (first | omega | (simp only [List.length_append, List.length_take, List.length_replicate, List.length_map, List.length_set, List.length_cons, List.length_nil, List.length_zipWith, List.length_drop, List.length_range]; first | done | omega))) only [go_sem, Nat.reduceAdd, Nat.reduceEqDiff, Nat.reduceLeDiff, Nat.reduceSub, hf, hg]
    simp [goodS, hok, flS]
theorem spec_SpecFlow_ok (s : Spc) (hs : smSpc s) (hg : goodS s = true) : C f_spec_SpecFlow [encS s] [] = some (.tup [.agg [I (flS s).net.pl, .un t_impl_Trans false 3 ((flS s).net.tr.map encT), I 0, I 1], .bool true], []) := by
  have hG := spec_GoodSpec_ok s hs
  have hf := spec_l13Lay_ok s (goodS_ok hg)
  refine C_spec_SpecFlow ?_
  simp (maxSteps := 2000000) (disch := (first | omega | (simp only [List.length_append, List.length_take, List.length_replicate, List.length_map, List.length_set, List.length_cons, List.length_nil, List.length_zipWith, List.length_drop, List.length_range]; first | done | omega))) only [ir_spec_SpecFlow, go_sem, Nat.reduceAdd, Nat.reduceEqDiff, Nat.reduceLeDiff, Nat.reduceSub]
  simp (maxSteps := 2000000) (disch := (first | omega | (simp only [List.length_append, List.length_take, List.length_replicate, List.length_map, List.length_set, List.length_cons, List.length_nil, List.length_zipWith, List.length_drop, List.length_range]; first | done | omega))) only [go_sem, Nat.reduceAdd, Nat.reduceEqDiff, Nat.reduceLeDiff, Nat.reduceSub, hG, hg, hf]
  rfl
theorem spec_SpecFlow_no (s : Spc) (hs : smSpc s) (hg : goodS s = false) : C f_spec_SpecFlow [encS s] [] = some (.tup [.agg [I 0, .nil false 3, I 0, I 0], .bool false], []) := by
  have hG := spec_GoodSpec_ok s hs
  refine C_spec_SpecFlow ?_
  simp (maxSteps := 2000000) (disch := (first | omega | (simp only [List.length_append, List.length_take, List.length_replicate, List.length_map, List.length_set, List.length_cons, List.length_nil, List.length_zipWith, List.length_drop, List.length_range]; first | done | omega))) only [ir_spec_SpecFlow, go_sem, Nat.reduceAdd, Nat.reduceEqDiff, Nat.reduceLeDiff, Nat.reduceSub]
  simp (maxSteps := 2000000) (disch := (first | omega | (simp only [List.length_append, List.length_take, List.length_replicate, List.length_map, List.length_set, List.length_cons, List.length_nil, List.length_zipWith, List.length_drop, List.length_range]; first | done | omega))) only [go_sem, Nat.reduceAdd, Nat.reduceEqDiff, Nat.reduceLeDiff, Nat.reduceSub, hG, hg]
theorem impl_MovesOf_ok (s : Spc) (hs : smSpc s) : C f_impl_MovesOf [encS s] [] = some (.tup [.un t_impl_Move true 3 ((if goodS s = true then mvS s else []).map encM), .bool (goodS s)], []) := by
  have hG := impl_isSpec_ok s hs
  refine C_impl_MovesOf ?_
  simp (maxSteps := 2000000) (disch := (first | omega | (simp only [List.length_append, List.length_take, List.length_replicate, List.length_map, List.length_set, List.length_cons, List.length_nil, List.length_zipWith, List.length_drop, List.length_range]; first | done | omega))) only [ir_impl_MovesOf, go_sem, Nat.reduceAdd, Nat.reduceEqDiff, Nat.reduceLeDiff, Nat.reduceSub]
  cases hg : goodS s with
  | false => simp (maxSteps := 2000000) (disch := (first | omega | (simp only [List.length_append, List.length_take, List.length_replicate, List.length_map, List.length_set, List.length_cons, List.length_nil, List.length_zipWith, List.length_drop, List.length_range]; first | done | omega))) only [go_sem, Nat.reduceAdd, Nat.reduceEqDiff, Nat.reduceLeDiff, Nat.reduceSub, hG, hg]
  | true =>
    have hO := impl_movesOf_ok s (goodS_ok hg)
    simp (maxSteps := 2000000) (disch := (first | omega | (simp only [List.length_append, List.length_take, List.length_replicate, List.length_map, List.length_set, List.length_cons, List.length_nil, List.length_zipWith, List.length_drop, List.length_range]; first | done | omega))) only [go_sem, Nat.reduceAdd, Nat.reduceEqDiff, Nat.reduceLeDiff, Nat.reduceSub, hG, hg, hO]
theorem spec_MovesOf_ok (s : Spc) (hs : smSpc s) : C f_spec_MovesOf [encS s] [] = some (.tup [.un t_impl_Move true 3 ((if goodS s = true then mvS s else []).map encM), .bool (goodS s)], []) := by
  have hG := spec_GoodSpec_ok s hs
  refine C_spec_MovesOf ?_
  simp (maxSteps := 2000000) (disch := (first | omega | (simp only [List.length_append, List.length_take, List.length_replicate, List.length_map, List.length_set, List.length_cons, List.length_nil, List.length_zipWith, List.length_drop, List.length_range]; first | done | omega))) only [ir_spec_MovesOf, go_sem, Nat.reduceAdd, Nat.reduceEqDiff, Nat.reduceLeDiff, Nat.reduceSub]
  cases hg : goodS s with
  | false => simp (maxSteps := 2000000) (disch := (first | omega | (simp only [List.length_append, List.length_take, List.length_replicate, List.length_map, List.length_set, List.length_cons, List.length_nil, List.length_zipWith, List.length_drop, List.length_range]; first | done | omega))) only [go_sem, Nat.reduceAdd, Nat.reduceEqDiff, Nat.reduceLeDiff, Nat.reduceSub, hG, hg]
  | true =>
    have hok := goodS_ok hg
    have hlay := spec_l13Lay_ok s hok
    have h2 := mvU_len hok s.tasks.length (by omega)
    have h3 : (mvS s).length ≤ 60 := by have := (okTasks_parts hok).2.1; unfold mvS; omega
    simp (maxSteps := 2000000) (disch := (first | omega | (simp only [List.length_append, List.length_take, List.length_replicate, List.length_map, List.length_set, List.length_cons, List.length_nil, List.length_zipWith, List.length_drop, List.length_range]; first | done | omega))) only [go_sem, Nat.reduceAdd, Nat.reduceEqDiff, Nat.reduceLeDiff, Nat.reduceSub, hG, hg, hlay]
theorem laws_sameInts_ok (a b : List Int) (hl : a.length < 2^62) : C f_laws_sameInts [ints a, ints b] [] = some (.bool (decide (a = b)), []) := by
  refine C_laws_sameInts ?_
  simp (maxSteps := 2000000) (disch := (first | omega | (simp only [List.length_append, List.length_take, List.length_replicate, List.length_map, List.length_set, List.length_cons, List.length_nil, List.length_zipWith, List.length_drop, List.length_range]; first | done | omega))) only [ir_laws_sameInts, go_sem, Nat.reduceAdd, Nat.reduceEqDiff, Nat.reduceLeDiff, Nat.reduceSub]
  refine ⟨fun h => ?_, fun h => ?_⟩
  · have : a ≠ b := fun e => h (by rw [e])
    simp [this]
  refine W_for a.length (fun k s => s = ⟨[ints a, ints b, .any, .any, .any, I a.length, I k, .any, .any], []⟩ ∧ a.take k = b.take k) ?_ ?_ ?_
  · simp (maxSteps := 2000000) (disch := (first | omega | (simp only [List.length_append, List.length_take, List.length_replicate, List.length_map, List.length_set, List.length_cons, List.length_nil, List.length_zipWith, List.length_drop, List.length_range]; first | done | omega))) only [go_sem, Nat.reduceAdd, Nat.reduceEqDiff, Nat.reduceLeDiff, Nat.reduceSub]
    rfl
  · rintro k s hk ⟨rfl, hall⟩
    simp (maxSteps := 2000000) (disch := (first | omega | (simp only [List.length_append, List.length_take, List.length_replicate, List.length_map, List.length_set, List.length_cons, List.length_nil, List.length_zipWith, List.length_drop, List.length_range]; first | done | omega))) only [go_sem, Nat.reduceAdd, Nat.reduceEqDiff, Nat.reduceLeDiff, Nat.reduceSub]
    refine ⟨fun h => ?_, fun h => ⟨rfl, ?_⟩⟩
    · have : a ≠ b := fun e => h (by simp [e])
      simp [this]
    · rw [take_snoc hk, take_snoc (show k < b.length by omega), hall, h]
  · rintro s ⟨rfl, hall⟩
    simp (maxSteps := 2000000) (disch := (first | omega | (simp only [List.length_append, List.length_take, List.length_replicate, List.length_map, List.length_set, List.length_cons, List.length_nil, List.length_zipWith, List.length_drop, List.length_range]; first | done | omega))) only [go_sem, Nat.reduceAdd, Nat.reduceEqDiff, Nat.reduceLeDiff, Nat.reduceSub]
    rw [List.take_length, List.take_of_length_le (by omega)] at hall
    simp [hall]
theorem laws_sameNet_ok (n : Net) (hn : smN n) : C f_laws_sameNet [encN n, encN n] [] = some (.bool true, []) := by
  have h0 := hn.1
  refine C_laws_sameNet ?_
  simp (maxSteps := 2000000) (disch := (first | omega | (simp only [List.length_append, List.length_take, List.length_replicate, List.length_map, List.length_set, List.length_cons, List.length_nil, List.length_zipWith, List.length_drop, List.length_range]; first | done | omega))) only [ir_laws_sameNet, go_sem, Nat.reduceAdd, Nat.reduceEqDiff, Nat.reduceLeDiff, Nat.reduceSub]
  refine W_for n.tr.length (fun k s => s = ⟨[.any, .any, .any, .ptr 0 0, .any, .any, .any, .any, .any, trs n.tr, I n.tr.length, I k, .any, .any], [.box t_impl_Net [I n.pl, trs n.tr]]⟩) ?_ ?_ ?_
  · simp (maxSteps := 2000000) (disch := (first | omega | (simp only [List.length_append, List.length_take, List.length_replicate, List.length_map, List.length_set, List.length_cons, List.length_nil, List.length_zipWith, List.length_drop, List.length_range]; first | done | omega))) only [go_sem, Nat.reduceAdd, Nat.reduceEqDiff, Nat.reduceLeDiff, Nat.reduceSub]
    rfl
  · rintro k s hk rfl
    obtain ⟨h3, h4, h5⟩ := hn.2 _ (List.getElem_mem hk)
    simp (maxSteps := 2000000) (disch := (first | omega | (simp only [List.length_append, List.length_take, List.length_replicate, List.length_map, List.length_set, List.length_cons, List.length_nil, List.length_zipWith, List.length_drop, List.length_range]; first | done | omega))) only [go_sem, Nat.reduceAdd, Nat.reduceEqDiff, Nat.reduceLeDiff, Nat.reduceSub, laws_sameInts_ok]
    rfl
  · rintro s rfl
    simp (maxSteps := 2000000) (disch := (first | omega | (simp only [List.length_append, List.length_take, List.length_replicate, List.length_map, List.length_set, List.length_cons, List.length_nil, List.length_zipWith, List.length_drop, List.length_range]; first | done | omega))) only [go_sem, Nat.reduceAdd, Nat.reduceEqDiff, Nat.reduceLeDiff, Nat.reduceSub]
theorem laws_sameFlow_ok (f : Fl) (hn : smN f.net) : C f_laws_sameFlow [encF f, encF f] [] = some (.bool true, []) := by
  have h := laws_sameNet_ok f.net hn
  refine C_laws_sameFlow ?_
  simp (maxSteps := 2000000) (disch := (first | omega | (simp only [List.length_append, List.length_take, List.length_replicate, List.length_map, List.length_set, List.length_cons, List.length_nil, List.length_zipWith, List.length_drop, List.length_range]; first | done | omega))) only [ir_laws_sameFlow, go_sem, Nat.reduceAdd, Nat.reduceEqDiff, Nat.reduceLeDiff, Nat.reduceSub]
  simp (maxSteps := 2000000) (disch := (first | omega | (simp only [List.length_append, List.length_take, List.length_replicate, List.length_map, List.length_set, List.length_cons, List.length_nil, List.length_zipWith, List.length_drop, List.length_range]; first | done | omega))) only [go_sem, Nat.reduceAdd, Nat.reduceEqDiff, Nat.reduceLeDiff, Nat.reduceSub, h]
theorem laws_sameMoves_ok (a : List Mv) (ha : a.length < 2^62) : C f_laws_sameMoves [.sl true 3 (a.map encM), .sl true 3 (a.map encM)] [] = some (.bool true, []) := by
  refine C_laws_sameMoves ?_
  simp (maxSteps := 2000000) (disch := (first | omega | (simp only [List.length_append, List.length_take, List.length_replicate, List.length_map, List.length_set, List.length_cons, List.length_nil, List.length_zipWith, List.length_drop, List.length_range]; first | done | omega))) only [ir_laws_sameMoves, go_sem, Nat.reduceAdd, Nat.reduceEqDiff, Nat.reduceLeDiff, Nat.reduceSub]
  refine W_for a.length (fun k s => s = ⟨[.sl true 3 (a.map encM), .sl true 3 (a.map encM), .any, .any, .any, I a.length, I k, .any, .any], []⟩) ?_ ?_ ?_
  · simp (maxSteps := 2000000) (disch := (first | omega | (simp only [List.length_append, List.length_take, List.length_replicate, List.length_map, List.length_set, List.length_cons, List.length_nil, List.length_zipWith, List.length_drop, List.length_range]; first | done | omega))) only [go_sem, Nat.reduceAdd, Nat.reduceEqDiff, Nat.reduceLeDiff, Nat.reduceSub]
    rfl
  · rintro k s hk rfl
    have hlk : a[k]? = some a[k] := List.getElem?_eq_getElem hk
    generalize a[k] = m at *
    obtain ⟨mt, mb, mp⟩ := m
    cases mb with
    | true =>
      simp (maxSteps := 2000000) (disch := (first | omega | (simp only [List.length_append, List.length_take, List.length_replicate, List.length_map, List.length_set, List.length_cons, List.length_nil, List.length_zipWith, List.length_drop, List.length_range]; first | done | omega))) only [go_sem, Nat.reduceAdd, Nat.reduceEqDiff, Nat.reduceLeDiff, Nat.reduceSub, hlk, eqL, eq1, beq_self_eq_true]
      rfl
    | false =>
      simp (maxSteps := 2000000) (disch := (first | omega | (simp only [List.length_append, List.length_take, List.length_replicate, List.length_map, List.length_set, List.length_cons, List.length_nil, List.length_zipWith, List.length_drop, List.length_range]; first | done | omega))) only [go_sem, Nat.reduceAdd, Nat.reduceEqDiff, Nat.reduceLeDiff, Nat.reduceSub, hlk, eqL, eq1, beq_self_eq_true]
      rfl
  · rintro s rfl
    simp (maxSteps := 2000000) (disch := (first | omega | (simp only [List.length_append, List.length_take, List.length_replicate, List.length_map, List.length_set, List.length_cons, List.length_nil, List.length_zipWith, List.length_drop, List.length_range]; first | done | omega))) only [go_sem, Nat.reduceAdd, Nat.reduceEqDiff, Nat.reduceLeDiff, Nat.reduceSub]
theorem impl_GoodSpec_ok (s : Spc) (hs : smSpc s) : C f_impl_GoodSpec [encS s] [] = some (.bool (goodS s), []) := by
  refine C_impl_GoodSpec ?_
  simp (maxSteps := 2000000) (disch := (first | omega | (simp only [List.length_append, List.length_take, List.length_replicate, List.length_map, List.length_set, List.length_cons, List.length_nil, List.length_zipWith, List.length_drop, List.length_range]; first | done | omega))) only [ir_impl_GoodSpec, go_sem, Nat.reduceAdd, Nat.reduceEqDiff, Nat.reduceLeDiff, Nat.reduceSub]
  simp (maxSteps := 2000000) (disch := (first | omega | (simp only [List.length_append, List.length_take, List.length_replicate, List.length_map, List.length_set, List.length_cons, List.length_nil, List.length_zipWith, List.length_drop, List.length_range]; first | done | omega))) only [go_sem, Nat.reduceAdd, Nat.reduceEqDiff, Nat.reduceLeDiff, Nat.reduceSub, impl_isSpec_ok s hs]
  grind
theorem slices_Index_sl_impl_Move_impl_Move_ok (M : List Mv) (m : Mv) (hl : M.length < 2^62) : C f_slices_Index_sl_impl_Move_impl_Move [.sl true 3 (M.map encM), encM m] [] = some (I (idxI M (fun y => y == m)), []) := by
  refine C_slices_Index_sl_impl_Move_impl_Move ?_
  simp (maxSteps := 2000000) (disch := (first | omega | (simp only [List.length_append, List.length_take, List.length_replicate, List.length_map, List.length_set, List.length_cons, List.length_nil, List.length_zipWith, List.length_drop, List.length_range]; first | done | omega))) only [ir_slices_Index_sl_impl_Move_impl_Move, go_sem, Nat.reduceAdd, Nat.reduceEqDiff, Nat.reduceLeDiff, Nat.reduceSub]
  refine W_for M.length (fun k st => st = ⟨[.sl true 3 (M.map encM), .any, .ptr 0 0, .any, .any, I M.length, I k, .any, .any], [.box t_impl_Move [I m.task, .bool m.begin_, I m.pick]]⟩ ∧ (M.take k).any (fun y => y == m) = false) ?_ ?_ ?_
  · simp (maxSteps := 2000000) (disch := (first | omega | (simp only [List.length_append, List.length_take, List.length_replicate, List.length_map, List.length_set, List.length_cons, List.length_nil, List.length_zipWith, List.length_drop, List.length_range]; first | done | omega))) only [go_sem, Nat.reduceAdd, Nat.reduceEqDiff, Nat.reduceLeDiff, Nat.reduceSub]
    rfl
  · rintro k st hk ⟨rfl, hall⟩
    have e : (M[k] == m) = (m.task == M[k].task && (m.begin_ == M[k].begin_ && m.pick == M[k].pick)) := by rw [BEq.comm]; exact mv_beq _ _
    simp (maxSteps := 2000000) (disch := (first | omega | (simp only [List.length_append, List.length_take, List.length_replicate, List.length_map, List.length_set, List.length_cons, List.length_nil, List.length_zipWith, List.length_drop, List.length_range]; first | done | omega))) only [go_sem, Nat.reduceAdd, Nat.reduceEqDiff, Nat.reduceLeDiff, Nat.reduceSub, eqL, eq1]
    rw [← e]
    refine ⟨fun h => ?_, fun h => ⟨rfl, any_take hk hall h⟩⟩
    rw [idxI_some hk hall (by simpa using h)]
  · rintro st ⟨rfl, hall⟩
    simp (maxSteps := 2000000) (disch := (first | omega | (simp only [List.length_append, List.length_take, List.length_replicate, List.length_map, List.length_set, List.length_cons, List.length_nil, List.length_zipWith, List.length_drop, List.length_range]; first | done | omega))) only [go_sem, Nat.reduceAdd, Nat.reduceEqDiff, Nat.reduceLeDiff, Nat.reduceSub]
    rw [List.take_length] at hall
    rw [idxI_none hall]
theorem impl_MoveNo_ok (s : Spc) (m : Mv) (hs : smSpc s) : C f_impl_MoveNo [encS s, encM m] [] = some (.tup [I (moveNo s m).1, .bool (moveNo s m).2], []) := by
  have hG := impl_isSpec_ok s hs
  obtain ⟨mt, mb, mp⟩ := m
  refine C_impl_MoveNo ?_
  simp (maxSteps := 2000000) (disch := (first | omega | (simp only [List.length_append, List.length_take, List.length_replicate, List.length_map, List.length_set, List.length_cons, List.length_nil, List.length_zipWith, List.length_drop, List.length_range]; first | done | omega))) only [ir_impl_MoveNo, go_sem, Nat.reduceAdd, Nat.reduceEqDiff, Nat.reduceLeDiff, Nat.reduceSub]
  cases hg : goodS s with
  | false =>
    simp (maxSteps := 2000000) (disch := (first | omega | (simp only [List.length_append, List.length_take, List.length_replicate, List.length_map, List.length_set, List.length_cons, List.length_nil, List.length_zipWith, List.length_drop, List.length_range]; first | done | omega))) only [go_sem, Nat.reduceAdd, Nat.reduceEqDiff, Nat.reduceLeDiff, Nat.reduceSub, hG, hg]
    simp [moveNo, hg]
  | true =>
    have hok := goodS_ok hg
    have hM := impl_movesOf_ok s hok
    have h2 := mvU_len hok s.tasks.length (by omega)
    have h3 : (mvS s).length ≤ 60 := by have := (okTasks_parts hok).2.1; unfold mvS; omega
    have hN := slices_Index_sl_impl_Move_impl_Move_ok (mvS s) ⟨mt, mb, mp⟩ (by omega)
    cases mb with
    | true =>
      simp (maxSteps := 2000000) (disch := (first | omega | (simp only [List.length_append, List.length_take, List.length_replicate, List.length_map, List.length_set, List.length_cons, List.length_nil, List.length_zipWith, List.length_drop, List.length_range]; first | done | omega))) only [go_sem, Nat.reduceAdd, Nat.reduceEqDiff, Nat.reduceLeDiff, Nat.reduceSub, hG, hg, hM, hN]
      simp only [moveNo, hg]
      grind
    | false =>
      simp (maxSteps := 2000000) (disch := (first | omega | (simp only [List.length_append, List.length_take, List.length_replicate, List.length_map, List.length_set, List.length_cons, List.length_nil, List.length_zipWith, List.length_drop, List.length_range]; first | done | omega))) only [go_sem, Nat.reduceAdd, Nat.reduceEqDiff, Nat.reduceLeDiff, Nat.reduceSub, hG, hg, hM, hN]
      simp only [moveNo, hg]
      grind
theorem impl_RegionOf_ok (s : Spc) (k : Int) (hs : smSpc s) : C f_impl_RegionOf [encS s, I k] [] = some (.tup [.un t_int true 1 ((regV s k).1.map I), .bool (regV s k).2], []) := by
  have hG := impl_isSpec_ok s hs
  refine C_impl_RegionOf ?_
  simp (maxSteps := 2000000) (disch := (first | omega | (simp only [List.length_append, List.length_take, List.length_replicate, List.length_map, List.length_set, List.length_cons, List.length_nil, List.length_zipWith, List.length_drop, List.length_range]; first | done | omega))) only [ir_impl_RegionOf, go_sem, Nat.reduceAdd, Nat.reduceEqDiff, Nat.reduceLeDiff, Nat.reduceSub]
  cases hg : goodS s with
  | false =>
    simp (maxSteps := 2000000) (disch := (first | omega | (simp only [List.length_append, List.length_take, List.length_replicate, List.length_map, List.length_set, List.length_cons, List.length_nil, List.length_zipWith, List.length_drop, List.length_range]; first | done | omega))) only [go_sem, Nat.reduceAdd, Nat.reduceEqDiff, Nat.reduceLeDiff, Nat.reduceSub, hG, hg]
    simp [regV, hg]
  | true =>
    have hok := goodS_ok hg
    obtain ⟨hc, hn, -⟩ := okTasks_parts hok
    cases hi : inB 0 ((s.tasks.length : Int) - 1) k with
    | false =>
      simp (maxSteps := 2000000) (disch := (first | omega | (simp only [List.length_append, List.length_take, List.length_replicate, List.length_map, List.length_set, List.length_cons, List.length_nil, List.length_zipWith, List.length_drop, List.length_range]; first | done | omega))) only [go_sem, Nat.reduceAdd, Nat.reduceEqDiff, Nat.reduceLeDiff, Nat.reduceSub, hG, hg, impl_within_ok, hi]
      simp [regV, hg, hi]
    | true =>
      have hk : 0 ≤ k ∧ k < s.tasks.length := by simp [inB] at hi; omega
      obtain ⟨j, rfl⟩ : ∃ j : Nat, k = j := ⟨k.toNat, by omega⟩
      have hj : j < s.tasks.length := by omega
      obtain ⟨c1, c2, c3, c4⟩ := okTasks_sm hok hj
      have hR := impl_regionOf_ok s j hj hc c1 c2 c3 c4
      rw [← tkN_eq hj] at hR
      simp (maxSteps := 2000000) (disch := (first | omega | (simp only [List.length_append, List.length_take, List.length_replicate, List.length_map, List.length_set, List.length_cons, List.length_nil, List.length_zipWith, List.length_drop, List.length_range]; first | done | omega))) only [go_sem, Nat.reduceAdd, Nat.reduceEqDiff, Nat.reduceLeDiff, Nat.reduceSub, hG, hg, impl_within_ok, hi, hR]
      simp [regV, hg, hi]
theorem laws_has_ok (l : List Int) (x : Int) (hl : l.length < 2^62) : C f_laws_has [ints l, I x] [] = some (.bool (decide (x ∈ l)), []) := by
  refine C_laws_has ?_
  simp (maxSteps := 2000000) (disch := (first | omega | (simp only [List.length_append, List.length_take, List.length_replicate, List.length_map, List.length_set, List.length_cons, List.length_nil, List.length_zipWith, List.length_drop, List.length_range]; first | done | omega))) only [ir_laws_has, go_sem, Nat.reduceAdd, Nat.reduceEqDiff, Nat.reduceLeDiff, Nat.reduceSub]
  refine W_for l.length (fun k s => s = ⟨[.any, I x, .any, .any, ints l, I l.length, I k, .any, .any], []⟩ ∧ (l.take k).any (fun y => y == x) = false) ?_ ?_ ?_
  · simp (maxSteps := 2000000) (disch := (first | omega | (simp only [List.length_append, List.length_take, List.length_replicate, List.length_map, List.length_set, List.length_cons, List.length_nil, List.length_zipWith, List.length_drop, List.length_range]; first | done | omega))) only [go_sem, Nat.reduceAdd, Nat.reduceEqDiff, Nat.reduceLeDiff, Nat.reduceSub]
    rfl
  · rintro k s hk ⟨rfl, hall⟩
    simp (maxSteps := 2000000) (disch := (first | omega | (simp only [List.length_append, List.length_take, List.length_replicate, List.length_map, List.length_set, List.length_cons, List.length_nil, List.length_zipWith, List.length_drop, List.length_range]; first | done | omega))) only [go_sem, Nat.reduceAdd, Nat.reduceEqDiff, Nat.reduceLeDiff, Nat.reduceSub]
    refine ⟨fun h => ?_, fun h => ⟨rfl, any_take hk hall (by simpa using h)⟩⟩
    have : x ∈ l := by rw [← h]; exact List.getElem_mem hk
    simp [this]
  · rintro s ⟨rfl, hall⟩
    simp (maxSteps := 2000000) (disch := (first | omega | (simp only [List.length_append, List.length_take, List.length_replicate, List.length_map, List.length_set, List.length_cons, List.length_nil, List.length_zipWith, List.length_drop, List.length_range]; first | done | omega))) only [go_sem, Nat.reduceAdd, Nat.reduceEqDiff, Nat.reduceLeDiff, Nat.reduceSub]
    rw [List.take_length, List.any_eq_false] at hall
    have : ¬ x ∈ l := fun h => by simpa using hall x h
    simp [this]
theorem spec_DrawMoveNo_ok (a : List Int) (hl : a.length < 2^62) (hb : ∀ x ∈ a, 0 ≤ x ∧ x < 256) : Lw (C f_spec_DrawMoveNo [bys a] []) fun r => ∃ (s : Spc) (m : Mv), r = (.tup [.agg [I s.conds, .un t_impl_Task false 7 (s.tasks.map encK)], encM m], []) ∧ drS s := by
  obtain ⟨_, e1, S, a1, s1, rfl, h3, h4, h5⟩ := spec_l1Cur_spec_ok a 0 0 (by omega) (by omega) hl hb
  have hm := spec_MovesOf_ok S h5.sm
  have hL : (if goodS S = true then mvS S else []).length ≤ 60 := by
    split
    · rename_i hg
      have h2 := mvU_len (goodS_ok hg) S.tasks.length (by omega)
      have := (okTasks_parts (goodS_ok hg)).2.1; unfold mvS; omega
    · simp
  generalize (if goodS S = true then mvS S else []) = R at *
  obtain ⟨_, e2, b2, a2, s2, rfl, g3, g4⟩ := spec_l1Cur_one_ok 4 a a1 s1 (by omega) (by omega) hl hb
  obtain ⟨_, e3, x3, a3, s3, rfl, k3, k4, k5, k6⟩ := spec_l1Cur_pick_ok R.length a a2 s2 (by omega) (by omega) hl hb
  have rest : ∀ (A Sd : Int), 0 ≤ A → A ≤ 300 → ∃ (x y : Int) (b : Bool) (a' s' a'' s'' a3 s3 : Int), C f_spec_l1Cur_pick [.ptr 0 0, I 5] [.box t_spec_l1Cur [bys a, I A, .int .u64 Sd]] = some (I x, [.box t_spec_l1Cur [bys a, I a', .int .u64 s']]) ∧ C f_spec_l1Cur_one [.ptr 0 0, I 2] [.box t_spec_l1Cur [bys a, I a', .int .u64 s']] = some (.bool b, [.box t_spec_l1Cur [bys a, I a'', .int .u64 s'']]) ∧ C f_spec_l1Cur_pick [.ptr 0 0, I 4] [.box t_spec_l1Cur [bys a, I a'', .int .u64 s'']] = some (I y, [.box t_spec_l1Cur [bys a, I a3, .int .u64 s3]]) ∧ 0 ≤ x ∧ x ≤ 4 := by
    intro A Sd q1 q2
    obtain ⟨_, f1, x, a', s', rfl, j1, j2, j3, j4⟩ := spec_l1Cur_pick_ok 5 a A Sd (by omega) (by omega) hl hb
    obtain ⟨_, f2, b, a'', s'', rfl, j5, j6⟩ := spec_l1Cur_one_ok 2 a a' s' (by omega) (by omega) hl hb
    obtain ⟨_, f3, y, a3, s3, rfl, j7, j8, j9, j10⟩ := spec_l1Cur_pick_ok 4 a a'' s'' (by omega) (by omega) hl hb
    exact ⟨x, y, b, a', s', a'', s'', a3, s3, f1, f2, f3, j3, by omega⟩
  obtain ⟨u1, v1, w1, b1, c1, b2', c2', b3, c3, f1, f2, f3, f4, f5⟩ := rest a1 s1 (by omega) (by omega)
  obtain ⟨u2, v2, w2, b4, c4, b5, c5, b6, c6, f6, f7, f8, f9, f10⟩ := rest a2 s2 (by omega) (by omega)
  generalize goodS S = gS at *
  by_cases hR : 0 < R.length
  · have hx : x3.toNat < R.length := by omega
    have hlk : R[x3.toNat]? = some R[x3.toNat] := List.getElem?_eq_getElem hx
    generalize R[x3.toNat] = M at *
    obtain ⟨mt, mb, mp⟩ := M
    cases gS <;> cases b2 <;> cases w2 <;> cases mb
    all_goals
      refine E_spec_DrawMoveNo ?_
      simp (maxSteps := 2000000) (disch := (first | omega | (simp only [List.length_append, List.length_take, List.length_replicate, List.length_map, List.length_set, List.length_cons, List.length_nil, List.length_zipWith, List.length_drop, List.length_range]; first | done | omega))) only [ir_spec_DrawMoveNo, go_sem, Nat.reduceAdd, Nat.reduceEqDiff, Nat.reduceLeDiff, Nat.reduceSub]
      simp (maxSteps := 2000000) (disch := (first | omega | (simp only [List.length_append, List.length_take, List.length_replicate, List.length_map, List.length_set, List.length_cons, List.length_nil, List.length_zipWith, List.length_drop, List.length_range]; first | done | omega))) only [go_sem, Nat.reduceAdd, Nat.reduceEqDiff, Nat.reduceLeDiff, Nat.reduceSub, e1, hm, e2, e3, f1, f2, f3, f6, f7, f8, hlk]
      first
        | exact ⟨S, ⟨mt, true, mp⟩, rfl, h5⟩
        | exact ⟨S, ⟨mt, false, mp⟩, rfl, h5⟩
        | exact ⟨by decide, S, ⟨mt, true, mp⟩, rfl, h5⟩
        | exact ⟨by decide, S, ⟨mt, false, mp⟩, rfl, h5⟩
        | exact ⟨by decide, S, ⟨u2 - 1, true, v2⟩, rfl, h5⟩
        | exact ⟨by decide, S, ⟨u2 - 1, false, v2⟩, rfl, h5⟩
        | exact ⟨S, ⟨u2 - 1, true, v2⟩, rfl, h5⟩
        | exact ⟨S, ⟨u2 - 1, false, v2⟩, rfl, h5⟩
  · have hR0 : R = [] := List.eq_nil_of_length_eq_zero (by omega)
    subst hR0
    cases gS <;> cases w1
    all_goals
      refine E_spec_DrawMoveNo ?_
      simp (maxSteps := 2000000) (disch := (first | omega | (simp only [List.length_append, List.length_take, List.length_replicate, List.length_map, List.length_set, List.length_cons, List.length_nil, List.length_zipWith, List.length_drop, List.length_range]; first | done | omega))) only [ir_spec_DrawMoveNo, go_sem, Nat.reduceAdd, Nat.reduceEqDiff, Nat.reduceLeDiff, Nat.reduceSub]
      simp (maxSteps := 2000000) (disch := (first | omega | (simp only [List.length_append, List.length_take, List.length_replicate, List.length_map, List.length_set, List.length_cons, List.length_nil, List.length_zipWith, List.length_drop, List.length_range]; first | done | omega))) only [go_sem, Nat.reduceAdd, Nat.reduceEqDiff, Nat.reduceLeDiff, Nat.reduceSub, e1, hm, e2, e3, f1, f2, f3, f6, f7, f8]
      first
        | exact ⟨S, ⟨u1 - 1, true, v1⟩, rfl, h5⟩
        | exact ⟨S, ⟨u1 - 1, false, v1⟩, rfl, h5⟩
theorem spec_l13No_ok (s : Spc) (m : Mv) (h : okTasks s = true) : C f_spec_l13No [encS s, encM m] [] = some (I (idxI (mvS s) (fun y => y == m)), []) := by
  have hlay := spec_l13Lay_ok s h
  have h2 := mvU_len h s.tasks.length (by omega)
  have h3 : (mvS s).length ≤ 60 := by have := (okTasks_parts h).2.1; unfold mvS; omega
  generalize mvS s = M at *
  refine C_spec_l13No ?_
  simp (maxSteps := 2000000) (disch := (first | omega | (simp only [List.length_append, List.length_take, List.length_replicate, List.length_map, List.length_set, List.length_cons, List.length_nil, List.length_zipWith, List.length_drop, List.length_range]; first | done | omega))) only [ir_spec_l13No, go_sem, Nat.reduceAdd, Nat.reduceEqDiff, Nat.reduceLeDiff, Nat.reduceSub]
  simp (maxSteps := 2000000) (disch := (first | omega | (simp only [List.length_append, List.length_take, List.length_replicate, List.length_map, List.length_set, List.length_cons, List.length_nil, List.length_zipWith, List.length_drop, List.length_range]; first | done | omega))) only [go_sem, Nat.reduceAdd, Nat.reduceEqDiff, Nat.reduceLeDiff, Nat.reduceSub, hlay]
  refine W_for M.length (fun k st => st = ⟨[.any, .any, .any, .ptr 0 0, .any, .any, .any, .any, .ref 1 3 0 M.length, I M.length, I k, .any, .any], [.box t_impl_Move [I m.task, .bool m.begin_, I m.pick], .row t_impl_Move true 3 (M.map encM)]⟩ ∧ (M.take k).any (fun y => y == m) = false) ?_ ?_ ?_
  · simp (maxSteps := 2000000) (disch := (first | omega | (simp only [List.length_append, List.length_take, List.length_replicate, List.length_map, List.length_set, List.length_cons, List.length_nil, List.length_zipWith, List.length_drop, List.length_range]; first | done | omega))) only [go_sem, Nat.reduceAdd, Nat.reduceEqDiff, Nat.reduceLeDiff, Nat.reduceSub]
    rfl
  · rintro k st hk ⟨rfl, hall⟩
    have e : (M[k] == m) = (M[k].task == m.task && (M[k].begin_ == m.begin_ && M[k].pick == m.pick)) := mv_beq _ _
    simp (maxSteps := 2000000) (disch := (first | omega | (simp only [List.length_append, List.length_take, List.length_replicate, List.length_map, List.length_set, List.length_cons, List.length_nil, List.length_zipWith, List.length_drop, List.length_range]; first | done | omega))) only [go_sem, Nat.reduceAdd, Nat.reduceEqDiff, Nat.reduceLeDiff, Nat.reduceSub, eqL, eq1]
    rw [← e]
    refine ⟨fun h => ?_, fun h => ⟨rfl, any_take hk hall h⟩⟩
    rw [idxI_some hk hall (by simpa using h)]
  · rintro st ⟨rfl, hall⟩
    simp (maxSteps := 2000000) (disch := (first | omega | (simp only [List.length_append, List.length_take, List.length_replicate, List.length_map, List.length_set, List.length_cons, List.length_nil, List.length_zipWith, List.length_drop, List.length_range]; first | done | omega))) only [go_sem, Nat.reduceAdd, Nat.reduceEqDiff, Nat.reduceLeDiff, Nat.reduceSub]
    rw [List.take_length] at hall
    rw [idxI_none hall]
theorem spec_MoveNo_ok (s : Spc) (m : Mv) (hs : smSpc s) : C f_spec_MoveNo [encS s, encM m] [] = some (.tup [I (moveNo s m).1, .bool (moveNo s m).2], []) := by
  have hG := spec_GoodSpec_ok s hs
  obtain ⟨mt, mb, mp⟩ := m
  refine C_spec_MoveNo ?_
  simp (maxSteps := 2000000) (disch := (first | omega | (simp only [List.length_append, List.length_take, List.length_replicate, List.length_map, List.length_set, List.length_cons, List.length_nil, List.length_zipWith, List.length_drop, List.length_range]; first | done | omega))) only [ir_spec_MoveNo, go_sem, Nat.reduceAdd, Nat.reduceEqDiff, Nat.reduceLeDiff, Nat.reduceSub]
  cases hg : goodS s with
  | false =>
    simp (maxSteps := 2000000) (disch := (first | omega | (simp only [List.length_append, List.length_take, List.length_replicate, List.length_map, List.length_set, List.length_cons, List.length_nil, List.length_zipWith, List.length_drop, List.length_range]; first | done | omega))) only [go_sem, Nat.reduceAdd, Nat.reduceEqDiff, Nat.reduceLeDiff, Nat.reduceSub, hG, hg]
    simp [moveNo, hg]
  | true =>
    have hN := spec_l13No_ok s ⟨mt, mb, mp⟩ (goodS_ok hg)
    cases mb with
    | true =>
      simp (maxSteps := 2000000) (disch := (first | omega | (simp only [List.length_append, List.length_take, List.length_replicate, List.length_map, List.length_set, List.length_cons, List.length_nil, List.length_zipWith, List.length_drop, List.length_range]; first | done | omega))) only [go_sem, Nat.reduceAdd, Nat.reduceEqDiff, Nat.reduceLeDiff, Nat.reduceSub, hG, hg, hN]
      simp only [moveNo, hg]
      grind
    | false =>
      simp (maxSteps := 2000000) (disch := (first | omega | (simp only [List.length_append, List.length_take, List.length_replicate, List.length_map, List.length_set, List.length_cons, List.length_nil, List.length_zipWith, List.length_drop, List.length_range]; first | done | omega))) only [go_sem, Nat.reduceAdd, Nat.reduceEqDiff, Nat.reduceLeDiff, Nat.reduceSub, hG, hg, hN]
      simp only [moveNo, hg]
      grind
theorem spec_DrawRegionOf_ok (a : List Int) (hl : a.length < 2^62) (hb : ∀ x ∈ a, 0 ≤ x ∧ x < 256) : Lw (C f_spec_DrawRegionOf [bys a] []) fun r => ∃ (s : Spc) (k : Int), r = (.tup [.agg [I s.conds, .un t_impl_Task false 7 (s.tasks.map encK)], I k], []) ∧ drS s := by
  obtain ⟨_, e1, S, a1, s1, rfl, h3, h4, h5⟩ := spec_l1Cur_spec_ok a 0 0 (by omega) (by omega) hl hb
  obtain ⟨_, e2, x2, a2, s2, rfl, g3, g4, g5, g6⟩ := spec_l1Cur_pick_ok 6 a a1 s1 (by omega) (by omega) hl hb
  refine E_spec_DrawRegionOf ?_
  simp (maxSteps := 2000000) (disch := (first | omega | (simp only [List.length_append, List.length_take, List.length_replicate, List.length_map, List.length_set, List.length_cons, List.length_nil, List.length_zipWith, List.length_drop, List.length_range]; first | done | omega))) only [ir_spec_DrawRegionOf, go_sem, Nat.reduceAdd, Nat.reduceEqDiff, Nat.reduceLeDiff, Nat.reduceSub]
  simp (maxSteps := 2000000) (disch := (first | omega | (simp only [List.length_append, List.length_take, List.length_replicate, List.length_map, List.length_set, List.length_cons, List.length_nil, List.length_zipWith, List.length_drop, List.length_range]; first | done | omega))) only [go_sem, Nat.reduceAdd, Nat.reduceEqDiff, Nat.reduceLeDiff, Nat.reduceSub, e1, e2]
  exact ⟨S, x2 - 1, rfl, h5⟩
theorem spec_RegionOf_ok (s : Spc) (k : Int) (hs : smSpc s) : C f_spec_RegionOf [encS s, I k] [] = some (.tup [.un t_int true 1 ((regV s k).1.map I), .bool (regV s k).2], []) := by
  have hG := spec_GoodSpec_ok s hs
  refine C_spec_RegionOf ?_
  simp (maxSteps := 2000000) (disch := (first | omega | (simp only [List.length_append, List.length_take, List.length_replicate, List.length_map, List.length_set, List.length_cons, List.length_nil, List.length_zipWith, List.length_drop, List.length_range]; first | done | omega))) only [ir_spec_RegionOf, go_sem, Nat.reduceAdd, Nat.reduceEqDiff, Nat.reduceLeDiff, Nat.reduceSub]
  cases hg : goodS s with
  | false =>
    simp (maxSteps := 2000000) (disch := (first | omega | (simp only [List.length_append, List.length_take, List.length_replicate, List.length_map, List.length_set, List.length_cons, List.length_nil, List.length_zipWith, List.length_drop, List.length_range]; first | done | omega))) only [go_sem, Nat.reduceAdd, Nat.reduceEqDiff, Nat.reduceLeDiff, Nat.reduceSub, hG, hg]
    simp [regV, hg]
  | true =>
    have hok := goodS_ok hg
    obtain ⟨hc, hn, -⟩ := okTasks_parts hok
    cases hi : inB 0 ((s.tasks.length : Int) - 1) k with
    | false =>
      simp (maxSteps := 2000000) (disch := (first | omega | (simp only [List.length_append, List.length_take, List.length_replicate, List.length_map, List.length_set, List.length_cons, List.length_nil, List.length_zipWith, List.length_drop, List.length_range]; first | done | omega))) only [go_sem, Nat.reduceAdd, Nat.reduceEqDiff, Nat.reduceLeDiff, Nat.reduceSub, hG, hg, spec_l1In_ok, hi]
      simp [regV, hg, hi]
    | true =>
      have hk : 0 ≤ k ∧ k < s.tasks.length := by simp [inB] at hi; omega
      obtain ⟨j, rfl⟩ : ∃ j : Nat, k = j := ⟨k.toNat, by omega⟩
      have hj : j < s.tasks.length := by omega
      obtain ⟨c1, c2, c3, c4⟩ := okTasks_sm hok hj
      have hR := spec_l13Region_ok s j hj hc c1 c2 c3 c4
      rw [← tkN_eq hj] at hR
      simp (maxSteps := 2000000) (disch := (first | omega | (simp only [List.length_append, List.length_take, List.length_replicate, List.length_map, List.length_set, List.length_cons, List.length_nil, List.length_zipWith, List.length_drop, List.length_range]; first | done | omega))) only [go_sem, Nat.reduceAdd, Nat.reduceEqDiff, Nat.reduceLeDiff, Nat.reduceSub, hG, hg, spec_l1In_ok, hi, hR]
      simp [regV, hg, hi]
theorem laws_FnLaidOut_ok (a b : List Int) (ha2 : ∀ x ∈ a, 0 ≤ x ∧ x < 256) (hb2 : ∀ x ∈ b, 0 ≤ x ∧ x < 256) : C f_laws_FnLaidOut [bys a, bys b] [] = some (.bool true, []) := by
  refine C_laws_FnLaidOut ?_
  simp (maxSteps := 2000000) (disch := (first | omega | (simp only [List.length_append, List.length_take, List.length_replicate, List.length_map, List.length_set, List.length_cons, List.length_nil, List.length_zipWith, List.length_drop, List.length_range]; first | done | omega))) only [ir_laws_FnLaidOut, go_sem, Nat.reduceAdd, Nat.reduceEqDiff, Nat.reduceLeDiff, Nat.reduceSub]
  simp (maxSteps := 2000000) (disch := (first | omega | (simp only [List.length_append, List.length_take, List.length_replicate, List.length_map, List.length_set, List.length_cons, List.length_nil, List.length_zipWith, List.length_drop, List.length_range]; first | done | omega))) only [go_sem, Nat.reduceAdd, Nat.reduceEqDiff, Nat.reduceLeDiff, Nat.reduceSub, laws_big_ok]
  intro hbig
  simp only [Bool.or_eq_false_iff, decide_eq_false_iff_not] at hbig
  obtain ⟨_, e1, S, rfl, hS⟩ := spec_DrawSpecFlow_ok a (by omega) ha2
  obtain ⟨_, e2, u, m, rfl, hu⟩ := spec_DrawMoveNo_ok b (by omega) hb2
  obtain ⟨_, e3, v, k, rfl, hv⟩ := spec_DrawRegionOf_ok b (by omega) hb2
  have n1 := impl_MoveNo_ok u m hu.sm
  have n2 := spec_MoveNo_ok u m hu.sm
  have r1 := impl_RegionOf_ok v k hv.sm
  have r2 := spec_RegionOf_ok v k hv.sm
  have r3 := regV_len v k
  have r4 := laws_sameInts_ok (regV v k).1 (regV v k).1 (by omega)
  rw [decide_eq_true rfl] at r4
  generalize moveNo u m = U at *
  obtain ⟨U1, U2⟩ := U
  generalize regV v k = V at *
  obtain ⟨V1, V2⟩ := V
  simp only at n1 n2 r1 r2 r3 r4
  have m1 := impl_MovesOf_ok S hS.sm
  have m2 := spec_MovesOf_ok S hS.sm
  have g1 := impl_GoodSpec_ok S hS.sm
  obtain ⟨um, ub, up⟩ := m
  cases hg : goodS S with
  | false =>
    have f1 := impl_SpecFlow_no S hS.sm hg
    have f2 := spec_SpecFlow_no S hS.sm hg
    rw [hg, if_neg (by simp), List.map_nil] at m1 m2
    rw [hg] at g1
    have f3 : C f_laws_sameFlow [.agg [I 0, .sl false 3 [], I 0, I 0], .agg [I 0, .sl false 3 [], I 0, I 0]] [] = some (.bool true, []) := laws_sameFlow_ok ⟨⟨0, []⟩, 0, 0⟩ ⟨by simp, by simp⟩
    have f4 : C f_laws_sameMoves [.sl true 3 [], .sl true 3 []] [] = some (.bool true, []) := laws_sameMoves_ok [] (by simp)
    cases U2 <;> cases V2 <;> cases ub <;> simp (maxSteps := 2000000) (disch := (first | omega | (simp only [List.length_append, List.length_take, List.length_replicate, List.length_map, List.length_set, List.length_cons, List.length_nil, List.length_zipWith, List.length_drop, List.length_range]; first | done | omega))) only [go_sem, Nat.reduceAdd, Nat.reduceEqDiff, Nat.reduceLeDiff, Nat.reduceSub, e1, f1, f2, m1, m2, f3, f4, g1, e2, n1, n2, e3, r1, r2, r4]
  | true =>
    have f1 := impl_SpecFlow_ok S hS.sm hg
    have f2 := spec_SpecFlow_ok S hS.sm hg
    rw [hg, if_pos rfl] at m1 m2
    rw [hg] at g1
    have f3 := laws_sameFlow_ok (flS S) (flS_sm (goodS_ok hg))
    have hL : (mvS S).length ≤ 60 := by
      have h2 := mvU_len (goodS_ok hg) S.tasks.length (by omega)
      have := (okTasks_parts (goodS_ok hg)).2.1; unfold mvS; omega
    unfold encF at f3
    rw [show (flS S).src = 0 from rfl, show (flS S).dst = 1 from rfl] at f3
    have f4 := laws_sameMoves_ok (mvS S) (by omega)
    have hpl : (flS S).net.pl = S.conds + S.tasks.length := rfl
    have htl : (flS S).net.tr.length = (mvS S).length := trS_len S
    obtain ⟨hc, hn, -⟩ := okTasks_parts (goodS_ok hg)
    rw [hpl] at f1 f2 f3
    simp (maxSteps := 2000000) (disch := (first | omega | (simp only [List.length_append, List.length_take, List.length_replicate, List.length_map, List.length_set, List.length_cons, List.length_nil, List.length_zipWith, List.length_drop, List.length_range]; first | done | omega))) only [go_sem, Nat.reduceAdd, Nat.reduceEqDiff, Nat.reduceLeDiff, Nat.reduceSub, e1, f1, f2, m1, m2, f3, f4, g1, htl]
    have hgf : goodFl (flS S) = true := by simp only [goodS, Bool.and_eq_true] at hg; exact hg.2
    have hgn := (goodFl_parts hgf).1
    have hlens : ∀ t ∈ (flS S).net.tr, t.inn.length ≤ 16 ∧ t.out.length ≤ 16 ∧ t.rst.length ≤ 16 := by
      intro t ht
      exact goodT_lens ((goodN_parts hgn).2.2.2 t ht) ⟨by have := (goodN_parts hgn).1; omega, (goodN_parts hgn).2.1⟩
    refine W_for (mvS S).length (fun i st => st = ⟨[.any, bys b, .any, .ptr 0 0, .ptr 1 0, .any, .any, .any, .any, .any, .any, .any, .any, .any, .any, .any, .any, .any, .any, .any, .any, .any, .any, .any, .any, .any, .any, .any, .any, .any, .any, .any, .any, .any, .any, .any, .ref 2 3 0 (mvS S).length, I (mvS S).length, I i, .any, .any], [.box t_impl_Spec [I S.conds, .ref 3 7 0 S.tasks.length], .box t_impl_Flow [I (S.conds + S.tasks.length), .ref 4 3 0 (mvS S).length, I 0, I 1], .row t_impl_Move true 3 ((mvS S).map encM), .fro false 7 (S.tasks.map encK), .row t_impl_Trans false 3 ((flS S).net.tr.map encT)]⟩) ?_ ?_ ?_
    · simp (maxSteps := 2000000) (disch := (first | omega | (simp only [List.length_append, List.length_take, List.length_replicate, List.length_map, List.length_set, List.length_cons, List.length_nil, List.length_zipWith, List.length_drop, List.length_range]; first | done | omega))) only [go_sem, Nat.reduceAdd, Nat.reduceEqDiff, Nat.reduceLeDiff, Nat.reduceSub]
      rfl
    · rintro i st hi rfl
      have hm := mvS_is (List.getElem_mem hi)
      have q1 := impl_MoveNo_ok S (mvS S)[i] hS.sm
      rw [moveNo_get hg hi] at q1
      have q2 := impl_RegionOf_ok S (mvS S)[i].task hS.sm
      have q3 := trM_has (goodS_ok hg) hm
      have q4 := trM_rst hg hm
      have q5 := regV_len S (mvS S)[i].task
      rw [q4.1] at q2 q5
      have hti : (flS S).net.tr[i]? = some (trM S (mvS S)[i]) := by
        rw [List.getElem?_eq_getElem (by rw [htl]; exact hi)]
        exact congrArg some (trS_get hi)
      have hmi : (mvS S)[i]? = some (mvS S)[i] := List.getElem?_eq_getElem hi
      have hlt := hlens (trM S (mvS S)[i]) (List.mem_of_getElem? hti)
      obtain ⟨kk, hk, ht, -, -⟩ := hm
      have q6 := laws_has_ok (trM S (mvS S)[i]).out (S.conds + (mvS S)[i].task) (by omega)
      have q7 := laws_has_ok (trM S (mvS S)[i]).inn (S.conds + (mvS S)[i].task) (by omega)
      have q8 := laws_sameInts_ok (regL S (tkN S (mvS S)[i].task.toNat)) (trM S (mvS S)[i]).rst (by simp only at q5; omega)
      rw [q3.1] at q6
      rw [q3.2] at q7
      have q9 : (mvS S)[i].begin_ = false → decide (regL S (tkN S (mvS S)[i].task.toNat) = (trM S (mvS S)[i]).rst) = true := fun h => by rw [q4.2 h]; simp
      generalize trM S (mvS S)[i] = T at *
      generalize regL S (tkN S (mvS S)[i].task.toNat) = R at *
      generalize (mvS S)[i] = M at *
      obtain ⟨mt, mb, mp⟩ := M
      obtain ⟨t1, t2, t3⟩ := T
      simp only at q1 q2 q5 q6 q7 q8 q9 ht
      cases mb with
      | true =>
        simp (maxSteps := 2000000) (disch := (first | omega | (simp only [List.length_append, List.length_take, List.length_replicate, List.length_map, List.length_set, List.length_cons, List.length_nil, List.length_zipWith, List.length_drop, List.length_range]; first | done | omega))) only [go_sem, Nat.reduceAdd, Nat.reduceEqDiff, Nat.reduceLeDiff, Nat.reduceSub, hmi, hti, q1, q2, q6, q7]
        rfl
      | false =>
        rw [q9 rfl] at q8
        simp (maxSteps := 2000000) (disch := (first | omega | (simp only [List.length_append, List.length_take, List.length_replicate, List.length_map, List.length_set, List.length_cons, List.length_nil, List.length_zipWith, List.length_drop, List.length_range]; first | done | omega))) only [go_sem, Nat.reduceAdd, Nat.reduceEqDiff, Nat.reduceLeDiff, Nat.reduceSub, hmi, hti, q1, q2, q6, q7, q8]
        rfl
    · rintro st rfl
      cases U2 <;> cases V2 <;> cases ub <;> simp (maxSteps := 2000000) (disch := (first | omega | (simp only [List.length_append, List.length_take, List.length_replicate, List.length_map, List.length_set, List.length_cons, List.length_nil, List.length_zipWith, List.length_drop, List.length_range]; first | done | omega))) only [go_sem, Nat.reduceAdd, Nat.reduceEqDiff, Nat.reduceLeDiff, Nat.reduceSub, e2, n1, n2, e3, r1, r2, r4]
end Go.Proofs.Ytblolnhajgmbdaa.Pi
