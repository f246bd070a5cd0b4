/- The functions that the law reaches: what they answer. Conditions: those that each theorem names. -/
import Derived.Test.YtoimodnlefadhaaGreatIrFnCaseSteps
import Derived.Test.YtoimodnlefadhaaGreatPlBase
import Derived.Test.YtoimodnlefadhaaGreatPlNet
import Derived.Test.YtoimodnlefadhaaGreatPlFire
import Derived.Test.YtoimodnlefadhaaGreatPlTurn
import Derived.Test.YtoimodnlefadhaaGreatPlBack
import Derived.Test.YtoimodnlefadhaaGreatPlFlow
import Derived.Test.YtoimodnlefadhaaGreatPlMask
import Derived.Test.YtoimodnlefadhaaGreatPlSpec
import Derived.Test.YtoimodnlefadhaaGreatPlDraw
import Derived.Test.YtoimodnlefadhaaGreatPlCase
import Derived.Test.YtoimodnlefadhaaGreatPlPlay
import Derived.Test.YtoimodnlefadhaaGreatFnFnCaseSteps0
namespace Go.Proofs.YtoimodnlefadhaaGreat.Pi
open Go
set_option linter.all false
set_option maxHeartbeats 40000000
set_option maxRecDepth 20000
theorem impl_reachedFrom_false (n : Net) (p : Int) (hg : goodN n = true) (hp : 0 ≤ p ∧ p < n.pl) : C f_impl_reachedFrom [encN n, I p, .bool false] [] = some (.tup [.un t_bool true 1 ((reachC n false p).pl.map PV.bool), .un t_bool true 1 ((reachC n false p).tr.map PV.bool)], []) := by
  have hb := goodN_parts hg
  have hlen := reachC_len n false p
  rw [reachC_eq] at hlen ⊢
  refine C_impl_reachedFrom ?_
  simp (maxSteps := 2000000) (disch := (first | omega | (simp only [lenS]; first | done | omega))) only [ir_impl_reachedFrom, go_sem, Nat.reduceAdd, Nat.reduceEqDiff, Nat.reduceLeDiff, Nat.reduceSub]
  simp (maxSteps := 2000000) (disch := (first | omega | (simp only [lenS]; first | done | omega))) only [go_sem, Nat.reduceAdd, Nat.reduceEqDiff, Nat.reduceLeDiff, Nat.reduceSub, List.getElem_replicate]
  generalize hR : clRun n false (cntF (List.replicate n.tr.length false) + 1) ⟨(List.replicate n.pl.toNat false).set p.toNat true, List.replicate n.tr.length false, true⟩ = R at *
  refine ⟨rfl, ?_⟩
  refine W_down (fun k s => ∃ c : Cl, c.pl.length = n.pl.toNat ∧ c.tr.length = n.tr.length ∧ ((k = cntF c.tr + 1 ∧ s = ⟨[.any, .any, .bool false, .ptr 0 0, .any, .any, .ptr 1 0, .ref 2 1 0 n.tr.length, .bool true, .any, .any, .any, .any, .any, .any, .any, .any, .any, .any, .any, .any, .any, .any, .any, .any], [.box t_impl_Net [I n.pl, trs n.tr], .box t_sl_bool [.ref 3 1 0 n.pl.toNat], .row t_bool true 1 (c.tr.map PV.bool), .row t_bool true 1 (c.pl.map PV.bool)]⟩ ∧ clRun n false (cntF c.tr + 1) c = R) ∨ (k = 0 ∧ s = ⟨[.any, .any, .bool false, .ptr 0 0, .any, .any, .ptr 1 0, .ref 2 1 0 n.tr.length, .bool false, .any, .any, .any, .any, .any, .any, .any, .any, .any, .any, .any, .any, .any, .any, .any, .any], [.box t_impl_Net [I n.pl, trs n.tr], .box t_sl_bool [.ref 3 1 0 n.pl.toNat], .row t_bool true 1 (c.tr.map PV.bool), .row t_bool true 1 (c.pl.map PV.bool)]⟩ ∧ c = R))) (cntF (List.replicate n.tr.length false) + 1) ?_ ?_
  · refine ⟨⟨(List.replicate n.pl.toNat false).set p.toNat true, List.replicate n.tr.length false, true⟩, by simp, by simp, .inl ⟨rfl, ?_, hR⟩⟩
    simp (maxSteps := 2000000) (disch := (first | omega | (simp only [lenS]; first | done | omega))) only [go_sem, Nat.reduceAdd, Nat.reduceEqDiff, Nat.reduceLeDiff, Nat.reduceSub]
    simp
  · rintro k0 s ⟨c, hc1, hc2, ⟨rfl, rfl, hc⟩ | ⟨rfl, rfl, rfl⟩⟩
    · have hcl := fun k => clK_len n false c k
      simp (maxSteps := 2000000) (disch := (first | omega | (simp only [lenS]; first | done | omega))) only [go_sem, Nat.reduceAdd, Nat.reduceEqDiff, Nat.reduceLeDiff, Nat.reduceSub]
      refine W_for n.tr.length (fun k s => s = ⟨[.any, .any, .bool false, .ptr 0 0, .any, .any, .ptr 1 0, .ref 2 1 0 n.tr.length, .bool (clK n false c k).ch, .any, .any, .any, .any, .any, .any, trs n.tr, I n.tr.length, I k, .any, .any, .any, .any, .any, .any, .any], [.box t_impl_Net [I n.pl, trs n.tr], .box t_sl_bool [.ref 3 1 0 n.pl.toNat], .row t_bool true 1 ((clK n false c k).tr.map PV.bool), .row t_bool true 1 ((clK n false c k).pl.map PV.bool)]⟩) ?_ ?_ ?_
      · simp (maxSteps := 2000000) (disch := (first | omega | (simp only [lenS]; first | done | omega))) only [go_sem, Nat.reduceAdd, Nat.reduceEqDiff, Nat.reduceLeDiff, Nat.reduceSub]
        rfl
      · rintro k s hk rfl
        have hT := hb.2.2.2 _ (List.getElem_mem hk)
        have hLs := goodT_lens hT (by omega)
        obtain ⟨_, g1, g2, g3⟩ := goodT_parts hT
        have p1 := places_in g1
        have p2 := places_in g2
        have hd := hcl k
        have hstep := clK_succ n false c k
        have htr : n.tr[k] = trN n k := (trN_eq hk).symm
        rw [htr] at hLs p1 p2
        have s1 : (clK n false c k).tr.getD k false = true → clK n false c (k + 1) = clK n false c k := fun h => hstep.trans (clStep_no (.inl h))
        have s2 : hitB (clK n false c k).pl (sideI false (trN n k)) = false → clK n false c (k + 1) = clK n false c k := fun h => hstep.trans (clStep_no (.inr h))
        have s3 : (clK n false c k).tr.getD k false = false → hitB (clK n false c k).pl (sideI false (trN n k)) = true → clK n false c (k + 1) = ⟨markB (clK n false c k).pl (sideO false (trN n k)), (clK n false c k).tr.set k true, true⟩ := fun h h2 => hstep.trans (clStep_yes h h2)
        simp only [sideI, sideO, Bool.false_eq_true, if_false, if_true] at s2 s3
        clear hstep
        generalize clK n false c k = d at *
        generalize clK n false c (k + 1) = d' at *
        have hcont := slices_ContainsFunc_sl_int_int_ok (trN n k).inn f_impl_reachedFrom_1 [.pv (.agg [bls d.pl]) 0] rfl (fun _ _ => rfl) (fun q => d.pl.getD q.toNat false) (fun x hx => impl_reachedFrom_1_ok x d.pl (by have := p1 x hx; omega)) (by omega)
        rw [show ((trN n k).inn.any fun q => d.pl.getD q.toNat false) = hitB d.pl (trN n k).inn from rfl] at hcont
        have hkd : k < d.tr.length := by omega
        simp (maxSteps := 2000000) (disch := (first | omega | (simp only [lenS]; first | done | omega))) only [go_sem, Nat.reduceAdd, Nat.reduceEqDiff, Nat.reduceLeDiff, Nat.reduceSub, htr, hcont]
        generalize trN n k = tr at *
        refine ⟨fun h3 => ?_, fun h3 => ⟨fun h => ?_, fun h => ?_⟩⟩
        · rw [s1 (by rw [← getD_eq hkd]; exact h3)]; rfl
        · have e := s3 (by rw [← getD_eq hkd]; exact h3) h
          subst e
          refine W_for tr.out.length (fun j s => s = ⟨[.any, .any, .bool false, .ptr 0 0, .any, .any, .ptr 1 0, .ref 2 1 0 n.tr.length, .bool true, .any, .any, .any, .any, .any, .any, trs n.tr, I n.tr.length, I k, .any, .any, .any, ints tr.out, I tr.out.length, I j, .any], [.box t_impl_Net [I n.pl, trs n.tr], .box t_sl_bool [.ref 3 1 0 n.pl.toNat], .row t_bool true 1 ((d.tr.set k true).map PV.bool), .row t_bool true 1 ((markB d.pl (tr.out.take j)).map PV.bool)]⟩) ?_ ?_ ?_
          · simp (maxSteps := 2000000) (disch := (first | omega | (simp only [lenS]; first | done | omega))) only [go_sem, Nat.reduceAdd, Nat.reduceEqDiff, Nat.reduceLeDiff, Nat.reduceSub]
            rfl
          · rintro j s hj rfl
            have h1 := p2 _ (List.getElem_mem hj)
            have h2 : tr.out[j].toNat < d.pl.length := by omega
            have h4 := markB_len d.pl (tr.out.take j)
            simp (maxSteps := 2000000) (disch := (first | omega | (simp only [lenS]; first | done | omega))) only [go_sem, Nat.reduceAdd, Nat.reduceEqDiff, Nat.reduceLeDiff, Nat.reduceSub]
            rw [markB_take hj]; rfl
          · rintro s rfl
            simp (maxSteps := 2000000) (disch := (first | omega | (simp only [lenS]; first | done | omega))) only [go_sem, Nat.reduceAdd, Nat.reduceEqDiff, Nat.reduceLeDiff, Nat.reduceSub, List.take_length]
            rfl
        · rw [s2 h]; rfl
      · rintro s rfl
        simp (maxSteps := 2000000) (disch := (first | omega | (simp only [lenS]; first | done | omega))) only [go_sem, Nat.reduceAdd, Nat.reduceEqDiff, Nat.reduceLeDiff, Nat.reduceSub]
        have hn := clRun_next (n := n) (bk := false) hc2
        rw [hc] at hn
        cases e : (clRound n false c).ch with
        | true =>
          have h1 := (clK_cnt (n := n) (bk := false) (s := c) (k := n.tr.length) (by omega)).2 e
          simp only [e, if_true] at hn
          refine ⟨cntF (clRound n false c).tr + 1, by unfold clRound; omega, clRound n false c, by unfold clRound; have := hcl n.tr.length; omega, by unfold clRound; have := hcl n.tr.length; omega, .inl ⟨rfl, ?_, hn.symm⟩⟩
          unfold clRound at e ⊢
          rw [e]
        | false =>
          simp only [e, Bool.false_eq_true, if_false] at hn
          refine ⟨0, by omega, clRound n false c, by unfold clRound; have := hcl n.tr.length; omega, by unfold clRound; have := hcl n.tr.length; omega, .inr ⟨rfl, ?_, hn.symm⟩⟩
          unfold clRound at e ⊢
          rw [e]
    · simp (maxSteps := 2000000) (disch := (first | omega | (simp only [lenS]; first | done | omega))) only [go_sem, Nat.reduceAdd, Nat.reduceEqDiff, Nat.reduceLeDiff, Nat.reduceSub]
theorem impl_reachedFrom_true (n : Net) (p : Int) (hg : goodN n = true) (hp : 0 ≤ p ∧ p < n.pl) : C f_impl_reachedFrom [encN n, I p, .bool true] [] = some (.tup [.un t_bool true 1 ((reachC n true p).pl.map PV.bool), .un t_bool true 1 ((reachC n true p).tr.map PV.bool)], []) := by
  have hb := goodN_parts hg
  have hlen := reachC_len n true p
  rw [reachC_eq] at hlen ⊢
  refine C_impl_reachedFrom ?_
  simp (maxSteps := 2000000) (disch := (first | omega | (simp only [lenS]; first | done | omega))) only [ir_impl_reachedFrom, go_sem, Nat.reduceAdd, Nat.reduceEqDiff, Nat.reduceLeDiff, Nat.reduceSub]
  simp (maxSteps := 2000000) (disch := (first | omega | (simp only [lenS]; first | done | omega))) only [go_sem, Nat.reduceAdd, Nat.reduceEqDiff, Nat.reduceLeDiff, Nat.reduceSub, List.getElem_replicate]
  generalize hR : clRun n true (cntF (List.replicate n.tr.length false) + 1) ⟨(List.replicate n.pl.toNat false).set p.toNat true, List.replicate n.tr.length false, true⟩ = R at *
  refine ⟨rfl, ?_⟩
  refine W_down (fun k s => ∃ c : Cl, c.pl.length = n.pl.toNat ∧ c.tr.length = n.tr.length ∧ ((k = cntF c.tr + 1 ∧ s = ⟨[.any, .any, .bool true, .ptr 0 0, .any, .any, .ptr 1 0, .ref 2 1 0 n.tr.length, .bool true, .any, .any, .any, .any, .any, .any, .any, .any, .any, .any, .any, .any, .any, .any, .any, .any], [.box t_impl_Net [I n.pl, trs n.tr], .box t_sl_bool [.ref 3 1 0 n.pl.toNat], .row t_bool true 1 (c.tr.map PV.bool), .row t_bool true 1 (c.pl.map PV.bool)]⟩ ∧ clRun n true (cntF c.tr + 1) c = R) ∨ (k = 0 ∧ s = ⟨[.any, .any, .bool true, .ptr 0 0, .any, .any, .ptr 1 0, .ref 2 1 0 n.tr.length, .bool false, .any, .any, .any, .any, .any, .any, .any, .any, .any, .any, .any, .any, .any, .any, .any, .any], [.box t_impl_Net [I n.pl, trs n.tr], .box t_sl_bool [.ref 3 1 0 n.pl.toNat], .row t_bool true 1 (c.tr.map PV.bool), .row t_bool true 1 (c.pl.map PV.bool)]⟩ ∧ c = R))) (cntF (List.replicate n.tr.length false) + 1) ?_ ?_
  · refine ⟨⟨(List.replicate n.pl.toNat false).set p.toNat true, List.replicate n.tr.length false, true⟩, by simp, by simp, .inl ⟨rfl, ?_, hR⟩⟩
    simp (maxSteps := 2000000) (disch := (first | omega | (simp only [lenS]; first | done | omega))) only [go_sem, Nat.reduceAdd, Nat.reduceEqDiff, Nat.reduceLeDiff, Nat.reduceSub]
    simp
  · rintro k0 s ⟨c, hc1, hc2, ⟨rfl, rfl, hc⟩ | ⟨rfl, rfl, rfl⟩⟩
    · have hcl := fun k => clK_len n true c k
      simp (maxSteps := 2000000) (disch := (first | omega | (simp only [lenS]; first | done | omega))) only [go_sem, Nat.reduceAdd, Nat.reduceEqDiff, Nat.reduceLeDiff, Nat.reduceSub]
      refine W_for n.tr.length (fun k s => s = ⟨[.any, .any, .bool true, .ptr 0 0, .any, .any, .ptr 1 0, .ref 2 1 0 n.tr.length, .bool (clK n true c k).ch, .any, .any, .any, .any, .any, .any, trs n.tr, I n.tr.length, I k, .any, .any, .any, .any, .any, .any, .any], [.box t_impl_Net [I n.pl, trs n.tr], .box t_sl_bool [.ref 3 1 0 n.pl.toNat], .row t_bool true 1 ((clK n true c k).tr.map PV.bool), .row t_bool true 1 ((clK n true c k).pl.map PV.bool)]⟩) ?_ ?_ ?_
      · simp (maxSteps := 2000000) (disch := (first | omega | (simp only [lenS]; first | done | omega))) only [go_sem, Nat.reduceAdd, Nat.reduceEqDiff, Nat.reduceLeDiff, Nat.reduceSub]
        rfl
      · rintro k s hk rfl
        have hT := hb.2.2.2 _ (List.getElem_mem hk)
        have hLs := goodT_lens hT (by omega)
        obtain ⟨_, g1, g2, g3⟩ := goodT_parts hT
        have p1 := places_in g2
        have p2 := places_in g1
        have hd := hcl k
        have hstep := clK_succ n true c k
        have htr : n.tr[k] = trN n k := (trN_eq hk).symm
        rw [htr] at hLs p1 p2
        have s1 : (clK n true c k).tr.getD k false = true → clK n true c (k + 1) = clK n true c k := fun h => hstep.trans (clStep_no (.inl h))
        have s2 : hitB (clK n true c k).pl (sideI true (trN n k)) = false → clK n true c (k + 1) = clK n true c k := fun h => hstep.trans (clStep_no (.inr h))
        have s3 : (clK n true c k).tr.getD k false = false → hitB (clK n true c k).pl (sideI true (trN n k)) = true → clK n true c (k + 1) = ⟨markB (clK n true c k).pl (sideO true (trN n k)), (clK n true c k).tr.set k true, true⟩ := fun h h2 => hstep.trans (clStep_yes h h2)
        simp only [sideI, sideO, Bool.false_eq_true, if_false, if_true] at s2 s3
        clear hstep
        generalize clK n true c k = d at *
        generalize clK n true c (k + 1) = d' at *
        have hcont := slices_ContainsFunc_sl_int_int_ok (trN n k).out f_impl_reachedFrom_1 [.pv (.agg [bls d.pl]) 0] rfl (fun _ _ => rfl) (fun q => d.pl.getD q.toNat false) (fun x hx => impl_reachedFrom_1_ok x d.pl (by have := p1 x hx; omega)) (by omega)
        rw [show ((trN n k).out.any fun q => d.pl.getD q.toNat false) = hitB d.pl (trN n k).out from rfl] at hcont
        have hkd : k < d.tr.length := by omega
        simp (maxSteps := 2000000) (disch := (first | omega | (simp only [lenS]; first | done | omega))) only [go_sem, Nat.reduceAdd, Nat.reduceEqDiff, Nat.reduceLeDiff, Nat.reduceSub, htr, hcont]
        generalize trN n k = tr at *
        refine ⟨fun h3 => ?_, fun h3 => ⟨fun h => ?_, fun h => ?_⟩⟩
        · rw [s1 (by rw [← getD_eq hkd]; exact h3)]; rfl
        · have e := s3 (by rw [← getD_eq hkd]; exact h3) h
          subst e
          refine W_for tr.inn.length (fun j s => s = ⟨[.any, .any, .bool true, .ptr 0 0, .any, .any, .ptr 1 0, .ref 2 1 0 n.tr.length, .bool true, .any, .any, .any, .any, .any, .any, trs n.tr, I n.tr.length, I k, .any, .any, .any, ints tr.inn, I tr.inn.length, I j, .any], [.box t_impl_Net [I n.pl, trs n.tr], .box t_sl_bool [.ref 3 1 0 n.pl.toNat], .row t_bool true 1 ((d.tr.set k true).map PV.bool), .row t_bool true 1 ((markB d.pl (tr.inn.take j)).map PV.bool)]⟩) ?_ ?_ ?_
          · simp (maxSteps := 2000000) (disch := (first | omega | (simp only [lenS]; first | done | omega))) only [go_sem, Nat.reduceAdd, Nat.reduceEqDiff, Nat.reduceLeDiff, Nat.reduceSub]
            rfl
          · rintro j s hj rfl
            have h1 := p2 _ (List.getElem_mem hj)
            have h2 : tr.inn[j].toNat < d.pl.length := by omega
            have h4 := markB_len d.pl (tr.inn.take j)
            simp (maxSteps := 2000000) (disch := (first | omega | (simp only [lenS]; first | done | omega))) only [go_sem, Nat.reduceAdd, Nat.reduceEqDiff, Nat.reduceLeDiff, Nat.reduceSub]
            rw [markB_take hj]; rfl
          · rintro s rfl
            simp (maxSteps := 2000000) (disch := (first | omega | (simp only [lenS]; first | done | omega))) only [go_sem, Nat.reduceAdd, Nat.reduceEqDiff, Nat.reduceLeDiff, Nat.reduceSub, List.take_length]
            rfl
        · rw [s2 h]; rfl
      · rintro s rfl
        simp (maxSteps := 2000000) (disch := (first | omega | (simp only [lenS]; first | done | omega))) only [go_sem, Nat.reduceAdd, Nat.reduceEqDiff, Nat.reduceLeDiff, Nat.reduceSub]
        have hn := clRun_next (n := n) (bk := true) hc2
        rw [hc] at hn
        cases e : (clRound n true c).ch with
        | true =>
          have h1 := (clK_cnt (n := n) (bk := true) (s := c) (k := n.tr.length) (by omega)).2 e
          simp only [e, if_true] at hn
          refine ⟨cntF (clRound n true c).tr + 1, by unfold clRound; omega, clRound n true c, by unfold clRound; have := hcl n.tr.length; omega, by unfold clRound; have := hcl n.tr.length; omega, .inl ⟨rfl, ?_, hn.symm⟩⟩
          unfold clRound at e ⊢
          rw [e]
        | false =>
          simp only [e, Bool.false_eq_true, if_false] at hn
          refine ⟨0, by omega, clRound n true c, by unfold clRound; have := hcl n.tr.length; omega, by unfold clRound; have := hcl n.tr.length; omega, .inr ⟨rfl, ?_, hn.symm⟩⟩
          unfold clRound at e ⊢
          rw [e]
    · simp (maxSteps := 2000000) (disch := (first | omega | (simp only [lenS]; first | done | omega))) only [go_sem, Nat.reduceAdd, Nat.reduceEqDiff, Nat.reduceLeDiff, Nat.reduceSub]
theorem impl_bothOf_ok (a b : List Bool) (ha : a.length < 2^30) (hab : a.length ≤ b.length) : C f_impl_bothOf [bls a, bls b] [] = some (.un t_int true 1 ((bothL a b).map I), []) := by
  refine C_impl_bothOf ?_
  simp (maxSteps := 2000000) (disch := (first | omega | (simp only [lenS]; first | done | omega))) only [ir_impl_bothOf, go_sem, Nat.reduceAdd, Nat.reduceEqDiff, Nat.reduceLeDiff, Nat.reduceSub]
  refine W_for a.length (fun k s => s = ⟨[.any, bls b, .any, .ref 0 1 0 (bothK a b k).length, .any, .any, bls a, I a.length, I k, .any, .any], [.row t_int true 1 ((bothK a b k).map I)]⟩) ?_ ?_ ?_
  · simp (maxSteps := 2000000) (disch := (first | omega | (simp only [lenS]; first | done | omega))) only [go_sem, Nat.reduceAdd, Nat.reduceEqDiff, Nat.reduceLeDiff, Nat.reduceSub]
    rfl
  · rintro k s hk rfl
    have h2 := bothK_len a b k
    have hkb : k < b.length := by omega
    have e1 := getD_eq hk
    have e2 := getD_eq hkb
    simp (maxSteps := 2000000) (disch := (first | omega | (simp only [lenS]; first | done | omega))) only [go_sem, Nat.reduceAdd, Nat.reduceEqDiff, Nat.reduceLeDiff, Nat.reduceSub]
    rw [e1, e2]
    refine ⟨fun h => ⟨fun h3 => ?_, fun h3 => ?_⟩, fun h => ?_⟩
    · rw [bothK_t h h3, List.map_append]; simp
    · rw [bothK_f (by rw [h, h3]; rfl)]; rfl
    · rw [bothK_f (by rw [h]; rfl)]; rfl
  · rintro s rfl
    simp (maxSteps := 2000000) (disch := (first | omega | (simp only [lenS]; first | done | omega))) only [go_sem, Nat.reduceAdd, Nat.reduceEqDiff, Nat.reduceLeDiff, Nat.reduceSub]
    rfl
theorem impl_onWay_ok (n : Net) (a b : Int) (hg : goodN n = true) (ha : 0 ≤ a ∧ a < n.pl) (hb2 : 0 ≤ b ∧ b < n.pl) : C f_impl_onWay [encN n, I a, I b] [] = some (.tup [.un t_int true 1 ((wayP n a b).map I), .un t_int true 1 ((wayT n a b).map I)], []) := by
  have hb := goodN_parts hg
  have l1 := reachC_len n false a
  have l2 := reachC_len n true b
  refine C_impl_onWay ?_
  simp (maxSteps := 2000000) (disch := (first | omega | (simp only [lenS]; first | done | omega))) only [ir_impl_onWay, go_sem, Nat.reduceAdd, Nat.reduceEqDiff, Nat.reduceLeDiff, Nat.reduceSub]
  simp (maxSteps := 2000000) (disch := (first | omega | (simp only [lenS]; first | done | omega))) only [go_sem, Nat.reduceAdd, Nat.reduceEqDiff, Nat.reduceLeDiff, Nat.reduceSub, impl_reachedFrom_false n a hg ha, impl_reachedFrom_true n b hg hb2]
  simp (maxSteps := 2000000) (disch := (first | omega | (simp only [lenS]; first | done | omega))) only [go_sem, Nat.reduceAdd, Nat.reduceEqDiff, Nat.reduceLeDiff, Nat.reduceSub, impl_bothOf_ok (reachC n false a).pl (reachC n true b).pl (by omega) (by omega), impl_bothOf_ok (reachC n false a).tr (reachC n true b).tr (by omega) (by omega)]
  rfl
theorem impl_GoodFlow_ok (f : Fl) (hf : smN f.net) : C f_impl_GoodFlow [encF f] [] = some (.bool (goodFl f), []) := by
  have hl := hf.1
  refine C_impl_GoodFlow ?_
  simp (maxSteps := 2000000) (disch := (first | omega | (simp only [lenS]; first | done | omega))) only [ir_impl_GoodFlow, go_sem, Nat.reduceAdd, Nat.reduceEqDiff, Nat.reduceLeDiff, Nat.reduceSub]
  simp (maxSteps := 2000000) (disch := (first | omega | (simp only [lenS]; first | done | omega))) only [go_sem, Nat.reduceAdd, Nat.reduceEqDiff, Nat.reduceLeDiff, Nat.reduceSub, impl_GoodNet_ok f.net hf, impl_within_ok]
  cases hg : goodN f.net with
  | false => simp [goodFl, okWay, hg]
  | true =>
    have hb := goodN_parts hg
    cases h1 : inB 0 (f.net.pl - 1) f.src with
    | false => simp (maxSteps := 2000000) (disch := (first | omega | (simp only [lenS]; first | done | omega))) only [go_sem, Nat.reduceAdd, Nat.reduceEqDiff, Nat.reduceLeDiff, Nat.reduceSub, h1]; simp [goodFl, okWay, hg, h1]
    | true =>
      cases h2 : inB 0 (f.net.pl - 1) f.dst with
      | false => simp (maxSteps := 2000000) (disch := (first | omega | (simp only [lenS]; first | done | omega))) only [go_sem, Nat.reduceAdd, Nat.reduceEqDiff, Nat.reduceLeDiff, Nat.reduceSub, h1, h2]; simp [goodFl, okWay, hg, h1, h2]
      | true =>
        have hok : okWay f.net f.src f.dst = true := by simp [okWay, hg, h1, h2]
        have ha : 0 ≤ f.src ∧ f.src < f.net.pl := by simp [inB] at h1; omega
        have hb2 : 0 ≤ f.dst ∧ f.dst < f.net.pl := by simp [inB] at h2; omega
        have hP : (wayP f.net f.src f.dst).length < 2^62 := by
          have h1 := bothK_len (reachC f.net false f.src).pl (reachC f.net true f.dst).pl (reachC f.net false f.src).pl.length
          have h2 := reachC_len f.net false f.src
          unfold wayP bothL; omega
        have hT : (wayT f.net f.src f.dst).length < 2^62 := by
          have h1 := bothK_len (reachC f.net false f.src).tr (reachC f.net true f.dst).tr (reachC f.net false f.src).tr.length
          have h2 := reachC_len f.net false f.src
          unfold wayT bothL; omega
        simp (maxSteps := 2000000) (disch := (first | omega | (simp only [lenS]; first | done | omega))) only [go_sem, Nat.reduceAdd, Nat.reduceEqDiff, Nat.reduceLeDiff, Nat.reduceSub, h1, h2]
        refine ⟨fun h => by simp [goodFl, h], fun hne => ?_⟩
        refine W_for f.net.tr.length (fun k s => s = ⟨[.any, .ptr 0 0, .any, .ptr 1 0, .any, .any, .any, .any, trs f.net.tr, I f.net.tr.length, I k, .any, .any], [.box t_impl_Flow [I f.net.pl, trs f.net.tr, I f.src, I f.dst], .box t_impl_Net [I f.net.pl, trs f.net.tr]]⟩ ∧ (f.net.tr.take k).all (fun t => !spoils f t) = true) ?_ ?_ ?_
        · simp (maxSteps := 2000000) (disch := (first | omega | (simp only [lenS]; first | done | omega))) only [go_sem, Nat.reduceAdd, Nat.reduceEqDiff, Nat.reduceLeDiff, Nat.reduceSub]
          rfl
        · rintro k s hk ⟨rfl, hall⟩
          have hT := hb.2.2.2 _ (List.getElem_mem hk)
          have hLs := goodT_lens hT (by omega)
          simp (maxSteps := 2000000) (disch := (first | omega | (simp only [lenS]; first | done | omega))) only [go_sem, Nat.reduceAdd, Nat.reduceEqDiff, Nat.reduceLeDiff, Nat.reduceSub, slices_Contains_sl_int_int_ok]
          have gs : spoils f f.net.tr[k] = true → goodFl f = false := fun hs => by
            have : (f.net.tr.all fun t => !spoils f t) = false := all_false hk (by simp [hs])
            simp [goodFl, this]
          exact ⟨fun a => by rw [gs (by simp [spoils, a])], fun a => ⟨fun b => by rw [gs (by simp [spoils, b])], fun b => ⟨fun c => by rw [gs (by simp [spoils, c])], fun c => ⟨fun d => by rw [gs (by simp [spoils, d])], fun d => ⟨rfl, all_take hk hall (by simp [spoils, a, b, c, d])⟩⟩⟩⟩⟩
        · rintro s ⟨rfl, hall⟩
          rw [List.take_length] at hall
          simp (maxSteps := 2000000) (disch := (first | omega | (simp only [lenS]; first | done | omega))) only [go_sem, Nat.reduceAdd, Nat.reduceEqDiff, Nat.reduceLeDiff, Nat.reduceSub, impl_onWay_ok f.net f.src f.dst hg ha hb2]
          have e : goodFl f = (decide (((wayP f.net f.src f.dst).length : Int) = f.net.pl) && decide ((wayT f.net f.src f.dst).length = f.net.tr.length)) := by
            simp only [goodFl, hok, hne, hall, decide_false, Bool.not_false, Bool.true_and]
          refine ⟨fun q1 => ⟨fun q2 => ?_, fun q2 => ?_⟩, fun q1 => ?_⟩
          · rw [e, decide_eq_true q1, decide_eq_true (by omega)]; rfl
          · rw [e, decide_eq_true q1, decide_eq_false (by omega)]; rfl
          · rw [e, decide_eq_false q1]; rfl
theorem impl_isSpec_ok (s : Spc) (hs : smSpc s) : C f_impl_isSpec [encS s] [] = some (.bool (goodS s), []) := by
  obtain ⟨hl, ht⟩ := hs
  refine C_impl_isSpec ?_
  simp (maxSteps := 2000000) (disch := (first | omega | (simp only [lenS]; first | done | omega))) only [ir_impl_isSpec, go_sem, Nat.reduceAdd, Nat.reduceEqDiff, Nat.reduceLeDiff, Nat.reduceSub]
  simp (maxSteps := 2000000) (disch := (first | omega | (simp only [lenS]; first | done | omega))) only [go_sem, Nat.reduceAdd, Nat.reduceEqDiff, Nat.reduceLeDiff, Nat.reduceSub, impl_within_ok]
  refine ⟨fun h1 => ⟨fun h2 => ?_, fun h2 => by simp [goodS, okTasks, h2]⟩, fun h1 => by simp [goodS, okTasks, h1]⟩
  have hc : 2 ≤ s.conds ∧ s.conds ≤ 8 := by simpa [inB] using h1
  have hn : 1 ≤ s.tasks.length ∧ s.tasks.length ≤ 6 := by simp [inB] at h2; omega
  refine W_for s.tasks.length (fun i st => st = ⟨[.any, .ptr 0 0, .any, .any, .any, I s.tasks.length, I i, .any, .any], [.box t_impl_Spec [I s.conds, tks s.tasks]]⟩ ∧ ∀ k, k < i → goodK s k (tkN s k) = true) ?_ ?_ ?_
  · simp (maxSteps := 2000000) (disch := (first | omega | (simp only [lenS]; first | done | omega))) only [go_sem, Nat.reduceAdd, Nat.reduceEqDiff, Nat.reduceLeDiff, Nat.reduceSub]
    exact ⟨rfl, fun k hk => by omega⟩
  · rintro i st hi ⟨rfl, hall⟩
    have hT := impl_isTask_ok s i hi hn.2 hc (ht _ (List.getElem_mem hi))
    rw [← tkN_eq hi] at hT
    simp (maxSteps := 2000000) (disch := (first | omega | (simp only [lenS]; first | done | omega))) only [go_sem, Nat.reduceAdd, Nat.reduceEqDiff, Nat.reduceLeDiff, Nat.reduceSub, hT]
    refine ⟨fun h => ⟨rfl, fun k hk => ?_⟩, fun h => ?_⟩
    · rcases Nat.lt_or_ge k i with h5 | h5
      · exact hall k h5
      · rw [show k = i by omega]; exact h
    · have : okTasks s = false := by
        rw [Bool.eq_false_iff]
        intro he
        have := (okTasks_parts he).2.2 i hi
        rw [h] at this; cases this
      simp [goodS, this]
  · rintro st ⟨rfl, hall⟩
    have hok : okTasks s = true := by
      simp only [okTasks, h1, h2, Bool.true_and, List.all_eq_true, List.mem_range]
      exact hall
    have hf := impl_specFlow_ok s hok
    have hg := impl_GoodFlow_ok (flS s) (flS_sm hok)
    have e : (trS s).length = (mvS s).length := trU_len s s.tasks.length
    have h3 := mvU_len hok s.tasks.length (by omega)
    unfold mvS at e
    unfold encF flS at hg
    simp only at hg
    simp (maxSteps := 2000000) (disch := (first | omega | (simp only [lenS]; first | done | omega))) only [go_sem, Nat.reduceAdd, Nat.reduceEqDiff, Nat.reduceLeDiff, Nat.reduceSub, hf, hg]
    simp [goodS, hok, flS]
theorem impl_GoodMark_ok (p : Int) (m : List Int) (hl : m.length < 2^62) : C f_impl_GoodMark [I p, ints m] [] = some (.bool (goodM p m), []) := by
  refine C_impl_GoodMark ?_
  simp (maxSteps := 2000000) (disch := (first | omega | (simp only [lenS]; first | done | omega))) only [ir_impl_GoodMark, go_sem, Nat.reduceAdd, Nat.reduceEqDiff, Nat.reduceLeDiff, Nat.reduceSub]
  simp (maxSteps := 2000000) (disch := (first | omega | (simp only [lenS]; first | done | omega))) only [go_sem, Nat.reduceAdd, Nat.reduceEqDiff, Nat.reduceLeDiff, Nat.reduceSub, impl_within_ok, impl_allWithin_ok m _ _ hl]
  unfold goodM; grind
theorem impl_isCase_ok (s : Spc) (c : Cs) (h : okTasks s = true) (hl : c.mark.length < 2^62) : C f_impl_isCase [encS s, encC c] [] = some (.bool (goodC s c), []) := by
  obtain ⟨hc, hn, -⟩ := okTasks_parts h
  have hM := impl_GoodMark_ok (s.conds + s.tasks.length) c.mark hl
  refine C_impl_isCase ?_
  simp (maxSteps := 2000000) (disch := (first | omega | (simp only [lenS]; first | done | omega))) only [ir_impl_isCase, go_sem, Nat.reduceAdd, Nat.reduceEqDiff, Nat.reduceLeDiff, Nat.reduceSub]
  cases hg : goodM (s.conds + s.tasks.length) c.mark with
  | false =>
    simp (maxSteps := 2000000) (disch := (first | omega | (simp only [lenS]; first | done | omega))) only [go_sem, Nat.reduceAdd, Nat.reduceEqDiff, Nat.reduceLeDiff, Nat.reduceSub, hM, hg]
    simp [goodC, hg]
  | true =>
    have h2 := goodC_len hg hc.1
    have e : c.mark[1]'h2.2 = at_ c.mark 1 := at_eq (p := 1) h2.2
    simp (maxSteps := 2000000) (disch := (first | omega | (simp only [lenS]; first | done | omega))) only [go_sem, Nat.reduceAdd, Nat.reduceEqDiff, Nat.reduceLeDiff, Nat.reduceSub, hM, hg]
    simp only [goodC, hg, Bool.true_and]
    grind
theorem impl_isEnabled_1_ok (m : List Int) (p : Int) (h : 0 ≤ p ∧ p.toNat < m.length) : C f_impl_isEnabled_1 [I p, .pv (.agg [ints m]) 0] [] = some (.bool (at_ m p == 0), []) := by
  obtain ⟨h1, h2⟩ := h
  refine C_impl_isEnabled_1 ?_
  simp (maxSteps := 2000000) (disch := (first | omega | (simp only [lenS]; first | done | omega))) only [ir_impl_isEnabled_1, go_sem, Nat.reduceAdd, Nat.reduceEqDiff, Nat.reduceLeDiff, Nat.reduceSub]
  simp only [at_eq h2]
  grind
theorem impl_isEnabled_ok (t : Tr) (m : List Int) (ht : ∀ q ∈ t.inn, 0 ≤ q ∧ q.toNat < m.length) (hl : t.inn.length < 2^62) : C f_impl_isEnabled [encT t, ints m] [] = some (.bool (canT t m), []) := by
  refine C_impl_isEnabled ?_
  simp (maxSteps := 2000000) (disch := (first | omega | (simp only [lenS]; first | done | omega))) only [ir_impl_isEnabled, go_sem, Nat.reduceAdd, Nat.reduceEqDiff, Nat.reduceLeDiff, Nat.reduceSub]
  have h := slices_ContainsFunc_sl_int_int_ok t.inn f_impl_isEnabled_1 [.pv (.agg [ints m]) 0] rfl (fun _ _ => rfl) (fun p => at_ m p == 0) (fun x hx => impl_isEnabled_1_ok m x (ht x hx)) hl
  simp (maxSteps := 2000000) (disch := (first | omega | (simp only [lenS]; first | done | omega))) only [go_sem, Nat.reduceAdd, Nat.reduceEqDiff, Nat.reduceLeDiff, Nat.reduceSub, h]
  have : (t.inn.any fun p => at_ m p == 0) = !canT t m := by rw [canT, List.any_eq_not_all_not]
  rw [this]; simp
theorem impl_movesIn_1_ok (s : Spc) (c : Cs) (m : Mv) (hg : goodS s = true) (hc : goodC s c = true) (hm : m ∈ mvS s) : C f_impl_movesIn_1 [encM m, .pv (encS s) 0, .pv (encC c) 0] [] = some (.bool (!canM s c m), []) := by
  have hok := goodS_ok hg
  have hT := trM_good hg hm
  have hcl := (goodC_len (goodC_mark hc) (okTasks_parts hok).1.1).1
  have hlt := goodT_lt hT hcl
  have ht := impl_transOf_ok s m hok (mvS_is hm)
  have hsz := trS_sm hok (trM s m) (by rw [trS_map]; exact List.mem_map_of_mem hm)
  have hE := impl_isEnabled_ok (trM s m) c.mark hlt.1 (by omega)
  unfold canM
  obtain ⟨mt, mb, mp⟩ := m
  refine C_impl_movesIn_1 ?_
  simp (maxSteps := 2000000) (disch := (first | omega | (simp only [lenS]; first | done | omega))) only [ir_impl_movesIn_1, go_sem, Nat.reduceAdd, Nat.reduceEqDiff, Nat.reduceLeDiff, Nat.reduceSub]
  cases mb with
  | true =>
    have hr : (trM s ⟨mt, true, mp⟩).rst = [] := by simp only [trM, if_true]; split <;> rfl
    rw [if_pos rfl] at ht
    unfold encT at hE
    rw [hr, show ints [] = .sl true 1 [] from rfl] at hE
    generalize trM s ⟨mt, true, mp⟩ = T at *
    simp (maxSteps := 2000000) (disch := (first | omega | (simp only [lenS]; first | done | omega))) only [go_sem, Nat.reduceAdd, Nat.reduceEqDiff, Nat.reduceLeDiff, Nat.reduceSub, ht, hE]
    grind
  | false =>
    rw [if_neg (by simp)] at ht
    generalize trM s ⟨mt, false, mp⟩ = T at *
    simp (maxSteps := 2000000) (disch := (first | omega | (simp only [lenS]; first | done | omega))) only [go_sem, Nat.reduceAdd, Nat.reduceEqDiff, Nat.reduceLeDiff, Nat.reduceSub, ht, hE]
    grind
theorem slices_IndexFunc_sl_impl_Move_impl_Move_ok (l : List Mv) (g : FuncId) (caps : List PV) (hc : refsL caps = []) (hcv : ∀ m h, viewLWith [] m h caps = some caps) (p : Mv → Bool) (hp : ∀ x ∈ l, C g (encM x :: caps) [] = some (.bool (p x), [])) (hl : l.length < 2^62) :
    C f_slices_IndexFunc_sl_impl_Move_impl_Move [.sl true 3 (l.map encM), .clo g caps] [] = some (I (idxI l p), []) := by
  refine C_slices_IndexFunc_sl_impl_Move_impl_Move ?_
  simp (maxSteps := 2000000) (disch := (first | omega | (simp only [lenS]; first | done | omega))) only [ir_slices_IndexFunc_sl_impl_Move_impl_Move, go_sem, Nat.reduceAdd, Nat.reduceEqDiff, Nat.reduceLeDiff, Nat.reduceSub]
  refine W_for l.length (fun k s => s = ⟨[.sl true 3 (l.map encM), .clo g caps, .any, .any, I l.length, I k, .any, .any], []⟩ ∧ (l.take k).any p = false) ?_ ?_ ?_
  · simp (maxSteps := 2000000) (disch := (first | omega | (simp only [lenS]; first | done | omega))) only [go_sem, Nat.reduceAdd, Nat.reduceEqDiff, Nat.reduceLeDiff, Nat.reduceSub, hc]
    rfl
  · rintro k s hk ⟨rfl, hall⟩
    simp (maxSteps := 2000000) (disch := (first | omega | (simp only [lenS]; first | done | omega))) only [go_sem, Nat.reduceAdd, Nat.reduceEqDiff, Nat.reduceLeDiff, Nat.reduceSub, hc, hcv, hp _ (List.getElem_mem hk)]
    exact ⟨fun h => by rw [idxI_some hk hall h], fun h => ⟨rfl, any_take hk hall h⟩⟩
  · rintro s ⟨rfl, hall⟩
    simp (maxSteps := 2000000) (disch := (first | omega | (simp only [lenS]; first | done | omega))) only [go_sem, Nat.reduceAdd, Nat.reduceEqDiff, Nat.reduceLeDiff, Nat.reduceSub]
    rw [List.take_length] at hall
    rw [idxI_none hall]
theorem slices_DeleteFunc_sl_impl_Move_impl_Move_ok (M : List Mv) (g : FuncId) (b1 b2 : Blk) (t1 t2 : TypeId) (c1 c2 : List PV) (h1 : b1 = .box t1 c1) (h2 : b2 = .box t2 c2) (n1 : refsL c1 = []) (n2 : refsL c2 = []) (q1 : ∀ R m h, viewLWith R m h c1 = some c1) (q2 : ∀ R m h, viewLWith R m h c2 = some c2) (o1 : c1.all PV.one = true) (o2 : c2.all PV.one = true) (p : Mv → Bool)
    (hp : ∀ x ∈ M, C g [encM x, .pv (.agg c1) 0, .pv (.agg c2) 0] [] = some (.bool (p x), [])) (hl : M.length ≤ 60) (h0 : 0 < M.length) (t : TypeId) :
    Lw (C f_slices_DeleteFunc_sl_impl_Move_impl_Move [.ref 0 3 0 M.length, .clo g [.ptr 1 0, .ptr 2 0]] [.row t true 3 (M.map encM), b1, b2]) fun r => ∃ row : List Mv, r = (.ref 0 3 0 (M.filter (fun x => !p x)).length, [.row t true 3 (row.map encM), b1, b2]) ∧ row.take (M.filter (fun x => !p x)).length = M.filter (fun x => !p x) ∧ row.length = M.length := by
  subst h1 h2
  have hI := slices_IndexFunc_sl_impl_Move_impl_Move_ok M g [.pv (.agg c1) 0, .pv (.agg c2) 0] (by simp [refsL, PV.refs, n1, n2]) (fun m h => by simp [viewLWith, PV.viewWith, PV.refs, n1, n2]) p hp (by omega)
  have hilt := idxI_lt M p
  have rn1 : ∀ f, renL f c1 = c1 := fun f => renL_none f c1 n1
  have rn2 : ∀ f, renL f c2 = c2 := fun f => renL_none f c2 n2
  refine E_slices_DeleteFunc_sl_impl_Move_impl_Move ?_
  simp (maxSteps := 2000000) (disch := (first | omega | (simp only [lenS]; first | done | omega))) only [ir_slices_DeleteFunc_sl_impl_Move_impl_Move, go_sem, Nat.reduceAdd, Nat.reduceEqDiff, Nat.reduceLeDiff, Nat.reduceSub]
  simp (maxSteps := 2000000) (disch := (first | omega | (simp only [lenS]; first | done | omega))) only [go_sem, Nat.reduceAdd, Nat.reduceEqDiff, Nat.reduceLeDiff, Nat.reduceSub, hI, n1, n2, q1, q2, o1, o2, rn1, rn2]
  cases hf : M.findIdx? p with
  | none =>
    have e : idxI M p = -1 := by simp [idxI, hf]
    have hF : M.filter (fun x => !p x) = M := by
      rw [List.findIdx?_eq_none_iff] at hf
      rw [List.filter_eq_self]
      intro x hx
      simpa using hf x hx
    simp (maxSteps := 2000000) (disch := (first | omega | (simp only [lenS]; first | done | omega))) only [go_sem, Nat.reduceAdd, Nat.reduceEqDiff, Nat.reduceLeDiff, Nat.reduceSub, e, rn1, rn2]
    rw [hF]
    exact ⟨M, rfl, by simp, rfl⟩
  | some i0 =>
    have e : idxI M p = i0 := by simp [idxI, hf]
    rw [List.findIdx?_eq_some_iff_getElem] at hf
    obtain ⟨hi, hpi, hpre⟩ := hf
    rw [e] at hilt
    simp (maxSteps := 2000000) (disch := (first | omega | (simp only [lenS]; first | done | omega))) only [go_sem, Nat.reduceAdd, Nat.reduceEqDiff, Nat.reduceLeDiff, Nat.reduceSub, e]
    refine ⟨fun h => by omega, fun h => ?_⟩
    refine W_for (M.length - (i0 + 1)) (fun k st => ∃ (row : List Mv) (q : Nat), st = ⟨[.ref 0 3 0 M.length, .clo g [.ptr 1 0, .ptr 2 0], .any, I q, I ((i0 + 1 + k : Nat) : Int), .any, .any, .any, .any], [.row t true 3 (row.map encM), .box t1 c1, .box t2 c2]⟩ ∧ row.length = M.length ∧ q ≤ i0 + k ∧ row.take q = (M.take (i0 + 1 + k)).filter (fun x => !p x) ∧ row.drop (i0 + 1 + k) = M.drop (i0 + 1 + k)) ?_ ?_ ?_
    · simp (maxSteps := 2000000) (disch := (first | omega | (simp only [lenS]; first | done | omega))) only [go_sem, Nat.reduceAdd, Nat.reduceEqDiff, Nat.reduceLeDiff, Nat.reduceSub, n1, n2, rn1, rn2]
      refine ⟨M, i0, rfl, rfl, by omega, ?_, rfl⟩
      rw [List.take_succ_eq_append_getElem hi, List.filter_append, List.filter_eq_self.2]
      · simp [hpi]
      · intro x hx
        obtain ⟨j, hj, rfl⟩ := List.mem_iff_getElem.1 hx
        have hj' : j < i0 := by simp at hj; omega
        have := hpre j hj'
        simpa using this
    · rintro k st hk ⟨row, q, rfl, r1, r2, r3, r4⟩
      have hj : i0 + 1 + k < M.length := by omega
      have hj1 : i0 + 1 + (k + 1) = i0 + 1 + k + 1 := by omega
      have e1 : row[i0 + 1 + k]? = some M[i0 + 1 + k] := by
        have := congrArg (fun l => l[0]?) r4
        simpa [List.getElem?_drop, hj] using this
      have hx := hp _ (List.getElem_mem hj)
      have r5 : row.drop (i0 + 1 + k + 1) = M.drop (i0 + 1 + k + 1) := by
        have := congrArg List.tail r4
        simpa using this
      have r6 : (M.take (i0 + 1 + k + 1)).filter (fun x => !p x) = (M.take (i0 + 1 + k)).filter (fun x => !p x) ++ (if p M[i0 + 1 + k] = true then [] else [M[i0 + 1 + k]]) := by
        rw [List.take_succ_eq_append_getElem hj, List.filter_append]
        cases hpx : p M[i0 + 1 + k] <;> simp [hpx]
      rw [hj1, r6]
      have hqj : q < i0 + 1 + k := by omega
      generalize i0 + 1 + k = j at *
      simp (maxSteps := 2000000) (disch := (first | omega | (simp only [lenS]; first | done | omega))) only [go_sem, Nat.reduceAdd, Nat.reduceEqDiff, Nat.reduceLeDiff, Nat.reduceSub, e1, r1, n1, n2, q1, q2, o1, o2, hx, rn1, rn2]
      refine ⟨fun hpx => ?_, fun hpx => ?_⟩
      · refine ⟨row, q, rfl, r1, by omega, ?_, r5⟩
        rw [r3, hpx]; simp
      · refine ⟨row.set q M[j], q + 1, ?_, by simp [r1], by omega, ?_, ?_⟩
        · rw [List.map_set]; rfl
        · rw [hpx, ← r3, take_set_succ (by omega)]
          simp
        · rw [List.drop_set_of_lt (by omega)]; exact r5
    · rintro st ⟨row, q, rfl, r1, r2, r3, r4⟩
      rw [show i0 + 1 + (M.length - (i0 + 1)) = M.length by omega] at *
      rw [List.take_length] at r3
      simp (maxSteps := 2000000) (disch := (first | omega | (simp only [lenS]; first | done | omega))) only [go_sem, Nat.reduceAdd, Nat.reduceEqDiff, Nat.reduceLeDiff, Nat.reduceSub, r1, n1, n2, rn1, rn2]
      rw [← r3]
      have hql : (row.take q).length = q := by simp; omega
      rw [hql]
      refine ⟨row.take q ++ List.replicate (M.length - q) ⟨0, false, 0⟩, ?_, ?_, ?_⟩
      · rw [List.map_append, List.map_replicate, List.map_take, List.drop_of_length_le (by simp; omega), List.append_nil]
        rfl
      · rw [List.take_append_of_le_length (by omega), List.take_take, Nat.min_self]
      · simp; omega
theorem impl_movesIn_ok (s : Spc) (c : Cs) (hg : goodS s = true) (hc : goodC s c = true) :
    Lw (C f_impl_movesIn [encS s, encC c] []) fun r => r = (.un t_impl_Move true 3 ((movL s c).map encM), []) ∨ (movL s c = [] ∧ r = (.sl true 3 [], [])) := by
  have hok := goodS_ok hg
  have hmv := impl_movesOf_ok s hok
  have h2 := mvU_len hok s.tasks.length (by omega)
  have hn := (okTasks_parts hok).2.1
  have h3 : (mvS s).length ≤ 60 ∧ 2 ≤ (mvS s).length := by unfold mvS; omega
  obtain ⟨_, hD, row, rfl, hrow, hrl⟩ := slices_DeleteFunc_sl_impl_Move_impl_Move_ok (mvS s) f_impl_movesIn_1 _ _ t_impl_Spec t_impl_Case [I s.conds, tks s.tasks] [I c.state, ints c.mark] rfl rfl rfl rfl (fun _ _ _ => rfl) (fun _ _ _ => rfl) rfl rfl (fun m => !canM s c m) (fun m hm => impl_movesIn_1_ok s c m hg hc hm) (by omega) (by omega) t_impl_Move
  have hF : (mvS s).filter (fun x => !(fun m => !canM s c m) x) = (mvS s).filter (canM s c) := by simp
  rw [hF] at hD hrow
  have hFl : ((mvS s).filter (canM s c)).length ≤ (mvS s).length := List.length_filter_le _ _
  unfold movL
  refine E_impl_movesIn ?_
  simp (maxSteps := 2000000) (disch := (first | omega | (simp only [lenS]; first | done | omega))) only [ir_impl_movesIn, go_sem, Nat.reduceAdd, Nat.reduceEqDiff, Nat.reduceLeDiff, Nat.reduceSub]
  by_cases h1 : c.state = 1
  · rw [if_pos h1]
    generalize (mvS s).filter (canM s c) = F at *
    generalize mvS s = M at *
    rw [h1] at hD
    by_cases hc1 : F.length = M.length
    · have hrF : row = F := by rw [← hrow, hc1, ← hrl, List.take_length]
      subst hrF
      simp (maxSteps := 2000000) (disch := (first | omega | (simp only [lenS]; first | done | omega))) only [go_sem, Nat.reduceAdd, Nat.reduceEqDiff, Nat.reduceLeDiff, Nat.reduceSub, h1, hmv, hD]
      simp
    · by_cases hc2 : F.length = 0
      · have hF0 : F = [] := List.eq_nil_of_length_eq_zero hc2
        subst hF0
        simp (maxSteps := 2000000) (disch := (first | omega | (simp only [lenS]; first | done | omega))) only [go_sem, Nat.reduceAdd, Nat.reduceEqDiff, Nat.reduceLeDiff, Nat.reduceSub, h1, hmv, hD]
        rw [expK_part (by simp; omega) (by simp)]
        simp (maxSteps := 2000000) (disch := (first | omega | (simp only [lenS]; first | done | omega))) only [go_sem, Nat.reduceAdd, Nat.reduceEqDiff, Nat.reduceLeDiff, Nat.reduceSub]
        simp
      · simp (maxSteps := 2000000) (disch := (first | omega | (simp only [lenS]; first | done | omega))) only [go_sem, Nat.reduceAdd, Nat.reduceEqDiff, Nat.reduceLeDiff, Nat.reduceSub, h1, hmv, hD]
        rw [← List.map_take, hrow]
        exact .inl rfl
  · rw [if_neg h1]
    simp (maxSteps := 2000000) (disch := (first | omega | (simp only [lenS]; first | done | omega))) only [go_sem, Nat.reduceAdd, Nat.reduceEqDiff, Nat.reduceLeDiff, Nat.reduceSub, h1]
    simp
theorem slices_Index_sl_impl_Move_impl_Move_ok (M : List Mv) (m : Mv) (hl : M.length < 2^62) : C f_slices_Index_sl_impl_Move_impl_Move [.sl true 3 (M.map encM), encM m] [] = some (I (idxI M (fun y => y == m)), []) := by
  refine C_slices_Index_sl_impl_Move_impl_Move ?_
  simp (maxSteps := 2000000) (disch := (first | omega | (simp only [lenS]; first | done | omega))) only [ir_slices_Index_sl_impl_Move_impl_Move, go_sem, Nat.reduceAdd, Nat.reduceEqDiff, Nat.reduceLeDiff, Nat.reduceSub]
  refine W_for M.length (fun k st => st = ⟨[.sl true 3 (M.map encM), .any, .ptr 0 0, .any, .any, I M.length, I k, .any, .any], [.box t_impl_Move [I m.task, .bool m.begin_, I m.pick]]⟩ ∧ (M.take k).any (fun y => y == m) = false) ?_ ?_ ?_
  · simp (maxSteps := 2000000) (disch := (first | omega | (simp only [lenS]; first | done | omega))) only [go_sem, Nat.reduceAdd, Nat.reduceEqDiff, Nat.reduceLeDiff, Nat.reduceSub]
    rfl
  · rintro k st hk ⟨rfl, hall⟩
    have e : (M[k] == m) = (m.task == M[k].task && (m.begin_ == M[k].begin_ && m.pick == M[k].pick)) := by rw [BEq.comm]; exact mv_beq _ _
    simp (maxSteps := 2000000) (disch := (first | omega | (simp only [lenS]; first | done | omega))) only [go_sem, Nat.reduceAdd, Nat.reduceEqDiff, Nat.reduceLeDiff, Nat.reduceSub, eqL, eq1]
    rw [← e]
    refine ⟨fun h => ?_, fun h => ⟨rfl, any_take hk hall h⟩⟩
    rw [idxI_some hk hall (by simpa using h)]
  · rintro st ⟨rfl, hall⟩
    simp (maxSteps := 2000000) (disch := (first | omega | (simp only [lenS]; first | done | omega))) only [go_sem, Nat.reduceAdd, Nat.reduceEqDiff, Nat.reduceLeDiff, Nat.reduceSub]
    rw [List.take_length] at hall
    rw [idxI_none hall]
theorem slices_Contains_sl_impl_Move_impl_Move_ok (M : List Mv) (m : Mv) (hl : M.length < 2^62) : C f_slices_Contains_sl_impl_Move_impl_Move [.sl true 3 (M.map encM), encM m] [] = some (.bool (M.any (fun y => y == m)), []) := by
  have h := slices_Index_sl_impl_Move_impl_Move_ok M m hl
  rw [idxI_any]
  obtain ⟨mt, mb, mp⟩ := m
  refine C_slices_Contains_sl_impl_Move_impl_Move ?_
  simp (maxSteps := 2000000) (disch := (first | omega | (simp only [lenS]; first | done | omega))) only [ir_slices_Contains_sl_impl_Move_impl_Move, go_sem, Nat.reduceAdd, Nat.reduceEqDiff, Nat.reduceLeDiff, Nat.reduceSub]
  cases mb with
  | true =>
    simp (maxSteps := 2000000) (disch := (first | omega | (simp only [lenS]; first | done | omega))) only [go_sem, Nat.reduceAdd, Nat.reduceEqDiff, Nat.reduceLeDiff, Nat.reduceSub, h]
    grind
  | false =>
    simp (maxSteps := 2000000) (disch := (first | omega | (simp only [lenS]; first | done | omega))) only [go_sem, Nat.reduceAdd, Nat.reduceEqDiff, Nat.reduceLeDiff, Nat.reduceSub, h]
    grind
theorem impl_fired_ok (t : Tr) (m : List Int) (h1 : ∀ q ∈ t.inn, 0 ≤ q ∧ q.toNat < m.length) (h2 : ∀ q ∈ t.out, 0 ≤ q ∧ q.toNat < m.length) (h3 : ∀ q ∈ t.rst, 0 ≤ q ∧ q.toNat < m.length) (hl : smT t) (hm : m.length < 2^30) (hb : ∀ x ∈ m, 0 ≤ x ∧ x ≤ 50) :
    C f_impl_fired [encT t, ints m] [] = some (.un t_int true 1 ((firedM t m).map I), []) := by
  obtain ⟨g1, g2, g3⟩ := hl
  refine C_impl_fired ?_
  simp (maxSteps := 2000000) (disch := (first | omega | (simp only [lenS]; first | done | omega))) only [ir_impl_fired, go_sem, Nat.reduceAdd, Nat.reduceEqDiff, Nat.reduceLeDiff, Nat.reduceSub]
  simp (maxSteps := 2000000) (disch := (first | omega | (simp only [lenS]; first | done | omega))) only [go_sem, Nat.reduceAdd, Nat.reduceEqDiff, Nat.reduceLeDiff, Nat.reduceSub, slices_Clone_sl_int_int_ok]
  refine W_for t.inn.length (fun k s => s = ⟨[.any, .any, .ptr 0 0, .any, .ref 1 1 0 m.length, .any, .any, .any, ints t.inn, I t.inn.length, I k, .any, .any, .any, .any, .any, .any, .any, .any, .any], [.box t_impl_Trans [ints t.inn, ints t.out, ints t.rst], .row t_int true 1 ((decL m (t.inn.take k)).map I)]⟩) ?_ ?_ ?_
  · simp (maxSteps := 2000000) (disch := (first | omega | (simp only [lenS]; first | done | omega))) only [go_sem, Nat.reduceAdd, Nat.reduceEqDiff, Nat.reduceLeDiff, Nat.reduceSub]
    rfl
  · rintro k s hk rfl
    obtain ⟨h4, h5⟩ := h1 _ (List.getElem_mem hk)
    have h6 := decL_len m (t.inn.take k)
    have h7 := at_bound (p := t.inn[k]) (decL_bound (l := t.inn.take k) hb (fun p hp => (h1 p (List.mem_of_mem_take hp)).2)) (by omega)
    have h8 : (t.inn.take k).length = k := by simp; omega
    simp (maxSteps := 2000000) (disch := (first | omega | (simp only [lenS]; first | done | omega))) only [go_sem, Nat.reduceAdd, Nat.reduceEqDiff, Nat.reduceLeDiff, Nat.reduceSub, at_eq]
    rw [decL_take hk]; rfl
  · rintro s rfl
    simp (maxSteps := 2000000) (disch := (first | omega | (simp only [lenS]; first | done | omega))) only [go_sem, Nat.reduceAdd, Nat.reduceEqDiff, Nat.reduceLeDiff, Nat.reduceSub, List.take_length]
    have b1 := decL_bound (l := t.inn) hb (fun p hp => (h1 p hp).2)
    have l1 := decL_len m t.inn
    generalize e1 : decL m t.inn = m1 at b1 l1 ⊢
    refine W_for t.rst.length (fun k s => s = ⟨[.any, .any, .ptr 0 0, .any, .ref 1 1 0 m.length, .any, .any, .any, .any, .any, .any, .any, ints t.rst, I t.rst.length, I k, .any, .any, .any, .any, .any], [.box t_impl_Trans [ints t.inn, ints t.out, ints t.rst], .row t_int true 1 ((zerL m1 (t.rst.take k)).map I)]⟩) ?_ ?_ ?_
    · simp (maxSteps := 2000000) (disch := (first | omega | (simp only [lenS]; first | done | omega))) only [go_sem, Nat.reduceAdd, Nat.reduceEqDiff, Nat.reduceLeDiff, Nat.reduceSub]
      rfl
    · rintro k s hk rfl
      obtain ⟨h4, h5⟩ := h3 _ (List.getElem_mem hk)
      have h6 := zerL_len m1 (t.rst.take k)
      simp (maxSteps := 2000000) (disch := (first | omega | (simp only [lenS]; first | done | omega))) only [go_sem, Nat.reduceAdd, Nat.reduceEqDiff, Nat.reduceLeDiff, Nat.reduceSub]
      rw [zerL_take hk]; rfl
    · rintro s rfl
      simp (maxSteps := 2000000) (disch := (first | omega | (simp only [lenS]; first | done | omega))) only [go_sem, Nat.reduceAdd, Nat.reduceEqDiff, Nat.reduceLeDiff, Nat.reduceSub, List.take_length]
      have b2 := zerL_bound (l := t.rst) b1 (by omega)
      have l2 := zerL_len m1 t.rst
      generalize e2 : zerL m1 t.rst = m2 at b2 l2 ⊢
      refine W_for t.out.length (fun k s => s = ⟨[.any, .any, .any, .any, .ref 0 1 0 m.length, .any, .any, .any, .any, .any, .any, .any, .any, .any, .any, .any, ints t.out, I t.out.length, I k, .any], [.row t_int true 1 ((incL m2 (t.out.take k)).map I)]⟩) ?_ ?_ ?_
      · simp (maxSteps := 2000000) (disch := (first | omega | (simp only [lenS]; first | done | omega))) only [go_sem, Nat.reduceAdd, Nat.reduceEqDiff, Nat.reduceLeDiff, Nat.reduceSub]
        rfl
      · rintro k s hk rfl
        obtain ⟨h4, h5⟩ := h2 _ (List.getElem_mem hk)
        have h6 := incL_len m2 (t.out.take k)
        have h7 := at_bound (p := t.out[k]) (incL_bound (l := t.out.take k) b2 (fun p hp => by have := (h2 p (List.mem_of_mem_take hp)).2; omega)) (by omega)
        have h8 : (t.out.take k).length = k := by simp; omega
        simp (maxSteps := 2000000) (disch := (first | omega | (simp only [lenS]; first | done | omega))) only [go_sem, Nat.reduceAdd, Nat.reduceEqDiff, Nat.reduceLeDiff, Nat.reduceSub, at_eq]
        rw [incL_take hk]; rfl
      · rintro s rfl
        have h6 := incL_len m2 t.out
        simp (maxSteps := 2000000) (disch := (first | omega | (simp only [lenS]; first | done | omega))) only [go_sem, Nat.reduceAdd, Nat.reduceEqDiff, Nat.reduceLeDiff, Nat.reduceSub, List.take_length]
        subst e2 e1; rfl
theorem impl_checkedMark_mt (m : List Int) (t : TypeId) (hm : m.length < 2^62) (h : m.all (inB 0 50) = true) : C f_impl_checkedMark [.ref 0 1 0 m.length] [.row t true 1 (m.map I)] = some (.tup [.ref 0 1 0 m.length, .bool true], [.row t true 1 (m.map I)]) := by
  refine C_impl_checkedMark ?_
  simp (maxSteps := 2000000) (disch := (first | omega | (simp only [lenS]; first | done | omega))) only [ir_impl_checkedMark, go_sem, Nat.reduceAdd, Nat.reduceEqDiff, Nat.reduceLeDiff, Nat.reduceSub]
  simp (maxSteps := 2000000) (disch := (first | omega | (simp only [lenS]; first | done | omega))) only [go_sem, Nat.reduceAdd, Nat.reduceEqDiff, Nat.reduceLeDiff, Nat.reduceSub, impl_allWithin_ok m _ _ hm, h]
theorem impl_checkedMark_mf (m : List Int) (t : TypeId) (hm : m.length < 2^62) (h : m.all (inB 0 50) = false) : C f_impl_checkedMark [.ref 0 1 0 m.length] [.row t true 1 (m.map I)] = some (.tup [.un t_int true 1 [], .bool false], [.row t true 1 (m.map I)]) := by
  refine C_impl_checkedMark ?_
  simp (maxSteps := 2000000) (disch := (first | omega | (simp only [lenS]; first | done | omega))) only [ir_impl_checkedMark, go_sem, Nat.reduceAdd, Nat.reduceEqDiff, Nat.reduceLeDiff, Nat.reduceSub]
  simp (maxSteps := 2000000) (disch := (first | omega | (simp only [lenS]; first | done | omega))) only [go_sem, Nat.reduceAdd, Nat.reduceEqDiff, Nat.reduceLeDiff, Nat.reduceSub, impl_allWithin_ok m _ _ hm, h]
theorem impl_stepCase_ok (s : Spc) (c : Cs) (m : Mv) (hg : goodS s = true) (hc : goodC s c = true) : C f_impl_stepCase [encS s, encC c, encM m] [] = some (stepPV t_int s c m, []) := by
  have hok := goodS_ok hg
  have h2 := mvU_len hok s.tasks.length (by omega)
  have hn := (okTasks_parts hok).2.1
  have hML : (movL s c).length ≤ 60 := by
    unfold movL
    split
    · have h4 : ((mvS s).filter (canM s c)).length ≤ (mvS s).length := List.length_filter_le _ _
      unfold mvS at *; omega
    · simp
  have hcont := slices_Contains_sl_impl_Move_impl_Move_ok (movL s c) m (by omega)
  have hany := movL_any s c m
  obtain ⟨_, hM, hr⟩ := impl_movesIn_ok s c hg hc
  unfold stepPV
  cases hb : (movL s c).any (fun y => y == m) with
  | false =>
    have hB : stepB s c m = false := by unfold stepB; rw [← hany, hb]; simp
    rw [hB, if_neg (by simp)]
    obtain ⟨mt, mb, mp⟩ := m
    refine C_impl_stepCase ?_
    simp (maxSteps := 2000000) (disch := (first | omega | (simp only [lenS]; first | done | omega))) only [ir_impl_stepCase, go_sem, Nat.reduceAdd, Nat.reduceEqDiff, Nat.reduceLeDiff, Nat.reduceSub]
    rcases hr with rfl | ⟨h0, rfl⟩
    · cases mb with
      | true => simp (maxSteps := 2000000) (disch := (first | omega | (simp only [lenS]; first | done | omega))) only [go_sem, Nat.reduceAdd, Nat.reduceEqDiff, Nat.reduceLeDiff, Nat.reduceSub, hM, hcont, hb]
      | false => simp (maxSteps := 2000000) (disch := (first | omega | (simp only [lenS]; first | done | omega))) only [go_sem, Nat.reduceAdd, Nat.reduceEqDiff, Nat.reduceLeDiff, Nat.reduceSub, hM, hcont, hb]
    · rw [h0] at hcont hb
      have hcont' : ∀ b, (⟨mt, mb, mp⟩ : Mv).begin_ = b → C f_slices_Contains_sl_impl_Move_impl_Move [.sl true 3 [], .agg [I mt, .bool b, I mp]] [] = some (.bool false, []) := fun b hb' => by subst hb'; exact hcont
      cases mb with
      | true => simp (maxSteps := 2000000) (disch := (first | omega | (simp only [lenS]; first | done | omega))) only [go_sem, Nat.reduceAdd, Nat.reduceEqDiff, Nat.reduceLeDiff, Nat.reduceSub, hM, hcont' true rfl]
      | false => simp (maxSteps := 2000000) (disch := (first | omega | (simp only [lenS]; first | done | omega))) only [go_sem, Nat.reduceAdd, Nat.reduceEqDiff, Nat.reduceLeDiff, Nat.reduceSub, hM, hcont' false rfl]
  | true =>
    rw [hb] at hany
    have hany' := hany.symm
    simp only [Bool.and_eq_true] at hany'
    obtain ⟨⟨hst, hmem⟩, hcan⟩ := hany'
    have hm := any_mem hmem
    have hst1 : c.state = 1 := by simpa using hst
    have hr1 : movL s c ≠ [] := by intro e; rw [e] at hb; simp at hb
    obtain rfl := hr.resolve_right (fun h => hr1 h.1)
    have hT := trM_good hg hm
    have hgm := goodM_len (goodC_mark hc)
    have hcl := (goodC_len (goodC_mark hc) (okTasks_parts hok).1.1)
    have hlt := goodT_lt hT hcl.1
    have ht := impl_transOf_ok s m hok (mvS_is hm)
    have hsz := trS_sm hok (trM s m) (by rw [trS_map]; exact List.mem_map_of_mem hm)
    have hfi := impl_fired_ok (trM s m) c.mark hlt.1 hlt.2.1 hlt.2.2 ⟨by omega, by omega, by omega⟩ (by omega) hgm.2.2.2.2
    have hfl : (firedM (trM s m) c.mark).length = c.mark.length := firedM_len (trM s m) c.mark
    have hBs : stepB s c m = (firedM (trM s m) c.mark).all (inB 0 50) := by unfold stepB; rw [← hany]; simp
    rw [hBs]
    simp only [stepC]
    have h1l : 1 < (firedM (trM s m) c.mark).length := by omega
    have hat : (firedM (trM s m) c.mark)[1]? = some (at_ (firedM (trM s m) c.mark) 1) := by
      rw [List.getElem?_eq_getElem h1l]
      exact congrArg some (at_eq (p := 1) h1l)
    have hckt := impl_checkedMark_mt (firedM (trM s m) c.mark) t_int (by omega)
    have hckf := impl_checkedMark_mf (firedM (trM s m) c.mark) t_int (by omega)
    obtain ⟨mt, mb, mp⟩ := m
    have hfin : mb = true → (trM s ⟨mt, mb, mp⟩).rst = [] := by rintro rfl; simp only [trM, if_true]; split <;> rfl
    generalize trM s ⟨mt, mb, mp⟩ = T at *
    generalize hX : firedM T c.mark = X at *
    refine C_impl_stepCase ?_
    simp (maxSteps := 2000000) (disch := (first | omega | (simp only [lenS]; first | done | omega))) only [ir_impl_stepCase, go_sem, Nat.reduceAdd, Nat.reduceEqDiff, Nat.reduceLeDiff, Nat.reduceSub]
    unfold encT at hfi
    cases mb with
    | true =>
      rw [hfin rfl, show ints [] = .sl true 1 [] from rfl] at hfi
      rw [if_pos rfl] at ht
      cases ha : X.all (inB 0 50) with
      | false =>
        simp (maxSteps := 2000000) (disch := (first | omega | (simp only [lenS]; first | done | omega))) only [go_sem, Nat.reduceAdd, Nat.reduceEqDiff, Nat.reduceLeDiff, Nat.reduceSub, hM, hcont, hb, ht, hfi, hckf ha]
      | true =>
        simp (maxSteps := 2000000) (disch := (first | omega | (simp only [lenS]; first | done | omega))) only [go_sem, Nat.reduceAdd, Nat.reduceEqDiff, Nat.reduceLeDiff, Nat.reduceSub, hM, hcont, hb, ht, hfi, hckt ha, h1l]
        have e : X[Int.toNat 1]'h1l = at_ X 1 := at_eq (p := 1) h1l
        rw [e]
        exact ⟨fun h => by simp [h], fun h => by simp [show ¬ 0 < at_ X 1 by omega]⟩
    | false =>
      rw [if_neg (by simp)] at ht
      cases ha : X.all (inB 0 50) with
      | false =>
        simp (maxSteps := 2000000) (disch := (first | omega | (simp only [lenS]; first | done | omega))) only [go_sem, Nat.reduceAdd, Nat.reduceEqDiff, Nat.reduceLeDiff, Nat.reduceSub, hM, hcont, hb, ht, hfi, hckf ha]
      | true =>
        simp (maxSteps := 2000000) (disch := (first | omega | (simp only [lenS]; first | done | omega))) only [go_sem, Nat.reduceAdd, Nat.reduceEqDiff, Nat.reduceLeDiff, Nat.reduceSub, hM, hcont, hb, ht, hfi, hckt ha, h1l]
        have e : X[Int.toNat 1]'h1l = at_ X 1 := at_eq (p := 1) h1l
        rw [e]
        exact ⟨fun h => by simp [h], fun h => by simp [show ¬ 0 < at_ X 1 by omega]⟩
theorem impl_StepCase_ok (s : Spc) (c : Cs) (m : Mv) (hs : smSpc s) (hl : c.mark.length < 2^62) : C f_impl_StepCase [encS s, encC c, encM m] [] = some (if (goodS s && goodC s c) = true then stepPV t_int s c m else .tup [.agg [I 0, .nil true 1], .bool false], []) := by
  have hG := impl_isSpec_ok s hs
  cases hg : goodS s with
  | false =>
    rw [if_neg (by simp)]
    obtain ⟨mt, mb, mp⟩ := m
    refine C_impl_StepCase ?_
    simp (maxSteps := 2000000) (disch := (first | omega | (simp only [lenS]; first | done | omega))) only [ir_impl_StepCase, go_sem, Nat.reduceAdd, Nat.reduceEqDiff, Nat.reduceLeDiff, Nat.reduceSub]
    cases mb with
    | true => simp (maxSteps := 2000000) (disch := (first | omega | (simp only [lenS]; first | done | omega))) only [go_sem, Nat.reduceAdd, Nat.reduceEqDiff, Nat.reduceLeDiff, Nat.reduceSub, hG, hg]
    | false => simp (maxSteps := 2000000) (disch := (first | omega | (simp only [lenS]; first | done | omega))) only [go_sem, Nat.reduceAdd, Nat.reduceEqDiff, Nat.reduceLeDiff, Nat.reduceSub, hG, hg]
  | true =>
    have hC := impl_isCase_ok s c (goodS_ok hg) hl
    cases hgc : goodC s c with
    | false =>
      rw [if_neg (by simp)]
      obtain ⟨mt, mb, mp⟩ := m
      refine C_impl_StepCase ?_
      simp (maxSteps := 2000000) (disch := (first | omega | (simp only [lenS]; first | done | omega))) only [ir_impl_StepCase, go_sem, Nat.reduceAdd, Nat.reduceEqDiff, Nat.reduceLeDiff, Nat.reduceSub]
      cases mb with
      | true => simp (maxSteps := 2000000) (disch := (first | omega | (simp only [lenS]; first | done | omega))) only [go_sem, Nat.reduceAdd, Nat.reduceEqDiff, Nat.reduceLeDiff, Nat.reduceSub, hG, hg, hC, hgc]
      | false => simp (maxSteps := 2000000) (disch := (first | omega | (simp only [lenS]; first | done | omega))) only [go_sem, Nat.reduceAdd, Nat.reduceEqDiff, Nat.reduceLeDiff, Nat.reduceSub, hG, hg, hC, hgc]
    | true =>
      rw [if_pos (by simp)]
      have hS := impl_stepCase_ok s c m hg hgc
      unfold stepPV at hS ⊢
      obtain ⟨mt, mb, mp⟩ := m
      generalize stepC s c ⟨mt, mb, mp⟩ = X at *
      generalize stepB s c ⟨mt, mb, mp⟩ = B at *
      refine C_impl_StepCase ?_
      simp (maxSteps := 2000000) (disch := (first | omega | (simp only [lenS]; first | done | omega))) only [ir_impl_StepCase, go_sem, Nat.reduceAdd, Nat.reduceEqDiff, Nat.reduceLeDiff, Nat.reduceSub]
      cases B with
      | false =>
        rw [if_neg (by simp)] at hS ⊢
        cases mb with
        | true => simp (maxSteps := 2000000) (disch := (first | omega | (simp only [lenS]; first | done | omega))) only [go_sem, Nat.reduceAdd, Nat.reduceEqDiff, Nat.reduceLeDiff, Nat.reduceSub, hG, hg, hC, hgc, hS]
        | false => simp (maxSteps := 2000000) (disch := (first | omega | (simp only [lenS]; first | done | omega))) only [go_sem, Nat.reduceAdd, Nat.reduceEqDiff, Nat.reduceLeDiff, Nat.reduceSub, hG, hg, hC, hgc, hS]
      | true =>
        rw [if_pos rfl] at hS ⊢
        cases mb with
        | true => simp (maxSteps := 2000000) (disch := (first | omega | (simp only [lenS]; first | done | omega))) only [go_sem, Nat.reduceAdd, Nat.reduceEqDiff, Nat.reduceLeDiff, Nat.reduceSub, hG, hg, hC, hgc, hS]
        | false => simp (maxSteps := 2000000) (disch := (first | omega | (simp only [lenS]; first | done | omega))) only [go_sem, Nat.reduceAdd, Nat.reduceEqDiff, Nat.reduceLeDiff, Nat.reduceSub, hG, hg, hC, hgc, hS]
theorem spec_StepCase_ok (s : Spc) (c : Cs) (m : Mv) (hs : smSpc s) (hl : c.mark.length < 2^62) : C f_spec_StepCase [encS s, encC c, encM m] [] = some (if (goodS s && goodC s c) = true then stepPV t_int s c m else .tup [.agg [I 0, .nil true 1], .bool false], []) := by
  have hG := spec_GoodCase_ok s c hs hl
  cases hg : goodS s && goodC s c with
  | false =>
    rw [if_neg (by simp)]
    obtain ⟨mt, mb, mp⟩ := m
    refine C_spec_StepCase ?_
    simp (maxSteps := 2000000) (disch := (first | omega | (simp only [lenS]; first | done | omega))) only [ir_spec_StepCase, go_sem, Nat.reduceAdd, Nat.reduceEqDiff, Nat.reduceLeDiff, Nat.reduceSub]
    cases mb with
    | true => simp (maxSteps := 2000000) (disch := (first | omega | (simp only [lenS]; first | done | omega))) only [go_sem, Nat.reduceAdd, Nat.reduceEqDiff, Nat.reduceLeDiff, Nat.reduceSub, hG, hg]
    | false => simp (maxSteps := 2000000) (disch := (first | omega | (simp only [lenS]; first | done | omega))) only [go_sem, Nat.reduceAdd, Nat.reduceEqDiff, Nat.reduceLeDiff, Nat.reduceSub, hG, hg]
  | true =>
    rw [if_pos rfl]
    have hg' := hg
    simp only [Bool.and_eq_true] at hg'
    have hS := spec_l14Step_ok s c m hg'.1 hg'.2
    unfold stepPV at hS ⊢
    obtain ⟨mt, mb, mp⟩ := m
    generalize stepC s c ⟨mt, mb, mp⟩ = X at *
    generalize stepB s c ⟨mt, mb, mp⟩ = B at *
    refine C_spec_StepCase ?_
    simp (maxSteps := 2000000) (disch := (first | omega | (simp only [lenS]; first | done | omega))) only [ir_spec_StepCase, go_sem, Nat.reduceAdd, Nat.reduceEqDiff, Nat.reduceLeDiff, Nat.reduceSub]
    cases B with
    | false =>
      rw [if_neg (by simp)] at hS ⊢
      cases mb with
      | true => simp (maxSteps := 2000000) (disch := (first | omega | (simp only [lenS]; first | done | omega))) only [go_sem, Nat.reduceAdd, Nat.reduceEqDiff, Nat.reduceLeDiff, Nat.reduceSub, hG, hg, hS]
      | false => simp (maxSteps := 2000000) (disch := (first | omega | (simp only [lenS]; first | done | omega))) only [go_sem, Nat.reduceAdd, Nat.reduceEqDiff, Nat.reduceLeDiff, Nat.reduceSub, hG, hg, hS]
    | true =>
      rw [if_pos rfl] at hS ⊢
      cases mb with
      | true => simp (maxSteps := 2000000) (disch := (first | omega | (simp only [lenS]; first | done | omega))) only [go_sem, Nat.reduceAdd, Nat.reduceEqDiff, Nat.reduceLeDiff, Nat.reduceSub, hG, hg, hS]
      | false => simp (maxSteps := 2000000) (disch := (first | omega | (simp only [lenS]; first | done | omega))) only [go_sem, Nat.reduceAdd, Nat.reduceEqDiff, Nat.reduceLeDiff, Nat.reduceSub, hG, hg, hS]
theorem impl_MovesIn_ok (s : Spc) (c : Cs) (hs : smSpc s) (hl : c.mark.length < 2^62) :
    Lw (C f_impl_MovesIn [encS s, encC c] []) fun r => r = (.tup [.un t_impl_Move true 3 ((if (goodS s && goodC s c) = true then movL s c else []).map encM), .bool (goodS s && goodC s c)], []) ∨ ((if (goodS s && goodC s c) = true then movL s c else []) = [] ∧ r = (.tup [.sl true 3 [], .bool (goodS s && goodC s c)], [])) := by
  have hG := impl_isSpec_ok s hs
  refine E_impl_MovesIn ?_
  simp (maxSteps := 2000000) (disch := (first | omega | (simp only [lenS]; first | done | omega))) only [ir_impl_MovesIn, go_sem, Nat.reduceAdd, Nat.reduceEqDiff, Nat.reduceLeDiff, Nat.reduceSub]
  cases hg : goodS s with
  | false =>
    simp (maxSteps := 2000000) (disch := (first | omega | (simp only [lenS]; first | done | omega))) only [go_sem, Nat.reduceAdd, Nat.reduceEqDiff, Nat.reduceLeDiff, Nat.reduceSub, hG, hg]
    simp
  | true =>
    have hC := impl_isCase_ok s c (goodS_ok hg) hl
    cases hgc : goodC s c with
    | false =>
      simp (maxSteps := 2000000) (disch := (first | omega | (simp only [lenS]; first | done | omega))) only [go_sem, Nat.reduceAdd, Nat.reduceEqDiff, Nat.reduceLeDiff, Nat.reduceSub, hG, hg, hC, hgc]
      simp
    | true =>
      obtain ⟨_, hM, hr⟩ := impl_movesIn_ok s c hg hgc
      rcases hr with rfl | ⟨h0, rfl⟩
      · simp (maxSteps := 2000000) (disch := (first | omega | (simp only [lenS]; first | done | omega))) only [go_sem, Nat.reduceAdd, Nat.reduceEqDiff, Nat.reduceLeDiff, Nat.reduceSub, hG, hg, hC, hgc, hM]
        simp
      · simp (maxSteps := 2000000) (disch := (first | omega | (simp only [lenS]; first | done | omega))) only [go_sem, Nat.reduceAdd, Nat.reduceEqDiff, Nat.reduceLeDiff, Nat.reduceSub, hG, hg, hC, hgc, hM]
        simp [h0]
theorem laws_sameInts_ok (a b : List Int) (hl : a.length < 2^62) : C f_laws_sameInts [ints a, ints b] [] = some (.bool (decide (a = b)), []) := by
  refine C_laws_sameInts ?_
  simp (maxSteps := 2000000) (disch := (first | omega | (simp only [lenS]; first | done | omega))) only [ir_laws_sameInts, go_sem, Nat.reduceAdd, Nat.reduceEqDiff, Nat.reduceLeDiff, Nat.reduceSub]
  refine ⟨fun h => ?_, fun h => ?_⟩
  · have : a ≠ b := fun e => h (by rw [e])
    simp [this]
  refine W_for a.length (fun k s => s = ⟨[ints a, ints b, .any, .any, .any, I a.length, I k, .any, .any], []⟩ ∧ a.take k = b.take k) ?_ ?_ ?_
  · simp (maxSteps := 2000000) (disch := (first | omega | (simp only [lenS]; first | done | omega))) only [go_sem, Nat.reduceAdd, Nat.reduceEqDiff, Nat.reduceLeDiff, Nat.reduceSub]
    rfl
  · rintro k s hk ⟨rfl, hall⟩
    simp (maxSteps := 2000000) (disch := (first | omega | (simp only [lenS]; first | done | omega))) only [go_sem, Nat.reduceAdd, Nat.reduceEqDiff, Nat.reduceLeDiff, Nat.reduceSub]
    refine ⟨fun h => ?_, fun h => ⟨rfl, ?_⟩⟩
    · have : a ≠ b := fun e => h (by simp [e])
      simp [this]
    · rw [take_snoc hk, take_snoc (show k < b.length by omega), hall, h]
  · rintro s ⟨rfl, hall⟩
    simp (maxSteps := 2000000) (disch := (first | omega | (simp only [lenS]; first | done | omega))) only [go_sem, Nat.reduceAdd, Nat.reduceEqDiff, Nat.reduceLeDiff, Nat.reduceSub]
    rw [List.take_length, List.take_of_length_le (by omega)] at hall
    simp [hall]
theorem laws_sameCase_ok (c : Cs) (hl : c.mark.length < 2^62) : C f_laws_sameCase [encC c, encC c] [] = some (.bool true, []) := by
  have h := laws_sameInts_ok c.mark c.mark hl
  rw [decide_eq_true rfl] at h
  refine C_laws_sameCase ?_
  simp (maxSteps := 2000000) (disch := (first | omega | (simp only [lenS]; first | done | omega))) only [ir_laws_sameCase, go_sem, Nat.reduceAdd, Nat.reduceEqDiff, Nat.reduceLeDiff, Nat.reduceSub]
  simp (maxSteps := 2000000) (disch := (first | omega | (simp only [lenS]; first | done | omega))) only [go_sem, Nat.reduceAdd, Nat.reduceEqDiff, Nat.reduceLeDiff, Nat.reduceSub, h]
theorem laws_sameMoves_ok (a : List Mv) (ha : a.length < 2^62) : C f_laws_sameMoves [.sl true 3 (a.map encM), .sl true 3 (a.map encM)] [] = some (.bool true, []) := by
  refine C_laws_sameMoves ?_
  simp (maxSteps := 2000000) (disch := (first | omega | (simp only [lenS]; first | done | omega))) only [ir_laws_sameMoves, go_sem, Nat.reduceAdd, Nat.reduceEqDiff, Nat.reduceLeDiff, Nat.reduceSub]
  refine W_for a.length (fun k s => s = ⟨[.sl true 3 (a.map encM), .sl true 3 (a.map encM), .any, .any, .any, I a.length, I k, .any, .any], []⟩) ?_ ?_ ?_
  · simp (maxSteps := 2000000) (disch := (first | omega | (simp only [lenS]; first | done | omega))) only [go_sem, Nat.reduceAdd, Nat.reduceEqDiff, Nat.reduceLeDiff, Nat.reduceSub]
    rfl
  · rintro k s hk rfl
    have hlk : a[k]? = some a[k] := List.getElem?_eq_getElem hk
    generalize a[k] = m at *
    obtain ⟨mt, mb, mp⟩ := m
    cases mb with
    | true =>
      simp (maxSteps := 2000000) (disch := (first | omega | (simp only [lenS]; first | done | omega))) only [go_sem, Nat.reduceAdd, Nat.reduceEqDiff, Nat.reduceLeDiff, Nat.reduceSub, hlk, eqL, eq1, beq_self_eq_true]
      rfl
    | false =>
      simp (maxSteps := 2000000) (disch := (first | omega | (simp only [lenS]; first | done | omega))) only [go_sem, Nat.reduceAdd, Nat.reduceEqDiff, Nat.reduceLeDiff, Nat.reduceSub, hlk, eqL, eq1, beq_self_eq_true]
      rfl
  · rintro s rfl
    simp (maxSteps := 2000000) (disch := (first | omega | (simp only [lenS]; first | done | omega))) only [go_sem, Nat.reduceAdd, Nat.reduceEqDiff, Nat.reduceLeDiff, Nat.reduceSub]
theorem impl_GoodCase_ok (s : Spc) (c : Cs) (hs : smSpc s) (hl : c.mark.length < 2^62) : C f_impl_GoodCase [encS s, encC c] [] = some (.bool (goodS s && goodC s c), []) := by
  have hG := impl_isSpec_ok s hs
  refine C_impl_GoodCase ?_
  simp (maxSteps := 2000000) (disch := (first | omega | (simp only [lenS]; first | done | omega))) only [ir_impl_GoodCase, go_sem, Nat.reduceAdd, Nat.reduceEqDiff, Nat.reduceLeDiff, Nat.reduceSub]
  cases hg : goodS s with
  | false => simp (maxSteps := 2000000) (disch := (first | omega | (simp only [lenS]; first | done | omega))) only [go_sem, Nat.reduceAdd, Nat.reduceEqDiff, Nat.reduceLeDiff, Nat.reduceSub, hG, hg]
  | true =>
    have hC := impl_isCase_ok s c (goodS_ok hg) hl
    simp (maxSteps := 2000000) (disch := (first | omega | (simp only [lenS]; first | done | omega))) only [go_sem, Nat.reduceAdd, Nat.reduceEqDiff, Nat.reduceLeDiff, Nat.reduceSub, hG, hg, hC]
    grind
theorem impl_SpecFlow_ok (s : Spc) (hs : smSpc s) (hg : goodS s = true) : C f_impl_SpecFlow [encS s] [] = some (.tup [.agg [I (flS s).net.pl, .un t_impl_Trans false 3 ((flS s).net.tr.map encT), I 0, I 1], .bool true], []) := by
  have hG := impl_isSpec_ok s hs
  have hf := impl_specFlow_ok s (goodS_ok hg)
  refine C_impl_SpecFlow ?_
  simp (maxSteps := 2000000) (disch := (first | omega | (simp only [lenS]; first | done | omega))) only [ir_impl_SpecFlow, go_sem, Nat.reduceAdd, Nat.reduceEqDiff, Nat.reduceLeDiff, Nat.reduceSub]
  simp (maxSteps := 2000000) (disch := (first | omega | (simp only [lenS]; first | done | omega))) only [go_sem, Nat.reduceAdd, Nat.reduceEqDiff, Nat.reduceLeDiff, Nat.reduceSub, hG, hg, hf]
  rfl
theorem impl_SpecFlow_no (s : Spc) (hs : smSpc s) (hg : goodS s = false) : C f_impl_SpecFlow [encS s] [] = some (.tup [.agg [I 0, .nil false 3, I 0, I 0], .bool false], []) := by
  have hG := impl_isSpec_ok s hs
  refine C_impl_SpecFlow ?_
  simp (maxSteps := 2000000) (disch := (first | omega | (simp only [lenS]; first | done | omega))) only [ir_impl_SpecFlow, go_sem, Nat.reduceAdd, Nat.reduceEqDiff, Nat.reduceLeDiff, Nat.reduceSub]
  simp (maxSteps := 2000000) (disch := (first | omega | (simp only [lenS]; first | done | omega))) only [go_sem, Nat.reduceAdd, Nat.reduceEqDiff, Nat.reduceLeDiff, Nat.reduceSub, hG, hg]
theorem impl_MoveNo_ok (s : Spc) (m : Mv) (hs : smSpc s) : C f_impl_MoveNo [encS s, encM m] [] = some (.tup [I (moveNo s m).1, .bool (moveNo s m).2], []) := by
  have hG := impl_isSpec_ok s hs
  obtain ⟨mt, mb, mp⟩ := m
  refine C_impl_MoveNo ?_
  simp (maxSteps := 2000000) (disch := (first | omega | (simp only [lenS]; first | done | omega))) only [ir_impl_MoveNo, go_sem, Nat.reduceAdd, Nat.reduceEqDiff, Nat.reduceLeDiff, Nat.reduceSub]
  cases hg : goodS s with
  | false =>
    simp (maxSteps := 2000000) (disch := (first | omega | (simp only [lenS]; first | done | omega))) only [go_sem, Nat.reduceAdd, Nat.reduceEqDiff, Nat.reduceLeDiff, Nat.reduceSub, hG, hg]
    simp [moveNo, hg]
  | true =>
    have hok := goodS_ok hg
    have hM := impl_movesOf_ok s hok
    have h2 := mvU_len hok s.tasks.length (by omega)
    have h3 : (mvS s).length ≤ 60 := by have := (okTasks_parts hok).2.1; unfold mvS; omega
    have hN := slices_Index_sl_impl_Move_impl_Move_ok (mvS s) ⟨mt, mb, mp⟩ (by omega)
    cases mb with
    | true =>
      simp (maxSteps := 2000000) (disch := (first | omega | (simp only [lenS]; first | done | omega))) only [go_sem, Nat.reduceAdd, Nat.reduceEqDiff, Nat.reduceLeDiff, Nat.reduceSub, hG, hg, hM, hN]
      simp only [moveNo, hg]
      grind
    | false =>
      simp (maxSteps := 2000000) (disch := (first | omega | (simp only [lenS]; first | done | omega))) only [go_sem, Nat.reduceAdd, Nat.reduceEqDiff, Nat.reduceLeDiff, Nat.reduceSub, hG, hg, hM, hN]
      simp only [moveNo, hg]
      grind
theorem impl_isMarked_ok (n : Net) (m : List Int) (hn : smN n) (hm : m.length < 2^62) : C f_impl_isMarked [encN n, ints m] [] = some (.bool (marked n m), []) := by
  refine C_impl_isMarked ?_
  simp (maxSteps := 2000000) (disch := (first | omega | (simp only [lenS]; first | done | omega))) only [ir_impl_isMarked, go_sem, Nat.reduceAdd, Nat.reduceEqDiff, Nat.reduceLeDiff, Nat.reduceSub]
  simp (maxSteps := 2000000) (disch := (first | omega | (simp only [lenS]; first | done | omega))) only [go_sem, Nat.reduceAdd, Nat.reduceEqDiff, Nat.reduceLeDiff, Nat.reduceSub, impl_GoodNet_ok n hn, impl_GoodMark_ok n.pl m hm]
  unfold marked; grind
theorem impl_isTrans_ok (n : Net) (t : Int) (hn : n.tr.length < 2^62) : C f_impl_isTrans [encN n, I t] [] = some (.bool (inB 0 (n.tr.length - 1) t), []) := by
  refine C_impl_isTrans ?_
  simp (maxSteps := 2000000) (disch := (first | omega | (simp only [lenS]; first | done | omega))) only [ir_impl_isTrans, go_sem, Nat.reduceAdd, Nat.reduceEqDiff, Nat.reduceLeDiff, Nat.reduceSub]
  simp (maxSteps := 2000000) (disch := (first | omega | (simp only [lenS]; first | done | omega))) only [go_sem, Nat.reduceAdd, Nat.reduceEqDiff, Nat.reduceLeDiff, Nat.reduceSub, impl_within_ok]
  grind
theorem impl_Fire_m (n : Net) (m : List Int) (t : Int) (hn : smN n) (hm : m.length < 2^62) (h : okFire n m t = true) : C f_impl_Fire [encN n, ints m, I t] [] = some (.tup [.un t_int true 1 ((firedM (trAt n t) m).map I), .bool true], []) := by
  have h0 := hn.1
  obtain ⟨h1, h2⟩ := Bool.and_eq_true .. ▸ h
  obtain ⟨h3, h4, h5, h6, h7, h8⟩ := canN_parts h1
  have hx := goodT_lt h8 (goodM_len h4).2.2.1
  have hy := goodT_lens h8 (by have := goodN_parts h3; omega)
  have hm := (goodM_len h4).2.2.2
  have hz := firedM_len (trAt n t) m
  have hc := impl_checkedMark_mt (firedM (trAt n t) m) t_int (by omega) h2
  refine C_impl_Fire ?_
  simp (maxSteps := 2000000) (disch := (first | omega | (simp only [lenS]; first | done | omega))) only [ir_impl_Fire, go_sem, Nat.reduceAdd, Nat.reduceEqDiff, Nat.reduceLeDiff, Nat.reduceSub]
  simp (maxSteps := 2000000) (disch := (first | omega | (simp only [lenS]; first | done | omega))) only [go_sem, Nat.reduceAdd, Nat.reduceEqDiff, Nat.reduceLeDiff, Nat.reduceSub, impl_isMarked_ok n m hn (by omega), impl_isTrans_ok n t (by omega), trAt_eq, impl_isEnabled_ok (trAt n t) m hx.1 (by omega), (show marked n m = true by simp [marked, h3, h4]), (show inB 0 (n.tr.length - 1) t = true by simp [inB]; omega), h7,
    impl_fired_ok (trAt n t) m hx.1 hx.2.1 hx.2.2 ⟨by omega, by omega, by omega⟩ (by omega) hm.2, hc]
theorem spec_DrawGoodCase_ok (a : List Int) (hl : a.length < 2^62) (hb : ∀ x ∈ a, 0 ≤ x ∧ x < 256) : Lw (C f_spec_DrawGoodCase [bys a] []) fun r => ∃ (s : Spc) (c : Cs), (r = (.tup [.agg [I s.conds, .un t_impl_Task false 7 (s.tasks.map encK)], .agg [I c.state, .un t_int true 1 (c.mark.map I)]], []) ∨ (r = (.tup [.agg [I s.conds, .un t_impl_Task false 7 (s.tasks.map encK)], .agg [I 0, .nil true 1]], []) ∧ c = ⟨0, []⟩)) ∧ drS s ∧ c.mark.length ≤ 16 := by
  obtain ⟨_, e1, S, a1, s1, rfl, h3, h4, h5⟩ := spec_l1Cur_spec_ok a 0 0 (by omega) (by omega) hl hb
  obtain ⟨_, e2, c, a2, s2, hr, g3, g4, g5⟩ := spec_l1Cur_caseOf_ok S h5 a a1 s1 (by omega) (by omega) hl hb
  rcases hr with rfl | ⟨rfl, rfl⟩
  · refine E_spec_DrawGoodCase ?_
    simp (maxSteps := 2000000) (disch := (first | omega | (simp only [lenS]; first | done | omega))) only [ir_spec_DrawGoodCase, go_sem, Nat.reduceAdd, Nat.reduceEqDiff, Nat.reduceLeDiff, Nat.reduceSub]
    simp (maxSteps := 2000000) (disch := (first | omega | (simp only [lenS]; first | done | omega))) only [go_sem, Nat.reduceAdd, Nat.reduceEqDiff, Nat.reduceLeDiff, Nat.reduceSub, e1, e2]
    exact ⟨by decide, S, c, .inl rfl, h5, g5⟩
  · refine E_spec_DrawGoodCase ?_
    simp (maxSteps := 2000000) (disch := (first | omega | (simp only [lenS]; first | done | omega))) only [ir_spec_DrawGoodCase, go_sem, Nat.reduceAdd, Nat.reduceEqDiff, Nat.reduceLeDiff, Nat.reduceSub]
    simp (maxSteps := 2000000) (disch := (first | omega | (simp only [lenS]; first | done | omega))) only [go_sem, Nat.reduceAdd, Nat.reduceEqDiff, Nat.reduceLeDiff, Nat.reduceSub, e1, e2]
    exact ⟨by decide, S, ⟨0, []⟩, .inr ⟨rfl, rfl⟩, h5, by simp⟩
theorem spec_DrawCancelCase_ok (a : List Int) (hl : a.length < 2^62) (hb : ∀ x ∈ a, 0 ≤ x ∧ x < 256) : Lw (C f_spec_DrawCancelCase [bys a] []) fun r => ∃ (s : Spc) (c : Cs), (r = (.tup [.agg [I s.conds, .un t_impl_Task false 7 (s.tasks.map encK)], .agg [I c.state, .un t_int true 1 (c.mark.map I)]], []) ∨ (r = (.tup [.agg [I s.conds, .un t_impl_Task false 7 (s.tasks.map encK)], .agg [I 0, .nil true 1]], []) ∧ c = ⟨0, []⟩)) ∧ drS s ∧ c.mark.length ≤ 16 := by
  obtain ⟨_, e1, S, c, hr, h3, h4⟩ := spec_DrawGoodCase_ok a hl hb
  rcases hr with rfl | ⟨rfl, rfl⟩
  · refine E_spec_DrawCancelCase ?_
    simp (maxSteps := 2000000) (disch := (first | omega | (simp only [lenS]; first | done | omega))) only [ir_spec_DrawCancelCase, go_sem, Nat.reduceAdd, Nat.reduceEqDiff, Nat.reduceLeDiff, Nat.reduceSub]
    simp (maxSteps := 2000000) (disch := (first | omega | (simp only [lenS]; first | done | omega))) only [go_sem, Nat.reduceAdd, Nat.reduceEqDiff, Nat.reduceLeDiff, Nat.reduceSub, e1]
    exact ⟨S, c, .inl rfl, h3, h4⟩
  · refine E_spec_DrawCancelCase ?_
    simp (maxSteps := 2000000) (disch := (first | omega | (simp only [lenS]; first | done | omega))) only [ir_spec_DrawCancelCase, go_sem, Nat.reduceAdd, Nat.reduceEqDiff, Nat.reduceLeDiff, Nat.reduceSub]
    simp (maxSteps := 2000000) (disch := (first | omega | (simp only [lenS]; first | done | omega))) only [go_sem, Nat.reduceAdd, Nat.reduceEqDiff, Nat.reduceLeDiff, Nat.reduceSub, e1]
    exact ⟨S, ⟨0, []⟩, .inr ⟨rfl, rfl⟩, h3, h4⟩
theorem impl_CancelCase_ok (s : Spc) (c : Cs) (hs : smSpc s) (hl : c.mark.length < 2^36) : C f_impl_CancelCase [encS s, encC c] [] = some (.tup [if cutB s c = true then .agg [I 3, .un t_int true 1 (List.replicate (s.conds + s.tasks.length).toNat (I 0))] else .agg [I 0, .nil true 1], .bool (cutB s c)], []) := by
  have hG := impl_isSpec_ok s hs
  refine C_impl_CancelCase ?_
  simp (maxSteps := 2000000) (disch := (first | omega | (simp only [lenS]; first | done | omega))) only [ir_impl_CancelCase, go_sem, Nat.reduceAdd, Nat.reduceEqDiff, Nat.reduceLeDiff, Nat.reduceSub]
  unfold cutB
  cases hg : goodS s with
  | false => simp (maxSteps := 2000000) (disch := (first | omega | (simp only [lenS]; first | done | omega))) only [go_sem, Nat.reduceAdd, Nat.reduceEqDiff, Nat.reduceLeDiff, Nat.reduceSub, hG, hg]
  | true =>
    have hok := goodS_ok hg
    have hC := impl_isCase_ok s c hok (by omega)
    cases hgc : goodC s c with
    | false => simp (maxSteps := 2000000) (disch := (first | omega | (simp only [lenS]; first | done | omega))) only [go_sem, Nat.reduceAdd, Nat.reduceEqDiff, Nat.reduceLeDiff, Nat.reduceSub, hG, hg, hC, hgc]
    | true =>
      have hgm : goodM (s.conds + s.tasks.length) c.mark = true := by unfold goodC at hgc; simp only [Bool.and_eq_true] at hgc; exact hgc.1
      have h2 := goodC_len hgm (okTasks_parts hok).1.1
      have h3 : (s.conds + s.tasks.length).toNat = c.mark.length := by omega
      rw [h3]
      cases h1 : c.state == 1 with
      | false =>
        have h1' : ¬ c.state = 1 := by simpa using h1
        simp (maxSteps := 2000000) (disch := (first | omega | (simp only [lenS]; first | done | omega))) only [go_sem, Nat.reduceAdd, Nat.reduceEqDiff, Nat.reduceLeDiff, Nat.reduceSub, hG, hg, h1', hC, hgc]
      | true =>
        have h1' : c.state = 1 := by simpa using h1
        rw [show encC c = .agg [I 1, ints c.mark] by simp [h1']] at hC
        simp (maxSteps := 2000000) (disch := (first | omega | (simp only [lenS]; first | done | omega))) only [go_sem, Nat.reduceAdd, Nat.reduceEqDiff, Nat.reduceLeDiff, Nat.reduceSub, hG, hg, h1', hC, hgc]
theorem spec_l14Cut_ok (s : Spc) (h : okTasks s = true) : C f_spec_l14Cut [encS s] [] = some (.agg [I 3, .un t_int true 1 (List.replicate (s.conds + s.tasks.length).toNat (I 0))], []) := by
  obtain ⟨hc, hn, -⟩ := okTasks_parts h
  refine C_spec_l14Cut ?_
  simp (maxSteps := 2000000) (disch := (first | omega | (simp only [lenS]; first | done | omega))) only [ir_spec_l14Cut, go_sem, Nat.reduceAdd, Nat.reduceEqDiff, Nat.reduceLeDiff, Nat.reduceSub]
theorem spec_CancelCase_ok (s : Spc) (c : Cs) (hs : smSpc s) (hl : c.mark.length < 2^62) : C f_spec_CancelCase [encS s, encC c] [] = some (.tup [if cutB s c = true then .agg [I 3, .un t_int true 1 (List.replicate (s.conds + s.tasks.length).toNat (I 0))] else .agg [I 0, .nil true 1], .bool (cutB s c)], []) := by
  have hG := spec_GoodCase_ok s c hs hl
  refine C_spec_CancelCase ?_
  simp (maxSteps := 2000000) (disch := (first | omega | (simp only [lenS]; first | done | omega))) only [ir_spec_CancelCase, go_sem, Nat.reduceAdd, Nat.reduceEqDiff, Nat.reduceLeDiff, Nat.reduceSub]
  unfold cutB
  cases hg : goodS s && goodC s c with
  | false => simp (maxSteps := 2000000) (disch := (first | omega | (simp only [lenS]; first | done | omega))) only [go_sem, Nat.reduceAdd, Nat.reduceEqDiff, Nat.reduceLeDiff, Nat.reduceSub, hG, hg]
  | true =>
    have hok : okTasks s = true := by simp only [Bool.and_eq_true] at hg; exact goodS_ok hg.1
    have hC := spec_l14Cut_ok s hok
    cases h1 : c.state == 1 with
    | false =>
      have h1' : ¬ c.state = 1 := by simpa using h1
      simp (maxSteps := 2000000) (disch := (first | omega | (simp only [lenS]; first | done | omega))) only [go_sem, Nat.reduceAdd, Nat.reduceEqDiff, Nat.reduceLeDiff, Nat.reduceSub, hG, hg, h1', hC]
    | true =>
      have h1' : c.state = 1 := by simpa using h1
      rw [show encC c = .agg [I 1, ints c.mark] by simp [h1']] at hG
      simp (maxSteps := 2000000) (disch := (first | omega | (simp only [lenS]; first | done | omega))) only [go_sem, Nat.reduceAdd, Nat.reduceEqDiff, Nat.reduceLeDiff, Nat.reduceSub, hG, hg, h1', hC]
theorem impl_BusyIn_ok (s : Spc) (c : Cs) (hs : smSpc s) (hl : c.mark.length < 2^36) : C f_impl_BusyIn [encS s, encC c] [] = some (.tup [.un t_int true 1 ((busyV s c).1.map I), .bool (busyV s c).2], []) := by
  have hG := impl_isSpec_ok s hs
  refine C_impl_BusyIn ?_
  simp (maxSteps := 2000000) (disch := (first | omega | (simp only [lenS]; first | done | omega))) only [ir_impl_BusyIn, go_sem, Nat.reduceAdd, Nat.reduceEqDiff, Nat.reduceLeDiff, Nat.reduceSub]
  unfold busyV
  cases hg : goodS s with
  | false =>
    simp (maxSteps := 2000000) (disch := (first | omega | (simp only [lenS]; first | done | omega))) only [go_sem, Nat.reduceAdd, Nat.reduceEqDiff, Nat.reduceLeDiff, Nat.reduceSub, hG, hg]
  | true =>
    have hok := goodS_ok hg
    obtain ⟨hc, hn, -⟩ := okTasks_parts hok
    have hC := impl_isCase_ok s c hok (by omega)
    cases hgc : goodC s c with
    | false =>
      simp (maxSteps := 2000000) (disch := (first | omega | (simp only [lenS]; first | done | omega))) only [go_sem, Nat.reduceAdd, Nat.reduceEqDiff, Nat.reduceLeDiff, Nat.reduceSub, hG, hg, hC, hgc]
    | true =>
      have hgm : goodM (s.conds + s.tasks.length) c.mark = true := by unfold goodC at hgc; simp only [Bool.and_eq_true] at hgc; exact hgc.1
      have h2 := goodC_len hgm hc.1
      have hd : (c.mark.drop s.conds.toNat).length = s.tasks.length := by simp; omega
      simp (maxSteps := 2000000) (disch := (first | omega | (simp only [lenS]; first | done | omega))) only [go_sem, Nat.reduceAdd, Nat.reduceEqDiff, Nat.reduceLeDiff, Nat.reduceSub, hG, hg, hC, hgc]
      refine W_for s.tasks.length (fun k st => st = ⟨[.any, .any, .any, .any, .any, .any, .ref 0 1 0 (busyK s c k).length, .any, .any, .any, ints (c.mark.drop s.conds.toNat), I s.tasks.length, I k, .any, .any], [.row t_int true 1 ((busyK s c k).map I)]⟩) ?_ ?_ ?_
      · simp (maxSteps := 2000000) (disch := (first | omega | (simp only [lenS]; first | done | omega))) only [go_sem, Nat.reduceAdd, Nat.reduceEqDiff, Nat.reduceLeDiff, Nat.reduceSub, hd]
        simp [busyK, hd]
        omega
      · rintro k st hk rfl
        have hb := busyK_len s c k
        have e : (c.mark.drop s.conds.toNat)[k]? = some (at_ c.mark (s.conds + (k : Int))) := by
          rw [List.getElem?_drop, ← at_eq (m := c.mark) (p := s.conds + (k : Int)) (by omega), List.getElem?_eq_getElem (by omega)]
          congr 2
          omega
        generalize c.mark.drop s.conds.toNat = D at *
        simp (maxSteps := 2000000) (disch := (first | omega | (simp only [lenS]; first | done | omega))) only [go_sem, Nat.reduceAdd, Nat.reduceEqDiff, Nat.reduceLeDiff, Nat.reduceSub, e, hd]
        refine ⟨fun h => ?_, fun h => ?_⟩
        · rw [busyK_t h, List.map_append]; simp
        · rw [busyK_f (by omega)]; rfl
      · rintro st rfl
        generalize c.mark.drop s.conds.toNat = D at *
        simp (maxSteps := 2000000) (disch := (first | omega | (simp only [lenS]; first | done | omega))) only [go_sem, Nat.reduceAdd, Nat.reduceEqDiff, Nat.reduceLeDiff, Nat.reduceSub, hd]
theorem spec_l14Busy_ok (s : Spc) (c : Cs) (h : okTasks s = true) (hm : goodM (s.conds + s.tasks.length) c.mark = true) : C f_spec_l14Busy [encS s, encC c] [] = some (.un t_int true 1 ((busyK s c s.tasks.length).map I), []) := by
  obtain ⟨hc, hn, -⟩ := okTasks_parts h
  have h2 := goodC_len hm hc.1
  refine C_spec_l14Busy ?_
  simp (maxSteps := 2000000) (disch := (first | omega | (simp only [lenS]; first | done | omega))) only [ir_spec_l14Busy, go_sem, Nat.reduceAdd, Nat.reduceEqDiff, Nat.reduceLeDiff, Nat.reduceSub]
  refine W_for s.tasks.length (fun k st => st = ⟨[.any, .any, .ptr 0 0, .ptr 1 0, .any, .ref 2 1 0 (busyK s c k).length, .any, I s.tasks.length, I k, .any, .any], [.box t_impl_Spec [I s.conds, tks s.tasks], .box t_impl_Case [I c.state, ints c.mark], .row t_int true 1 ((busyK s c k).map I)]⟩) ?_ ?_ ?_
  · simp (maxSteps := 2000000) (disch := (first | omega | (simp only [lenS]; first | done | omega))) only [go_sem, Nat.reduceAdd, Nat.reduceEqDiff, Nat.reduceLeDiff, Nat.reduceSub]
    rfl
  · rintro k st hk rfl
    have hb := busyK_len s c k
    have e : c.mark[(s.conds + (k : Int)).toNat]'(by omega) = at_ c.mark (s.conds + (k : Int)) := at_eq (by omega)
    simp (maxSteps := 2000000) (disch := (first | omega | (simp only [lenS]; first | done | omega))) only [go_sem, Nat.reduceAdd, Nat.reduceEqDiff, Nat.reduceLeDiff, Nat.reduceSub, e]
    refine ⟨fun h => ?_, fun h => ?_⟩
    · rw [busyK_t h, List.map_append]; simp
    · rw [busyK_f (by omega)]; rfl
  · rintro st rfl
    simp (maxSteps := 2000000) (disch := (first | omega | (simp only [lenS]; first | done | omega))) only [go_sem, Nat.reduceAdd, Nat.reduceEqDiff, Nat.reduceLeDiff, Nat.reduceSub]
theorem spec_BusyIn_ok (s : Spc) (c : Cs) (hs : smSpc s) (hl : c.mark.length < 2^62) : C f_spec_BusyIn [encS s, encC c] [] = some (.tup [.un t_int true 1 ((busyV s c).1.map I), .bool (busyV s c).2], []) := by
  have hG := spec_GoodCase_ok s c hs hl
  refine C_spec_BusyIn ?_
  simp (maxSteps := 2000000) (disch := (first | omega | (simp only [lenS]; first | done | omega))) only [ir_spec_BusyIn, go_sem, Nat.reduceAdd, Nat.reduceEqDiff, Nat.reduceLeDiff, Nat.reduceSub]
  unfold busyV
  cases hg : goodS s && goodC s c with
  | false =>
    simp (maxSteps := 2000000) (disch := (first | omega | (simp only [lenS]; first | done | omega))) only [go_sem, Nat.reduceAdd, Nat.reduceEqDiff, Nat.reduceLeDiff, Nat.reduceSub, hG, hg]
  | true =>
    have hg' := hg
    simp only [Bool.and_eq_true] at hg'
    have hgm : goodM (s.conds + s.tasks.length) c.mark = true := by have := hg'.2; unfold goodC at this; simp only [Bool.and_eq_true] at this; exact this.1
    have hB := spec_l14Busy_ok s c (goodS_ok hg'.1) hgm
    simp (maxSteps := 2000000) (disch := (first | omega | (simp only [lenS]; first | done | omega))) only [go_sem, Nat.reduceAdd, Nat.reduceEqDiff, Nat.reduceLeDiff, Nat.reduceSub, hG, hg, hB]
theorem steps_a (a b : List Int) (hal : a.length ≤ 1048576) (hbl : b.length ≤ 1048576) (hbig : (decide (1048576 < (a.length : Int)) || decide (1048576 - (a.length : Int) < b.length)) = false) (S u : Spc) (c d : Cs) (m : Mv) (r1 r2 : PV × List Blk) (e1 : C f_spec_DrawStepCase [bys a] [] = some r1) (hr : (r1 = (.tup [.agg [I S.conds, .un t_impl_Task false 7 (S.tasks.map encK)], .agg [I c.state, .un t_int true 1 (c.mark.map I)], encM m], []) ∨ (r1 = (.tup [.agg [I S.conds, .un t_impl_Task false 7 (S.tasks.map encK)], .agg [I 0, .nil true 1], encM m], []) ∧ c = ⟨0, []⟩))) (hS : drS S) (hcl : c.mark.length ≤ 16) (e2 : C f_spec_DrawCancelCase [bys b] [] = some r2) (hr2 : (r2 = (.tup [.agg [I u.conds, .un t_impl_Task false 7 (u.tasks.map encK)], .agg [I d.state, .un t_int true 1 (d.mark.map I)]], []) ∨ (r2 = (.tup [.agg [I u.conds, .un t_impl_Task false 7 (u.tasks.map encK)], .agg [I 0, .nil true 1]], []) ∧ d = ⟨0, []⟩))) (hu : drS u) (hdl : d.mark.length ≤ 16) (hB : (goodS S && goodC S c) = false) : C f_laws_FnCaseSteps [bys a, bys b] [] = some (.bool true, []) := by
  have hcut1 := impl_CancelCase_ok u d hu.sm (by omega)
  have c1 := impl_CancelCase_ok u d hu.sm (by omega)
  have c2 := spec_CancelCase_ok u d hu.sm (by omega)
  have b1 := impl_BusyIn_ok u d hu.sm (by omega)
  have b2 := spec_BusyIn_ok u d hu.sm (by omega)
  clear hcut1
  have hcb : cutB u d = true → (busyV u d).2 = true := by
    intro h
    simp only [cutB, Bool.and_eq_true] at h
    unfold busyV
    rw [if_pos (by simp [h.1.1, h.1.2])]
  have hnb : d = ⟨0, []⟩ → cutB u d = false ∧ (busyV u d).2 = false := by
    intro h
    subst h
    have e : goodC u ⟨0, []⟩ = false := by simp [goodC]
    unfold cutB busyV
    simp [e]
  have hbl2 := busyV_len u d
  have b3 := laws_sameInts_ok (busyV u d).1 (busyV u d).1 (by omega)
  rw [decide_eq_true rfl] at b3
  generalize busyV u d = BV at *
  obtain ⟨B1, B2⟩ := BV
  simp only at b1 b2 b3 hcb hnb hbl2
  have hun : 0 ≤ u.conds + u.tasks.length ∧ u.conds + u.tasks.length ≤ 30 := by have := hu.1; have := hu.2.1; omega
  have k1 : C f_laws_sameCase [.agg [I 3, .sl true 1 (List.replicate (u.conds + u.tasks.length).toNat (I 0))], .agg [I 3, .sl true 1 (List.replicate (u.conds + u.tasks.length).toNat (I 0))]] [] = some (.bool true, []) := by
    have := laws_sameCase_ok ⟨3, List.replicate (u.conds + u.tasks.length).toNat 0⟩ (by simp; omega)
    simpa only [encC, ints, List.map_replicate] using this
  have k2 : C f_laws_sameCase [.agg [I 0, .sl true 1 []], .agg [I 0, .sl true 1 []]] [] = some (.bool true, []) := laws_sameCase_ok ⟨0, []⟩ (by simp)
  generalize cutB u d = cB at *
  have s1 := impl_StepCase_ok S c m hS.sm (by omega)
  have s2 := spec_StepCase_ok S c m hS.sm (by omega)
  have g1 := impl_GoodCase_ok S c hS.sm (by omega)
  obtain ⟨_, v1, hv1⟩ := impl_MovesIn_ok S c hS.sm (by omega)
  have v2 := spec_MovesIn_ok S c hS.sm (by omega)
  rw [hB, if_neg (by simp)] at s1 s2
  rw [hB] at g1
  rw [hB, if_neg (by simp), List.map_nil] at v2
  rw [hB, if_neg (by simp), List.map_nil] at hv1
  have v3 : C f_laws_sameMoves [.sl true 3 [], .sl true 3 []] [] = some (.bool true, []) := laws_sameMoves_ok [] (by simp)
  rcases hv1 with rfl | ⟨-, rfl⟩ <;> rcases hr with rfl | ⟨rfl, rfl⟩
  all_goals
    try (replace s1 : C f_impl_StepCase [encS S, .agg [I 0, .sl true 1 []], _] [] = _ := s1)
    try (replace s2 : C f_spec_StepCase [encS S, .agg [I 0, .sl true 1 []], _] [] = _ := s2)
    try (replace g1 : C f_impl_GoodCase [encS S, .agg [I 0, .sl true 1 []]] [] = _ := g1)
    try (replace v1 : C f_impl_MovesIn [encS S, .agg [I 0, .sl true 1 []]] [] = _ := v1)
    try (replace v2 : C f_spec_MovesIn [encS S, .agg [I 0, .sl true 1 []]] [] = _ := v2)
    refine C_laws_FnCaseSteps ?_
    simp (maxSteps := 2000000) (disch := (first | omega | (simp only [lenS]; first | done | omega))) only [ir_laws_FnCaseSteps, go_sem, Nat.reduceAdd, Nat.reduceEqDiff, Nat.reduceLeDiff, Nat.reduceSub]
    simp (maxSteps := 2000000) (disch := (first | omega | (simp only [lenS]; first | done | omega))) only [go_sem, Nat.reduceAdd, Nat.reduceEqDiff, Nat.reduceLeDiff, Nat.reduceSub, laws_big_ok, hbig, e1, s1, s2, g1, v1, v2, v3, k2]
    cases cB with
    | true =>
      rw [hcb rfl] at b1 b2
      rw [if_pos rfl] at c1 c2
      rcases hr2 with rfl | ⟨rfl, hd⟩
      · replace e2 : C f_spec_DrawCancelCase [.sl true 1 (b.map (PV.int .u8))] [] = _ := e2
        simp (maxSteps := 2000000) (disch := (first | omega | (simp only [lenS]; first | done | omega))) only [go_sem, Nat.reduceAdd, Nat.reduceEqDiff, Nat.reduceLeDiff, Nat.reduceSub, e2, c1, c2, b1, b2, b3, k1, k2]
      · exact absurd (hnb hd).1 (by simp)
    | false =>
      rw [if_neg (by simp)] at c1 c2
      rcases hr2 with rfl | ⟨rfl, hd⟩
      · replace e2 : C f_spec_DrawCancelCase [.sl true 1 (b.map (PV.int .u8))] [] = _ := e2
        cases B2 with
        | true => simp (maxSteps := 2000000) (disch := (first | omega | (simp only [lenS]; first | done | omega))) only [go_sem, Nat.reduceAdd, Nat.reduceEqDiff, Nat.reduceLeDiff, Nat.reduceSub, e2, c1, c2, b1, b2, b3, k1, k2]
        | false => simp (maxSteps := 2000000) (disch := (first | omega | (simp only [lenS]; first | done | omega))) only [go_sem, Nat.reduceAdd, Nat.reduceEqDiff, Nat.reduceLeDiff, Nat.reduceSub, e2, c1, c2, b1, b2, b3, k1, k2]
      · replace e2 : C f_spec_DrawCancelCase [.sl true 1 (b.map (PV.int .u8))] [] = _ := e2
        rw [(hnb hd).2] at b1 b2
        subst hd
        replace c1 : C f_impl_CancelCase [encS u, .agg [I 0, .sl true 1 []]] [] = _ := c1
        replace c2 : C f_spec_CancelCase [encS u, .agg [I 0, .sl true 1 []]] [] = _ := c2
        replace b1 : C f_impl_BusyIn [encS u, .agg [I 0, .sl true 1 []]] [] = _ := b1
        replace b2 : C f_spec_BusyIn [encS u, .agg [I 0, .sl true 1 []]] [] = _ := b2
        simp (maxSteps := 2000000) (disch := (first | omega | (simp only [lenS]; first | done | omega))) only [go_sem, Nat.reduceAdd, Nat.reduceEqDiff, Nat.reduceLeDiff, Nat.reduceSub, e2, c1, c2, b1, b2, b3, k1, k2]
theorem steps_b (a b : List Int) (hal : a.length ≤ 1048576) (hbl : b.length ≤ 1048576) (hbig : (decide (1048576 < (a.length : Int)) || decide (1048576 - (a.length : Int) < b.length)) = false) (S u : Spc) (c d : Cs) (m : Mv) (r1 r2 : PV × List Blk) (e1 : C f_spec_DrawStepCase [bys a] [] = some r1) (hr : (r1 = (.tup [.agg [I S.conds, .un t_impl_Task false 7 (S.tasks.map encK)], .agg [I c.state, .un t_int true 1 (c.mark.map I)], encM m], []) ∨ (r1 = (.tup [.agg [I S.conds, .un t_impl_Task false 7 (S.tasks.map encK)], .agg [I 0, .nil true 1], encM m], []) ∧ c = ⟨0, []⟩))) (hS : drS S) (hcl : c.mark.length ≤ 16) (e2 : C f_spec_DrawCancelCase [bys b] [] = some r2) (hr2 : (r2 = (.tup [.agg [I u.conds, .un t_impl_Task false 7 (u.tasks.map encK)], .agg [I d.state, .un t_int true 1 (d.mark.map I)]], []) ∨ (r2 = (.tup [.agg [I u.conds, .un t_impl_Task false 7 (u.tasks.map encK)], .agg [I 0, .nil true 1]], []) ∧ d = ⟨0, []⟩))) (hu : drS u) (hdl : d.mark.length ≤ 16) (hB : (goodS S && goodC S c) = true) (hst : stepB S c m = false) : C f_laws_FnCaseSteps [bys a, bys b] [] = some (.bool true, []) := by
  have hcut1 := impl_CancelCase_ok u d hu.sm (by omega)
  have c1 := impl_CancelCase_ok u d hu.sm (by omega)
  have c2 := spec_CancelCase_ok u d hu.sm (by omega)
  have b1 := impl_BusyIn_ok u d hu.sm (by omega)
  have b2 := spec_BusyIn_ok u d hu.sm (by omega)
  clear hcut1
  have hcb : cutB u d = true → (busyV u d).2 = true := by
    intro h
    simp only [cutB, Bool.and_eq_true] at h
    unfold busyV
    rw [if_pos (by simp [h.1.1, h.1.2])]
  have hnb : d = ⟨0, []⟩ → cutB u d = false ∧ (busyV u d).2 = false := by
    intro h
    subst h
    have e : goodC u ⟨0, []⟩ = false := by simp [goodC]
    unfold cutB busyV
    simp [e]
  have hbl2 := busyV_len u d
  have b3 := laws_sameInts_ok (busyV u d).1 (busyV u d).1 (by omega)
  rw [decide_eq_true rfl] at b3
  generalize busyV u d = BV at *
  obtain ⟨B1, B2⟩ := BV
  simp only at b1 b2 b3 hcb hnb hbl2
  have hun : 0 ≤ u.conds + u.tasks.length ∧ u.conds + u.tasks.length ≤ 30 := by have := hu.1; have := hu.2.1; omega
  have k1 : C f_laws_sameCase [.agg [I 3, .sl true 1 (List.replicate (u.conds + u.tasks.length).toNat (I 0))], .agg [I 3, .sl true 1 (List.replicate (u.conds + u.tasks.length).toNat (I 0))]] [] = some (.bool true, []) := by
    have := laws_sameCase_ok ⟨3, List.replicate (u.conds + u.tasks.length).toNat 0⟩ (by simp; omega)
    simpa only [encC, ints, List.map_replicate] using this
  have k2 : C f_laws_sameCase [.agg [I 0, .sl true 1 []], .agg [I 0, .sl true 1 []]] [] = some (.bool true, []) := laws_sameCase_ok ⟨0, []⟩ (by simp)
  generalize cutB u d = cB at *
  have s1 := impl_StepCase_ok S c m hS.sm (by omega)
  have s2 := spec_StepCase_ok S c m hS.sm (by omega)
  have g1 := impl_GoodCase_ok S c hS.sm (by omega)
  obtain ⟨_, v1, hv1⟩ := impl_MovesIn_ok S c hS.sm (by omega)
  have v2 := spec_MovesIn_ok S c hS.sm (by omega)
  have hB' := hB
  simp only [Bool.and_eq_true] at hB'
  have hML : (movL S c).length ≤ 60 := by
    have h2 := mvU_len (goodS_ok hB'.1) S.tasks.length (by omega)
    have := (okTasks_parts (goodS_ok hB'.1)).2.1
    unfold movL
    split
    · exact Nat.le_trans (List.length_filter_le _ _) (by unfold mvS; omega)
    · simp
  have v3 := laws_sameMoves_ok (movL S c) (by omega)
  rw [hB, if_pos rfl] at s1 s2
  rw [hB] at g1
  rw [hB, if_pos rfl] at v2
  rw [hB, if_pos rfl] at hv1
  unfold stepPV at s1 s2
  rcases hr with rfl | ⟨rfl, hc0⟩
  rotate_left
  · subst hc0
    simp [goodC] at hB
  rw [hst, if_neg (by simp)] at s1 s2
  rcases hv1 with rfl | ⟨hR0, rfl⟩
  all_goals
    try (rw [hR0] at v2 v3)
    try (replace v2 : C f_spec_MovesIn [encS S, encC c] [] = some (.tup [.un t_impl_Move true 3 [], .bool true], []) := v2)
    try (replace v3 : C f_laws_sameMoves [.sl true 3 [], .sl true 3 []] [] = _ := v3)
    refine C_laws_FnCaseSteps ?_
    simp (maxSteps := 2000000) (disch := (first | omega | (simp only [lenS]; first | done | omega))) only [ir_laws_FnCaseSteps, go_sem, Nat.reduceAdd, Nat.reduceEqDiff, Nat.reduceLeDiff, Nat.reduceSub]
    simp (maxSteps := 2000000) (disch := (first | omega | (simp only [lenS]; first | done | omega))) only [go_sem, Nat.reduceAdd, Nat.reduceEqDiff, Nat.reduceLeDiff, Nat.reduceSub, laws_big_ok, hbig, e1, s1, s2, g1, v1, v2, v3, k2]
    cases cB with
    | true =>
      rw [hcb rfl] at b1 b2
      rw [if_pos rfl] at c1 c2
      rcases hr2 with rfl | ⟨rfl, hd⟩
      · replace e2 : C f_spec_DrawCancelCase [.sl true 1 (b.map (PV.int .u8))] [] = _ := e2
        simp (maxSteps := 2000000) (disch := (first | omega | (simp only [lenS]; first | done | omega))) only [go_sem, Nat.reduceAdd, Nat.reduceEqDiff, Nat.reduceLeDiff, Nat.reduceSub, e2, c1, c2, b1, b2, b3, k1, k2]
      · exact absurd (hnb hd).1 (by simp)
    | false =>
      rw [if_neg (by simp)] at c1 c2
      rcases hr2 with rfl | ⟨rfl, hd⟩
      · replace e2 : C f_spec_DrawCancelCase [.sl true 1 (b.map (PV.int .u8))] [] = _ := e2
        cases B2 with
        | true => simp (maxSteps := 2000000) (disch := (first | omega | (simp only [lenS]; first | done | omega))) only [go_sem, Nat.reduceAdd, Nat.reduceEqDiff, Nat.reduceLeDiff, Nat.reduceSub, e2, c1, c2, b1, b2, b3, k1, k2]
        | false => simp (maxSteps := 2000000) (disch := (first | omega | (simp only [lenS]; first | done | omega))) only [go_sem, Nat.reduceAdd, Nat.reduceEqDiff, Nat.reduceLeDiff, Nat.reduceSub, e2, c1, c2, b1, b2, b3, k1, k2]
      · replace e2 : C f_spec_DrawCancelCase [.sl true 1 (b.map (PV.int .u8))] [] = _ := e2
        rw [(hnb hd).2] at b1 b2
        subst hd
        replace c1 : C f_impl_CancelCase [encS u, .agg [I 0, .sl true 1 []]] [] = _ := c1
        replace c2 : C f_spec_CancelCase [encS u, .agg [I 0, .sl true 1 []]] [] = _ := c2
        replace b1 : C f_impl_BusyIn [encS u, .agg [I 0, .sl true 1 []]] [] = _ := b1
        replace b2 : C f_spec_BusyIn [encS u, .agg [I 0, .sl true 1 []]] [] = _ := b2
        simp (maxSteps := 2000000) (disch := (first | omega | (simp only [lenS]; first | done | omega))) only [go_sem, Nat.reduceAdd, Nat.reduceEqDiff, Nat.reduceLeDiff, Nat.reduceSub, e2, c1, c2, b1, b2, b3, k1, k2]
theorem steps_c (a b : List Int) (hal : a.length ≤ 1048576) (hbl : b.length ≤ 1048576) (hbig : (decide (1048576 < (a.length : Int)) || decide (1048576 - (a.length : Int) < b.length)) = false) (S u : Spc) (c d : Cs) (m : Mv) (r1 r2 : PV × List Blk) (e1 : C f_spec_DrawStepCase [bys a] [] = some r1) (hr : (r1 = (.tup [.agg [I S.conds, .un t_impl_Task false 7 (S.tasks.map encK)], .agg [I c.state, .un t_int true 1 (c.mark.map I)], encM m], []) ∨ (r1 = (.tup [.agg [I S.conds, .un t_impl_Task false 7 (S.tasks.map encK)], .agg [I 0, .nil true 1], encM m], []) ∧ c = ⟨0, []⟩))) (hS : drS S) (hcl : c.mark.length ≤ 16) (e2 : C f_spec_DrawCancelCase [bys b] [] = some r2) (hr2 : (r2 = (.tup [.agg [I u.conds, .un t_impl_Task false 7 (u.tasks.map encK)], .agg [I d.state, .un t_int true 1 (d.mark.map I)]], []) ∨ (r2 = (.tup [.agg [I u.conds, .un t_impl_Task false 7 (u.tasks.map encK)], .agg [I 0, .nil true 1]], []) ∧ d = ⟨0, []⟩))) (hu : drS u) (hdl : d.mark.length ≤ 16) (hB : (goodS S && goodC S c) = true) (hst : stepB S c m = true) : C f_laws_FnCaseSteps [bys a, bys b] [] = some (.bool true, []) := by
  have hcut1 := impl_CancelCase_ok u d hu.sm (by omega)
  have c1 := impl_CancelCase_ok u d hu.sm (by omega)
  have c2 := spec_CancelCase_ok u d hu.sm (by omega)
  have b1 := impl_BusyIn_ok u d hu.sm (by omega)
  have b2 := spec_BusyIn_ok u d hu.sm (by omega)
  clear hcut1
  have hcb : cutB u d = true → (busyV u d).2 = true := by
    intro h
    simp only [cutB, Bool.and_eq_true] at h
    unfold busyV
    rw [if_pos (by simp [h.1.1, h.1.2])]
  have hnb : d = ⟨0, []⟩ → cutB u d = false ∧ (busyV u d).2 = false := by
    intro h
    subst h
    have e : goodC u ⟨0, []⟩ = false := by simp [goodC]
    unfold cutB busyV
    simp [e]
  have hbl2 := busyV_len u d
  have b3 := laws_sameInts_ok (busyV u d).1 (busyV u d).1 (by omega)
  rw [decide_eq_true rfl] at b3
  generalize busyV u d = BV at *
  obtain ⟨B1, B2⟩ := BV
  simp only at b1 b2 b3 hcb hnb hbl2
  have hun : 0 ≤ u.conds + u.tasks.length ∧ u.conds + u.tasks.length ≤ 30 := by have := hu.1; have := hu.2.1; omega
  have k1 : C f_laws_sameCase [.agg [I 3, .sl true 1 (List.replicate (u.conds + u.tasks.length).toNat (I 0))], .agg [I 3, .sl true 1 (List.replicate (u.conds + u.tasks.length).toNat (I 0))]] [] = some (.bool true, []) := by
    have := laws_sameCase_ok ⟨3, List.replicate (u.conds + u.tasks.length).toNat 0⟩ (by simp; omega)
    simpa only [encC, ints, List.map_replicate] using this
  have k2 : C f_laws_sameCase [.agg [I 0, .sl true 1 []], .agg [I 0, .sl true 1 []]] [] = some (.bool true, []) := laws_sameCase_ok ⟨0, []⟩ (by simp)
  generalize cutB u d = cB at *
  have s1 := impl_StepCase_ok S c m hS.sm (by omega)
  have s2 := spec_StepCase_ok S c m hS.sm (by omega)
  have g1 := impl_GoodCase_ok S c hS.sm (by omega)
  obtain ⟨_, v1, hv1⟩ := impl_MovesIn_ok S c hS.sm (by omega)
  have v2 := spec_MovesIn_ok S c hS.sm (by omega)
  have hB' := hB
  simp only [Bool.and_eq_true] at hB'
  have hML : (movL S c).length ≤ 60 := by
    have h2 := mvU_len (goodS_ok hB'.1) S.tasks.length (by omega)
    have := (okTasks_parts (goodS_ok hB'.1)).2.1
    unfold movL
    split
    · exact Nat.le_trans (List.length_filter_le _ _) (by unfold mvS; omega)
    · simp
  have v3 := laws_sameMoves_ok (movL S c) (by omega)
  rw [hB, if_pos rfl] at s1 s2
  rw [hB] at g1
  rw [hB, if_pos rfl] at v2
  rw [hB, if_pos rfl] at hv1
  unfold stepPV at s1 s2
  rcases hr with rfl | ⟨rfl, hc0⟩
  rotate_left
  · subst hc0
    simp [goodC] at hB
  rw [hst, if_pos rfl] at s1 s2
  have hx := stepC_good hB'.2 hst
  have hxl := (goodM_len (goodC_mark hx)).2.2.2.1
  have sx := laws_sameCase_ok (stepC S c m) (by omega)
  have g2 := impl_GoodCase_ok S (stepC S c m) hS.sm (by omega)
  rw [show (goodS S && goodC S (stepC S c m)) = true by rw [hB'.1, hx]; rfl] at g2
  have y1 := laws_sameInts_ok (stepC S c m).mark (stepC S c m).mark (by omega)
  rw [decide_eq_true rfl] at y1
  have hst' := hst
  simp only [stepB, Bool.and_eq_true] at hst'
  obtain ⟨⟨⟨t1, t2⟩, t3⟩, t4⟩ := hst'
  have hany : (movL S c).any (fun y => y == m) = true := by rw [movL_any]; simp [t1, t2, t3]
  obtain ⟨i, hi, him⟩ := List.getElem_of_mem (any_mem t2)
  have n1 := impl_MoveNo_ok S m hS.sm
  have n2 : moveNo S m = ((i : Int), true) := by rw [← him]; exact moveNo_get hB'.1 hi
  rw [n2] at n1
  have f1 := impl_SpecFlow_ok S hS.sm hB'.1
  have hfm := flS_sm (goodS_ok hB'.1)
  have htl : (flS S).net.tr.length = (mvS S).length := trS_len S
  have htr : trAt (flS S).net (i : Int) = trM S m := by
    rw [← him, ← trS_get hi]
    unfold trAt
    have : (trS S)[i]? = some ((trS S)[i]'(by rw [trS_len]; exact hi)) := List.getElem?_eq_getElem _
    simp only [flS, Int.toNat_natCast, List.getD_eq_getElem?_getD, this, Option.getD_some]
  have hok : okFire (flS S).net c.mark i = true := by
    unfold okFire canN
    rw [htr, t4]
    have q1 : marked (flS S).net c.mark = true := by unfold marked; rw [goodS_net hB'.1]; exact goodC_mark hB'.2
    have q2 : inB 0 ((flS S).net.tr.length - 1) (i : Int) = true := by rw [htl]; simp [inB]; omega
    rw [q1, q2]
    simp only [Bool.true_and, Bool.and_true]
    exact t3
  have fi := impl_Fire_m (flS S).net c.mark i hfm (by omega) hok
  rw [htr] at fi
  replace fi : C f_impl_Fire [encN (flS S).net, ints c.mark, I i] [] = some (.tup [.un t_int true 1 ((stepC S c m).mark.map I), .bool true], []) := fi
  have hcm : (flS S).net.tr.length ≤ 60 := by
    have h2 := mvU_len (goodS_ok hB'.1) S.tasks.length (by omega)
    have := (okTasks_parts (goodS_ok hB'.1)).2.1
    rw [htl]; unfold mvS; omega
  rcases hv1 with rfl | ⟨hR0, rfl⟩
  rotate_left
  · rw [hR0] at hany; simp at hany
  generalize movL S c = R at *
  generalize stepC S c m = X at *
  generalize (flS S).net = NT at *
  unfold encC at sx g2 
  refine C_laws_FnCaseSteps ?_
  simp (maxSteps := 2000000) (disch := (first | omega | (simp only [lenS]; first | done | omega))) only [ir_laws_FnCaseSteps, go_sem, Nat.reduceAdd, Nat.reduceEqDiff, Nat.reduceLeDiff, Nat.reduceSub]
  simp (maxSteps := 2000000) (disch := (first | omega | (simp only [lenS]; first | done | omega))) only [go_sem, Nat.reduceAdd, Nat.reduceEqDiff, Nat.reduceLeDiff, Nat.reduceSub, laws_big_ok, hbig, e1, s1, s2, g1, v1, v2, v3, sx, f1, n1, fi]
  intro _
  have hs : ∀ k, (hk : k < R.length) → (R.take (k + 1)).any (fun y => y == m) = ((R.take k).any (fun y => y == m) || (R[k] == m)) := by
    intro k hk
    rw [List.take_succ_eq_append_getElem hk, List.any_append]
    simp
  refine W_for R.length (fun k st => st = ⟨[.any, bys b, .any, .ptr 0 0, .any, .ptr 1 0, .ptr 2 0, .any, .any, .any, .any, .any, .any, .any, .any, .bool true, .any, .bool true, .ref 3 1 0 X.mark.length, .bool true, .bool ((R.take k).any (fun y => y == m)), .any, .any, .any, .any, .any, .any, .any, .any, .any, .any, .any, .any, .any, .any, .ref 4 3 0 R.length, I R.length, I k, .any, .any], [.box t_impl_Spec [I S.conds, .ref 5 7 0 S.tasks.length], .box t_impl_Move [I m.task, .bool m.begin_, I m.pick], .box t_impl_Case [I X.state, .ref 6 1 0 X.mark.length], .row t_int true 1 (X.mark.map I), .row t_impl_Move true 3 (R.map encM), .fro false 7 (S.tasks.map encK), .row t_int true 1 (X.mark.map I)]⟩) ?_ ?_ ?_
  · simp (maxSteps := 2000000) (disch := (first | omega | (simp only [lenS]; first | done | omega))) only [go_sem, Nat.reduceAdd, Nat.reduceEqDiff, Nat.reduceLeDiff, Nat.reduceSub]
    rfl
  · rintro k st hk rfl
    have hlk : R[k]? = some R[k] := List.getElem?_eq_getElem hk
    have hsk := hs k hk
    have e : (R[k] == m) = (R[k].task == m.task && (R[k].begin_ == m.begin_ && R[k].pick == m.pick)) := mv_beq _ _
    rw [hsk, e]
    generalize R[k] = M at *
    cases hin : (R.take k).any (fun y => y == m) with
    | true =>
      simp (maxSteps := 2000000) (disch := (first | omega | (simp only [lenS]; first | done | omega))) only [go_sem, Nat.reduceAdd, Nat.reduceEqDiff, Nat.reduceLeDiff, Nat.reduceSub, hlk, eqL, eq1]
      rfl
    | false =>
      cases hE : (M.task == m.task && (M.begin_ == m.begin_ && M.pick == m.pick)) with
      | true =>
        simp (maxSteps := 2000000) (disch := (first | omega | (simp only [lenS]; first | done | omega))) only [go_sem, Nat.reduceAdd, Nat.reduceEqDiff, Nat.reduceLeDiff, Nat.reduceSub, hlk, eqL, eq1, hE]
        rfl
      | false =>
        simp (maxSteps := 2000000) (disch := (first | omega | (simp only [lenS]; first | done | omega))) only [go_sem, Nat.reduceAdd, Nat.reduceEqDiff, Nat.reduceLeDiff, Nat.reduceSub, hlk, eqL, eq1, hE]
        rfl
  · rintro st rfl
    rw [List.take_length, hany]
    simp (maxSteps := 2000000) (disch := (first | omega | (simp only [lenS]; first | done | omega))) only [go_sem, Nat.reduceAdd, Nat.reduceEqDiff, Nat.reduceLeDiff, Nat.reduceSub, y1, g2]
    cases cB with
    | true =>
      rw [hcb rfl] at b1 b2
      rw [if_pos rfl] at c1 c2
      rcases hr2 with rfl | ⟨rfl, hd⟩
      · replace e2 : C f_spec_DrawCancelCase [.sl true 1 (b.map (PV.int .u8))] [] = _ := e2
        simp (maxSteps := 2000000) (disch := (first | omega | (simp only [lenS]; first | done | omega))) only [go_sem, Nat.reduceAdd, Nat.reduceEqDiff, Nat.reduceLeDiff, Nat.reduceSub, e2, c1, c2, b1, b2, b3, k1, k2]
      · exact absurd (hnb hd).1 (by simp)
    | false =>
      rw [if_neg (by simp)] at c1 c2
      rcases hr2 with rfl | ⟨rfl, hd⟩
      · replace e2 : C f_spec_DrawCancelCase [.sl true 1 (b.map (PV.int .u8))] [] = _ := e2
        cases B2 with
        | true => simp (maxSteps := 2000000) (disch := (first | omega | (simp only [lenS]; first | done | omega))) only [go_sem, Nat.reduceAdd, Nat.reduceEqDiff, Nat.reduceLeDiff, Nat.reduceSub, e2, c1, c2, b1, b2, b3, k1, k2]
        | false => simp (maxSteps := 2000000) (disch := (first | omega | (simp only [lenS]; first | done | omega))) only [go_sem, Nat.reduceAdd, Nat.reduceEqDiff, Nat.reduceLeDiff, Nat.reduceSub, e2, c1, c2, b1, b2, b3, k1, k2]
      · replace e2 : C f_spec_DrawCancelCase [.sl true 1 (b.map (PV.int .u8))] [] = _ := e2
        rw [(hnb hd).2] at b1 b2
        subst hd
        replace c1 : C f_impl_CancelCase [encS u, .agg [I 0, .sl true 1 []]] [] = _ := c1
        replace c2 : C f_spec_CancelCase [encS u, .agg [I 0, .sl true 1 []]] [] = _ := c2
        replace b1 : C f_impl_BusyIn [encS u, .agg [I 0, .sl true 1 []]] [] = _ := b1
        replace b2 : C f_spec_BusyIn [encS u, .agg [I 0, .sl true 1 []]] [] = _ := b2
        simp (maxSteps := 2000000) (disch := (first | omega | (simp only [lenS]; first | done | omega))) only [go_sem, Nat.reduceAdd, Nat.reduceEqDiff, Nat.reduceLeDiff, Nat.reduceSub, e2, c1, c2, b1, b2, b3, k1, k2]
theorem laws_FnCaseSteps_ok (a b : List Int) (ha2 : ∀ x ∈ a, 0 ≤ x ∧ x < 256) (hb2 : ∀ x ∈ b, 0 ≤ x ∧ x < 256) : C f_laws_FnCaseSteps [bys a, bys b] [] = some (.bool true, []) := by
  cases hbig : (decide (1048576 < (a.length : Int)) || decide (1048576 - (a.length : Int) < b.length)) with
  | true =>
    refine C_laws_FnCaseSteps ?_
    simp (maxSteps := 2000000) (disch := (first | omega | (simp only [lenS]; first | done | omega))) only [ir_laws_FnCaseSteps, go_sem, Nat.reduceAdd, Nat.reduceEqDiff, Nat.reduceLeDiff, Nat.reduceSub]
    simp (maxSteps := 2000000) (disch := (first | omega | (simp only [lenS]; first | done | omega))) only [go_sem, Nat.reduceAdd, Nat.reduceEqDiff, Nat.reduceLeDiff, Nat.reduceSub, laws_big_ok, hbig]
  | false =>
    have hbig' := hbig
    simp only [Bool.or_eq_false_iff, decide_eq_false_iff_not] at hbig'
    obtain ⟨_, e1, S, c, m, hr, hS, hcl⟩ := spec_DrawStepCase_ok a (by omega) ha2
    obtain ⟨_, e2, u, d, hr2, hu, hdl⟩ := spec_DrawCancelCase_ok b (by omega) hb2
    cases hB : goodS S && goodC S c with
    | false => exact steps_a a b (by omega) (by omega) hbig S u c d m _ _ e1 hr hS hcl e2 hr2 hu hdl hB
    | true =>
      cases hst : stepB S c m with
      | false => exact steps_b a b (by omega) (by omega) hbig S u c d m _ _ e1 hr hS hcl e2 hr2 hu hdl hB hst
      | true => exact steps_c a b (by omega) (by omega) hbig S u c d m _ _ e1 hr hS hcl e2 hr2 hu hdl hB hst
end Go.Proofs.YtoimodnlefadhaaGreat.Pi
