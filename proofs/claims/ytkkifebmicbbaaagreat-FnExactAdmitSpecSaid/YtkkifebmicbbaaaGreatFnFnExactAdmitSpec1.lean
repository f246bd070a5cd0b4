/- The functions that the law reaches: what they answer. Conditions: those that each theorem names. -/
import Derived.Test.YtkkifebmicbbaaaGreatIrFnExactAdmitSpec
import Derived.Test.YtkkifebmicbbaaaGreatPlFnExactAdmitSpec
import Derived.Test.YtkkifebmicbbaaaGreatFnFnExactAdmitSpec0
namespace Go.Proofs.YtkkifebmicbbaaaGreat.Pi
open Go
set_option linter.all false
open Nat (reduceAdd reduceEqDiff reduceLeDiff reduceSub)
set_option maxHeartbeats 40000000
set_option maxRecDepth 20000
theorem waf (n : Net) (p : Int) (hg : goodN n = true) (hp : 0 ≤ p ∧ p < n.pl) : C w78 [encN n, I p, .bool false] [] = some (.tup [.un wg6 true 1 ((zyv n false p).pl.map PV.bool), .un wg6 true 1 ((zyv n false p).tr.map PV.bool)], []) := by
  have hb := zgm hg
  have hlen := zyx n false p
  rw [zyw] at hlen ⊢
  refine w0w ?_
  simp (maxSteps := 2000000) (disch := first | omega | (simp only [lenS]; try omega)) only [wbm, go_sem, reduceAdd, reduceEqDiff, reduceLeDiff, reduceSub]
  simp (maxSteps := 2000000) (disch := first | omega | (simp only [lenS]; try omega)) only [go_sem, reduceAdd, reduceEqDiff, reduceLeDiff, reduceSub, List.getElem_replicate]
  generalize hR : clRun n false (cntF (List.replicate n.tr.length false) + 1) ⟨(List.replicate n.pl.toNat false).set p.toNat true, List.replicate n.tr.length false, true⟩ = R at *
  refine ⟨rfl, ?_⟩
  refine z1a (fun k s => ∃ c : Cl, c.pl.length = n.pl.toNat ∧ c.tr.length = n.tr.length ∧ ((k = cntF c.tr + 1 ∧ s = ⟨[.any, .any, .bool false, .ptr 0 0, .any, .any, .ptr 1 0, .ref 2 1 0 n.tr.length, .bool true, .any, .any, .any, .any, .any, .any, .any, .any, .any, .any, .any, .any, .any, .any, .any, .any], [.box wga [I n.pl, trs n.tr], .box wgi [.ref 3 1 0 n.pl.toNat], .row wg6 true 1 (c.tr.map PV.bool), .row wg6 true 1 (c.pl.map PV.bool)]⟩ ∧ clRun n false (cntF c.tr + 1) c = R) ∨ (k = 0 ∧ s = ⟨[.any, .any, .bool false, .ptr 0 0, .any, .any, .ptr 1 0, .ref 2 1 0 n.tr.length, .bool false, .any, .any, .any, .any, .any, .any, .any, .any, .any, .any, .any, .any, .any, .any, .any, .any], [.box wga [I n.pl, trs n.tr], .box wgi [.ref 3 1 0 n.pl.toNat], .row wg6 true 1 (c.tr.map PV.bool), .row wg6 true 1 (c.pl.map PV.bool)]⟩ ∧ c = R))) (cntF (List.replicate n.tr.length false) + 1) ?_ ?_
  · refine ⟨⟨(List.replicate n.pl.toNat false).set p.toNat true, List.replicate n.tr.length false, true⟩, by simp, by simp, .inl ⟨rfl, ?_, hR⟩⟩
    simp (maxSteps := 2000000) (disch := first | omega | (simp only [lenS]; try omega)) only [go_sem, reduceAdd, reduceEqDiff, reduceLeDiff, reduceSub]
    simp
  · rintro k0 s ⟨c, hc1, hc2, ⟨rfl, rfl, hc⟩ | ⟨rfl, rfl, rfl⟩⟩
    · have hcl := fun k => z8p n false c k
      simp (maxSteps := 2000000) (disch := first | omega | (simp only [lenS]; try omega)) only [go_sem, reduceAdd, reduceEqDiff, reduceLeDiff, reduceSub]
      refine W_for n.tr.length (fun k s => s = ⟨[.any, .any, .bool false, .ptr 0 0, .any, .any, .ptr 1 0, .ref 2 1 0 n.tr.length, .bool (clK n false c k).ch, .any, .any, .any, .any, .any, .any, trs n.tr, I n.tr.length, I k, .any, .any, .any, .any, .any, .any, .any], [.box wga [I n.pl, trs n.tr], .box wgi [.ref 3 1 0 n.pl.toNat], .row wg6 true 1 ((clK n false c k).tr.map PV.bool), .row wg6 true 1 ((clK n false c k).pl.map PV.bool)]⟩) ?_ ?_ ?_
      · simp (maxSteps := 2000000) (disch := first | omega | (simp only [lenS]; try omega)) only [go_sem, reduceAdd, reduceEqDiff, reduceLeDiff, reduceSub]
        rfl
      · rintro k s hk rfl
        have hT := hb.2.2.2 _ (List.getElem_mem hk)
        have hLs := zgr hT (by omega)
        obtain ⟨_, g1, g2, g3⟩ := zgv hT
        have p1 := zx4 g1
        have p2 := zx4 g2
        have hd := hcl k
        have hstep := z8q n false c k
        have htr : n.tr[k] = trN n k := (z18z hk).symm
        rw [htr] at hLs p1 p2
        have s1 : (clK n false c k).tr.getD k false = true → clK n false c (k + 1) = clK n false c k := fun h => hstep.trans (z8z (.inl h))
        have s2 : hitB (clK n false c k).pl (sideI false (trN n k)) = false → clK n false c (k + 1) = clK n false c k := fun h => hstep.trans (z8z (.inr h))
        have s3 : (clK n false c k).tr.getD k false = false → hitB (clK n false c k).pl (sideI false (trN n k)) = true → clK n false c (k + 1) = ⟨markB (clK n false c k).pl (sideO false (trN n k)), (clK n false c k).tr.set k true, true⟩ := fun h h2 => hstep.trans (z90 h h2)
        simp only [sideI, sideO, Bool.false_eq_true, if_false, if_true] at s2 s3
        clear hstep
        generalize clK n false c k = d at *
        generalize clK n false c (k + 1) = d' at *
        have hcont := wer (trN n k).inn w79 [.pv (.agg [bls d.pl]) 0] rfl (fun _ _ => rfl) (fun q => d.pl.getD q.toNat false) (fun x hx => wae x d.pl (by have := p1 x hx; omega)) (by omega)
        rw [show ((trN n k).inn.any fun q => d.pl.getD q.toNat false) = hitB d.pl (trN n k).inn from rfl] at hcont
        have hkd : k < d.tr.length := by omega
        simp (maxSteps := 2000000) (disch := first | omega | (simp only [lenS]; try omega)) only [go_sem, reduceAdd, reduceEqDiff, reduceLeDiff, reduceSub, htr, hcont]
        generalize trN n k = tr at *
        refine ⟨fun h3 => ?_, fun h3 => ⟨fun h => ?_, fun h => ?_⟩⟩
        · rw [s1 (by rw [← zfv hkd]; exact h3)]; rfl
        · have e := s3 (by rw [← zfv hkd]; exact h3) h
          subst e
          refine W_for tr.out.length (fun j s => s = ⟨[.any, .any, .bool false, .ptr 0 0, .any, .any, .ptr 1 0, .ref 2 1 0 n.tr.length, .bool true, .any, .any, .any, .any, .any, .any, trs n.tr, I n.tr.length, I k, .any, .any, .any, ints tr.out, I tr.out.length, I j, .any], [.box wga [I n.pl, trs n.tr], .box wgi [.ref 3 1 0 n.pl.toNat], .row wg6 true 1 ((d.tr.set k true).map PV.bool), .row wg6 true 1 ((markB d.pl (tr.out.take j)).map PV.bool)]⟩) ?_ ?_ ?_
          · simp (maxSteps := 2000000) (disch := first | omega | (simp only [lenS]; try omega)) only [go_sem, reduceAdd, reduceEqDiff, reduceLeDiff, reduceSub]
            rfl
          · rintro j s hj rfl
            have h1 := p2 _ (List.getElem_mem hj)
            have h2 : tr.out[j].toNat < d.pl.length := by omega
            have h4 := zon d.pl (tr.out.take j)
            simp (maxSteps := 2000000) (disch := first | omega | (simp only [lenS]; try omega)) only [go_sem, reduceAdd, reduceEqDiff, reduceLeDiff, reduceSub]
            rw [zoo hj]; rfl
          · rintro s rfl
            simp (maxSteps := 2000000) (disch := first | omega | (simp only [lenS]; try omega)) only [go_sem, reduceAdd, reduceEqDiff, reduceLeDiff, reduceSub, List.take_length]
            rfl
        · rw [s2 h]; rfl
      · rintro s rfl
        simp (maxSteps := 2000000) (disch := first | omega | (simp only [lenS]; try omega)) only [go_sem, reduceAdd, reduceEqDiff, reduceLeDiff, reduceSub]
        have hn := z8v (n := n) (bk := false) hc2
        rw [hc] at hn
        cases e : (z8r n false c).ch with
        | true =>
          have h1 := (z8o (n := n) (bk := false) (s := c) (k := n.tr.length) (by omega)).2 e
          simp only [e, if_true] at hn
          refine ⟨cntF (z8r n false c).tr + 1, by unfold z8r; omega, z8r n false c, by unfold z8r; have := hcl n.tr.length; omega, by unfold z8r; have := hcl n.tr.length; omega, .inl ⟨rfl, ?_, hn.symm⟩⟩
          unfold z8r at e ⊢
          rw [e]
        | false =>
          simp only [e, Bool.false_eq_true, if_false] at hn
          refine ⟨0, by omega, z8r n false c, by unfold z8r; have := hcl n.tr.length; omega, by unfold z8r; have := hcl n.tr.length; omega, .inr ⟨rfl, ?_, hn.symm⟩⟩
          unfold z8r at e ⊢
          rw [e]
    · simp (maxSteps := 2000000) (disch := first | omega | (simp only [lenS]; try omega)) only [go_sem, reduceAdd, reduceEqDiff, reduceLeDiff, reduceSub]
theorem wag (n : Net) (p : Int) (hg : goodN n = true) (hp : 0 ≤ p ∧ p < n.pl) : C w78 [encN n, I p, .bool true] [] = some (.tup [.un wg6 true 1 ((zyv n true p).pl.map PV.bool), .un wg6 true 1 ((zyv n true p).tr.map PV.bool)], []) := by
  have hb := zgm hg
  have hlen := zyx n true p
  rw [zyw] at hlen ⊢
  refine w0w ?_
  simp (maxSteps := 2000000) (disch := first | omega | (simp only [lenS]; try omega)) only [wbm, go_sem, reduceAdd, reduceEqDiff, reduceLeDiff, reduceSub]
  simp (maxSteps := 2000000) (disch := first | omega | (simp only [lenS]; try omega)) only [go_sem, reduceAdd, reduceEqDiff, reduceLeDiff, reduceSub, List.getElem_replicate]
  generalize hR : clRun n true (cntF (List.replicate n.tr.length false) + 1) ⟨(List.replicate n.pl.toNat false).set p.toNat true, List.replicate n.tr.length false, true⟩ = R at *
  refine ⟨rfl, ?_⟩
  refine z1a (fun k s => ∃ c : Cl, c.pl.length = n.pl.toNat ∧ c.tr.length = n.tr.length ∧ ((k = cntF c.tr + 1 ∧ s = ⟨[.any, .any, .bool true, .ptr 0 0, .any, .any, .ptr 1 0, .ref 2 1 0 n.tr.length, .bool true, .any, .any, .any, .any, .any, .any, .any, .any, .any, .any, .any, .any, .any, .any, .any, .any], [.box wga [I n.pl, trs n.tr], .box wgi [.ref 3 1 0 n.pl.toNat], .row wg6 true 1 (c.tr.map PV.bool), .row wg6 true 1 (c.pl.map PV.bool)]⟩ ∧ clRun n true (cntF c.tr + 1) c = R) ∨ (k = 0 ∧ s = ⟨[.any, .any, .bool true, .ptr 0 0, .any, .any, .ptr 1 0, .ref 2 1 0 n.tr.length, .bool false, .any, .any, .any, .any, .any, .any, .any, .any, .any, .any, .any, .any, .any, .any, .any, .any], [.box wga [I n.pl, trs n.tr], .box wgi [.ref 3 1 0 n.pl.toNat], .row wg6 true 1 (c.tr.map PV.bool), .row wg6 true 1 (c.pl.map PV.bool)]⟩ ∧ c = R))) (cntF (List.replicate n.tr.length false) + 1) ?_ ?_
  · refine ⟨⟨(List.replicate n.pl.toNat false).set p.toNat true, List.replicate n.tr.length false, true⟩, by simp, by simp, .inl ⟨rfl, ?_, hR⟩⟩
    simp (maxSteps := 2000000) (disch := first | omega | (simp only [lenS]; try omega)) only [go_sem, reduceAdd, reduceEqDiff, reduceLeDiff, reduceSub]
    simp
  · rintro k0 s ⟨c, hc1, hc2, ⟨rfl, rfl, hc⟩ | ⟨rfl, rfl, rfl⟩⟩
    · have hcl := fun k => z8p n true c k
      simp (maxSteps := 2000000) (disch := first | omega | (simp only [lenS]; try omega)) only [go_sem, reduceAdd, reduceEqDiff, reduceLeDiff, reduceSub]
      refine W_for n.tr.length (fun k s => s = ⟨[.any, .any, .bool true, .ptr 0 0, .any, .any, .ptr 1 0, .ref 2 1 0 n.tr.length, .bool (clK n true c k).ch, .any, .any, .any, .any, .any, .any, trs n.tr, I n.tr.length, I k, .any, .any, .any, .any, .any, .any, .any], [.box wga [I n.pl, trs n.tr], .box wgi [.ref 3 1 0 n.pl.toNat], .row wg6 true 1 ((clK n true c k).tr.map PV.bool), .row wg6 true 1 ((clK n true c k).pl.map PV.bool)]⟩) ?_ ?_ ?_
      · simp (maxSteps := 2000000) (disch := first | omega | (simp only [lenS]; try omega)) only [go_sem, reduceAdd, reduceEqDiff, reduceLeDiff, reduceSub]
        rfl
      · rintro k s hk rfl
        have hT := hb.2.2.2 _ (List.getElem_mem hk)
        have hLs := zgr hT (by omega)
        obtain ⟨_, g1, g2, g3⟩ := zgv hT
        have p1 := zx4 g2
        have p2 := zx4 g1
        have hd := hcl k
        have hstep := z8q n true c k
        have htr : n.tr[k] = trN n k := (z18z hk).symm
        rw [htr] at hLs p1 p2
        have s1 : (clK n true c k).tr.getD k false = true → clK n true c (k + 1) = clK n true c k := fun h => hstep.trans (z8z (.inl h))
        have s2 : hitB (clK n true c k).pl (sideI true (trN n k)) = false → clK n true c (k + 1) = clK n true c k := fun h => hstep.trans (z8z (.inr h))
        have s3 : (clK n true c k).tr.getD k false = false → hitB (clK n true c k).pl (sideI true (trN n k)) = true → clK n true c (k + 1) = ⟨markB (clK n true c k).pl (sideO true (trN n k)), (clK n true c k).tr.set k true, true⟩ := fun h h2 => hstep.trans (z90 h h2)
        simp only [sideI, sideO, Bool.false_eq_true, if_false, if_true] at s2 s3
        clear hstep
        generalize clK n true c k = d at *
        generalize clK n true c (k + 1) = d' at *
        have hcont := wer (trN n k).out w79 [.pv (.agg [bls d.pl]) 0] rfl (fun _ _ => rfl) (fun q => d.pl.getD q.toNat false) (fun x hx => wae x d.pl (by have := p1 x hx; omega)) (by omega)
        rw [show ((trN n k).out.any fun q => d.pl.getD q.toNat false) = hitB d.pl (trN n k).out from rfl] at hcont
        have hkd : k < d.tr.length := by omega
        simp (maxSteps := 2000000) (disch := first | omega | (simp only [lenS]; try omega)) only [go_sem, reduceAdd, reduceEqDiff, reduceLeDiff, reduceSub, htr, hcont]
        generalize trN n k = tr at *
        refine ⟨fun h3 => ?_, fun h3 => ⟨fun h => ?_, fun h => ?_⟩⟩
        · rw [s1 (by rw [← zfv hkd]; exact h3)]; rfl
        · have e := s3 (by rw [← zfv hkd]; exact h3) h
          subst e
          refine W_for tr.inn.length (fun j s => s = ⟨[.any, .any, .bool true, .ptr 0 0, .any, .any, .ptr 1 0, .ref 2 1 0 n.tr.length, .bool true, .any, .any, .any, .any, .any, .any, trs n.tr, I n.tr.length, I k, .any, .any, .any, ints tr.inn, I tr.inn.length, I j, .any], [.box wga [I n.pl, trs n.tr], .box wgi [.ref 3 1 0 n.pl.toNat], .row wg6 true 1 ((d.tr.set k true).map PV.bool), .row wg6 true 1 ((markB d.pl (tr.inn.take j)).map PV.bool)]⟩) ?_ ?_ ?_
          · simp (maxSteps := 2000000) (disch := first | omega | (simp only [lenS]; try omega)) only [go_sem, reduceAdd, reduceEqDiff, reduceLeDiff, reduceSub]
            rfl
          · rintro j s hj rfl
            have h1 := p2 _ (List.getElem_mem hj)
            have h2 : tr.inn[j].toNat < d.pl.length := by omega
            have h4 := zon d.pl (tr.inn.take j)
            simp (maxSteps := 2000000) (disch := first | omega | (simp only [lenS]; try omega)) only [go_sem, reduceAdd, reduceEqDiff, reduceLeDiff, reduceSub]
            rw [zoo hj]; rfl
          · rintro s rfl
            simp (maxSteps := 2000000) (disch := first | omega | (simp only [lenS]; try omega)) only [go_sem, reduceAdd, reduceEqDiff, reduceLeDiff, reduceSub, List.take_length]
            rfl
        · rw [s2 h]; rfl
      · rintro s rfl
        simp (maxSteps := 2000000) (disch := first | omega | (simp only [lenS]; try omega)) only [go_sem, reduceAdd, reduceEqDiff, reduceLeDiff, reduceSub]
        have hn := z8v (n := n) (bk := true) hc2
        rw [hc] at hn
        cases e : (z8r n true c).ch with
        | true =>
          have h1 := (z8o (n := n) (bk := true) (s := c) (k := n.tr.length) (by omega)).2 e
          simp only [e, if_true] at hn
          refine ⟨cntF (z8r n true c).tr + 1, by unfold z8r; omega, z8r n true c, by unfold z8r; have := hcl n.tr.length; omega, by unfold z8r; have := hcl n.tr.length; omega, .inl ⟨rfl, ?_, hn.symm⟩⟩
          unfold z8r at e ⊢
          rw [e]
        | false =>
          simp only [e, Bool.false_eq_true, if_false] at hn
          refine ⟨0, by omega, z8r n true c, by unfold z8r; have := hcl n.tr.length; omega, by unfold z8r; have := hcl n.tr.length; omega, .inr ⟨rfl, ?_, hn.symm⟩⟩
          unfold z8r at e ⊢
          rw [e]
    · simp (maxSteps := 2000000) (disch := first | omega | (simp only [lenS]; try omega)) only [go_sem, reduceAdd, reduceEqDiff, reduceLeDiff, reduceSub]
theorem w9y (a b : List Bool) (ha : a.length < 2^30) (hab : a.length ≤ b.length) : C w6s [bls a, bls b] [] = some (.un t_int true 1 ((bothL a b).map I), []) := by
  refine w0g ?_
  simp (maxSteps := 2000000) (disch := first | omega | (simp only [lenS]; try omega)) only [wb6, go_sem, reduceAdd, reduceEqDiff, reduceLeDiff, reduceSub]
  refine W_for a.length (fun k s => s = ⟨[.any, bls b, .any, .ref 0 1 0 (bothK a b k).length, .any, .any, bls a, I a.length, I k, .any, .any], [.row t_int true 1 ((bothK a b k).map I)]⟩) ?_ ?_ ?_
  · simp (maxSteps := 2000000) (disch := first | omega | (simp only [lenS]; try omega)) only [go_sem, reduceAdd, reduceEqDiff, reduceLeDiff, reduceSub]
    rfl
  · rintro k s hk rfl
    have h2 := z6j a b k
    have hkb : k < b.length := by omega
    have e1 := zfv hk
    have e2 := zfv hkb
    simp (maxSteps := 2000000) (disch := first | omega | (simp only [lenS]; try omega)) only [go_sem, reduceAdd, reduceEqDiff, reduceLeDiff, reduceSub]
    rw [e1, e2]
    refine ⟨fun h => ⟨fun h3 => ?_, fun h3 => ?_⟩, fun h => ?_⟩
    · rw [z6k h h3, List.map_append]; simp
    · rw [z6i (by rw [h, h3]; rfl)]; rfl
    · rw [z6i (by rw [h]; rfl)]; rfl
  · rintro s rfl
    simp (maxSteps := 2000000) (disch := first | omega | (simp only [lenS]; try omega)) only [go_sem, reduceAdd, reduceEqDiff, reduceLeDiff, reduceSub]
    rfl
theorem wad (n : Net) (a b : Int) (hg : goodN n = true) (ha : 0 ≤ a ∧ a < n.pl) (hb2 : 0 ≤ b ∧ b < n.pl) : C w77 [encN n, I a, I b] [] = some (.tup [.un t_int true 1 ((wayP n a b).map I), .un t_int true 1 ((wayT n a b).map I)], []) := by
  have hb := zgm hg
  have l1 := zyx n false a
  have l2 := zyx n true b
  refine w0v ?_
  simp (maxSteps := 2000000) (disch := first | omega | (simp only [lenS]; try omega)) only [wbl, go_sem, reduceAdd, reduceEqDiff, reduceLeDiff, reduceSub]
  simp (maxSteps := 2000000) (disch := first | omega | (simp only [lenS]; try omega)) only [go_sem, reduceAdd, reduceEqDiff, reduceLeDiff, reduceSub, waf n a hg ha, wag n b hg hb2]
  simp (maxSteps := 2000000) (disch := first | omega | (simp only [lenS]; try omega)) only [go_sem, reduceAdd, reduceEqDiff, reduceLeDiff, reduceSub, w9y (zyv n false a).pl (zyv n true b).pl (by omega) (by omega), w9y (zyv n false a).tr (zyv n true b).tr (by omega) (by omega)]
  rfl
theorem w9h (f : Fl) (hf : smN f.net) : C w6d [encF f] [] = some (.bool (zg7 f), []) := by
  have hl := hf.1
  refine w01 ?_
  simp (maxSteps := 2000000) (disch := first | omega | (simp only [lenS]; try omega)) only [wap, go_sem, reduceAdd, reduceEqDiff, reduceLeDiff, reduceSub]
  simp (maxSteps := 2000000) (disch := first | omega | (simp only [lenS]; try omega)) only [go_sem, reduceAdd, reduceEqDiff, reduceLeDiff, reduceSub, w9j f.net hf, wan]
  cases hg : goodN f.net with
  | false => simp [zg7, okWay, hg]
  | true =>
    have hb := zgm hg
    cases h1 : inB 0 (f.net.pl - 1) f.src with
    | false => simp (maxSteps := 2000000) (disch := first | omega | (simp only [lenS]; try omega)) only [go_sem, reduceAdd, reduceEqDiff, reduceLeDiff, reduceSub, h1]; simp [zg7, okWay, hg, h1]
    | true =>
      cases h2 : inB 0 (f.net.pl - 1) f.dst with
      | false => simp (maxSteps := 2000000) (disch := first | omega | (simp only [lenS]; try omega)) only [go_sem, reduceAdd, reduceEqDiff, reduceLeDiff, reduceSub, h1, h2]; simp [zg7, okWay, hg, h1, h2]
      | true =>
        have hok : okWay f.net f.src f.dst = true := by simp [okWay, hg, h1, h2]
        have ha : 0 ≤ f.src ∧ f.src < f.net.pl := by simp [inB] at h1; omega
        have hb2 : 0 ≤ f.dst ∧ f.dst < f.net.pl := by simp [inB] at h2; omega
        have hP : (wayP f.net f.src f.dst).length < 2^62 := by
          have h1 := z6j (zyv f.net false f.src).pl (zyv f.net true f.dst).pl (zyv f.net false f.src).pl.length
          have h2 := zyx f.net false f.src
          unfold wayP bothL; omega
        have hT : (wayT f.net f.src f.dst).length < 2^62 := by
          have h1 := z6j (zyv f.net false f.src).tr (zyv f.net true f.dst).tr (zyv f.net false f.src).tr.length
          have h2 := zyx f.net false f.src
          unfold wayT bothL; omega
        simp (maxSteps := 2000000) (disch := first | omega | (simp only [lenS]; try omega)) only [go_sem, reduceAdd, reduceEqDiff, reduceLeDiff, reduceSub, h1, h2]
        refine ⟨fun h => by simp [zg7, h], fun hne => ?_⟩
        refine W_for f.net.tr.length (fun k s => s = ⟨[.any, .ptr 0 0, .any, .ptr 1 0, .any, .any, .any, .any, trs f.net.tr, I f.net.tr.length, I k, .any, .any], [.box wg8 [I f.net.pl, trs f.net.tr, I f.src, I f.dst], .box wga [I f.net.pl, trs f.net.tr]]⟩ ∧ (f.net.tr.take k).all (fun t => !z15y f t) = true) ?_ ?_ ?_
        · simp (maxSteps := 2000000) (disch := first | omega | (simp only [lenS]; try omega)) only [go_sem, reduceAdd, reduceEqDiff, reduceLeDiff, reduceSub]
          rfl
        · rintro k s hk ⟨rfl, hall⟩
          have hT := hb.2.2.2 _ (List.getElem_mem hk)
          have hLs := zgr hT (by omega)
          simp (maxSteps := 2000000) (disch := first | omega | (simp only [lenS]; try omega)) only [go_sem, reduceAdd, reduceEqDiff, reduceLeDiff, reduceSub, wet]
          have gs : z15y f f.net.tr[k] = true → zg7 f = false := fun hs => by
            have : (f.net.tr.all fun t => !z15y f t) = false := z2r hk (by simp [hs])
            simp [zg7, this]
          exact ⟨fun a => by rw [gs (by simp [z15y, a])], fun a => ⟨fun b => by rw [gs (by simp [z15y, b])], fun b => ⟨fun c => by rw [gs (by simp [z15y, c])], fun c => ⟨fun d => by rw [gs (by simp [z15y, d])], fun d => ⟨rfl, z2s hk hall (by simp [z15y, a, b, c, d])⟩⟩⟩⟩⟩
        · rintro s ⟨rfl, hall⟩
          rw [List.take_length] at hall
          simp (maxSteps := 2000000) (disch := first | omega | (simp only [lenS]; try omega)) only [go_sem, reduceAdd, reduceEqDiff, reduceLeDiff, reduceSub, wad f.net f.src f.dst hg ha hb2]
          have e : zg7 f = (decide (((wayP f.net f.src f.dst).length : Int) = f.net.pl) && decide ((wayT f.net f.src f.dst).length = f.net.tr.length)) := by
            simp only [zg7, hok, hne, hall, decide_false, Bool.not_false, Bool.true_and]
          refine ⟨fun q1 => ⟨fun q2 => ?_, fun q2 => ?_⟩, fun q1 => ?_⟩
          · rw [e, decide_eq_true q1, decide_eq_true (by omega)]; rfl
          · rw [e, decide_eq_true q1, decide_eq_false (by omega)]; rfl
          · rw [e, decide_eq_false q1]; rfl
theorem waa (s : Spc) (hs : smSpc s) : C w74 [encS s] [] = some (.bool (goodS s), []) := by
  obtain ⟨hl, ht⟩ := hs
  refine w0s ?_
  simp (maxSteps := 2000000) (disch := first | omega | (simp only [lenS]; try omega)) only [wbi, go_sem, reduceAdd, reduceEqDiff, reduceLeDiff, reduceSub]
  simp (maxSteps := 2000000) (disch := first | omega | (simp only [lenS]; try omega)) only [go_sem, reduceAdd, reduceEqDiff, reduceLeDiff, reduceSub, wan]
  refine ⟨fun h1 => ⟨fun h2 => ?_, fun h2 => by simp [goodS, zsv, h2]⟩, fun h1 => by simp [goodS, zsv, h1]⟩
  have hc : 2 ≤ s.conds ∧ s.conds ≤ 8 := by simpa [inB] using h1
  have hn : 1 ≤ s.tasks.length ∧ s.tasks.length ≤ 6 := by simp [inB] at h2; omega
  refine W_for s.tasks.length (fun i st => st = ⟨[.any, .ptr 0 0, .any, .any, .any, I s.tasks.length, I i, .any, .any], [.box wgc [I s.conds, tks s.tasks]]⟩ ∧ ∀ k, k < i → goodK s k (tkN s k) = true) ?_ ?_ ?_
  · simp (maxSteps := 2000000) (disch := first | omega | (simp only [lenS]; try omega)) only [go_sem, reduceAdd, reduceEqDiff, reduceLeDiff, reduceSub]
    exact ⟨rfl, fun k hk => by omega⟩
  · rintro i st hi ⟨rfl, hall⟩
    have hT := wab s i hi hn.2 hc (ht _ (List.getElem_mem hi))
    rw [← z18o hi] at hT
    simp (maxSteps := 2000000) (disch := first | omega | (simp only [lenS]; try omega)) only [go_sem, reduceAdd, reduceEqDiff, reduceLeDiff, reduceSub, hT]
    refine ⟨fun h => ⟨rfl, fun k hk => ?_⟩, fun h => ?_⟩
    · rcases Nat.lt_or_ge k i with h5 | h5
      · exact hall k h5
      · rw [show k = i by omega]; exact h
    · have : zsv s = false := by
        rw [Bool.eq_false_iff]
        intro he
        have := (zsw he).2.2 i hi
        rw [h] at this; cases this
      simp [goodS, this]
  · rintro st ⟨rfl, hall⟩
    have hok : zsv s = true := by
      simp only [zsv, h1, h2, Bool.true_and, List.all_eq_true, List.mem_range]
      exact hall
    have hf := wak s hok
    have hg := w9h (flS s) (ze7 hok)
    have e : (trS s).length = (mvS s).length := z197 s s.tasks.length
    have h3 := zqt hok s.tasks.length (by omega)
    unfold mvS at e
    unfold encF flS at hg
    simp only at hg
    simp (maxSteps := 2000000) (disch := first | omega | (simp only [lenS]; try omega)) only [go_sem, reduceAdd, reduceEqDiff, reduceLeDiff, reduceSub, hf, hg]
    simp [goodS, hok, flS]
theorem waj (n p : Int) (hn : 0 ≤ n ∧ n < 2^30) (hp : 0 ≤ p ∧ p < n) : C w7c [I n, I p] [] = some (.un t_int true 1 ((oneM n.toNat p).map I), []) := by
  refine w10 ?_
  simp (maxSteps := 2000000) (disch := first | omega | (simp only [lenS]; try omega)) only [wbq, go_sem, reduceAdd, reduceEqDiff, reduceLeDiff, reduceSub]
  simp (maxSteps := 2000000) (disch := first | omega | (simp only [lenS]; try omega)) only [go_sem, reduceAdd, reduceEqDiff, reduceLeDiff, reduceSub, List.getElem_replicate]
  simp [oneM, List.map_set]
theorem wal (f : Fl) (hg : zg7 f = true) : C w7e [encF f] [] = some (.un t_int true 1 ((oneM f.net.pl.toNat f.src).map I), []) := by
  obtain ⟨g1, g2, g3, _⟩ := zga hg
  have hn := zgm g1
  refine w12 ?_
  simp (maxSteps := 2000000) (disch := first | omega | (simp only [lenS]; try omega)) only [wbs, go_sem, reduceAdd, reduceEqDiff, reduceLeDiff, reduceSub]
  simp (maxSteps := 2000000) (disch := first | omega | (simp only [lenS]; try omega)) only [go_sem, reduceAdd, reduceEqDiff, reduceLeDiff, reduceSub, waj f.net.pl f.src (by omega) g2]
theorem wa7 (m : List Int) (p : Int) (h : 0 ≤ p ∧ p.toNat < m.length) : C w72 [I p, .pv (.agg [ints m]) 0] [] = some (.bool (at_ m p == 0), []) := by
  obtain ⟨h1, h2⟩ := h
  refine w0q ?_
  simp (maxSteps := 2000000) (disch := first | omega | (simp only [lenS]; try omega)) only [wbg, go_sem, reduceAdd, reduceEqDiff, reduceLeDiff, reduceSub]
  simp only [at_eq h2]
  grind
theorem wa8 (t : Tr) (m : List Int) (ht : ∀ q ∈ t.inn, 0 ≤ q ∧ q.toNat < m.length) (hl : t.inn.length < 2^62) : C w71 [encT t, ints m] [] = some (.bool (canT t m), []) := by
  refine w0p ?_
  simp (maxSteps := 2000000) (disch := first | omega | (simp only [lenS]; try omega)) only [wbf, go_sem, reduceAdd, reduceEqDiff, reduceLeDiff, reduceSub]
  have h := wer t.inn w72 [.pv (.agg [ints m]) 0] rfl (fun _ _ => rfl) (fun p => at_ m p == 0) (fun x hx => wa7 m x (ht x hx)) hl
  simp (maxSteps := 2000000) (disch := first | omega | (simp only [lenS]; try omega)) only [go_sem, reduceAdd, reduceEqDiff, reduceLeDiff, reduceSub, h]
  have : (t.inn.any fun p => at_ m p == 0) = !canT t m := by rw [canT, List.any_eq_not_all_not]
  rw [this]; simp
theorem wa2 (n : Net) (m : List Int) (hg : goodN n = true) (hm : (m.length : Int) = n.pl) : C w6w [encN n, ints m] [] = some (.un t_int true 1 ((enabL n m).map I), []) := by
  have hb := zgm hg
  refine w0k ?_
  simp (maxSteps := 2000000) (disch := first | omega | (simp only [lenS]; try omega)) only [wba, go_sem, reduceAdd, reduceEqDiff, reduceLeDiff, reduceSub]
  refine W_for n.tr.length (fun k s => s = ⟨[.any, ints m, .any, .any, .ref 0 1 0 (enabK n m k).length, .any, .any, trs n.tr, I n.tr.length, I k, .any, .any], [.row t_int true 1 ((enabK n m k).map I)]⟩) ?_ ?_ ?_
  · simp (maxSteps := 2000000) (disch := first | omega | (simp only [lenS]; try omega)) only [go_sem, reduceAdd, reduceEqDiff, reduceLeDiff, reduceSub]
    rfl
  · rintro k s hk rfl
    have hT := hb.2.2.2 _ (List.getElem_mem hk)
    have h2 := zb6 n m k
    simp (maxSteps := 2000000) (disch := first | omega | (simp only [lenS]; try omega)) only [go_sem, reduceAdd, reduceEqDiff, reduceLeDiff, reduceSub, wa8 _ m (zgs hT hm).1 (by have := (zgr hT (by omega)).1; omega)]
    refine ⟨fun h => ?_, fun h => ?_⟩
    · rw [zb7 hk h, List.map_append]; simp
    · rw [zb5 hk h]; rfl
  · rintro s rfl
    simp (maxSteps := 2000000) (disch := first | omega | (simp only [lenS]; try omega)) only [go_sem, reduceAdd, reduceEqDiff, reduceLeDiff, reduceSub]
    rfl
theorem wa5 (t : Tr) (m : List Int) (h1 : ∀ q ∈ t.inn, 0 ≤ q ∧ q.toNat < m.length) (h2 : ∀ q ∈ t.out, 0 ≤ q ∧ q.toNat < m.length) (h3 : ∀ q ∈ t.rst, 0 ≤ q ∧ q.toNat < m.length) (hl : smT t) (hm : m.length < 2^30) (hb : ∀ x ∈ m, 0 ≤ x ∧ x ≤ 50) :
    C w6z [encT t, ints m] [] = some (.un t_int true 1 ((ze0 t m).map I), []) := by
  obtain ⟨g1, g2, g3⟩ := hl
  refine w0n ?_
  simp (maxSteps := 2000000) (disch := first | omega | (simp only [lenS]; try omega)) only [wbd, go_sem, reduceAdd, reduceEqDiff, reduceLeDiff, reduceSub]
  simp (maxSteps := 2000000) (disch := first | omega | (simp only [lenS]; try omega)) only [go_sem, reduceAdd, reduceEqDiff, reduceLeDiff, reduceSub, weo]
  refine W_for t.inn.length (fun k s => s = ⟨[.any, .any, .ptr 0 0, .any, .ref 1 1 0 m.length, .any, .any, .any, ints t.inn, I t.inn.length, I k, .any, .any, .any, .any, .any, .any, .any, .any, .any], [.box wge [ints t.inn, ints t.out, ints t.rst], .row t_int true 1 ((decL m (t.inn.take k)).map I)]⟩) ?_ ?_ ?_
  · simp (maxSteps := 2000000) (disch := first | omega | (simp only [lenS]; try omega)) only [go_sem, reduceAdd, reduceEqDiff, reduceLeDiff, reduceSub]
    rfl
  · rintro k s hk rfl
    obtain ⟨h4, h5⟩ := h1 _ (List.getElem_mem hk)
    have h6 := zai m (t.inn.take k)
    have h7 := z45 (p := t.inn[k]) (zah (l := t.inn.take k) hb (fun p hp => (h1 p (List.mem_of_mem_take hp)).2)) (by omega)
    have h8 : (t.inn.take k).length = k := by simp; omega
    simp (maxSteps := 2000000) (disch := first | omega | (simp only [lenS]; try omega)) only [go_sem, reduceAdd, reduceEqDiff, reduceLeDiff, reduceSub, at_eq]
    rw [zaj hk]; rfl
  · rintro s rfl
    simp (maxSteps := 2000000) (disch := first | omega | (simp only [lenS]; try omega)) only [go_sem, reduceAdd, reduceEqDiff, reduceLeDiff, reduceSub, List.take_length]
    have b1 := zah (l := t.inn) hb (fun p hp => (h1 p hp).2)
    have l1 := zai m t.inn
    generalize e1 : decL m t.inn = m1 at b1 l1 ⊢
    refine W_for t.rst.length (fun k s => s = ⟨[.any, .any, .ptr 0 0, .any, .ref 1 1 0 m.length, .any, .any, .any, .any, .any, .any, .any, ints t.rst, I t.rst.length, I k, .any, .any, .any, .any, .any], [.box wge [ints t.inn, ints t.out, ints t.rst], .row t_int true 1 ((zerL m1 (t.rst.take k)).map I)]⟩) ?_ ?_ ?_
    · simp (maxSteps := 2000000) (disch := first | omega | (simp only [lenS]; try omega)) only [go_sem, reduceAdd, reduceEqDiff, reduceLeDiff, reduceSub]
      rfl
    · rintro k s hk rfl
      obtain ⟨h4, h5⟩ := h3 _ (List.getElem_mem hk)
      have h6 := z1av m1 (t.rst.take k)
      simp (maxSteps := 2000000) (disch := first | omega | (simp only [lenS]; try omega)) only [go_sem, reduceAdd, reduceEqDiff, reduceLeDiff, reduceSub]
      rw [z1aw hk]; rfl
    · rintro s rfl
      simp (maxSteps := 2000000) (disch := first | omega | (simp only [lenS]; try omega)) only [go_sem, reduceAdd, reduceEqDiff, reduceLeDiff, reduceSub, List.take_length]
      have b2 := z1au (l := t.rst) b1 (by omega)
      have l2 := z1av m1 t.rst
      generalize e2 : zerL m1 t.rst = m2 at b2 l2 ⊢
      refine W_for t.out.length (fun k s => s = ⟨[.any, .any, .any, .any, .ref 0 1 0 m.length, .any, .any, .any, .any, .any, .any, .any, .any, .any, .any, .any, ints t.out, I t.out.length, I k, .any], [.row t_int true 1 ((incL m2 (t.out.take k)).map I)]⟩) ?_ ?_ ?_
      · simp (maxSteps := 2000000) (disch := first | omega | (simp only [lenS]; try omega)) only [go_sem, reduceAdd, reduceEqDiff, reduceLeDiff, reduceSub]
        rfl
      · rintro k s hk rfl
        obtain ⟨h4, h5⟩ := h2 _ (List.getElem_mem hk)
        have h6 := zjn m2 (t.out.take k)
        have h7 := z45 (p := t.out[k]) (zjm (l := t.out.take k) b2 (fun p hp => by have := (h2 p (List.mem_of_mem_take hp)).2; omega)) (by omega)
        have h8 : (t.out.take k).length = k := by simp; omega
        simp (maxSteps := 2000000) (disch := first | omega | (simp only [lenS]; try omega)) only [go_sem, reduceAdd, reduceEqDiff, reduceLeDiff, reduceSub, at_eq]
        rw [zjo hk]; rfl
      · rintro s rfl
        have h6 := zjn m2 t.out
        simp (maxSteps := 2000000) (disch := first | omega | (simp only [lenS]; try omega)) only [go_sem, reduceAdd, reduceEqDiff, reduceLeDiff, reduceSub, List.take_length]
        subst e2 e1; rfl
theorem wey (l : List (List Int)) (g : FuncId) (caps : List PV) (hc : refsL caps = []) (hcv : ∀ m h, z19r [] m h caps = some caps) (p : List Int → Bool) (hp : ∀ x ∈ l, C g (ints x :: caps) [] = some (.bool (p x), [])) (hl : l.length < 2^62) :
    C w8b [rows l, .clo g caps] [] = some (I (idxI l p), []) := by
  refine w1y ?_
  simp (maxSteps := 2000000) (disch := first | omega | (simp only [lenS]; try omega)) only [wco, go_sem, reduceAdd, reduceEqDiff, reduceLeDiff, reduceSub]
  refine W_for l.length (fun k s => s = ⟨[rows l, .clo g caps, .any, .any, I l.length, I k, .any, .any], []⟩ ∧ (l.take k).any p = false) ?_ ?_ ?_
  · simp (maxSteps := 2000000) (disch := first | omega | (simp only [lenS]; try omega)) only [go_sem, reduceAdd, reduceEqDiff, reduceLeDiff, reduceSub, hc]
    rfl
  · rintro k s hk ⟨rfl, hall⟩
    simp (maxSteps := 2000000) (disch := first | omega | (simp only [lenS]; try omega)) only [go_sem, reduceAdd, reduceEqDiff, reduceLeDiff, reduceSub, hc, hcv, hp _ (List.getElem_mem hk)]
    exact ⟨fun h => by rw [zho hk hall h], fun h => ⟨rfl, z36 hk hall h⟩⟩
  · rintro s ⟨rfl, hall⟩
    simp (maxSteps := 2000000) (disch := first | omega | (simp only [lenS]; try omega)) only [go_sem, reduceAdd, reduceEqDiff, reduceLeDiff, reduceSub]
    rw [List.take_length] at hall
    rw [zhn hall]
theorem w9n (ms : List (List Int)) (A : List PV) (m : List Int) (hl : ms.length < 2^62) (hx : ∀ x ∈ ms, x.length < 2^62) : C w6i [.agg [rows ms, .sl true 3 A], ints m] [] = some (I (findM ms m), []) := by
  have h := wey ms w6j [.pv (.agg [ints m]) 0] rfl (fun _ _ => rfl) (fun x => decide (x = m)) (fun x h => w9m x m (hx x h)) hl
  refine w06 ?_
  simp (maxSteps := 2000000) (disch := first | omega | (simp only [lenS]; try omega)) only [wav, go_sem, reduceAdd, reduceEqDiff, reduceLeDiff, reduceSub]
  simp (maxSteps := 2000000) (disch := first | omega | (simp only [lenS]; try omega)) only [go_sem, reduceAdd, reduceEqDiff, reduceLeDiff, reduceSub, h]
  rfl
theorem wa4 (n : Net) (start : List Int) (b : Int) (hm : zou n start = true) (hb : 1 ≤ b ∧ b ≤ 400) : C w6y [encN n, ints start, I b] [] = some (.tup [exPV (exAll n start b), I (w67 (exAll n start b))], []) := by
  obtain ⟨hg, hmk⟩ := zov hm
  have hn := zgm hg
  have hs := zge hmk
  refine w0m ?_
  simp (maxSteps := 2000000) (disch := first | omega | (simp only [lenS]; try omega)) only [wbc, go_sem, reduceAdd, reduceEqDiff, reduceLeDiff, reduceSub]
  simp (maxSteps := 2000000) (disch := first | omega | (simp only [lenS]; try omega)) only [go_sem, reduceAdd, reduceEqDiff, reduceLeDiff, reduceSub, weo]
  generalize hR : exAll n start b = R
  refine z1a (fun d s => ∃ (k : Nat) (c : Ex), d + k = b.toNat + 1 ∧ ExOk n start b c ∧ c.code = 0 ∧ k ≤ c.sp.ms.length ∧ c.sp.ar.length ≤ 24 * k ∧ exRun n b (d + 1) k c = R ∧ ((s = ⟨[.any, .any, I b, .ptr 0 0, .ptr 1 0, .any, .ptr 2 0, I k, .any, .any, .any, .any, .any, .any, .any, .any, .any, .any, .any], [.box wga [I n.pl, trs n.tr], .box wgb [.nil false 1, .nil true 3], .box wgb [.ref 3 1 0 c.sp.ms.length, .nil true 3], .row wgj false 1 (c.sp.ms.map ints)]⟩ ∧ c.sp.ar = []) ∨ (s = ⟨[.any, .any, I b, .ptr 0 0, .ptr 1 0, .any, .ptr 2 0, I k, .any, .any, .any, .any, .any, .any, .any, .any, .any, .any, .any], [.box wga [I n.pl, trs n.tr], .box wgb [.nil false 1, .nil true 3], .box wgb [.ref 3 1 0 c.sp.ms.length, .ref 4 3 0 c.sp.ar.length], .row wgj false 1 (c.sp.ms.map ints), .row wg7 true 3 (c.sp.ar.map encA)]⟩ ∧ c.sp.ar ≠ []))) (b.toNat + 1) ?_ ?_
  · refine ⟨0, ⟨⟨[start], []⟩, 0⟩, by omega, w68 hm hb.1, rfl, by omega, by simp, hR, .inl ⟨?_, rfl⟩⟩
    simp (maxSteps := 2000000) (disch := first | omega | (simp only [lenS]; try omega)) only [go_sem, reduceAdd, reduceEqDiff, reduceLeDiff, reduceSub]
    rfl
  · rintro d s ⟨k, c, hd, hok, hc0, hk, hal, hrun, hcs⟩
    have hlb := hok.lenb
    by_cases hkl : k < c.sp.ms.length
    · have hmem := zfy hkl
      have hmg := zov (hok.good _ hmem)
      have hml := zge hmg.2
      have en := wa2 n (c.sp.ms.getD k []) hg hml.2.2.1
      have hLl : (enabL n (c.sp.ms.getD k [])).length ≤ n.tr.length := zb6 ..
      have er : exRun n b (d + 1) k c = exRun n b d (k + 1) (exL n b k c (enabL n (c.sp.ms.getD k []))) := by
        show (if c.code ≠ 0 then c else if k < c.sp.ms.length then _ else c) = _
        rw [if_neg (by omega), if_pos hkl]
      rw [er] at hrun
      have hen : ∀ t ∈ enabL n (c.sp.ms.getD k []), t ∈ enabL n (c.sp.ms.getD k []) := fun t h => h
      generalize hL : enabL n (c.sp.ms.getD k []) = L at *
      rcases hcs with ⟨rfl, har⟩ | ⟨rfl, har⟩
      all_goals
        simp (maxSteps := 2000000) (disch := first | omega | (simp only [lenS]; try omega)) only [go_sem, reduceAdd, reduceEqDiff, reduceLeDiff, reduceSub, zfz, en]
        refine W_for L.length (fun j s => ∃ c' : Ex, ExOk n start b c' ∧ c'.code = 0 ∧ k < c'.sp.ms.length ∧ enabL n (c'.sp.ms.getD k []) = L ∧ c'.sp.ar.length ≤ 24 * k + j ∧ exRun n b d (k + 1) (exL n b k c' (L.drop j)) = R ∧ ((s = ⟨[.any, .any, I b, .ptr 0 0, .ptr 1 0, .any, .ptr 2 0, I k, .any, .any, .any, .any, .ref 3 1 0 L.length, I L.length, I j, .any, .any, .any, .any], [.box wga [I n.pl, trs n.tr], .box wgb [.nil false 1, .nil true 3], .box wgb [.ref 4 1 0 c'.sp.ms.length, .nil true 3], .row t_int true 1 (L.map I), .row wgj false 1 (c'.sp.ms.map ints)]⟩ ∧ c'.sp.ar = []) ∨ (s = ⟨[.any, .any, I b, .ptr 0 0, .ptr 1 0, .any, .ptr 2 0, I k, .any, .any, .any, .any, .ref 3 1 0 L.length, I L.length, I j, .any, .any, .any, .any], [.box wga [I n.pl, trs n.tr], .box wgb [.nil false 1, .nil true 3], .box wgb [.ref 4 1 0 c'.sp.ms.length, .ref 5 3 0 c'.sp.ar.length], .row t_int true 1 (L.map I), .row wgj false 1 (c'.sp.ms.map ints), .row wg7 true 3 (c'.sp.ar.map encA)]⟩ ∧ c'.sp.ar ≠ []))) ?_ ?_ ?_
        · refine ⟨c, hok, hc0, hkl, hL, by omega, hrun, ?_⟩
          first
          | refine .inl ⟨?_, har⟩
            simp (maxSteps := 2000000) (disch := first | omega | (simp only [lenS]; try omega)) only [go_sem, reduceAdd, reduceEqDiff, reduceLeDiff, reduceSub]
            done
          | refine .inl ⟨?_, har⟩
            simp (maxSteps := 2000000) (disch := first | omega | (simp only [lenS]; try omega)) only [go_sem, reduceAdd, reduceEqDiff, reduceLeDiff, reduceSub]
            rfl
          | refine .inr ⟨?_, har⟩
            simp (maxSteps := 2000000) (disch := first | omega | (simp only [lenS]; try omega)) only [go_sem, reduceAdd, reduceEqDiff, reduceLeDiff, reduceSub]
            done
          | refine .inr ⟨?_, har⟩
            simp (maxSteps := 2000000) (disch := first | omega | (simp only [lenS]; try omega)) only [go_sem, reduceAdd, reduceEqDiff, reduceLeDiff, reduceSub]
            rfl
        · rintro j s hj ⟨c', hok', hc0', hkl', hL', hal', hrun', hcs'⟩
          have hlb' := hok'.lenb
          have ht : L[j] ∈ enabL n (c'.sp.ms.getD k []) := by rw [hL']; exact List.getElem_mem hj
          obtain ⟨t1, t2, t3⟩ := zb8.1 ht
          have hT := hn.2.2.2 (trAt n L[j]) (by rw [← z18t t2]; exact List.getElem_mem _)
          have hm2 := zge (zov (hok'.good _ (zfy hkl'))).2
          have hx := zgs hT hm2.2.2.1
          have hy := zgr hT (by omega)
          have hfire := wa5 (trAt n L[j]) (c'.sp.ms.getD k []) hx.1 hx.2.1 hx.2.2 ⟨by omega, by omega, by omega⟩ (by omega) hm2.2.2.2.2
          have hMl := ze2 (trAt n L[j]) (c'.sp.ms.getD k [])
          have hok2 := zc9 hok' hkl' ht
          have hxs : ∀ x ∈ c'.sp.ms, x.length < 2^62 := fun x hx => by have := zge (zov (hok'.good x hx)).2; omega
          rw [zbu hj] at hrun'
          have f1 := zcd (n := n) (b := b) (k := k) (s := c') (t := L[j]) hc0'
          have f2 := zca (n := n) (b := b) (k := k) (s := c') (t := L[j]) hc0'
          have f3 := zc6 (n := n) (b := b) (k := k) (s := c') (t := L[j]) hc0'
          have f4 := zc8 (n := n) (b := b) (k := k) (s := c') (t := L[j]) hc0'
          generalize hM : ze0 (trAt n L[j]) (c'.sp.ms.getD k []) = M at *
          have ck : C w6p [ints M, I 0, I 50] [] = some (.bool (M.all (inB 0 50)), []) := w9v M 0 50 (by omega)
          have fd := fun A => w9n c'.sp.ms A M (by omega) hxs
          have hsl : ∀ c2 : Ex, c2.code ≠ 0 → exRun n b d (k + 1) (exL n b k c2 (L.drop (j + 1))) = c2 := fun c2 h => by rw [zbw h, zc1 h]
          cases ha : M.all (inB 0 50) with
          | false =>
            rw [f1 ha, hsl _ (by simp)] at hrun'
            subst hrun'
            rw [ha] at ck
            rcases hcs' with ⟨rfl, har'⟩ | ⟨rfl, har'⟩ <;> simp (maxSteps := 2000000) (disch := first | omega | (simp only [lenS]; try omega)) only [go_sem, reduceAdd, reduceEqDiff, reduceLeDiff, reduceSub, zfz, z18t, hfire, ck, exPV, w67]
          | true =>
            rw [ha] at ck
            by_cases h2 : 0 ≤ findM c'.sp.ms M
            · rw [f2 ha h2] at hrun' hok2
              rcases hcs' with ⟨rfl, har'⟩ | ⟨rfl, har'⟩
              · simp (maxSteps := 2000000) (disch := first | omega | (simp only [lenS]; try omega)) only [go_sem, reduceAdd, reduceEqDiff, reduceLeDiff, reduceSub, zfz, z18t, hfire, ck, fd]
                refine ⟨_, hok2, rfl, hkl', hL', by simp only [List.length_append, List.length_cons, List.length_nil]; omega, hrun', .inr ⟨?_, by simp⟩⟩
                simp [har']
              · simp (maxSteps := 2000000) (disch := first | omega | (simp only [lenS]; try omega)) only [go_sem, reduceAdd, reduceEqDiff, reduceLeDiff, reduceSub, zfz, z18t, hfire, ck, fd]
                refine ⟨_, hok2, rfl, hkl', hL', by simp only [List.length_append, List.length_cons, List.length_nil]; omega, hrun', .inr ⟨?_, by simp⟩⟩
                simp
            · by_cases h3 : b ≤ c'.sp.ms.length
              · rw [f3 ha h2 h3, hsl _ (by simp)] at hrun'
                subst hrun'
                rcases hcs' with ⟨rfl, har'⟩ | ⟨rfl, har'⟩ <;> simp (maxSteps := 2000000) (disch := first | omega | (simp only [lenS]; try omega)) only [go_sem, reduceAdd, reduceEqDiff, reduceLeDiff, reduceSub, zfz, z18t, hfire, ck, fd, exPV, w67]
              · rw [f4 ha h2 h3] at hrun' hok2
                rcases hcs' with ⟨rfl, har'⟩ | ⟨rfl, har'⟩
                · simp (maxSteps := 2000000) (disch := first | omega | (simp only [lenS]; try omega)) only [go_sem, reduceAdd, reduceEqDiff, reduceLeDiff, reduceSub, zfz, z18t, hfire, ck, fd]
                  refine ⟨_, hok2, rfl, by simp only [List.length_append]; omega, by simp only; rw [zfu hkl']; exact hL', by simp only [List.length_append, List.length_cons, List.length_nil]; omega, hrun', .inr ⟨?_, by simp⟩⟩
                  simp [har']
                · simp (maxSteps := 2000000) (disch := first | omega | (simp only [lenS]; try omega)) only [go_sem, reduceAdd, reduceEqDiff, reduceLeDiff, reduceSub, zfz, z18t, hfire, ck, fd]
                  refine ⟨_, hok2, rfl, by simp only [List.length_append]; omega, by simp only; rw [zfu hkl']; exact hL', by simp only [List.length_append, List.length_cons, List.length_nil]; omega, hrun', .inr ⟨?_, by simp⟩⟩
                  simp
        · rintro s ⟨c', hok', hc0', hkl', hL', hal', hrun', hcs'⟩
          rw [List.drop_length] at hrun'
          have hlb' := hok'.lenb
          rcases hcs' with ⟨rfl, har'⟩ | ⟨rfl, har'⟩
          · simp (maxSteps := 2000000) (disch := first | omega | (simp only [lenS]; try omega)) only [go_sem, reduceAdd, reduceEqDiff, reduceLeDiff, reduceSub]
            refine ⟨d - 1, by omega, k + 1, c', by omega, hok', hc0', by omega, by omega, by rw [show d - 1 + 1 = d by omega]; exact hrun', .inl ⟨rfl, har'⟩⟩
          · simp (maxSteps := 2000000) (disch := first | omega | (simp only [lenS]; try omega)) only [go_sem, reduceAdd, reduceEqDiff, reduceLeDiff, reduceSub]
            refine ⟨d - 1, by omega, k + 1, c', by omega, hok', hc0', by omega, by omega, by rw [show d - 1 + 1 = d by omega]; exact hrun', .inr ⟨rfl, har'⟩⟩
    · have er : exRun n b (d + 1) k c = c := by
        show (if c.code ≠ 0 then c else if k < c.sp.ms.length then _ else c) = _
        rw [if_neg (by omega), if_neg hkl]
      rw [er] at hrun
      subst hrun
      rcases hcs with ⟨rfl, har⟩ | ⟨rfl, har⟩
      · simp (maxSteps := 2000000) (disch := first | omega | (simp only [lenS]; try omega)) only [go_sem, reduceAdd, reduceEqDiff, reduceLeDiff, reduceSub]
        simp [exPV, w67, hc0, arcPV, har]
      · simp (maxSteps := 2000000) (disch := first | omega | (simp only [lenS]; try omega)) only [go_sem, reduceAdd, reduceEqDiff, reduceLeDiff, reduceSub]
        simp [exPV, w67, hc0, arcPV, har]
theorem wa3 (f : Fl) (hg : zg7 f = true) : C w6x [encF f] [] = some (.un t_int true 1 ((oneM f.net.pl.toNat f.dst).map I), []) := by
  obtain ⟨g1, g2, g3, _⟩ := zga hg
  have hn := zgm g1
  refine w0l ?_
  simp (maxSteps := 2000000) (disch := first | omega | (simp only [lenS]; try omega)) only [wbb, go_sem, reduceAdd, reduceEqDiff, reduceLeDiff, reduceSub]
  simp (maxSteps := 2000000) (disch := first | omega | (simp only [lenS]; try omega)) only [go_sem, reduceAdd, reduceEqDiff, reduceLeDiff, reduceSub, waj f.net.pl f.dst (by omega) g3]
theorem w9o (ms : List (List Int)) (ar : List Arc3) (p : Int) (hm : ms.length < 2^36) (hr : ar.length < 2^35) (ha : z3u ar ms.length) (hk : 0 ≤ p ∧ p < ms.length) :
    C w6k [.agg [rows ms, .sl true 3 (ar.map encA)], ints [p]] [] = some (.un wg6 true 1 ((toL ar ms.length [p]).map PV.bool), []) := by
  refine w08 ?_
  simp (maxSteps := 2000000) (disch := first | omega | (simp only [lenS]; try omega)) only [wax, go_sem, reduceAdd, reduceEqDiff, reduceLeDiff, reduceSub]
  generalize hn : ms.length = n at *
  refine W_for ar.length (fun k s => s = ⟨[.any, ints [p], .any, .any, .ref 0 1 0 n, .ref 1 1 0 n, .any, .any, .any, .any, .any, .sl true 3 (ar.map encA), I ar.length, I k, .any, .any, .any, .any, .any, .any, .any, .any, .any, .any, .any], [.row wg6 true 1 (List.replicate n (.bool false)), .lin wgj 1 (befP (ar.take k) n)]⟩) ?_ ?_ ?_
  · simp (maxSteps := 2000000) (disch := first | omega | (simp only [lenS]; try omega)) only [go_sem, reduceAdd, reduceEqDiff, reduceLeDiff, reduceSub]
    rw [z4u]; rfl
  · rintro k s hk2 rfl
    obtain ⟨a1, a2, a3, a4⟩ := ha _ (List.getElem_mem hk2)
    have h1 := z4s (ar.take k) n
    have h2 := z4r (ar := ar.take k) (n := n) a3 a4
    have h3 := z4t (n := n) hk2 a3
    have h4 := z4v (ar.take k) ar[k].dst
    rw [List.length_take] at h4
    rw [h3]
    generalize befP (ar.take k) n = B at *
    generalize befs (ar.take k) ar[k].dst = L at *
    generalize hA : ar[k] = a at *
    by_cases hL : L = []
    · subst hL
      rw [show pvB [] = PV.nil true 1 from rfl] at h2
      simp (maxSteps := 2000000) (disch := first | omega | (simp only [lenS]; try omega)) only [go_sem, reduceAdd, reduceEqDiff, reduceLeDiff, reduceSub, hA, h1, h2]
      exact ⟨by decide, rfl⟩
    · have hpos := List.length_pos_iff.2 hL
      rw [show pvB L = ints L by simp [pvB, hL]] at h2
      simp (maxSteps := 2000000) (disch := first | omega | (simp only [lenS]; try omega)) only [go_sem, reduceAdd, reduceEqDiff, reduceLeDiff, reduceSub, hA, h1, h2, List.getElem_set_self, List.set_set]
      refine ⟨by decide, ?_⟩
      rw [show ints (L ++ [a.src]) = .sl true 1 (L.map I ++ [I a.src]) by show PV.sl true 1 ((L ++ [a.src]).map I) = _; rw [List.map_append]; rfl]; rfl
  · rintro s rfl
    have hcl := weo (es := [I p]) (by simp)
    rw [List.take_length]
    simp (maxSteps := 2000000) (disch := first | omega | (simp only [lenS]; try omega)) only [go_sem, reduceAdd, reduceEqDiff, reduceLeDiff, reduceSub, hcl]
    refine W_for 1 (fun k s => s = ⟨[.any, .any, .any, .any, .ref 0 1 0 n, .ref 1 1 0 n, .any, .ref 2 1 0 1, .any, .any, .any, .any, .any, .any, .any, ints [p], I 1, I k, .any, .any, .any, .any, .any, .any, .any], [.row wg6 true 1 ((putS (List.replicate n false) ([p].take k)).map PV.bool), .lin wgj 1 (befP ar n), .row t_int true 1 [I p]]⟩) ?_ ?_ ?_
    · simp (maxSteps := 2000000) (disch := first | omega | (simp only [lenS]; try omega)) only [go_sem, reduceAdd, reduceEqDiff, reduceLeDiff, reduceSub]
      simp [putS]
    · rintro k s hk2 rfl
      obtain rfl : k = 0 := by omega
      have h5 : (List.replicate n false)[p.toNat]? = some false := by rw [List.getElem?_replicate, if_pos (by omega)]
      have h6 : (List.replicate n false).length = n := List.length_replicate
      show W _ _ _ ⟨_, [.row wg6 true 1 ((List.replicate n false).map PV.bool), _, _]⟩ _
      rw [show putS (List.replicate n false) ([p].take (0 + 1)) = (List.replicate n false).set p.toNat true from rfl]
      generalize List.replicate n false = c at *
      simp (maxSteps := 2000000) (disch := first | omega | (simp only [lenS]; try omega)) only [go_sem, reduceAdd, reduceEqDiff, reduceLeDiff, reduceSub, h5, h6]
      rw [List.map_set]; rfl
    · rintro s rfl
      have e0 : putS (List.replicate n false) ([p].take 1) = (List.replicate n false).set p.toNat true := rfl
      rw [e0]
      have hst := BF.start (ar := ar) hk.1 hk.2
      generalize (List.replicate n false).set p.toNat true = c0 at *
      simp (maxSteps := 2000000) (disch := first | omega | (simp only [lenS]; try omega)) only [go_sem, reduceAdd, reduceEqDiff, reduceLeDiff, reduceSub]
      refine z1a (fun j s => ∃ (c : List Bool) (q : List Int) (i : Nat) (K : Blk), (K = .lin wgj 1 (befP ar n) ∨ K = .fro false 1 (befP ar n)) ∧ BF ar n [p] c q i ∧ j = cntF c + (q.length - i) ∧ s = ⟨[.any, .any, .any, .any, .ref 0 1 0 n, .ref 1 1 0 n, .any, .ref 2 1 0 q.length, .any, I i, .any, .any, .any, .any, .any, .any, .any, .any, .any, .any, .any, .any, .any, .any, .any], [.row wg6 true 1 (c.map PV.bool), K, .row t_int true 1 (q.map I)]⟩) (cntF c0 + 1) ?_ ?_
      · refine ⟨c0, [p], 0, _, .inl rfl, hst, rfl, ?_⟩
        simp (maxSteps := 2000000) (disch := first | omega | (simp only [lenS]; try omega)) only [go_sem, reduceAdd, reduceEqDiff, reduceLeDiff, reduceSub]
        rfl
      · rintro j s ⟨c, q, i, K, hK, hB, rfl, rfl⟩
        have hqn : q.length ≤ n := by have := hB.cnt; omega
        by_cases hi : i < q.length
        case neg =>
          have hiq : i = q.length := by have := hB.le; omega
          subst hiq
          have hend := hB.end_ ha (fun k hk' => by simp at hk'; subst hk'; exact hk)
          have hcl := hB.len
          rcases hK with rfl | rfl
          all_goals
            simp (maxSteps := 2000000) (disch := first | omega | (simp only [lenS]; try omega)) only [go_sem, reduceAdd, reduceEqDiff, reduceLeDiff, reduceSub, hcl]
            rw [hend]
        case pos =>
          have hq := hB.inn _ (List.getElem_mem hi)
          have hlk := hB.look hi
          have hget := z4r (ar := ar) (n := n) hq.1 hq.2
          have hln := z4s ar n
          have hbl := z4v ar q[i]
          have hsrc : ∀ x ∈ befs ar q[i], 0 ≤ x ∧ x < n := fun x hx => by
            obtain ⟨a, h1, _, rfl⟩ := z4w.1 hx
            exact ⟨(ha a h1).1, (ha a h1).2.1⟩
          have hnext := fun c' q' => BG.next (ar := ar) (n := n) (S := [p]) (i := i) (x := q[i]) (c := c') (q := q')
          have hold := fun m c' q' => BG.old (ar := ar) (n := n) (S := [p]) (i := i) (L := befs ar q[i]) (m := m) (x := q[i]) (c := c') (q := q')
          have hnew := fun m c' q' (h : BG ar n [p] i (befs ar q[i]) m q[i] c' q') => h.new ha
          generalize befs ar q[i] = L at *
          generalize hqi : q[i] = x at *
          generalize befP ar n = B at *
          have hmeas := hB.cnt
          by_cases hL : L = []
          · subst hL
            rw [show pvB [] = PV.nil true 1 from rfl] at hget
            rcases hK with rfl | rfl
            all_goals
              simp (maxSteps := 2000000) (disch := first | omega | (simp only [lenS]; try omega)) only [go_sem, reduceAdd, reduceEqDiff, reduceLeDiff, reduceSub, hqi, hln, hget]
              refine W_for 0 (fun m s => m = 0 ∧ s = ⟨[.any, .any, .any, .any, .ref 0 1 0 n, .ref 1 1 0 n, .any, .ref 2 1 0 q.length, .any, I i, .any, .any, .any, .any, .any, .any, .any, .any, .any, .any, .nil true 1, I 0, I 0, .any, .any], [.row wg6 true 1 (c.map PV.bool), .fro false 1 B, .row t_int true 1 (q.map I)]⟩) ?_ ?_ ?_
              · simp (maxSteps := 2000000) (disch := first | omega | (simp only [lenS]; try omega)) only [go_sem, reduceAdd, reduceEqDiff, reduceLeDiff, reduceSub]
                first | done | rfl | exact ⟨rfl, rfl⟩
              · intro m s hm2; omega
              · rintro s ⟨_, rfl⟩
                simp (maxSteps := 2000000) (disch := first | omega | (simp only [lenS]; try omega)) only [go_sem, reduceAdd, reduceEqDiff, reduceLeDiff, reduceSub]
                exact ⟨cntF c + (q.length - (i + 1)), by omega, c, q, i + 1, _, .inr rfl, hnext c q hlk, rfl, rfl⟩
          · have hpos := List.length_pos_iff.2 hL
            rw [show pvB L = ints L by simp [pvB, hL]] at hget
            rcases hK with rfl | rfl
            all_goals
              simp (maxSteps := 2000000) (disch := first | omega | (simp only [lenS]; try omega)) only [go_sem, reduceAdd, reduceEqDiff, reduceLeDiff, reduceSub, hqi, hln, hget]
              refine W_for L.length (fun m s => ∃ (c' : List Bool) (q' : List Int), BG ar n [p] i L m x c' q' ∧ cntF c' + q'.length ≤ cntF c + q.length ∧ s = ⟨[.any, .any, .any, .any, .ref 0 1 0 n, .ref 1 1 0 n, .any, .ref 2 1 0 q'.length, .any, I i, .any, .any, .any, .any, .any, .any, .any, .any, .any, .any, ints L, I L.length, I m, .any, .any], [.row wg6 true 1 (c'.map PV.bool), .fro false 1 B, .row t_int true 1 (q'.map I)]⟩) ?_ ?_ ?_
              · refine ⟨c, q, hlk, Nat.le_refl _, ?_⟩
                simp (maxSteps := 2000000) (disch := first | omega | (simp only [lenS]; try omega)) only [go_sem, reduceAdd, reduceEqDiff, reduceLeDiff, reduceSub]
                first | done | rfl
              · rintro m s hm2 ⟨c', q', h1, h2, rfl⟩
                have hy := hsrc _ (List.getElem_mem hm2)
                have hcl := h1.len
                have hcn := h1.cnt
                have g1 : c'[L[m].toNat]? = some (c'[L[m].toNat]'(by omega)) := List.getElem?_eq_getElem (by omega)
                have o1 := hold m c' q' h1 hm2
                have o2 := hnew m c' q' h1 hm2
                have hcs := z9k (l := c') (k := L[m].toNat) (by omega)
                rw [List.getD_eq_getElem?_getD] at hcs
                rw [g1] at o1 o2 hcs
                generalize c'[L[m].toNat]'(by omega) = b at *
                generalize hy2 : L[m] = y at *
                simp (maxSteps := 2000000) (disch := first | omega | (simp only [lenS]; try omega)) only [go_sem, reduceAdd, reduceEqDiff, reduceLeDiff, reduceSub, hy2, hcl, g1]
                refine ⟨fun e => ?_, fun e => ?_⟩
                · subst e
                  exact ⟨c', q', o1 rfl, h2, rfl⟩
                · subst e
                  have := hcs rfl
                  refine ⟨_, _, o2 rfl, by rw [List.length_append]; simp only [List.length_cons, List.length_nil]; omega, ?_⟩
                  rw [List.map_append, List.map_set, List.length_append]; rfl
              · rintro s ⟨c', q', h1, h2, rfl⟩
                simp (maxSteps := 2000000) (disch := first | omega | (simp only [lenS]; try omega)) only [go_sem, reduceAdd, reduceEqDiff, reduceLeDiff, reduceSub]
                exact ⟨cntF c' + (q'.length - (i + 1)), by have := h1.lt; omega, c', q', i + 1, _, .inr rfl, hnext c' q' h1, rfl, rfl⟩
theorem wez (c : List Bool) (b : Bool) (hl : c.length < 2^62) : C w8c [.sl true 1 (c.map PV.bool), .bool b] [] = some (I (idxI c (fun x => x == b)), []) := by
  refine w1z ?_
  simp (maxSteps := 2000000) (disch := first | omega | (simp only [lenS]; try omega)) only [wcp, go_sem, reduceAdd, reduceEqDiff, reduceLeDiff, reduceSub]
  refine W_for c.length (fun k s => s = ⟨[.sl true 1 (c.map PV.bool), .bool b, .any, .any, I c.length, I k, .any, .any], []⟩ ∧ (c.take k).any (fun x => x == b) = false) ?_ ?_ ?_
  · simp (maxSteps := 2000000) (disch := first | omega | (simp only [lenS]; try omega)) only [go_sem, reduceAdd, reduceEqDiff, reduceLeDiff, reduceSub]
    simp
  · rintro k s hk ⟨rfl, h⟩
    have h1 := fun e => zho (p := fun x => x == b) hk h e
    have h2 := fun e => z36 (p := fun x => x == b) hk h e
    cases b
    all_goals
      simp (maxSteps := 2000000) (disch := first | omega | (simp only [lenS]; try omega)) only [go_sem, reduceAdd, reduceEqDiff, reduceLeDiff, reduceSub]
      refine ⟨fun e => ?_, fun e => ?_⟩
      all_goals first
        | (rw [h1 (by simp [e])])
        | exact ⟨rfl, h2 (by simp [e])⟩
  · rintro s ⟨rfl, h⟩
    rw [List.take_length] at h
    simp (maxSteps := 2000000) (disch := first | omega | (simp only [lenS]; try omega)) only [go_sem, reduceAdd, reduceEqDiff, reduceLeDiff, reduceSub]
    rw [zhn h]
theorem wa1 (a b : List Int) (hl : a.length = b.length) (hb : b.length < 2^62) : C w6v [ints a, ints b] [] = some (.bool (zaa a b), []) := by
  refine w0j ?_
  simp (maxSteps := 2000000) (disch := first | omega | (simp only [lenS]; try omega)) only [wb9, go_sem, reduceAdd, reduceEqDiff, reduceLeDiff, reduceSub]
  refine W_for a.length (fun k s => s = ⟨[.any, ints b, .any, .any, .any, ints a, I a.length, I k, .any, .any], []⟩ ∧ ((a.zip b).take k).all (fun p => decide (p.2 ≤ p.1)) = true) ?_ ?_ ?_
  · simp (maxSteps := 2000000) (disch := first | omega | (simp only [lenS]; try omega)) only [go_sem, reduceAdd, reduceEqDiff, reduceLeDiff, reduceSub]
    rfl
  · rintro k s hk ⟨rfl, hall⟩
    simp (maxSteps := 2000000) (disch := first | omega | (simp only [lenS]; try omega)) only [go_sem, reduceAdd, reduceEqDiff, reduceLeDiff, reduceSub]
    have hz : k < (a.zip b).length := by simp; omega
    refine ⟨fun h => ?_, fun h => ⟨rfl, z2s hz hall (by simp; omega)⟩⟩
    have : zaa a b = false := z2r hz (by simp; omega)
    rw [this]
  · rintro s ⟨rfl, hall⟩
    simp (maxSteps := 2000000) (disch := first | omega | (simp only [lenS]; try omega)) only [go_sem, reduceAdd, reduceEqDiff, reduceLeDiff, reduceSub]
    rw [List.take_of_length_le (by simp; omega)] at hall
    unfold zaa
    rw [hall]
theorem wa9 (a b : List Int) (hl : a.length = b.length) (hb : b.length < 2^62) : C w73 [ints a, ints b] [] = some (.bool (overB a b), []) := by
  have h1 := wa1 a b hl hb
  have h2 := weu a b (by omega)
  unfold overB
  generalize zaa a b = c at *
  refine w0r ?_
  simp (maxSteps := 2000000) (disch := first | omega | (simp only [lenS]; try omega)) only [wbh, go_sem, reduceAdd, reduceEqDiff, reduceLeDiff, reduceSub]
  simp (maxSteps := 2000000) (disch := first | omega | (simp only [lenS]; try omega)) only [go_sem, reduceAdd, reduceEqDiff, reduceLeDiff, reduceSub, h1, h2]
  grind
theorem w9z (a b : List Int) (hl : a.length = b.length) (hb : b.length < 2^62) : C w6u [ints a, .pv (.agg [ints b]) 0] [] = some (.bool (overB a b), []) := by
  have h1 := wa9 a b hl hb
  generalize overB a b = c at *
  refine w0i ?_
  simp (maxSteps := 2000000) (disch := first | omega | (simp only [lenS]; try omega)) only [wb8, go_sem, reduceAdd, reduceEqDiff, reduceLeDiff, reduceSub]
  simp (maxSteps := 2000000) (disch := first | omega | (simp only [lenS]; try omega)) only [go_sem, reduceAdd, reduceEqDiff, reduceLeDiff, reduceSub, h1]
  cases c <;> simp
theorem w9p (a : Arc3) (p : Int) : C w6m [encA a, .pv (.agg [I p]) 0] [] = some (.bool (decide (a.dst = p)), []) := by
  refine w0a ?_
  simp (maxSteps := 2000000) (disch := first | omega | (simp only [lenS]; try omega)) only [wb0, go_sem, reduceAdd, reduceEqDiff, reduceLeDiff, reduceSub]
  grind
theorem wev (l : List Arc3) (g : FuncId) (caps : List PV) (hc : refsL caps = []) (hcv : ∀ m h, z19r [] m h caps = some caps) (p : Arc3 → Bool) (hp : ∀ x ∈ l, C g (encA x :: caps) [] = some (.bool (p x), [])) (hl : l.length < 2^62) :
    C w88 [.sl true 3 (l.map encA), .clo g caps] [] = some (I (idxI l p), []) := by
  refine w1v ?_
  simp (maxSteps := 2000000) (disch := first | omega | (simp only [lenS]; try omega)) only [wcl, go_sem, reduceAdd, reduceEqDiff, reduceLeDiff, reduceSub]
  refine W_for l.length (fun k s => s = ⟨[.sl true 3 (l.map encA), .clo g caps, .any, .any, I l.length, I k, .any, .any], []⟩ ∧ (l.take k).any p = false) ?_ ?_ ?_
  · simp (maxSteps := 2000000) (disch := first | omega | (simp only [lenS]; try omega)) only [go_sem, reduceAdd, reduceEqDiff, reduceLeDiff, reduceSub, hc]
    rfl
  · rintro k s hk ⟨rfl, hall⟩
    simp (maxSteps := 2000000) (disch := first | omega | (simp only [lenS]; try omega)) only [go_sem, reduceAdd, reduceEqDiff, reduceLeDiff, reduceSub, hc, hcv, hp _ (List.getElem_mem hk)]
    exact ⟨fun h => by rw [zho hk hall h], fun h => ⟨rfl, z36 hk hall h⟩⟩
  · rintro s ⟨rfl, hall⟩
    simp (maxSteps := 2000000) (disch := first | omega | (simp only [lenS]; try omega)) only [go_sem, reduceAdd, reduceEqDiff, reduceLeDiff, reduceSub]
    rw [List.take_length] at hall
    rw [zhn hall]
theorem wf3 (l : List Int) (hl : l.length < 2^60) : C w8e [.ref 0 1 0 l.length] [.row t_int true 1 (l.map I)] = some (.tup [], [.row t_int true 1 (l.reverse.map I)]) := by
  refine w21 ?_
  simp (maxSteps := 2000000) (disch := first | omega | (simp only [lenS]; try omega)) only [wcr, go_sem, reduceAdd, reduceEqDiff, reduceLeDiff, reduceSub]
  refine z1a (fun k s => ∃ (i : Nat) (c : List Int), k + 2 * i = l.length + 1 ∧ revI l c i ∧ s = ⟨[.ref 0 1 0 l.length, I i, I (l.length - 1 - i : Int), .any], [.row t_int true 1 (c.map I)]⟩) (l.length + 1) ?_ ?_
  · refine ⟨0, l, by omega, z11s l, ?_⟩
    simp (maxSteps := 2000000) (disch := first | omega | (simp only [lenS]; try omega)) only [go_sem, reduceAdd, reduceEqDiff, reduceLeDiff, reduceSub]
    simp
  · rintro k s ⟨i, c, hk, hr, rfl⟩
    have hcl := hr.1
    by_cases hi : 2 * i + 1 < l.length
    · have e1 : ((l.length : Int) - 1 - i).toNat = l.length - 1 - i := by omega
      have hst := z11r hr hi
      simp (maxSteps := 2000000) (disch := first | omega | (simp only [lenS]; try omega)) only [go_sem, reduceAdd, reduceEqDiff, reduceLeDiff, reduceSub, e1]
      refine ⟨k - 2, by omega, i + 1, _, by omega, hst, ?_⟩
      rw [show (l.length : Int) - 1 - ((i + 1 : Nat) : Int) = l.length - 1 - i - 1 by omega]
      rfl
    · have := z11q hr (by omega)
      subst this
      simp (maxSteps := 2000000) (disch := first | omega | (simp only [lenS]; try omega)) only [go_sem, reduceAdd, reduceEqDiff, reduceLeDiff, reduceSub]
theorem w9r (n : Net) (start : List Int) (b : Int) (R : Ex) (hok : ExOk n start b R) (hb : b ≤ 400) (hal : R.sp.ar.length < 2^60) (K : Nat) (hK : K < R.sp.ms.length) : Lw (C w6l [.agg [rows R.sp.ms, .sl true 3 (R.sp.ar.map encA)], ints (R.sp.ms.getD K [])] []) fun r => ∃ W : List Int, r = (.tup [.un t_int true 1 (W.map I), .bool true], []) ∧ zwy n start W (R.sp.ms.getD K []) ∧ W.length ≤ 400 ∧ ∀ t ∈ W, inB 0 (n.tr.length - 1) t = true := by
  have hlb := hok.lenb
  have hxs : ∀ x ∈ R.sp.ms, x.length < 2^62 := fun x hx => by have := zge (zov (hok.good x hx)).2; omega
  have fd := w9n R.sp.ms (R.sp.ar.map encA) (R.sp.ms.getD K []) (by omega) hxs
  rw [zdp hok.nodup hK] at fd
  refine w33 ?_
  simp (maxSteps := 2000000) (disch := first | omega | (simp only [lenS]; try omega)) only [waz, go_sem, reduceAdd, reduceEqDiff, reduceLeDiff, reduceSub]
  simp (maxSteps := 2000000) (disch := first | omega | (simp only [lenS]; try omega)) only [go_sem, reduceAdd, reduceEqDiff, reduceLeDiff, reduceSub, fd]
  refine z1a (fun k s => ∃ (at' : Nat) (W : List Int), k = at' ∧ at' < R.sp.ms.length ∧ s = ⟨[.any, .any, .ptr 0 0, .any, .any, .ptr 1 0, .ref 2 1 0 W.length, .any, .any, .any], [.box wgb [rows R.sp.ms, .sl true 3 (R.sp.ar.map encA)], .box t_int [I at'], .row t_int true 1 (W.map I)]⟩ ∧ zwy n (R.sp.ms.getD at' []) W.reverse (R.sp.ms.getD K []) ∧ W.length + at' ≤ 400 ∧ ∀ t ∈ W, inB 0 (n.tr.length - 1) t = true) K ?_ ?_
  · refine ⟨K, [], rfl, hK, ?_, zx0 .., by simp; omega, by simp⟩
    simp (maxSteps := 2000000) (disch := first | omega | (simp only [lenS]; try omega)) only [go_sem, reduceAdd, reduceEqDiff, reduceLeDiff, reduceSub]
  · rintro k s ⟨at', W, rfl, hat, rfl, hp, hW, htr⟩
    by_cases h0 : 0 < k
    · obtain ⟨i, hi, a1, a2, a3, a4, a5⟩ := z3t hok h0 hat
      have ix := wev R.sp.ar w6m [.pv (.agg [I k]) 0] rfl (fun _ _ => rfl) (fun a => decide (a.dst = k)) (fun x _ => w9p x k) (by omega)
      rw [show idxI R.sp.ar (fun a => decide (a.dst = k)) = i from a1] at ix
      simp (maxSteps := 2000000) (disch := first | omega | (simp only [lenS]; try omega)) only [go_sem, reduceAdd, reduceEqDiff, reduceLeDiff, reduceSub, ix]
      have e2 : ((R.sp.ar[i].src.toNat : Nat) : Int) = R.sp.ar[i].src := by omega
      refine ⟨R.sp.ar[i].src.toNat, by omega, R.sp.ar[i].src.toNat, W ++ [R.sp.ar[i].by_], rfl, by omega, ?_, ?_, by simp only [List.length_append, List.length_cons, List.length_nil]; omega, fun t ht => ?_⟩
      · rw [e2, List.map_append]; simp
      · rw [List.reverse_append]
        show zwy n _ (R.sp.ar[i].by_ :: W.reverse) _
        exact zwz a4 (by rw [← a5]; exact hp)
      · rcases List.mem_append.1 ht with ht | ht
        · exact htr t ht
        · simp only [List.mem_singleton] at ht
          subst ht; exact zsj a4
    · have : k = 0 := by omega
      subst this
      have hs : R.sp.ms.getD 0 [] = start := by rw [List.getD_eq_getElem?_getD, hok.first]; rfl
      rw [hs] at hp
      have rv := wf3 W (by omega)
      have hVl : W.length = W.reverse.length := by simp
      have hVm : ∀ t ∈ W.reverse, inB 0 (n.tr.length - 1) t = true := fun t ht => htr t (List.mem_reverse.1 ht)
      generalize W.reverse = V at *
      simp (maxSteps := 2000000) (disch := first | omega | (simp only [lenS]; try omega)) only [go_sem, reduceAdd, reduceEqDiff, reduceLeDiff, reduceSub, rv]
      exact ⟨V, rfl, hp, by omega, hVm⟩
theorem w9k (a : Arc3) (t : Int) : C w6h [encA a, .pv (.agg [I t]) 0] [] = some (.bool (decide (a.by_ = t)), []) := by
  refine w05 ?_
  simp (maxSteps := 2000000) (disch := first | omega | (simp only [lenS]; try omega)) only [wau, go_sem, reduceAdd, reduceEqDiff, reduceLeDiff, reduceSub]
  grind
theorem wep (l : List Arc3) (g : FuncId) (caps : List PV) (hc : refsL caps = []) (hcv : ∀ m h, z19r [] m h caps = some caps) (p : Arc3 → Bool) (hp : ∀ x ∈ l, C g (encA x :: caps) [] = some (.bool (p x), [])) (hl : l.length < 2^62) :
    C w82 [.sl true 3 (l.map encA), .clo g caps] [] = some (.bool (l.any p), []) := by
  refine w1p ?_
  simp (maxSteps := 2000000) (disch := first | omega | (simp only [lenS]; try omega)) only [wcf, go_sem, reduceAdd, reduceEqDiff, reduceLeDiff, reduceSub]
  simp (maxSteps := 2000000) (disch := first | omega | (simp only [lenS]; try omega)) only [go_sem, reduceAdd, reduceEqDiff, reduceLeDiff, reduceSub, hc, hcv, wev l g caps hc hcv p hp hl]
  have := zhl l p
  grind
theorem w9l (ms : List (List Int)) (ar : List Arc3) (n : Net) (hr : ar.length < 2^35) (ht : n.tr.length < 2^20) : C w6g [.agg [rows ms, .sl true 3 (ar.map encA)], encN n] [] = some (.un t_int true 1 ((deadK ar n.tr.length).map I), []) := by
  refine w04 ?_
  simp (maxSteps := 2000000) (disch := first | omega | (simp only [lenS]; try omega)) only [wat, go_sem, reduceAdd, reduceEqDiff, reduceLeDiff, reduceSub]
  refine W_for n.tr.length (fun k s => s = ⟨[.any, .any, .ptr 0 0, .any, .any, .ref 1 1 0 (deadK ar k).length, .any, I n.tr.length, I k, .any, .any], [.box wgb [rows ms, .sl true 3 (ar.map encA)], .row t_int true 1 ((deadK ar k).map I)]⟩) ?_ ?_ ?_
  · simp (maxSteps := 2000000) (disch := first | omega | (simp only [lenS]; try omega)) only [go_sem, reduceAdd, reduceEqDiff, reduceLeDiff, reduceSub]
    rfl
  · rintro k s hk rfl
    have ix := wep ar w6h [.pv (.agg [I k]) 0] rfl (fun _ _ => rfl) (fun a => decide (a.by_ = k)) (fun x _ => w9k x k) (by omega)
    have hl := zad ar k
    have hst := zae ar k
    rw [hst]
    generalize deadK ar k = D at *
    cases ha : ar.any fun a => decide (a.by_ = (k : Int)) with
    | true =>
      rw [ha] at ix
      simp (maxSteps := 2000000) (disch := first | omega | (simp only [lenS]; try omega)) only [go_sem, reduceAdd, reduceEqDiff, reduceLeDiff, reduceSub, ix]
      simp
    | false =>
      rw [ha] at ix
      simp (maxSteps := 2000000) (disch := first | omega | (simp only [lenS]; try omega)) only [go_sem, reduceAdd, reduceEqDiff, reduceLeDiff, reduceSub, ix]
      simp
  · rintro s rfl
    simp (maxSteps := 2000000) (disch := first | omega | (simp only [lenS]; try omega)) only [go_sem, reduceAdd, reduceEqDiff, reduceLeDiff, reduceSub]
theorem w9s (ms : List (List Int)) (ar : List Arc3) (m : List Int) (hm : ms.length < 2^30) (hr : ar.length < 2^35) (hb : Bfs ar ms.length) (hxs : ∀ x ∈ ms, x.length < 2^62) (K : Nat) (hK : K < ms.length) (hf : findM ms m = K) :
    C w6l [.agg [rows ms, .sl true 3 (ar.map encA)], ints m] [] = some (.tup [.un t_int true 1 ((tw ar K).map I), .bool true], []) := by
  have fd := w9n ms (ar.map encA) m (by omega) hxs
  rw [hf] at fd
  refine w09 ?_
  simp (maxSteps := 2000000) (disch := first | omega | (simp only [lenS]; try omega)) only [waz, go_sem, reduceAdd, reduceEqDiff, reduceLeDiff, reduceSub]
  simp (maxSteps := 2000000) (disch := first | omega | (simp only [lenS]; try omega)) only [go_sem, reduceAdd, reduceEqDiff, reduceLeDiff, reduceSub, fd]
  refine z1a (fun k s => ∃ W : List Int, k < ms.length ∧ tw ar K = tw ar k ++ W.reverse ∧ s = ⟨[.any, .any, .ptr 0 0, .any, .any, .ptr 1 0, .ref 2 1 0 W.length, .any, .any, .any], [.box wgb [rows ms, .sl true 3 (ar.map encA)], .box t_int [I k], .row t_int true 1 (W.map I)]⟩) K ?_ ?_
  · refine ⟨[], hK, by simp, ?_⟩
    simp (maxSteps := 2000000) (disch := first | omega | (simp only [lenS]; try omega)) only [go_sem, reduceAdd, reduceEqDiff, reduceLeDiff, reduceSub]
    first | done | rfl
  · rintro k s ⟨W, hk, hW, rfl⟩
    have hlW := congrArg List.length hW
    rw [List.length_append, List.length_reverse] at hlW
    have hlK := z19e hb K hK
    by_cases h0 : 0 < k
    · obtain ⟨i, hi, a1, a2, a3, a4, a5⟩ := hb.arc h0 hk
      have ix := wev ar w6m [.pv (.agg [I k]) 0] rfl (fun _ _ => rfl) (fun a => decide (a.dst = k)) (fun x _ => w9p x k) (by omega)
      rw [show idxI ar (fun a => decide (a.dst = k)) = i from a1] at ix
      have hst := z19h hb h0 hk hi a1
      rw [hst] at hW
      simp (maxSteps := 2000000) (disch := first | omega | (simp only [lenS]; try omega)) only [go_sem, reduceAdd, reduceEqDiff, reduceLeDiff, reduceSub, ix]
      have e2 : ((ar[i].src.toNat : Nat) : Int) = ar[i].src := by omega
      refine ⟨ar[i].src.toNat, by omega, W ++ [ar[i].by_], by omega, by rw [hW, List.reverse_append]; simp, ?_⟩
      rw [e2, List.map_append, List.length_append]; rfl
    · have : k = 0 := by omega
      subst this
      rw [z19i, List.nil_append] at hW
      have rv := wf3 W (by omega)
      rw [← hW] at rv
      have hl2 : W.length = (tw ar K).length := by rw [hW, List.length_reverse]
      rw [hl2] at rv
      generalize tw ar K = T at *
      simp (maxSteps := 2000000) (disch := first | omega | (simp only [lenS]; try omega)) only [go_sem, reduceAdd, reduceEqDiff, reduceLeDiff, reduceSub, rv, hl2]
theorem w9q (ms : List (List Int)) (ar : List Arc3) (m : List Int) (hm : ms.length < 2^30) (hxs : ∀ x ∈ ms, x.length < 2^62) (hf : findM ms m < 0) :
    C w6l [.agg [rows ms, .sl true 3 (ar.map encA)], ints m] [] = some (.tup [.un t_int true 1 [], .bool false], []) := by
  have fd := w9n ms (ar.map encA) m (by omega) hxs
  refine w09 ?_
  simp (maxSteps := 2000000) (disch := first | omega | (simp only [lenS]; try omega)) only [waz, go_sem, reduceAdd, reduceEqDiff, reduceLeDiff, reduceSub]
  simp (maxSteps := 2000000) (disch := first | omega | (simp only [lenS]; try omega)) only [go_sem, reduceAdd, reduceEqDiff, reduceLeDiff, reduceSub, fd, hf]
theorem wgk (ar : List Arc3) (n : Nat) : toL ar n [] = List.replicate n false := by
  have hno : ∀ k, ¬ Rk ar [] k := by
    intro k hk
    induction hk with
    | base h => simp at h
    | step _ _ ih => exact ih
  unfold toL
  rw [List.eq_replicate_iff]
  refine ⟨by simp, fun b hb => ?_⟩
  obtain ⟨k, _, rfl⟩ := List.mem_map.1 hb
  simp [hno k]
theorem wgl (k : Int) (W : List Int) (hk : k = 1 ∨ k = 2) : vdPV ⟨2, k, W, 0⟩ = .agg [I 2, I k, .un t_int true 1 (W.map I), I 0] := by
  unfold vdPV; rw [if_pos hk]
theorem wa0 (f : Fl) (b : Int) (hg : zg7 f = true) (hb : inB 1 400 b = true) : C w6t [encF f, I b] [] = some (.tup [vdPV (sndV f b), exPV (exAll f.net (oneM f.net.pl.toNat f.src) b)], []) := by
  have hs0 := wal f hg
  have he0 := wa3 f hg
  have hx := wa4 f.net (oneM f.net.pl.toNat f.src) b (zt6 hg) (by simp only [inB, Bool.and_eq_true, decide_eq_true_eq] at hb; omega)
  obtain ⟨f1, f2, f3, f4, f5, f6⟩ := w69 hg hb
  unfold sndV
  have hcd := zbp f.net (oneM f.net.pl.toNat f.src) b
  have hEl : (oneM f.net.pl.toNat f.dst).length = f.net.pl.toNat := by simp [oneM]
  have hnd := f1.nodup
  obtain ⟨g1, _⟩ := zga hg
  have hn := zgm g1
  generalize exAll f.net (oneM f.net.pl.toNat f.src) b = R at *
  generalize oneM f.net.pl.toNat f.src = E0 at *
  generalize oneM f.net.pl.toNat f.dst = E at *
  have hdd := w9l R.sp.ms R.sp.ar f.net (by omega) (by omega)
  have hdl := zad R.sp.ar f.net.tr.length
  have fd := w9n R.sp.ms (R.sp.ar.map encA) E (by omega) (fun x hx => by have := f6 x hx; omega)
  have hfg := fun h => (zdq (l := R.sp.ms) (m := E) h).1
  have hcl := z18q R.sp.ar R.sp.ms.length (endS R.sp.ms E)
  have hct := wez (toL R.sp.ar R.sp.ms.length (endS R.sp.ms E)) false (by omega)
  have hil := zhm (toL R.sp.ar R.sp.ms.length (endS R.sp.ms E)) (fun x => x == false)
  rw [hcl] at hil
  have hov := wey R.sp.ms w6u [.pv (.agg [ints E]) 0] rfl (fun _ _ => rfl) (fun m => overB m E) (fun x hx => w9z x E (by have := f6 x hx; omega) (by omega)) (by omega)
  have hol := zhm R.sp.ms (fun m => overB m E)
  by_cases hc : R.code = 0
  · rw [if_pos hc]
    have hec : w67 R = 1 := by simp only [w67, hc, if_true]
    rw [hec] at hx
    have hls : ∀ x ∈ R.sp.ms, x.length < 2^62 := fun x hx => by have := f6 x hx; omega
    have hway : ∀ A, A = R.sp.ar.map encA → ∀ K : Nat, (hK : K < R.sp.ms.length) → C w6l [.agg [rows R.sp.ms, .sl true 3 A], ints R.sp.ms[K]] [] = some (.tup [.un t_int true 1 ((tw R.sp.ar K).map I), .bool true], []) := fun A hA K hK => by subst hA; exact w9s R.sp.ms R.sp.ar R.sp.ms[K] (by omega) (by omega) f4 hls K hK (by rw [zfz hK]; exact zdp hnd hK)
    unfold chkV
    have hend : endS R.sp.ms E = if 0 ≤ findM R.sp.ms E then [findM R.sp.ms E] else [] := rfl
    have hlt0 := fun h : 0 ≤ findM R.sp.ms E => w9o R.sp.ms R.sp.ar (findM R.sp.ms E) (by omega) (by omega) f4.inn ⟨h, by have := hfg h; omega⟩
    generalize endS R.sp.ms E = S at *
    generalize findM R.sp.ms E = z at *
    by_cases hz : 0 ≤ z
    · rw [if_pos hz] at hend
      have hlt := hlt0 hz
      subst hend
      generalize toL R.sp.ar R.sp.ms.length [z] = c at *
      generalize deadK R.sp.ar f.net.tr.length = D at *
      generalize idxI c (fun x => x == false) = k1 at *
      generalize idxI R.sp.ms (fun m => overB m E) = k2 at *
      generalize hV : (if 0 ≤ k1 then (⟨2, 1, tw R.sp.ar k1.toNat, 0⟩ : Vd) else if 0 ≤ k2 then ⟨2, 2, tw R.sp.ar k2.toNat, 0⟩ else if 0 < D.length then ⟨2, 3, [], D.getD 0 0⟩ else ⟨1, 0, [], 0⟩) = V
      simp only [ints, List.map_cons, List.map_nil] at hlt
      by_cases har : R.sp.ar = []
      · have hPV : exPV R = .agg [.un wgj false 1 (R.sp.ms.map ints), .nil true 3] := by simp only [exPV, arcPV, hc, har, if_true]
        rw [hPV] at hx ⊢
        have hway := hway [] (by rw [har]; rfl)
        simp only [har, List.map_nil] at hlt fd hdd
        by_cases h1 : 0 ≤ k1
        · obtain ⟨K, rfl⟩ : ∃ K : Nat, k1 = K := ⟨k1.toNat, by omega⟩
          have hKl : K < R.sp.ms.length := by omega
          have hVe : V = ⟨2, 1, tw R.sp.ar K, 0⟩ := by rw [← hV, if_pos h1, Int.toNat_natCast]
          have hwt := hway K hKl
          have e3 : R.sp.ms[K]? = some R.sp.ms[K] := List.getElem?_eq_getElem hKl
          have htl := z19e f4 K hKl
          rw [hVe]
          simp only
          generalize R.sp.ms[K] = x at *
          generalize tw R.sp.ar K = W at *
          by_cases hl : W.length ≤ 60
          · rw [if_pos hl, wgl 1 W (.inl rfl)]
            refine w0h ?_
            simp (maxSteps := 2000000) (disch := first | omega | (simp only [lenS]; try omega)) only [wb7, go_sem, reduceAdd, reduceEqDiff, reduceLeDiff, reduceSub]
            simp (maxSteps := 2000000) (disch := first | omega | (simp only [lenS]; try omega)) only [go_sem, reduceAdd, reduceEqDiff, reduceLeDiff, reduceSub, hs0, he0, hx, fd, hz, hlt, hct, e3, hwt, hdd]
            first | done | rfl | exact ⟨rfl, rfl⟩
          · rw [if_neg hl]
            refine w0h ?_
            simp (maxSteps := 2000000) (disch := first | omega | (simp only [lenS]; try omega)) only [wb7, go_sem, reduceAdd, reduceEqDiff, reduceLeDiff, reduceSub]
            simp (maxSteps := 2000000) (disch := first | omega | (simp only [lenS]; try omega)) only [go_sem, reduceAdd, reduceEqDiff, reduceLeDiff, reduceSub, hs0, he0, hx, fd, hz, hlt, hct, e3, hwt, hdd]
            first | done | rfl | exact ⟨rfl, rfl⟩
        · by_cases h2 : 0 ≤ k2
          · obtain ⟨K, rfl⟩ : ∃ K : Nat, k2 = K := ⟨k2.toNat, by omega⟩
            have hKl : K < R.sp.ms.length := by omega
            have hVe : V = ⟨2, 2, tw R.sp.ar K, 0⟩ := by rw [← hV, if_neg h1, if_pos h2, Int.toNat_natCast]
            have hwt := hway K hKl
            have e3 : R.sp.ms[K]? = some R.sp.ms[K] := List.getElem?_eq_getElem hKl
            have htl := z19e f4 K hKl
            rw [hVe]
            simp only
            generalize R.sp.ms[K] = x at *
            generalize tw R.sp.ar K = W at *
            by_cases hl : W.length ≤ 60
            · rw [if_pos hl, wgl 2 W (.inr rfl)]
              refine w0h ?_
              simp (maxSteps := 2000000) (disch := first | omega | (simp only [lenS]; try omega)) only [wb7, go_sem, reduceAdd, reduceEqDiff, reduceLeDiff, reduceSub]
              simp (maxSteps := 2000000) (disch := first | omega | (simp only [lenS]; try omega)) only [go_sem, reduceAdd, reduceEqDiff, reduceLeDiff, reduceSub, hs0, he0, hx, fd, hz, hlt, hct, h1, hov, e3, hwt, hdd]
              first | done | rfl | exact ⟨rfl, rfl⟩
            · rw [if_neg hl]
              refine w0h ?_
              simp (maxSteps := 2000000) (disch := first | omega | (simp only [lenS]; try omega)) only [wb7, go_sem, reduceAdd, reduceEqDiff, reduceLeDiff, reduceSub]
              simp (maxSteps := 2000000) (disch := first | omega | (simp only [lenS]; try omega)) only [go_sem, reduceAdd, reduceEqDiff, reduceLeDiff, reduceSub, hs0, he0, hx, fd, hz, hlt, hct, h1, hov, e3, hwt, hdd]
              first | done | rfl | exact ⟨rfl, rfl⟩
          · cases D with
            | nil =>
              have hVe : V = ⟨1, 0, [], 0⟩ := by rw [← hV, if_neg h1, if_neg h2]; rfl
              rw [hVe]
              refine w0h ?_
              simp (maxSteps := 2000000) (disch := first | omega | (simp only [lenS]; try omega)) only [wb7, go_sem, reduceAdd, reduceEqDiff, reduceLeDiff, reduceSub]
              simp (maxSteps := 2000000) (disch := first | omega | (simp only [lenS]; try omega)) only [go_sem, reduceAdd, reduceEqDiff, reduceLeDiff, reduceSub, hs0, he0, hx, fd, hz, hlt, hct, h1, hov, h2, hdd]
              first | done | rfl | exact ⟨rfl, rfl⟩
            | cons d D =>
              have hVe : V = ⟨2, 3, [], d⟩ := by rw [← hV, if_neg h1, if_neg h2]; rfl
              rw [hVe]
              refine w0h ?_
              simp (maxSteps := 2000000) (disch := first | omega | (simp only [lenS]; try omega)) only [wb7, go_sem, reduceAdd, reduceEqDiff, reduceLeDiff, reduceSub]
              simp (maxSteps := 2000000) (disch := first | omega | (simp only [lenS]; try omega)) only [go_sem, reduceAdd, reduceEqDiff, reduceLeDiff, reduceSub, hs0, he0, hx, fd, hz, hlt, hct, h1, hov, h2, hdd, Int.toNat_zero, List.getElem_cons_zero]
              first | done | rfl | exact ⟨rfl, rfl⟩
      · have hPV : exPV R = .agg [.un wgj false 1 (R.sp.ms.map ints), .un wg7 true 3 (R.sp.ar.map encA)] := by simp only [exPV, arcPV, hc, har, if_true, if_false]
        rw [hPV] at hx ⊢
        have hway := hway _ rfl
        by_cases h1 : 0 ≤ k1
        · obtain ⟨K, rfl⟩ : ∃ K : Nat, k1 = K := ⟨k1.toNat, by omega⟩
          have hKl : K < R.sp.ms.length := by omega
          have hVe : V = ⟨2, 1, tw R.sp.ar K, 0⟩ := by rw [← hV, if_pos h1, Int.toNat_natCast]
          have hwt := hway K hKl
          have e3 : R.sp.ms[K]? = some R.sp.ms[K] := List.getElem?_eq_getElem hKl
          have htl := z19e f4 K hKl
          rw [hVe]
          simp only
          generalize R.sp.ms[K] = x at *
          generalize tw R.sp.ar K = W at *
          by_cases hl : W.length ≤ 60
          · rw [if_pos hl, wgl 1 W (.inl rfl)]
            refine w0h ?_
            simp (maxSteps := 2000000) (disch := first | omega | (simp only [lenS]; try omega)) only [wb7, go_sem, reduceAdd, reduceEqDiff, reduceLeDiff, reduceSub]
            simp (maxSteps := 2000000) (disch := first | omega | (simp only [lenS]; try omega)) only [go_sem, reduceAdd, reduceEqDiff, reduceLeDiff, reduceSub, hs0, he0, hx, fd, hz, hlt, hct, e3, hwt, hdd]
            first | done | rfl | exact ⟨rfl, rfl⟩
          · rw [if_neg hl]
            refine w0h ?_
            simp (maxSteps := 2000000) (disch := first | omega | (simp only [lenS]; try omega)) only [wb7, go_sem, reduceAdd, reduceEqDiff, reduceLeDiff, reduceSub]
            simp (maxSteps := 2000000) (disch := first | omega | (simp only [lenS]; try omega)) only [go_sem, reduceAdd, reduceEqDiff, reduceLeDiff, reduceSub, hs0, he0, hx, fd, hz, hlt, hct, e3, hwt, hdd]
            first | done | rfl | exact ⟨rfl, rfl⟩
        · by_cases h2 : 0 ≤ k2
          · obtain ⟨K, rfl⟩ : ∃ K : Nat, k2 = K := ⟨k2.toNat, by omega⟩
            have hKl : K < R.sp.ms.length := by omega
            have hVe : V = ⟨2, 2, tw R.sp.ar K, 0⟩ := by rw [← hV, if_neg h1, if_pos h2, Int.toNat_natCast]
            have hwt := hway K hKl
            have e3 : R.sp.ms[K]? = some R.sp.ms[K] := List.getElem?_eq_getElem hKl
            have htl := z19e f4 K hKl
            rw [hVe]
            simp only
            generalize R.sp.ms[K] = x at *
            generalize tw R.sp.ar K = W at *
            by_cases hl : W.length ≤ 60
            · rw [if_pos hl, wgl 2 W (.inr rfl)]
              refine w0h ?_
              simp (maxSteps := 2000000) (disch := first | omega | (simp only [lenS]; try omega)) only [wb7, go_sem, reduceAdd, reduceEqDiff, reduceLeDiff, reduceSub]
              simp (maxSteps := 2000000) (disch := first | omega | (simp only [lenS]; try omega)) only [go_sem, reduceAdd, reduceEqDiff, reduceLeDiff, reduceSub, hs0, he0, hx, fd, hz, hlt, hct, h1, hov, e3, hwt, hdd]
              first | done | rfl | exact ⟨rfl, rfl⟩
            · rw [if_neg hl]
              refine w0h ?_
              simp (maxSteps := 2000000) (disch := first | omega | (simp only [lenS]; try omega)) only [wb7, go_sem, reduceAdd, reduceEqDiff, reduceLeDiff, reduceSub]
              simp (maxSteps := 2000000) (disch := first | omega | (simp only [lenS]; try omega)) only [go_sem, reduceAdd, reduceEqDiff, reduceLeDiff, reduceSub, hs0, he0, hx, fd, hz, hlt, hct, h1, hov, e3, hwt, hdd]
              first | done | rfl | exact ⟨rfl, rfl⟩
          · cases D with
            | nil =>
              have hVe : V = ⟨1, 0, [], 0⟩ := by rw [← hV, if_neg h1, if_neg h2]; rfl
              rw [hVe]
              refine w0h ?_
              simp (maxSteps := 2000000) (disch := first | omega | (simp only [lenS]; try omega)) only [wb7, go_sem, reduceAdd, reduceEqDiff, reduceLeDiff, reduceSub]
              simp (maxSteps := 2000000) (disch := first | omega | (simp only [lenS]; try omega)) only [go_sem, reduceAdd, reduceEqDiff, reduceLeDiff, reduceSub, hs0, he0, hx, fd, hz, hlt, hct, h1, hov, h2, hdd]
              first | done | rfl | exact ⟨rfl, rfl⟩
            | cons d D =>
              have hVe : V = ⟨2, 3, [], d⟩ := by rw [← hV, if_neg h1, if_neg h2]; rfl
              rw [hVe]
              refine w0h ?_
              simp (maxSteps := 2000000) (disch := first | omega | (simp only [lenS]; try omega)) only [wb7, go_sem, reduceAdd, reduceEqDiff, reduceLeDiff, reduceSub]
              simp (maxSteps := 2000000) (disch := first | omega | (simp only [lenS]; try omega)) only [go_sem, reduceAdd, reduceEqDiff, reduceLeDiff, reduceSub, hs0, he0, hx, fd, hz, hlt, hct, h1, hov, h2, hdd, Int.toNat_zero, List.getElem_cons_zero]
              first | done | rfl | exact ⟨rfl, rfl⟩
    · rw [if_neg hz] at hend
      have hlt := hcl
      subst hend
      have hrp := wgk R.sp.ar R.sp.ms.length
      rw [hrp, List.map_replicate] at hct
      rw [hrp] at hil ⊢
      generalize deadK R.sp.ar f.net.tr.length = D at *
      generalize idxI (List.replicate R.sp.ms.length false) (fun x => x == false) = k1 at *
      generalize idxI R.sp.ms (fun m => overB m E) = k2 at *
      generalize hV : (if 0 ≤ k1 then (⟨2, 1, tw R.sp.ar k1.toNat, 0⟩ : Vd) else if 0 ≤ k2 then ⟨2, 2, tw R.sp.ar k2.toNat, 0⟩ else if 0 < D.length then ⟨2, 3, [], D.getD 0 0⟩ else ⟨1, 0, [], 0⟩) = V
      clear hlt hcl
      have hlt : True := trivial
      by_cases har : R.sp.ar = []
      · have hPV : exPV R = .agg [.un wgj false 1 (R.sp.ms.map ints), .nil true 3] := by simp only [exPV, arcPV, hc, har, if_true]
        rw [hPV] at hx ⊢
        have hway := hway [] (by rw [har]; rfl)
        simp only [har, List.map_nil] at hlt fd hdd
        by_cases h1 : 0 ≤ k1
        · obtain ⟨K, rfl⟩ : ∃ K : Nat, k1 = K := ⟨k1.toNat, by omega⟩
          have hKl : K < R.sp.ms.length := by omega
          have hVe : V = ⟨2, 1, tw R.sp.ar K, 0⟩ := by rw [← hV, if_pos h1, Int.toNat_natCast]
          have hwt := hway K hKl
          have e3 : R.sp.ms[K]? = some R.sp.ms[K] := List.getElem?_eq_getElem hKl
          have htl := z19e f4 K hKl
          rw [hVe]
          simp only
          generalize R.sp.ms[K] = x at *
          generalize tw R.sp.ar K = W at *
          by_cases hl : W.length ≤ 60
          · rw [if_pos hl, wgl 1 W (.inl rfl)]
            refine w0h ?_
            simp (maxSteps := 2000000) (disch := first | omega | (simp only [lenS]; try omega)) only [wb7, go_sem, reduceAdd, reduceEqDiff, reduceLeDiff, reduceSub]
            simp (maxSteps := 2000000) (disch := first | omega | (simp only [lenS]; try omega)) only [go_sem, reduceAdd, reduceEqDiff, reduceLeDiff, reduceSub, hs0, he0, hx, fd, hz, hlt, hct, e3, hwt, hdd]
            first | done | rfl | exact ⟨rfl, rfl⟩
          · rw [if_neg hl]
            refine w0h ?_
            simp (maxSteps := 2000000) (disch := first | omega | (simp only [lenS]; try omega)) only [wb7, go_sem, reduceAdd, reduceEqDiff, reduceLeDiff, reduceSub]
            simp (maxSteps := 2000000) (disch := first | omega | (simp only [lenS]; try omega)) only [go_sem, reduceAdd, reduceEqDiff, reduceLeDiff, reduceSub, hs0, he0, hx, fd, hz, hlt, hct, e3, hwt, hdd]
            first | done | rfl | exact ⟨rfl, rfl⟩
        · by_cases h2 : 0 ≤ k2
          · obtain ⟨K, rfl⟩ : ∃ K : Nat, k2 = K := ⟨k2.toNat, by omega⟩
            have hKl : K < R.sp.ms.length := by omega
            have hVe : V = ⟨2, 2, tw R.sp.ar K, 0⟩ := by rw [← hV, if_neg h1, if_pos h2, Int.toNat_natCast]
            have hwt := hway K hKl
            have e3 : R.sp.ms[K]? = some R.sp.ms[K] := List.getElem?_eq_getElem hKl
            have htl := z19e f4 K hKl
            rw [hVe]
            simp only
            generalize R.sp.ms[K] = x at *
            generalize tw R.sp.ar K = W at *
            by_cases hl : W.length ≤ 60
            · rw [if_pos hl, wgl 2 W (.inr rfl)]
              refine w0h ?_
              simp (maxSteps := 2000000) (disch := first | omega | (simp only [lenS]; try omega)) only [wb7, go_sem, reduceAdd, reduceEqDiff, reduceLeDiff, reduceSub]
              simp (maxSteps := 2000000) (disch := first | omega | (simp only [lenS]; try omega)) only [go_sem, reduceAdd, reduceEqDiff, reduceLeDiff, reduceSub, hs0, he0, hx, fd, hz, hlt, hct, h1, hov, e3, hwt, hdd]
              first | done | rfl | exact ⟨rfl, rfl⟩
            · rw [if_neg hl]
              refine w0h ?_
              simp (maxSteps := 2000000) (disch := first | omega | (simp only [lenS]; try omega)) only [wb7, go_sem, reduceAdd, reduceEqDiff, reduceLeDiff, reduceSub]
              simp (maxSteps := 2000000) (disch := first | omega | (simp only [lenS]; try omega)) only [go_sem, reduceAdd, reduceEqDiff, reduceLeDiff, reduceSub, hs0, he0, hx, fd, hz, hlt, hct, h1, hov, e3, hwt, hdd]
              first | done | rfl | exact ⟨rfl, rfl⟩
          · cases D with
            | nil =>
              have hVe : V = ⟨1, 0, [], 0⟩ := by rw [← hV, if_neg h1, if_neg h2]; rfl
              rw [hVe]
              refine w0h ?_
              simp (maxSteps := 2000000) (disch := first | omega | (simp only [lenS]; try omega)) only [wb7, go_sem, reduceAdd, reduceEqDiff, reduceLeDiff, reduceSub]
              simp (maxSteps := 2000000) (disch := first | omega | (simp only [lenS]; try omega)) only [go_sem, reduceAdd, reduceEqDiff, reduceLeDiff, reduceSub, hs0, he0, hx, fd, hz, hlt, hct, h1, hov, h2, hdd]
              first | done | rfl | exact ⟨rfl, rfl⟩
            | cons d D =>
              have hVe : V = ⟨2, 3, [], d⟩ := by rw [← hV, if_neg h1, if_neg h2]; rfl
              rw [hVe]
              refine w0h ?_
              simp (maxSteps := 2000000) (disch := first | omega | (simp only [lenS]; try omega)) only [wb7, go_sem, reduceAdd, reduceEqDiff, reduceLeDiff, reduceSub]
              simp (maxSteps := 2000000) (disch := first | omega | (simp only [lenS]; try omega)) only [go_sem, reduceAdd, reduceEqDiff, reduceLeDiff, reduceSub, hs0, he0, hx, fd, hz, hlt, hct, h1, hov, h2, hdd, Int.toNat_zero, List.getElem_cons_zero]
              first | done | rfl | exact ⟨rfl, rfl⟩
      · have hPV : exPV R = .agg [.un wgj false 1 (R.sp.ms.map ints), .un wg7 true 3 (R.sp.ar.map encA)] := by simp only [exPV, arcPV, hc, har, if_true, if_false]
        rw [hPV] at hx ⊢
        have hway := hway _ rfl
        by_cases h1 : 0 ≤ k1
        · obtain ⟨K, rfl⟩ : ∃ K : Nat, k1 = K := ⟨k1.toNat, by omega⟩
          have hKl : K < R.sp.ms.length := by omega
          have hVe : V = ⟨2, 1, tw R.sp.ar K, 0⟩ := by rw [← hV, if_pos h1, Int.toNat_natCast]
          have hwt := hway K hKl
          have e3 : R.sp.ms[K]? = some R.sp.ms[K] := List.getElem?_eq_getElem hKl
          have htl := z19e f4 K hKl
          rw [hVe]
          simp only
          generalize R.sp.ms[K] = x at *
          generalize tw R.sp.ar K = W at *
          by_cases hl : W.length ≤ 60
          · rw [if_pos hl, wgl 1 W (.inl rfl)]
            refine w0h ?_
            simp (maxSteps := 2000000) (disch := first | omega | (simp only [lenS]; try omega)) only [wb7, go_sem, reduceAdd, reduceEqDiff, reduceLeDiff, reduceSub]
            simp (maxSteps := 2000000) (disch := first | omega | (simp only [lenS]; try omega)) only [go_sem, reduceAdd, reduceEqDiff, reduceLeDiff, reduceSub, hs0, he0, hx, fd, hz, hlt, hct, e3, hwt, hdd]
            first | done | rfl | exact ⟨rfl, rfl⟩
          · rw [if_neg hl]
            refine w0h ?_
            simp (maxSteps := 2000000) (disch := first | omega | (simp only [lenS]; try omega)) only [wb7, go_sem, reduceAdd, reduceEqDiff, reduceLeDiff, reduceSub]
            simp (maxSteps := 2000000) (disch := first | omega | (simp only [lenS]; try omega)) only [go_sem, reduceAdd, reduceEqDiff, reduceLeDiff, reduceSub, hs0, he0, hx, fd, hz, hlt, hct, e3, hwt, hdd]
            first | done | rfl | exact ⟨rfl, rfl⟩
        · by_cases h2 : 0 ≤ k2
          · obtain ⟨K, rfl⟩ : ∃ K : Nat, k2 = K := ⟨k2.toNat, by omega⟩
            have hKl : K < R.sp.ms.length := by omega
            have hVe : V = ⟨2, 2, tw R.sp.ar K, 0⟩ := by rw [← hV, if_neg h1, if_pos h2, Int.toNat_natCast]
            have hwt := hway K hKl
            have e3 : R.sp.ms[K]? = some R.sp.ms[K] := List.getElem?_eq_getElem hKl
            have htl := z19e f4 K hKl
            rw [hVe]
            simp only
            generalize R.sp.ms[K] = x at *
            generalize tw R.sp.ar K = W at *
            by_cases hl : W.length ≤ 60
            · rw [if_pos hl, wgl 2 W (.inr rfl)]
              refine w0h ?_
              simp (maxSteps := 2000000) (disch := first | omega | (simp only [lenS]; try omega)) only [wb7, go_sem, reduceAdd, reduceEqDiff, reduceLeDiff, reduceSub]
              simp (maxSteps := 2000000) (disch := first | omega | (simp only [lenS]; try omega)) only [go_sem, reduceAdd, reduceEqDiff, reduceLeDiff, reduceSub, hs0, he0, hx, fd, hz, hlt, hct, h1, hov, e3, hwt, hdd]
              first | done | rfl | exact ⟨rfl, rfl⟩
            · rw [if_neg hl]
              refine w0h ?_
              simp (maxSteps := 2000000) (disch := first | omega | (simp only [lenS]; try omega)) only [wb7, go_sem, reduceAdd, reduceEqDiff, reduceLeDiff, reduceSub]
              simp (maxSteps := 2000000) (disch := first | omega | (simp only [lenS]; try omega)) only [go_sem, reduceAdd, reduceEqDiff, reduceLeDiff, reduceSub, hs0, he0, hx, fd, hz, hlt, hct, h1, hov, e3, hwt, hdd]
              first | done | rfl | exact ⟨rfl, rfl⟩
          · cases D with
            | nil =>
              have hVe : V = ⟨1, 0, [], 0⟩ := by rw [← hV, if_neg h1, if_neg h2]; rfl
              rw [hVe]
              refine w0h ?_
              simp (maxSteps := 2000000) (disch := first | omega | (simp only [lenS]; try omega)) only [wb7, go_sem, reduceAdd, reduceEqDiff, reduceLeDiff, reduceSub]
              simp (maxSteps := 2000000) (disch := first | omega | (simp only [lenS]; try omega)) only [go_sem, reduceAdd, reduceEqDiff, reduceLeDiff, reduceSub, hs0, he0, hx, fd, hz, hlt, hct, h1, hov, h2, hdd]
              first | done | rfl | exact ⟨rfl, rfl⟩
            | cons d D =>
              have hVe : V = ⟨2, 3, [], d⟩ := by rw [← hV, if_neg h1, if_neg h2]; rfl
              rw [hVe]
              refine w0h ?_
              simp (maxSteps := 2000000) (disch := first | omega | (simp only [lenS]; try omega)) only [wb7, go_sem, reduceAdd, reduceEqDiff, reduceLeDiff, reduceSub]
              simp (maxSteps := 2000000) (disch := first | omega | (simp only [lenS]; try omega)) only [go_sem, reduceAdd, reduceEqDiff, reduceLeDiff, reduceSub, hs0, he0, hx, fd, hz, hlt, hct, h1, hov, h2, hdd, Int.toNat_zero, List.getElem_cons_zero]
              first | done | rfl | exact ⟨rfl, rfl⟩
  · rw [if_neg hc]
    simp only [exPV, w67, hc, if_false] at hx ⊢
    have hc1 : ¬ R.code = 1 := by omega
    refine w0h ?_
    simp (maxSteps := 2000000) (disch := first | omega | (simp only [lenS]; try omega)) only [wb7, go_sem, reduceAdd, reduceEqDiff, reduceLeDiff, reduceSub]
    simp (maxSteps := 2000000) (disch := first | omega | (simp only [lenS]; try omega)) only [go_sem, reduceAdd, reduceEqDiff, reduceLeDiff, reduceSub, hs0, hx, hc1]
    first | done | rfl
theorem wes (l : List (List Int)) (g : FuncId) (caps : List PV) (hc : refsL caps = []) (hcv : ∀ m h, z19r [] m h caps = some caps) (p : List Int → Bool) (hp : ∀ x ∈ l, C g (ints x :: caps) [] = some (.bool (p x), [])) (hl : l.length < 2^62) :
    C w85 [rows l, .clo g caps] [] = some (.bool (l.any p), []) := by
  refine w1s ?_
  simp (maxSteps := 2000000) (disch := first | omega | (simp only [lenS]; try omega)) only [wci, go_sem, reduceAdd, reduceEqDiff, reduceLeDiff, reduceSub]
  simp (maxSteps := 2000000) (disch := first | omega | (simp only [lenS]; try omega)) only [go_sem, reduceAdd, reduceEqDiff, reduceLeDiff, reduceSub, hc, hcv, wey l g caps hc hcv p hp hl]
  have := zhl l p
  grind
theorem w9t (m : List Int) (hl : m.length < 2^62) : C w6o [ints m] [] = some (.bool (!m.all (inB 0 1)), []) := by
  have h1 := w9v m 0 1 hl
  generalize m.all (inB 0 1) = q at *
  refine w0c ?_
  simp (maxSteps := 2000000) (disch := first | omega | (simp only [lenS]; try omega)) only [wb2, go_sem, reduceAdd, reduceEqDiff, reduceLeDiff, reduceSub]
  simp (maxSteps := 2000000) (disch := first | omega | (simp only [lenS]; try omega)) only [go_sem, reduceAdd, reduceEqDiff, reduceLeDiff, reduceSub, h1]
  cases q <;> simp
theorem w9u (s : Spc) (b : Int) (hg : goodS s = true) (hb : inB 1 400 b = true) : C w6n [encS s, I b] [] = some (.tup [I (admC (flS s) b), vdPV (sndV (flS s) b)], []) := by
  have hk := zgo hg
  have hgf : zg7 (flS s) = true := by simp only [goodS, Bool.and_eq_true] at hg; exact hg.2
  have hl := wak s hk
  have h1 : C w6t [.agg [I (s.conds + s.tasks.length), .sl false 3 ((trS s).map encT), I 0, I 1], I b] [] = some (.tup [vdPV (sndV (flS s) b), exPV (exAll (flS s).net (oneM (flS s).net.pl.toNat (flS s).src) b)], []) := wa0 (flS s) b hgf hb
  obtain ⟨f1, f2, f3, f4, f5, f6⟩ := w69 hgf hb
  have hw : (sndV (flS s) b).way.length ≤ 60 := by
    unfold sndV
    split
    · split
      · assumption
      · simp
    · simp
  have ho1 : (sndV (flS s) b).ok = 1 → (exAll (flS s).net (oneM (flS s).net.pl.toNat (flS s).src) b).code = 0 := by
    unfold sndV
    split
    · exact fun _ => by assumption
    · intro h; simp at h
  have hgn := zgm (zga hgf).1
  have htl : (trS s).length ≤ 2^20 := by have := hgn; have e : (flS s).net.tr = trS s := rfl; rw [e] at this; omega
  unfold admC safeV
  generalize sndV (flS s) b = V at *
  generalize exAll (flS s).net (oneM (flS s).net.pl.toNat (flS s).src) b = R at *
  have hcf := wes R.sp.ms w6o [] rfl (fun _ _ => rfl) (fun m => !m.all (inB 0 1)) (fun x hx => w9t x (by have := f6 x hx; omega)) (by omega)
  have e0 : (R.sp.ms.all fun m => m.all (inB 0 1)) = !(R.sp.ms.any fun m => !m.all (inB 0 1)) := by rw [List.any_eq_not_all_not]; simp
  rw [e0]
  generalize (R.sp.ms.any fun m => !m.all (inB 0 1)) = q at *
  unfold vdPV at h1 ⊢
  obtain ⟨vo, vk, vw, vd⟩ := V
  simp only at h1 hw ho1 ⊢
  by_cases ho : vo = 1
  · have hc := ho1 ho
    subst ho
    simp only [hc, decide_true, Bool.true_and]
    by_cases hkd : vk = 1 ∨ vk = 2
    · simp only [hkd, if_true] at h1 ⊢
      by_cases har : R.sp.ar = []
      · simp only [exPV, arcPV, hc, har, if_true] at h1
        cases q with
        | true =>
          refine w0b ?_
          simp (maxSteps := 2000000) (disch := first | omega | (simp only [lenS]; try omega)) only [wb1, go_sem, reduceAdd, reduceEqDiff, reduceLeDiff, reduceSub]
          simp (maxSteps := 2000000) (disch := first | omega | (simp only [lenS]; try omega)) only [go_sem, reduceAdd, reduceEqDiff, reduceLeDiff, reduceSub, hl, h1, hcf]
          first | done | rfl | exact ⟨rfl, rfl⟩ | simp
        | false =>
          refine w0b ?_
          simp (maxSteps := 2000000) (disch := first | omega | (simp only [lenS]; try omega)) only [wb1, go_sem, reduceAdd, reduceEqDiff, reduceLeDiff, reduceSub]
          simp (maxSteps := 2000000) (disch := first | omega | (simp only [lenS]; try omega)) only [go_sem, reduceAdd, reduceEqDiff, reduceLeDiff, reduceSub, hl, h1, hcf]
          first | done | rfl | exact ⟨rfl, rfl⟩ | simp
      · simp only [exPV, arcPV, hc, har, if_true, if_false] at h1
        cases q with
        | true =>
          refine w0b ?_
          simp (maxSteps := 2000000) (disch := first | omega | (simp only [lenS]; try omega)) only [wb1, go_sem, reduceAdd, reduceEqDiff, reduceLeDiff, reduceSub]
          simp (maxSteps := 2000000) (disch := first | omega | (simp only [lenS]; try omega)) only [go_sem, reduceAdd, reduceEqDiff, reduceLeDiff, reduceSub, hl, h1, hcf]
          first | done | rfl | exact ⟨rfl, rfl⟩ | simp
        | false =>
          refine w0b ?_
          simp (maxSteps := 2000000) (disch := first | omega | (simp only [lenS]; try omega)) only [wb1, go_sem, reduceAdd, reduceEqDiff, reduceLeDiff, reduceSub]
          simp (maxSteps := 2000000) (disch := first | omega | (simp only [lenS]; try omega)) only [go_sem, reduceAdd, reduceEqDiff, reduceLeDiff, reduceSub, hl, h1, hcf]
          first | done | rfl | exact ⟨rfl, rfl⟩ | simp
    · simp only [hkd, if_false] at h1 ⊢
      by_cases har : R.sp.ar = []
      · simp only [exPV, arcPV, hc, har, if_true] at h1
        cases q with
        | true =>
          refine w0b ?_
          simp (maxSteps := 2000000) (disch := first | omega | (simp only [lenS]; try omega)) only [wb1, go_sem, reduceAdd, reduceEqDiff, reduceLeDiff, reduceSub]
          simp (maxSteps := 2000000) (disch := first | omega | (simp only [lenS]; try omega)) only [go_sem, reduceAdd, reduceEqDiff, reduceLeDiff, reduceSub, hl, h1, hcf]
          first | done | rfl | exact ⟨rfl, rfl⟩ | simp
        | false =>
          refine w0b ?_
          simp (maxSteps := 2000000) (disch := first | omega | (simp only [lenS]; try omega)) only [wb1, go_sem, reduceAdd, reduceEqDiff, reduceLeDiff, reduceSub]
          simp (maxSteps := 2000000) (disch := first | omega | (simp only [lenS]; try omega)) only [go_sem, reduceAdd, reduceEqDiff, reduceLeDiff, reduceSub, hl, h1, hcf]
          first | done | rfl | exact ⟨rfl, rfl⟩ | simp
      · simp only [exPV, arcPV, hc, har, if_true, if_false] at h1
        cases q with
        | true =>
          refine w0b ?_
          simp (maxSteps := 2000000) (disch := first | omega | (simp only [lenS]; try omega)) only [wb1, go_sem, reduceAdd, reduceEqDiff, reduceLeDiff, reduceSub]
          simp (maxSteps := 2000000) (disch := first | omega | (simp only [lenS]; try omega)) only [go_sem, reduceAdd, reduceEqDiff, reduceLeDiff, reduceSub, hl, h1, hcf]
          first | done | rfl | exact ⟨rfl, rfl⟩ | simp
        | false =>
          refine w0b ?_
          simp (maxSteps := 2000000) (disch := first | omega | (simp only [lenS]; try omega)) only [wb1, go_sem, reduceAdd, reduceEqDiff, reduceLeDiff, reduceSub]
          simp (maxSteps := 2000000) (disch := first | omega | (simp only [lenS]; try omega)) only [go_sem, reduceAdd, reduceEqDiff, reduceLeDiff, reduceSub, hl, h1, hcf]
          first | done | rfl | exact ⟨rfl, rfl⟩ | simp
  · rw [if_neg ho]
    by_cases hc : R.code = 0
    · by_cases hkd : vk = 1 ∨ vk = 2
      · simp only [hkd, if_true] at h1 ⊢
        by_cases har : R.sp.ar = []
        · simp only [exPV, arcPV, hc, har, if_true] at h1
          refine w0b ?_
          simp (maxSteps := 2000000) (disch := first | omega | (simp only [lenS]; try omega)) only [wb1, go_sem, reduceAdd, reduceEqDiff, reduceLeDiff, reduceSub]
          simp (maxSteps := 2000000) (disch := first | omega | (simp only [lenS]; try omega)) only [go_sem, reduceAdd, reduceEqDiff, reduceLeDiff, reduceSub, hl, h1, ho]
          first | done | rfl | exact ⟨rfl, rfl⟩ | simp
        · simp only [exPV, arcPV, hc, har, if_true, if_false] at h1
          refine w0b ?_
          simp (maxSteps := 2000000) (disch := first | omega | (simp only [lenS]; try omega)) only [wb1, go_sem, reduceAdd, reduceEqDiff, reduceLeDiff, reduceSub]
          simp (maxSteps := 2000000) (disch := first | omega | (simp only [lenS]; try omega)) only [go_sem, reduceAdd, reduceEqDiff, reduceLeDiff, reduceSub, hl, h1, ho]
          first | done | rfl | exact ⟨rfl, rfl⟩ | simp
      · simp only [hkd, if_false] at h1 ⊢
        by_cases har : R.sp.ar = []
        · simp only [exPV, arcPV, hc, har, if_true] at h1
          refine w0b ?_
          simp (maxSteps := 2000000) (disch := first | omega | (simp only [lenS]; try omega)) only [wb1, go_sem, reduceAdd, reduceEqDiff, reduceLeDiff, reduceSub]
          simp (maxSteps := 2000000) (disch := first | omega | (simp only [lenS]; try omega)) only [go_sem, reduceAdd, reduceEqDiff, reduceLeDiff, reduceSub, hl, h1, ho]
          first | done | rfl | exact ⟨rfl, rfl⟩ | simp
        · simp only [exPV, arcPV, hc, har, if_true, if_false] at h1
          refine w0b ?_
          simp (maxSteps := 2000000) (disch := first | omega | (simp only [lenS]; try omega)) only [wb1, go_sem, reduceAdd, reduceEqDiff, reduceLeDiff, reduceSub]
          simp (maxSteps := 2000000) (disch := first | omega | (simp only [lenS]; try omega)) only [go_sem, reduceAdd, reduceEqDiff, reduceLeDiff, reduceSub, hl, h1, ho]
          first | done | rfl | exact ⟨rfl, rfl⟩ | simp
    · simp only [exPV, hc, if_false] at h1
      by_cases hkd : vk = 1 ∨ vk = 2
      · simp only [hkd, if_true] at h1 ⊢
        refine w0b ?_
        simp (maxSteps := 2000000) (disch := first | omega | (simp only [lenS]; try omega)) only [wb1, go_sem, reduceAdd, reduceEqDiff, reduceLeDiff, reduceSub]
        simp (maxSteps := 2000000) (disch := first | omega | (simp only [lenS]; try omega)) only [go_sem, reduceAdd, reduceEqDiff, reduceLeDiff, reduceSub, hl, h1, ho]
        first | done | rfl | exact ⟨rfl, rfl⟩ | simp
      · simp only [hkd, if_false] at h1 ⊢
        refine w0b ?_
        simp (maxSteps := 2000000) (disch := first | omega | (simp only [lenS]; try omega)) only [wb1, go_sem, reduceAdd, reduceEqDiff, reduceLeDiff, reduceSub]
        simp (maxSteps := 2000000) (disch := first | omega | (simp only [lenS]; try omega)) only [go_sem, reduceAdd, reduceEqDiff, reduceLeDiff, reduceSub, hl, h1, ho]
        first | done | rfl | exact ⟨rfl, rfl⟩ | simp
theorem w9g (s : Spc) (b : Int) (hs : smSpc s) : C w6c [encS s, I b] [] = some (.tup [if goodS s && inB 1 400 b then I (admC (flS s) b) else I 0, if goodS s && inB 1 400 b then vdPV (sndV (flS s) b) else vdPV ⟨0, 0, [], 0⟩, .bool (goodS s && inB 1 400 b)], []) := by
  have h0 := waa s hs
  cases hg : goodS s with
  | false =>
    rw [hg] at h0
    refine w00 ?_
    simp (maxSteps := 2000000) (disch := first | omega | (simp only [lenS]; try omega)) only [wao, go_sem, reduceAdd, reduceEqDiff, reduceLeDiff, reduceSub]
    simp (maxSteps := 2000000) (disch := first | omega | (simp only [lenS]; try omega)) only [go_sem, reduceAdd, reduceEqDiff, reduceLeDiff, reduceSub, h0]
    first | done | rfl
  | true =>
    rw [hg] at h0
    cases hb : inB 1 400 b with
    | false =>
      refine w00 ?_
      simp (maxSteps := 2000000) (disch := first | omega | (simp only [lenS]; try omega)) only [wao, go_sem, reduceAdd, reduceEqDiff, reduceLeDiff, reduceSub]
      simp (maxSteps := 2000000) (disch := first | omega | (simp only [lenS]; try omega)) only [go_sem, reduceAdd, reduceEqDiff, reduceLeDiff, reduceSub, h0, wan, hb]
      first | done | rfl
    | true =>
      have h1 := w9u s b hg hb
      have hw : (sndV (flS s) b).way.length ≤ 60 := by
        unfold sndV
        split
        · split
          · assumption
          · simp
        · simp
      generalize sndV (flS s) b = V at *
      generalize admC (flS s) b = q at *
      unfold vdPV at h1 ⊢
      obtain ⟨vo, vk, vw, vd⟩ := V
      simp only at h1 hw ⊢
      by_cases hk : vk = 1 ∨ vk = 2
      · simp only [hk, if_true] at h1 ⊢
        refine w00 ?_
        simp (maxSteps := 2000000) (disch := first | omega | (simp only [lenS]; try omega)) only [wao, go_sem, reduceAdd, reduceEqDiff, reduceLeDiff, reduceSub]
        simp (maxSteps := 2000000) (disch := first | omega | (simp only [lenS]; try omega)) only [go_sem, reduceAdd, reduceEqDiff, reduceLeDiff, reduceSub, h0, wan, hb, h1]
        first | done | rfl
      · simp only [hk, if_false] at h1 ⊢
        refine w00 ?_
        simp (maxSteps := 2000000) (disch := first | omega | (simp only [lenS]; try omega)) only [wao, go_sem, reduceAdd, reduceEqDiff, reduceLeDiff, reduceSub]
        simp (maxSteps := 2000000) (disch := first | omega | (simp only [lenS]; try omega)) only [go_sem, reduceAdd, reduceEqDiff, reduceLeDiff, reduceSub, h0, wan, hb, h1]
        first | done | rfl
theorem wdu (a b : List Int) (ha : a.length < 2^62) (hb : b.length < 2^62) : C w7i [ints a, ints b] [] = some (.bool (decide (a = b)), []) := by
  refine w16 ?_
  simp (maxSteps := 2000000) (disch := first | omega | (simp only [lenS]; try omega)) only [wbw, go_sem, reduceAdd, reduceEqDiff, reduceLeDiff, reduceSub]
  refine ⟨fun h => ?_, fun h => ?_⟩
  · rw [decide_eq_false]
    rintro rfl
    omega
  have hl : a.length = b.length := by omega
  refine W_for a.length (fun k s => s = ⟨[ints a, ints b, .any, I k, .any, .any, .any], []⟩ ∧ a.take k = b.take k) ?_ ?_ ?_
  · simp (maxSteps := 2000000) (disch := first | omega | (simp only [lenS]; try omega)) only [go_sem, reduceAdd, reduceEqDiff, reduceLeDiff, reduceSub]
    rfl
  · rintro k s hk ⟨rfl, he⟩
    simp (maxSteps := 2000000) (disch := first | omega | (simp only [lenS]; try omega)) only [go_sem, reduceAdd, reduceEqDiff, reduceLeDiff, reduceSub]
    refine ⟨fun h => ?_, fun h => ⟨rfl, zat hk (by omega) he h⟩⟩
    rw [zas hk (by omega) h]
  · rintro s ⟨rfl, he⟩
    simp (maxSteps := 2000000) (disch := first | omega | (simp only [lenS]; try omega)) only [go_sem, reduceAdd, reduceEqDiff, reduceLeDiff, reduceSub]
    rw [List.take_length, z18d (by omega)] at he
    simp [he]
theorem wdt : C w7i [.sl true 1 [], .sl true 1 []] [] = some (.bool true, []) := wdu [] [] (by simp) (by simp)
theorem wdz (o k d : Int) (w : List Int) (hw : w.length < 2^40) : C w7m [.agg [I o, I k, ints w, I d], .agg [I o, I k, ints w, I d]] [] = some (.bool true, []) := by
  have h := wdu w w (by omega) (by omega)
  refine w1a ?_
  simp (maxSteps := 2000000) (disch := first | omega | (simp only [lenS]; try omega)) only [wc0, go_sem, reduceAdd, reduceEqDiff, reduceLeDiff, reduceSub]
  simp (maxSteps := 2000000) (disch := first | omega | (simp only [lenS]; try omega)) only [go_sem, reduceAdd, reduceEqDiff, reduceLeDiff, reduceSub, h]
  first | done | rfl
theorem wdy (o k d : Int) : C w7m [.agg [I o, I k, .nil true 1, I d], .agg [I o, I k, .nil true 1, I d]] [] = some (.bool true, []) := by
  have h := wdt
  refine w1a ?_
  simp (maxSteps := 2000000) (disch := first | omega | (simp only [lenS]; try omega)) only [wc0, go_sem, reduceAdd, reduceEqDiff, reduceLeDiff, reduceSub]
  simp (maxSteps := 2000000) (disch := first | omega | (simp only [lenS]; try omega)) only [go_sem, reduceAdd, reduceEqDiff, reduceLeDiff, reduceSub, h]
  first | done | rfl
theorem wdx (a b : Tk) (ha : smTk a) (hb : smTk b) : C w7k [encK a, encK b] [] = some (.bool (decide (a = b)), []) := by
  obtain ⟨a1, a2, a3, a4⟩ := ha
  obtain ⟨b1, b2, b3, b4⟩ := hb
  have e : (a = b) ↔ a.join = b.join ∧ a.split = b.split ∧ a.inn = b.inn ∧ a.out = b.out ∧ a.cut = b.cut ∧ a.stop = b.stop ∧ a.role = b.role := by
    cases a; cases b; simp
  simp only [e]
  refine w18 ?_
  simp (maxSteps := 2000000) (disch := first | omega | (simp only [lenS]; try omega)) only [wby, go_sem, reduceAdd, reduceEqDiff, reduceLeDiff, reduceSub]
  refine ⟨fun h => by simp [h], fun h1 => ⟨fun h => by simp [h], fun h2 => ?_⟩⟩
  simp (maxSteps := 2000000) (disch := first | omega | (simp only [lenS]; try omega)) only [go_sem, reduceAdd, reduceEqDiff, reduceLeDiff, reduceSub, wdu]
  grind
theorem wdw (a b : List Tk) (ha : a.length < 2^62) (hb : b.length < 2^62) (ha2 : ∀ t ∈ a, smTk t) (hb2 : ∀ t ∈ b, smTk t) : C w7l [tks a, tks b] [] = some (.bool (decide (a = b)), []) := by
  refine w19 ?_
  simp (maxSteps := 2000000) (disch := first | omega | (simp only [lenS]; try omega)) only [wbz, go_sem, reduceAdd, reduceEqDiff, reduceLeDiff, reduceSub]
  refine ⟨fun h => ?_, fun h => ?_⟩
  · rw [decide_eq_false]
    rintro rfl
    omega
  have hl : a.length = b.length := by omega
  refine W_for a.length (fun k s => s = ⟨[tks a, tks b, .any, I k, .any, .any, .any], []⟩ ∧ a.take k = b.take k) ?_ ?_ ?_
  · simp (maxSteps := 2000000) (disch := first | omega | (simp only [lenS]; try omega)) only [go_sem, reduceAdd, reduceEqDiff, reduceLeDiff, reduceSub]
    rfl
  · rintro k s hk ⟨rfl, he⟩
    have hk2 : k < b.length := by omega
    simp (maxSteps := 2000000) (disch := first | omega | (simp only [lenS]; try omega)) only [go_sem, reduceAdd, reduceEqDiff, reduceLeDiff, reduceSub, wdx _ _ (ha2 _ (List.getElem_mem hk)) (hb2 _ (List.getElem_mem hk2))]
    refine ⟨fun h => ⟨rfl, zat hk (by omega) he h⟩, fun h => ?_⟩
    rw [zas hk (by omega) h]
  · rintro s ⟨rfl, he⟩
    simp (maxSteps := 2000000) (disch := first | omega | (simp only [lenS]; try omega)) only [go_sem, reduceAdd, reduceEqDiff, reduceLeDiff, reduceSub]
    rw [List.take_length, z18d (by omega)] at he
    simp [he]
theorem wdv (a b : Spc) (ha : smSpc a) (hb : smSpc b) : C w7j [encS a, encS b] [] = some (.bool (decide (a = b)), []) := by
  obtain ⟨a1, a2⟩ := ha
  obtain ⟨b1, b2⟩ := hb
  have e : (a = b) ↔ a.conds = b.conds ∧ a.tasks = b.tasks := by
    cases a; cases b; simp
  simp only [e]
  refine w17 ?_
  simp (maxSteps := 2000000) (disch := first | omega | (simp only [lenS]; try omega)) only [wbx, go_sem, reduceAdd, reduceEqDiff, reduceLeDiff, reduceSub]
  refine ⟨fun h => by simp [h], fun h1 => ?_⟩
  simp (maxSteps := 2000000) (disch := first | omega | (simp only [lenS]; try omega)) only [go_sem, reduceAdd, reduceEqDiff, reduceLeDiff, reduceSub, wdw a.tasks b.tasks (by omega) (by omega) a2 b2]
  grind
theorem we7 (l : List Int) (k : Int) (t : TypeId) (hl : l.length ≤ 2^36) (h0 : 0 ≤ k) (h1 : k < 2^61) : C w7p [.ref 0 1 0 l.length, I k] [.row t true 1 (l.map I)] = some (I (k + l.length), [.row t true 1 ((markL k l.length).map I)]) := by
  refine w1d ?_
  simp (maxSteps := 2000000) (disch := first | omega | (simp only [lenS]; try omega)) only [wc3, go_sem, reduceAdd, reduceEqDiff, reduceLeDiff, reduceSub]
  refine W_for l.length (fun i s => s = ⟨[.ref 0 1 0 l.length, I (k + i), .any, I i, .any], [.row t true 1 ((markP k l i).map I)]⟩) ?_ ?_ ?_
  · simp (maxSteps := 2000000) (disch := first | omega | (simp only [lenS]; try omega)) only [go_sem, reduceAdd, reduceEqDiff, reduceLeDiff, reduceSub]
    rw [zot]
    simp
  · rintro i s hi rfl
    have h2 := zor (k := k) (l := l) (i := i) (by omega)
    have h3 := zos (k := k) hi
    simp (maxSteps := 2000000) (disch := first | omega | (simp only [lenS]; try omega)) only [go_sem, reduceAdd, reduceEqDiff, reduceLeDiff, reduceSub, h2]
    rw [← h3]
    simp
    omega
  · rintro s rfl
    have h2 := zor (k := k) (l := l) (i := l.length) (by omega)
    simp (maxSteps := 2000000) (disch := first | omega | (simp only [lenS]; try omega)) only [go_sem, reduceAdd, reduceEqDiff, reduceLeDiff, reduceSub, h2]
    rw [zoq]
theorem we5 (k : Int) : C w7p [.sl true 1 [], I k] [] = some (I k, []) := by
  refine w1d ?_
  simp (maxSteps := 2000000) (disch := first | omega | (simp only [lenS]; try omega)) only [wc3, go_sem, reduceAdd, reduceEqDiff, reduceLeDiff, reduceSub]
  refine W_for 0 (fun i s => s = ⟨[.sl true 1 [], I k, .any, I 0, .any], []⟩) ?_ ?_ ?_
  · simp (maxSteps := 2000000) (disch := first | omega | (simp only [lenS]; try omega)) only [go_sem, reduceAdd, reduceEqDiff, reduceLeDiff, reduceSub]
  · rintro i s hi rfl
    omega
  · rintro s rfl
    simp (maxSteps := 2000000) (disch := first | omega | (simp only [lenS]; try omega)) only [go_sem, reduceAdd, reduceEqDiff, reduceLeDiff, reduceSub]
/-- ... on a row that lies in a row. -/
theorem we4 {sz off : Nat} {cs : List PV} (l : List Int) (k : Int) (hc : cs[off]? = some (ints l)) (hs : cs.length = sz) (hok : okE false sz (.agg cs) = true) (hl : l.length ≤ 2^36) (h0 : 0 ≤ k) (h1 : k < 2^61) :
    zko C w7p sz off (.agg cs) (I k) = some (I (k + l.length), .agg (cs.set off (ints (markL k l.length)))) := by
  refine zkp hc hs hok (by simp [zop]) (fun h => ?_) (fun h => ⟨0, ?_⟩)
  · have : l = [] := by simpa using h
    subst this
    simpa using we5 k
  · have := we7 l k 0 hl h0 h1
    simpa using this
theorem we9 (l q r u : List Int) (x y z k : Int) (hl : l.length ≤ 2^36) (h0 : 0 ≤ k) (h1 : k < 2^61) : zko C w7p 7 2 (.agg [I x, I y, ints l, ints q, ints r, ints u, I z]) (I k) = some (I (k + l.length), .agg [I x, I y, ints (markL k l.length), ints q, ints r, ints u, I z]) :=
  we4 l k rfl rfl rfl hl h0 h1
theorem wea (l q r u : List Int) (x y z k : Int) (hl : l.length ≤ 2^36) (h0 : 0 ≤ k) (h1 : k < 2^61) : zko C w7p 7 3 (.agg [I x, I y, ints q, ints l, ints r, ints u, I z]) (I k) = some (I (k + l.length), .agg [I x, I y, ints q, ints (markL k l.length), ints r, ints u, I z]) :=
  we4 l k rfl rfl rfl hl h0 h1
theorem web (l q r u : List Int) (x y z k : Int) (hl : l.length ≤ 2^36) (h0 : 0 ≤ k) (h1 : k < 2^61) : zko C w7p 7 4 (.agg [I x, I y, ints q, ints r, ints l, ints u, I z]) (I k) = some (I (k + l.length), .agg [I x, I y, ints q, ints r, ints (markL k l.length), ints u, I z]) :=
  we4 l k rfl rfl rfl hl h0 h1
theorem wec (l q r u : List Int) (x y z k : Int) (hl : l.length ≤ 2^36) (h0 : 0 ≤ k) (h1 : k < 2^61) : zko C w7p 7 5 (.agg [I x, I y, ints q, ints r, ints u, ints l, I z]) (I k) = some (I (k + l.length), .agg [I x, I y, ints q, ints r, ints u, ints (markL k l.length), I z]) :=
  we4 l k rfl rfl rfl hl h0 h1
theorem wed (l : List Tk) (t : TypeId) (k : Int) (hl : l.length ≤ 2^20) (hb : ∀ t ∈ l, mkLen t ≤ 2^30) (h0 : 0 ≤ k) (h1 : k ≤ 1024) : C w7r [.ref 0 7 0 l.length, I k] [.lin t 7 (l.map encK)] = some (I (k + mkN l l.length), [.lin t 7 ((mkP k l l.length).map encK)]) := by
  refine w1f ?_
  simp (maxSteps := 2000000) (disch := first | omega | (simp only [lenS]; try omega)) only [wc5, go_sem, reduceAdd, reduceEqDiff, reduceLeDiff, reduceSub]
  refine W_for l.length (fun i st => st = ⟨[.ref 0 7 0 l.length, I (k + mkN l i), .any, I i, .any], [.lin t 7 ((mkP k l i).map encK)]⟩) ?_ ?_ ?_
  · simp (maxSteps := 2000000) (disch := first | omega | (simp only [lenS]; try omega)) only [go_sem, reduceAdd, reduceEqDiff, reduceLeDiff, reduceSub]
    simp [mkN, mkP]
  · rintro i st hi rfl
    have e1 : (mkP k l i).length = l.length := zq5 k l i
    have e2 : (mkP k l i)[i]? = some l[i] := by rw [zq4 k l i i (by omega), List.getElem?_eq_getElem hi]
    have e3 := zq2 hb i (by omega)
    have e4 := hb _ (List.getElem_mem hi)
    have e5 := zq3 hi
    have e6 := zq6 (k := k) hi
    have e7 : mkLen l[i] = 3 + l[i].inn.length + l[i].out.length + l[i].cut.length + l[i].stop.length := rfl
    have e8 : i * 2^30 ≤ 2^20 * 2^30 := Nat.mul_le_mul_right _ (by omega)
    rw [e6, e5]
    generalize hM : mkP k l i = M at *
    generalize l[i] = t at *
    generalize hK : k + (mkN l i : Int) = K at *
    have e9 : 0 ≤ K ∧ K ≤ 2^51 := by omega
    simp (maxSteps := 2000000) (disch := first | omega | (simp only [lenS]; try omega)) only [go_sem, reduceAdd, reduceEqDiff, reduceLeDiff, reduceSub, e1, e2, we9, wea, web, wec, List.getElem?_set_self, List.set_set]
    rw [show k + ((mkN l i + mkLen t : Nat) : Int) = K + 1 + 1 + t.inn.length + t.out.length + t.cut.length + t.stop.length + 1 by omega, List.map_set]
    rfl
  · rintro st rfl
    have e1 : (mkP k l l.length).length = l.length := zq5 k l l.length
    simp (maxSteps := 2000000) (disch := first | omega | (simp only [lenS]; try omega)) only [go_sem, reduceAdd, reduceEqDiff, reduceLeDiff, reduceSub, e1]
theorem we8 (c : Int) (l : List Tk) (t : TypeId) (k : Int) (hl : l.length ≤ 2^20) (hb : ∀ t ∈ l, mkLen t ≤ 2^30) (h0 : 0 ≤ k) (h1 : k ≤ 1024) : C w7q [.agg [I c, .ref 0 7 0 l.length], I k] [.lin t 7 (l.map encK)] = some (I (k + mkN l l.length), [.lin t 7 ((mkP k l l.length).map encK)]) := by
  have h := wed l t k hl hb h0 h1
  refine w1e ?_
  simp (maxSteps := 2000000) (disch := first | omega | (simp only [lenS]; try omega)) only [wc4, go_sem, reduceAdd, reduceEqDiff, reduceLeDiff, reduceSub]
  simp (maxSteps := 2000000) (disch := first | omega | (simp only [lenS]; try omega)) only [go_sem, reduceAdd, reduceEqDiff, reduceLeDiff, reduceSub, h]
theorem we6 (j : Int) (h0 : 0 ≤ j) (h1 : j < 2^61) : C w7p [.nil true 1, I j] [] = some (I j, []) := by
  refine w1d ?_
  simp (maxSteps := 2000000) (disch := first | omega | (simp only [lenS]; try omega)) only [wc3, go_sem, reduceAdd, reduceEqDiff, reduceLeDiff, reduceSub]
  refine z1a (fun k s => k = 0 ∧ s = ⟨[.nil true 1, I j, .any, I k, .any], []⟩) 0 ?_ ?_
  · simp (maxSteps := 2000000) (disch := first | omega | (simp only [lenS]; try omega)) only [go_sem, reduceAdd, reduceEqDiff, reduceLeDiff, reduceSub]
    first | done | rfl | exact ⟨rfl, rfl⟩
  · rintro k s ⟨rfl, rfl⟩
    simp (maxSteps := 2000000) (disch := first | omega | (simp only [lenS]; try omega)) only [go_sem, reduceAdd, reduceEqDiff, reduceLeDiff, reduceSub]
    first | done | rfl
theorem wef (o k d j : Int) (w : List Int) (hw : w.length < 2^36) (h0 : 0 ≤ j) (h1 : j < 2^61) : C w7s [.agg [I o, I k, .ref 0 1 0 w.length, I d], I j] [.row t_int true 1 (w.map I)] = some (I (j + w.length), [.row t_int true 1 ((markL j w.length).map I)]) := by
  have h := we7 w j t_int (by omega) h0 h1
  refine w1g ?_
  simp (maxSteps := 2000000) (disch := first | omega | (simp only [lenS]; try omega)) only [wc6, go_sem, reduceAdd, reduceEqDiff, reduceLeDiff, reduceSub]
  simp (maxSteps := 2000000) (disch := first | omega | (simp only [lenS]; try omega)) only [go_sem, reduceAdd, reduceEqDiff, reduceLeDiff, reduceSub, h]
  first | done | rfl
theorem wee (o k d j : Int) (h0 : 0 ≤ j) (h1 : j < 2^61) : C w7s [.agg [I o, I k, .nil true 1, I d], I j] [] = some (I j, []) := by
  have h := we6 j h0 h1
  refine w1g ?_
  simp (maxSteps := 2000000) (disch := first | omega | (simp only [lenS]; try omega)) only [wc6, go_sem, reduceAdd, reduceEqDiff, reduceLeDiff, reduceSub]
  simp (maxSteps := 2000000) (disch := first | omega | (simp only [lenS]; try omega)) only [go_sem, reduceAdd, reduceEqDiff, reduceLeDiff, reduceSub, h]
  first | done | rfl
theorem we1 (k : Int) (n : Nat) (hl : n < 2^60) (h0 : 0 ≤ k) (h1 : k < 2^61) : C w7n [ints (markL k n), I k] [] = some (I (k + n), []) := by
  have hn := zop k n
  refine w1b ?_
  simp (maxSteps := 2000000) (disch := first | omega | (simp only [lenS]; try omega)) only [wc1, go_sem, reduceAdd, reduceEqDiff, reduceLeDiff, reduceSub]
  refine W_for n (fun i s => s = ⟨[ints (markL k n), I (k + i), .any, I i, .any, .any], []⟩) ?_ ?_ ?_
  · simp (maxSteps := 2000000) (disch := first | omega | (simp only [lenS]; try omega)) only [go_sem, reduceAdd, reduceEqDiff, reduceLeDiff, reduceSub]
    simp
  · rintro i s hi rfl
    have e : (markL k n)[i]? = some (k + i) := by simp [markL, hi]
    simp (maxSteps := 2000000) (disch := first | omega | (simp only [lenS]; try omega)) only [go_sem, reduceAdd, reduceEqDiff, reduceLeDiff, reduceSub, hn, e]
    rw [show k + ((i + 1 : Nat) : Int) = k + i + 1 by omega]
    rfl
  · rintro s rfl
    simp (maxSteps := 2000000) (disch := first | omega | (simp only [lenS]; try omega)) only [go_sem, reduceAdd, reduceEqDiff, reduceLeDiff, reduceSub, hn]
theorem we0 (j : Int) (h0 : 0 ≤ j) (h1 : j < 2^61) : C w7n [.sl true 1 [], I j] [] = some (I j, []) := by
  have h := we1 j 0 (by omega) h0 h1
  rw [show markL j 0 = [] from List.length_eq_zero_iff.1 (zop j 0)] at h
  rw [show j + ((0 : Nat) : Int) = j by omega] at h
  exact h
theorem we3 (o k d j : Int) (n : Nat) (hw : n < 2^36) (h0 : 0 ≤ j) (h1 : j < 2^60) : C w7o [.agg [I o, I k, ints (markL j n), I d], I j] [] = some (I (j + n), []) := by
  have h := we1 j n (by omega) h0 (by omega)
  have hml := zop j n
  refine w1c ?_
  simp (maxSteps := 2000000) (disch := first | omega | (simp only [lenS]; try omega)) only [wc2, go_sem, reduceAdd, reduceEqDiff, reduceLeDiff, reduceSub]
  simp (maxSteps := 2000000) (disch := first | omega | (simp only [lenS]; try omega)) only [go_sem, reduceAdd, reduceEqDiff, reduceLeDiff, reduceSub, h]
  first | done | rfl
theorem we2 (o k d j : Int) (h0 : 0 ≤ j) (h1 : j < 2^60) : C w7o [.agg [I o, I k, .nil true 1, I d], I j] [] = some (I j, []) := by
  have h := we0 j h0 (by omega)
  refine w1c ?_
  simp (maxSteps := 2000000) (disch := first | omega | (simp only [lenS]; try omega)) only [wc2, go_sem, reduceAdd, reduceEqDiff, reduceLeDiff, reduceSub]
  simp (maxSteps := 2000000) (disch := first | omega | (simp only [lenS]; try omega)) only [go_sem, reduceAdd, reduceEqDiff, reduceLeDiff, reduceSub, h]
  first | done | rfl
theorem laws_FnExactAdmitSpec_ok (s : Spc) (b : Int) (hl : s.tasks.length < 2^63) (ht : ∀ t ∈ s.tasks, t.inn.length < 2^63 ∧ t.out.length < 2^63 ∧ t.cut.length < 2^63 ∧ t.stop.length < 2^63) : C w7h [encS s, I b] [] = some (.bool true, []) := by
  have hsz := weh s 1048576 (by omega) (by omega) hl ht
  refine w15 ?_
  simp (maxSteps := 2000000) (disch := first | omega | (simp only [lenS]; try omega)) only [wbv, go_sem, reduceAdd, reduceEqDiff, reduceLeDiff, reduceSub]
  simp (maxSteps := 2000000) (disch := first | omega | (simp only [lenS]; try omega)) only [go_sem, reduceAdd, reduceEqDiff, reduceLeDiff, reduceSub, hsz]
  refine fun h => ?_
  have hs := z189 h (by omega)
  have hsm := z18a h (by omega)
  have hto := wel s (by omega) (fun t h => by have := hsm.2 t h; omega)
  have h1 := wf4 s b hs
  have h2 := w9g s b hs
  have hmk := we8 s.conds s.tasks wgd 1 (by omega) (fun t h => by have := hsm.2 t h; unfold mkLen; omega) (by omega) (by omega)
  have hmn := zq2 (l := s.tasks) (fun t h => by have := hsm.2 t h; unfold mkLen; omega) s.tasks.length (by omega)
  have hes := wdv s s hs hs
  have hw : (sndV (flS s) b).way.length ≤ 60 := by
    unfold sndV
    split
    · split
      · assumption
      · simp
    · simp
  generalize mkP 1 s.tasks s.tasks.length = P at *
  generalize sndV (flS s) b = V at *
  generalize admC (flS s) b = q at *
  cases hgb : goodS s && inB 1 400 b with
  | false =>
    have e0 : vdPV ⟨0, 0, [], 0⟩ = .agg [I 0, I 0, .nil true 1, I 0] := rfl
    simp only [hgb, Bool.false_eq_true, if_false, e0] at h1 h2
    have v1 := wdy 0 0 0
    have v2 := wee 0 0 0 1 (by omega) (by omega)
    have v3 := we2 0 0 0 1 (by omega) (by omega)
    have v4 := wdz 0 0 0 [] (by simp)
    have v5 := we3 0 0 0 1 0 (by omega) (by omega) (by omega)
    rw [show markL 1 0 = [] from List.length_eq_zero_iff.1 (zop 1 0)] at v5
    simp only [ints, List.map_nil, Int.natCast_zero, Int.add_zero] at v4 v5
    simp (maxSteps := 2000000) (disch := first | omega | (simp only [lenS]; try omega)) only [go_sem, reduceAdd, reduceEqDiff, reduceLeDiff, reduceSub, hto, h1, h2, v1, hes, hmk, v2, v3, v4, v5]
  | true =>
    obtain ⟨vo, vk, vw, vd⟩ := V
    unfold vdPV at h1 h2
    by_cases hk : vk = 1 ∨ vk = 2
    · simp only [hgb, if_true, hk] at h1 h2
      have v1 := wdz vo vk vd vw (by simp only at hw; omega)
      have v2 := wef vo vk vd 1 vw (by simp only at hw; omega) (by omega) (by omega)
      have v3 := we3 vo vk vd 1 vw.length (by simp only at hw; omega) (by omega) (by omega)
      have hml := zop 1 vw.length
      simp only at hw
      simp (maxSteps := 2000000) (disch := first | omega | (simp only [lenS]; try omega)) only [go_sem, reduceAdd, reduceEqDiff, reduceLeDiff, reduceSub, hto, h1, h2, v1, hes, hmk, v2, v3, hml]
    · simp only [hgb, if_true, hk, if_false] at h1 h2
      have v1 := wdy vo vk vd
      have v2 := wee vo vk vd 1 (by omega) (by omega)
      have v3 := we2 vo vk vd 1 (by omega) (by omega)
      have v4 := wdz vo vk vd [] (by simp)
      have v5 := we3 vo vk vd 1 0 (by omega) (by omega) (by omega)
      rw [show markL 1 0 = [] from List.length_eq_zero_iff.1 (zop 1 0)] at v5
      simp only [ints, List.map_nil, Int.natCast_zero, Int.add_zero] at v4 v5
      simp (maxSteps := 2000000) (disch := first | omega | (simp only [lenS]; try omega)) only [go_sem, reduceAdd, reduceEqDiff, reduceLeDiff, reduceSub, hto, h1, h2, v1, hes, hmk, v2, v3, v4, v5]
end Go.Proofs.YtkkifebmicbbaaaGreat.Pi
