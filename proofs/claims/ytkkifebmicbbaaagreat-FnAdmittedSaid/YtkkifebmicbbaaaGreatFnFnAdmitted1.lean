/- The functions that the law reaches: what they answer. Conditions: those that each theorem names. -/
import Derived.Test.YtkkifebmicbbaaaGreatIrFnAdmitted
import Derived.Test.YtkkifebmicbbaaaGreatPlFnAdmitted
import Derived.Test.YtkkifebmicbbaaaGreatFnFnAdmitted0
namespace Go.Proofs.YtkkifebmicbbaaaGreat.Pi
open Go
set_option linter.all false
open Nat (reduceAdd reduceEqDiff reduceLeDiff reduceSub)
set_option maxHeartbeats 40000000
set_option maxRecDepth 20000
theorem wfm (n : Net) (start : List Int) (b : Int) (hm : zp8 n start = true) (hb : 1 ≤ b ∧ b ≤ 400) : C w99 [encN n, ints start, I b] [] = some (.tup [exPV (exAll n start b), I (w67 (exAll n start b))], []) := by
  obtain ⟨hg, hmk⟩ := zp9 hm
  have hn := zgv hg
  have hs := zgn hmk
  refine w2l ?_
  simp (maxSteps := 2000000) (disch := first | omega | (simp only [lenS]; try omega)) only [wdp, go_sem, reduceAdd, reduceEqDiff, reduceLeDiff, reduceSub]
  simp (maxSteps := 2000000) (disch := first | omega | (simp only [lenS]; try omega)) only [go_sem, reduceAdd, reduceEqDiff, reduceLeDiff, reduceSub, wf7 start (by omega)]
  generalize hR : exAll n start b = R
  refine z1a (fun d s => ∃ (k : Nat) (c : Ex), d + k = b.toNat + 1 ∧ ExOk n start b c ∧ c.code = 0 ∧ k ≤ c.sp.ms.length ∧ c.sp.ar.length ≤ 24 * k ∧ exRun n b (d + 1) k c = R ∧ ((s = ⟨[.any, .any, I b, .ptr 0 0, .ptr 1 0, .any, .ptr 2 0, I k, .any, .any, .any, .any, .any, .any, .any, .any, .any, .any, .any], [.box wfy [I n.pl, trs n.tr], .box wfz [.nil false 1, .nil true 3], .box wfz [.ref 3 1 0 c.sp.ms.length, .nil true 3], .row wg5 false 1 (c.sp.ms.map ints)]⟩ ∧ c.sp.ar = []) ∨ (s = ⟨[.any, .any, I b, .ptr 0 0, .ptr 1 0, .any, .ptr 2 0, I k, .any, .any, .any, .any, .any, .any, .any, .any, .any, .any, .any], [.box wfy [I n.pl, trs n.tr], .box wfz [.nil false 1, .nil true 3], .box wfz [.ref 3 1 0 c.sp.ms.length, .ref 4 3 0 c.sp.ar.length], .row wg5 false 1 (c.sp.ms.map ints), .row wfv true 3 (c.sp.ar.map encA)]⟩ ∧ c.sp.ar ≠ []))) (b.toNat + 1) ?_ ?_
  · refine ⟨0, ⟨⟨[start], []⟩, 0⟩, by omega, w68 hm hb.1, rfl, by omega, by simp, hR, .inl ⟨?_, rfl⟩⟩
    simp (maxSteps := 2000000) (disch := first | omega | (simp only [lenS]; try omega)) only [go_sem, reduceAdd, reduceEqDiff, reduceLeDiff, reduceSub]
    rfl
  · rintro d s ⟨k, c, hd, hok, hc0, hk, hal, hrun, hcs⟩
    have hlb := hok.lenb
    by_cases hkl : k < c.sp.ms.length
    · have hmem := zg7 hkl
      have hmg := zp9 (hok.good _ hmem)
      have hml := zgn hmg.2
      have en := wff n (c.sp.ms.getD k []) hg hml.2.2.1
      have hLl : (enabL n (c.sp.ms.getD k [])).length ≤ n.tr.length := zbd ..
      have er : exRun n b (d + 1) k c = exRun n b d (k + 1) (exL n b k c (enabL n (c.sp.ms.getD k []))) := by
        show (if c.code ≠ 0 then c else if k < c.sp.ms.length then _ else c) = _
        rw [if_neg (by omega), if_pos hkl]
      rw [er] at hrun
      have hen : ∀ t ∈ enabL n (c.sp.ms.getD k []), t ∈ enabL n (c.sp.ms.getD k []) := fun t h => h
      generalize hL : enabL n (c.sp.ms.getD k []) = L at *
      rcases hcs with ⟨rfl, har⟩ | ⟨rfl, har⟩
      all_goals
        simp (maxSteps := 2000000) (disch := first | omega | (simp only [lenS]; try omega)) only [go_sem, reduceAdd, reduceEqDiff, reduceLeDiff, reduceSub, zg8, en]
        refine W_for L.length (fun j s => ∃ c' : Ex, ExOk n start b c' ∧ c'.code = 0 ∧ k < c'.sp.ms.length ∧ enabL n (c'.sp.ms.getD k []) = L ∧ c'.sp.ar.length ≤ 24 * k + j ∧ exRun n b d (k + 1) (exL n b k c' (L.drop j)) = R ∧ ((s = ⟨[.any, .any, I b, .ptr 0 0, .ptr 1 0, .any, .ptr 2 0, I k, .any, .any, .any, .any, .ref 3 1 0 L.length, I L.length, I j, .any, .any, .any, .any], [.box wfy [I n.pl, trs n.tr], .box wfz [.nil false 1, .nil true 3], .box wfz [.ref 4 1 0 c'.sp.ms.length, .nil true 3], .row t_int true 1 (L.map I), .row wg5 false 1 (c'.sp.ms.map ints)]⟩ ∧ c'.sp.ar = []) ∨ (s = ⟨[.any, .any, I b, .ptr 0 0, .ptr 1 0, .any, .ptr 2 0, I k, .any, .any, .any, .any, .ref 3 1 0 L.length, I L.length, I j, .any, .any, .any, .any], [.box wfy [I n.pl, trs n.tr], .box wfz [.nil false 1, .nil true 3], .box wfz [.ref 4 1 0 c'.sp.ms.length, .ref 5 3 0 c'.sp.ar.length], .row t_int true 1 (L.map I), .row wg5 false 1 (c'.sp.ms.map ints), .row wfv true 3 (c'.sp.ar.map encA)]⟩ ∧ c'.sp.ar ≠ []))) ?_ ?_ ?_
        · refine ⟨c, hok, hc0, hkl, hL, by omega, hrun, ?_⟩
          first
          | refine .inl ⟨?_, har⟩
            simp (maxSteps := 2000000) (disch := first | omega | (simp only [lenS]; try omega)) only [go_sem, reduceAdd, reduceEqDiff, reduceLeDiff, reduceSub]
            done
          | refine .inl ⟨?_, har⟩
            simp (maxSteps := 2000000) (disch := first | omega | (simp only [lenS]; try omega)) only [go_sem, reduceAdd, reduceEqDiff, reduceLeDiff, reduceSub]
            rfl
          | refine .inr ⟨?_, har⟩
            simp (maxSteps := 2000000) (disch := first | omega | (simp only [lenS]; try omega)) only [go_sem, reduceAdd, reduceEqDiff, reduceLeDiff, reduceSub]
            done
          | refine .inr ⟨?_, har⟩
            simp (maxSteps := 2000000) (disch := first | omega | (simp only [lenS]; try omega)) only [go_sem, reduceAdd, reduceEqDiff, reduceLeDiff, reduceSub]
            rfl
        · rintro j s hj ⟨c', hok', hc0', hkl', hL', hal', hrun', hcs'⟩
          have hlb' := hok'.lenb
          have ht : L[j] ∈ enabL n (c'.sp.ms.getD k []) := by rw [hL']; exact List.getElem_mem hj
          obtain ⟨t1, t2, t3⟩ := zbf.1 ht
          have hT := hn.2.2.2 (trAt n L[j]) (by rw [← z19x t2]; exact List.getElem_mem _)
          have hm2 := zgn (zp9 (hok'.good _ (zg7 hkl'))).2
          have hx := zh1 hT hm2.2.2.1
          have hy := zh0 hT (by omega)
          have hfire := wfg (trAt n L[j]) (c'.sp.ms.getD k []) hx.1 hx.2.1 hx.2.2 ⟨by omega, by omega, by omega⟩ (by omega) hm2.2.2.2.2
          have hMl := ze9 (trAt n L[j]) (c'.sp.ms.getD k [])
          have hok2 := zcg hok' hkl' ht
          have hxs : ∀ x ∈ c'.sp.ms, x.length < 2^62 := fun x hx => by have := zgn (zp9 (hok'.good x hx)).2; omega
          rw [zc1 hj] at hrun'
          have f1 := zck (n := n) (b := b) (k := k) (s := c') (t := L[j]) hc0'
          have f2 := zch (n := n) (b := b) (k := k) (s := c') (t := L[j]) hc0'
          have f3 := zcd (n := n) (b := b) (k := k) (s := c') (t := L[j]) hc0'
          have f4 := zcf (n := n) (b := b) (k := k) (s := c') (t := L[j]) hc0'
          generalize hM : ze7 (trAt n L[j]) (c'.sp.ms.getD k []) = M at *
          have ck : C w88 [I n.pl, ints M] [] = some (.bool (M.all (inB 0 50)), []) := by
            rw [wei n.pl M (by omega)]
            have h9 : inB 1 16 n.pl = true := by simp [inB]; omega
            have h10 : ((M.length : Int) == n.pl) = true := by simp; omega
            simp only [goodM, h9, h10, Bool.true_and]
          have fd := wfn c'.sp.ms M (by omega) hxs
          have hsl : ∀ c2 : Ex, c2.code ≠ 0 → exRun n b d (k + 1) (exL n b k c2 (L.drop (j + 1))) = c2 := fun c2 h => by rw [zc3 h, zc8 h]
          cases ha : M.all (inB 0 50) with
          | false =>
            rw [f1 ha, hsl _ (by simp)] at hrun'
            subst hrun'
            rw [ha] at ck
            rcases hcs' with ⟨rfl, har'⟩ | ⟨rfl, har'⟩ <;> simp (maxSteps := 2000000) (disch := first | omega | (simp only [lenS]; try omega)) only [go_sem, reduceAdd, reduceEqDiff, reduceLeDiff, reduceSub, zg8, z19x, hfire, ck, exPV, w67]
          | true =>
            rw [ha] at ck
            by_cases h2 : 0 ≤ findM c'.sp.ms M
            · rw [f2 ha h2] at hrun' hok2
              rcases hcs' with ⟨rfl, har'⟩ | ⟨rfl, har'⟩
              · simp (maxSteps := 2000000) (disch := first | omega | (simp only [lenS]; try omega)) only [go_sem, reduceAdd, reduceEqDiff, reduceLeDiff, reduceSub, zg8, z19x, hfire, ck, fd]
                refine ⟨_, hok2, rfl, hkl', hL', by simp only [List.length_append, List.length_cons, List.length_nil]; omega, hrun', .inr ⟨?_, by simp⟩⟩
                simp [har']
              · simp (maxSteps := 2000000) (disch := first | omega | (simp only [lenS]; try omega)) only [go_sem, reduceAdd, reduceEqDiff, reduceLeDiff, reduceSub, zg8, z19x, hfire, ck, fd]
                refine ⟨_, hok2, rfl, hkl', hL', by simp only [List.length_append, List.length_cons, List.length_nil]; omega, hrun', .inr ⟨?_, by simp⟩⟩
                simp
            · by_cases h3 : b ≤ c'.sp.ms.length
              · rw [f3 ha h2 h3, hsl _ (by simp)] at hrun'
                subst hrun'
                rcases hcs' with ⟨rfl, har'⟩ | ⟨rfl, har'⟩ <;> simp (maxSteps := 2000000) (disch := first | omega | (simp only [lenS]; try omega)) only [go_sem, reduceAdd, reduceEqDiff, reduceLeDiff, reduceSub, zg8, z19x, hfire, ck, fd, exPV, w67]
              · rw [f4 ha h2 h3] at hrun' hok2
                rcases hcs' with ⟨rfl, har'⟩ | ⟨rfl, har'⟩
                · simp (maxSteps := 2000000) (disch := first | omega | (simp only [lenS]; try omega)) only [go_sem, reduceAdd, reduceEqDiff, reduceLeDiff, reduceSub, zg8, z19x, hfire, ck, fd]
                  refine ⟨_, hok2, rfl, by simp only [List.length_append]; omega, by simp only; rw [zg3 hkl']; exact hL', by simp only [List.length_append, List.length_cons, List.length_nil]; omega, hrun', .inr ⟨?_, by simp⟩⟩
                  simp [har']
                · simp (maxSteps := 2000000) (disch := first | omega | (simp only [lenS]; try omega)) only [go_sem, reduceAdd, reduceEqDiff, reduceLeDiff, reduceSub, zg8, z19x, hfire, ck, fd]
                  refine ⟨_, hok2, rfl, by simp only [List.length_append]; omega, by simp only; rw [zg3 hkl']; exact hL', by simp only [List.length_append, List.length_cons, List.length_nil]; omega, hrun', .inr ⟨?_, by simp⟩⟩
                  simp
        · rintro s ⟨c', hok', hc0', hkl', hL', hal', hrun', hcs'⟩
          rw [List.drop_length] at hrun'
          have hlb' := hok'.lenb
          rcases hcs' with ⟨rfl, har'⟩ | ⟨rfl, har'⟩
          · simp (maxSteps := 2000000) (disch := first | omega | (simp only [lenS]; try omega)) only [go_sem, reduceAdd, reduceEqDiff, reduceLeDiff, reduceSub]
            refine ⟨d - 1, by omega, k + 1, c', by omega, hok', hc0', by omega, by omega, by rw [show d - 1 + 1 = d by omega]; exact hrun', .inl ⟨rfl, har'⟩⟩
          · simp (maxSteps := 2000000) (disch := first | omega | (simp only [lenS]; try omega)) only [go_sem, reduceAdd, reduceEqDiff, reduceLeDiff, reduceSub]
            refine ⟨d - 1, by omega, k + 1, c', by omega, hok', hc0', by omega, by omega, by rw [show d - 1 + 1 = d by omega]; exact hrun', .inr ⟨rfl, har'⟩⟩
    · have er : exRun n b (d + 1) k c = c := by
        show (if c.code ≠ 0 then c else if k < c.sp.ms.length then _ else c) = _
        rw [if_neg (by omega), if_neg hkl]
      rw [er] at hrun
      subst hrun
      rcases hcs with ⟨rfl, har⟩ | ⟨rfl, har⟩
      · simp (maxSteps := 2000000) (disch := first | omega | (simp only [lenS]; try omega)) only [go_sem, reduceAdd, reduceEqDiff, reduceLeDiff, reduceSub]
        simp [exPV, w67, hc0, arcPV, har]
      · simp (maxSteps := 2000000) (disch := first | omega | (simp only [lenS]; try omega)) only [go_sem, reduceAdd, reduceEqDiff, reduceLeDiff, reduceSub]
        simp [exPV, w67, hc0, arcPV, har]
theorem wfo (ms : List (List Int)) (ar : List Arc3) (S : List Int) (hm : ms.length < 2^36) (hr : ar.length < 2^40) (hS : S.length < 2^40) (ha : z3v ar ms.length) (hk : ∀ k ∈ S, 0 ≤ k ∧ k < ms.length) :
    C w9b [.agg [rows ms, .sl true 3 (ar.map encA)], ints S] [] = some (.un wfu true 1 ((toL ar ms.length S).map PV.bool), []) := by
  refine w2n ?_
  simp (maxSteps := 2000000) (disch := first | omega | (simp only [lenS]; try omega)) only [wdr, go_sem, reduceAdd, reduceEqDiff, reduceLeDiff, reduceSub]
  generalize hn : ms.length = n at *
  refine W_for S.length (fun k s => s = ⟨[.any, .any, .ptr 0 0, .any, .ref 1 1 0 n, .any, .any, .any, ints S, I S.length, I k, .any, .any, .any, .any, .any, .any, .any], [.box wfz [rows ms, .sl true 3 (ar.map encA)], .row wfu true 1 ((putS (List.replicate n false) (S.take k)).map PV.bool)]⟩) ?_ ?_ ?_
  · simp (maxSteps := 2000000) (disch := first | omega | (simp only [lenS]; try omega)) only [go_sem, reduceAdd, reduceEqDiff, reduceLeDiff, reduceSub, hn]
    simp [putS]
  · rintro k s hk2 rfl
    have h1 := hk _ (List.getElem_mem hk2)
    have h2 : (putS (List.replicate n false) (S.take k)).length = n := by rw [zz2, List.length_replicate]
    rw [zz4 hk2]
    generalize putS (List.replicate n false) (S.take k) = c at *
    simp (maxSteps := 2000000) (disch := first | omega | (simp only [lenS]; try omega)) only [go_sem, reduceAdd, reduceEqDiff, reduceLeDiff, reduceSub, h2]
    rw [List.map_set]; rfl
  · rintro s rfl
    rw [List.take_length]
    have e1 : (putS (List.replicate n false) S).length = n := by rw [zz2, List.length_replicate]
    have e2 : hasS S (putS (List.replicate n false) S) := zz1 (fun k hk' => by have := hk k hk'; simp; omega)
    have e3 : sndB ar S (putS (List.replicate n false) S) := zz3 (fun k hk' => ⟨(hk k hk').1, hk'⟩) z16u
    generalize putS (List.replicate n false) S = c0 at *
    simp (maxSteps := 2000000) (disch := first | omega | (simp only [lenS]; try omega)) only [go_sem, reduceAdd, reduceEqDiff, reduceLeDiff, reduceSub]
    refine z1a (fun j s => ∃ c : List Bool, c.length = n ∧ hasS S c ∧ sndB ar S c ∧ ((j = cntF c + 1 ∧ s = ⟨[.any, .any, .ptr 0 0, .any, .ref 1 1 0 n, .any, .bool true, .any, .any, .any, .any, .any, .any, .any, .any, .any, .any, .any], [.box wfz [rows ms, .sl true 3 (ar.map encA)], .row wfu true 1 (c.map PV.bool)]⟩) ∨ (j = 0 ∧ clsB ar c ∧ s = ⟨[.any, .any, .ptr 0 0, .any, .ref 1 1 0 n, .any, .bool false, .any, .any, .any, .any, .any, .any, .any, .any, .any, .any, .any], [.box wfz [rows ms, .sl true 3 (ar.map encA)], .row wfu true 1 (c.map PV.bool)]⟩))) (cntF c0 + 1) ?_ ?_
    · refine ⟨c0, e1, e2, e3, .inl ⟨rfl, ?_⟩⟩
      simp (maxSteps := 2000000) (disch := first | omega | (simp only [lenS]; try omega)) only [go_sem, reduceAdd, reduceEqDiff, reduceLeDiff, reduceSub]
    · rintro j s ⟨c, h1, h2, h3, ⟨rfl, rfl⟩ | ⟨rfl, h4, rfl⟩⟩
      · simp (maxSteps := 2000000) (disch := first | omega | (simp only [lenS]; try omega)) only [go_sem, reduceAdd, reduceEqDiff, reduceLeDiff, reduceSub]
        refine W_for ar.length (fun k s => s = ⟨[.any, .any, .ptr 0 0, .any, .ref 1 1 0 n, .any, .bool (passK ar c k).2, .any, .any, .any, .any, .any, .any, .sl true 3 (ar.map encA), I ar.length, I k, .any, .any], [.box wfz [rows ms, .sl true 3 (ar.map encA)], .row wfu true 1 ((passK ar c k).1.map PV.bool)]⟩) ?_ ?_ ?_
        · simp (maxSteps := 2000000) (disch := first | omega | (simp only [lenS]; try omega)) only [go_sem, reduceAdd, reduceEqDiff, reduceLeDiff, reduceSub]
          rfl
        · rintro k s hk2 rfl
          obtain ⟨a1, a2, a3, a4⟩ := ha _ (List.getElem_mem hk2)
          have hl := zx8 (ar := ar) (c := c) k
          have y := zxb (c := c) hk2
          have z := zx9 (c := c) hk2
          generalize passK ar c (k + 1) = P' at *
          generalize passK ar c k = P at *
          obtain ⟨d, m⟩ := P
          simp only at hl y z
          generalize hA : ar[k] = a at *
          have g1 : d[a.dst.toNat]? = some (d[a.dst.toNat]'(by omega)) := List.getElem?_eq_getElem (by omega)
          have g2 : d[a.src.toNat]? = some (d[a.src.toNat]'(by omega)) := List.getElem?_eq_getElem (by omega)
          rw [g1, g2] at y z
          generalize d[a.dst.toNat]'(by omega) = bd at *
          generalize d[a.src.toNat]'(by omega) = bs at *
          simp (maxSteps := 2000000) (disch := first | omega | (simp only [lenS]; try omega)) only [go_sem, reduceAdd, reduceEqDiff, reduceLeDiff, reduceSub, hA, hl, g1, g2]
          refine ⟨fun e => ⟨fun e2 => ?_, fun e2 => ?_⟩, fun e => ?_⟩
          · rw [z (by simp [e2])]; rfl
          · rw [y (by rw [e]) (by rw [e2])]; rfl
          · rw [z (by simp [e])]; rfl
        · rintro s rfl
          simp (maxSteps := 2000000) (disch := first | omega | (simp only [lenS]; try omega)) only [go_sem, reduceAdd, reduceEqDiff, reduceLeDiff, reduceSub]
          have p1 := zx5 (ar := ar) (c := c) ar.length
          have p2 := zx8 (ar := ar) (c := c) ar.length
          have p3 := zx7 (ar := ar) h2 ar.length
          have p4 := zxa ha h3 ar.length
          have p5 := zx4 h1 ha
          generalize passK ar c ar.length = P at *
          obtain ⟨d, m⟩ := P
          simp only at p1 p2 p3 p4 p5 ⊢
          cases m with
          | true => exact ⟨cntF d + 1, by have := p1.2.1 rfl; omega, d, by omega, p3, p4, .inl ⟨rfl, rfl⟩⟩
          | false => exact ⟨0, by omega, c, h1, h2, h3, .inr ⟨rfl, p5 rfl, by rw [p1.2.2 rfl]⟩⟩
      · simp (maxSteps := 2000000) (disch := first | omega | (simp only [lenS]; try omega)) only [go_sem, reduceAdd, reduceEqDiff, reduceLeDiff, reduceSub, h1]
        rw [z19v h1 hk h3 h2 h4]
theorem wfp (ms : List (List Int)) (ar : List Arc3) (p : Nat) (hm : ms.length < 2^30) (hr : ar.length < 2^35) (hb : Bfs ar ms.length) (hp : p < ms.length) :
    C w9c [.agg [rows ms, .sl true 3 (ar.map encA)], I p] [] = some (.un t_int true 1 ((tw ar p).map I), []) := by
  have hA := hb.inn
  refine w2o ?_
  simp (maxSteps := 2000000) (disch := first | omega | (simp only [lenS]; try omega)) only [wds, go_sem, reduceAdd, reduceEqDiff, reduceLeDiff, reduceSub]
  generalize hn : ms.length = n at *
  refine W_for n (fun k s => s = ⟨[.any, I p, .ptr 0 0, .any, .ref 1 1 0 n, .any, .any, .any, .any, .any, .any, .any, I n, I k, .any, .any, .any, .any, .any, .any, .any, .any, .any, .any, .any, .any, .any], [.box wfz [rows ms, .sl true 3 (ar.map encA)], .row t_int true 1 ((List.replicate k (-1 : Int) ++ List.replicate (n - k) 0).map I)]⟩) ?_ ?_ ?_
  · simp (maxSteps := 2000000) (disch := first | omega | (simp only [lenS]; try omega)) only [go_sem, reduceAdd, reduceEqDiff, reduceLeDiff, reduceSub, hn]
    simp
  · rintro k s hk rfl
    have e1 : (List.replicate k (-1 : Int) ++ List.replicate (n - k) 0).length = n := by simp; omega
    have e2 : List.replicate (k + 1) (-1 : Int) ++ List.replicate (n - (k + 1)) 0 = (List.replicate k (-1 : Int) ++ List.replicate (n - k) 0).set k (-1) := by
      rw [List.set_append, if_neg (by simp), List.length_replicate, Nat.sub_self, show n - k = (n - (k + 1)) + 1 by omega, List.replicate_succ (n := n - (k + 1)), List.set_cons_zero, List.replicate_succ' (n := k)]
      simp
    rw [e2]
    generalize List.replicate k (-1 : Int) ++ List.replicate (n - k) 0 = c at *
    simp (maxSteps := 2000000) (disch := first | omega | (simp only [lenS]; try omega)) only [go_sem, reduceAdd, reduceEqDiff, reduceLeDiff, reduceSub, e1]
    rw [List.map_set]; rfl
  · rintro s rfl
    have hst := FQ.start (ar := ar) (p := (p : Int)) (n := n) hA (by omega)
    have hbs := z6l hp
    have e1 : (List.replicate n (-1 : Int)).length = n := List.length_replicate
    rw [Nat.sub_self, List.replicate_zero, List.append_nil]
    have e2 : (List.replicate n (-1 : Int)).set p 0 = (List.replicate n (-1 : Int)).set (p : Int).toNat 0 := rfl
    rw [Int.toNat_natCast] at hst
    generalize List.replicate n (-1 : Int) = F0 at *
    simp (maxSteps := 2000000) (disch := first | omega | (simp only [lenS]; try omega)) only [go_sem, reduceAdd, reduceEqDiff, reduceLeDiff, reduceSub, e1]
    refine z1a (fun j s => ∃ (F q : List Int) (V : PV) (K : Blk), ((V = .ref 2 1 0 q.length ∧ K = .row t_int true 1 (q.map I)) ∨ ∃ pre : List Int, V = .qref 2 1 pre.length q.length ∧ K = .que t_int 1 ((pre ++ q).map I)) ∧ FQ ar p n F q (fun _ => False) ∧ bndF n F ∧ j = cntU F + q.length ∧ q.length + cntU F ≤ 2^31 ∧ s = ⟨[.any, I p, .ptr 0 0, .any, .ref 1 1 0 n, .any, V, .any, .any, .any, .any, .any, .any, .any, .any, .any, .any, .any, .any, .any, .any, .any, .any, .any, .any, .any, .any], [.box wfz [rows ms, .sl true 3 (ar.map encA)], .row t_int true 1 (F.map I), K]⟩) (cntU (F0.set p 0) + 1) ?_ ?_
    · refine ⟨_, [(p : Int)], _, _, .inl ⟨rfl, rfl⟩, hst, hbs, rfl, ?_, ?_⟩
      · have : cntU (F0.set p 0) ≤ (F0.set p 0).length := List.countP_le_length
        rw [List.length_set] at this
        simp only [List.length_cons, List.length_nil]; omega
      · simp (maxSteps := 2000000) (disch := first | omega | (simp only [lenS]; try omega)) only [go_sem, reduceAdd, reduceEqDiff, reduceLeDiff, reduceSub]
        first | done | (rw [List.map_set]; rfl)
    · rintro j s ⟨F, q, V, K, hV, hF, hbd, rfl, hle, rfl⟩
      have hFl := hF.len
      cases q with
      | nil =>
        have hfar := hF.end_ hA (by omega)
        have h00 : 0 < n := by omega
        obtain ⟨d0, hd0, hdn⟩ := hfar.begin_ hb hp
        have hnn := hfar.nonneg
        rcases hV with ⟨rfl, rfl⟩ | ⟨pre, rfl, rfl⟩
        all_goals
          simp (maxSteps := 2000000) (disch := first | omega | (simp only [lenS]; try omega)) only [go_sem, reduceAdd, reduceEqDiff, reduceLeDiff, reduceSub]
          refine z1a (fun j s => ∃ (t : Nat) (W : List Int), t < n ∧ F[t]? = some (j : Int) ∧ W.length + j ≤ d0 ∧ (∀ V, Gd ar F p t V → Gd ar F p 0 (W ++ V)) ∧ s = ⟨[.any, I p, .ptr 0 0, .any, .ref 1 1 0 n, .any, .any, .any, .any, .ref 2 1 0 W.length, I t, .any, .any, .any, .any, .any, .any, .any, .any, .any, .any, .any, .any, .any, .any, .any, .any], [.box wfz [rows ms, .sl true 3 (ar.map encA)], .row t_int true 1 (F.map I), .row t_int true 1 (W.map I)]⟩) d0 ?_ ?_
          · refine ⟨0, [], h00, hd0, by simp, fun V h => h, ?_⟩
            simp (maxSteps := 2000000) (disch := first | omega | (simp only [lenS]; try omega)) only [go_sem, reduceAdd, reduceEqDiff, reduceLeDiff, reduceSub]
            first | done | rfl
          · rintro j s ⟨t, W, ht, hFt, hWj, hG, rfl⟩
            by_cases htp : t = p
            · subst htp
              have hW := gd_tw hb hp hfar (by simpa using hG [] .refl)
              subst hW
              simp (maxSteps := 2000000) (disch := first | omega | (simp only [lenS]; try omega)) only [go_sem, reduceAdd, reduceEqDiff, reduceLeDiff, reduceSub]
            · obtain ⟨i0, hi0, hs0, hf0⟩ := hfar.near hA ht htp hFt
              have hj0 := hfar.pos ht htp hFt
              have htp2 : ¬ ((t : Int) = (p : Int)) := by omega
              simp (maxSteps := 2000000) (disch := first | omega | (simp only [lenS]; try omega)) only [go_sem, reduceAdd, reduceEqDiff, reduceLeDiff, reduceSub, htp2]
              refine W_for ar.length (fun k s => (∀ i, i < k → ∀ hi : i < ar.length, ar[i].src = t → F[ar[i].dst.toNat]? ≠ some ((j : Int) - 1)) ∧ s = ⟨[.any, I p, .ptr 0 0, .any, .ref 1 1 0 n, .any, .any, .any, .any, .ref 2 1 0 W.length, I t, .any, .any, .any, .any, .any, .any, .any, .any, .any, .any, .any, .sl true 3 (ar.map encA), I ar.length, I k, .any, .any], [.box wfz [rows ms, .sl true 3 (ar.map encA)], .row t_int true 1 (F.map I), .row t_int true 1 (W.map I)]⟩) ?_ ?_ ?_
              · simp (maxSteps := 2000000) (disch := first | omega | (simp only [lenS]; try omega)) only [go_sem, reduceAdd, reduceEqDiff, reduceLeDiff, reduceSub]
                exact ⟨fun i hi => by omega, rfl⟩
              · rintro k s hk ⟨hno, rfl⟩
                obtain ⟨a1, a2, a3, a4⟩ := hA _ (List.getElem_mem hk)
                have hlt : ar[k].dst.toNat < F.length := by omega
                obtain ⟨u, g1⟩ : ∃ u, F[ar[k].dst.toNat]? = some u := ⟨_, List.getElem?_eq_getElem hlt⟩
                clear hlt
                have hmore : (ar[k].src = t → F[ar[k].dst.toNat]? ≠ some ((j : Int) - 1)) → ∀ i, i < k + 1 → ∀ hi : i < ar.length, ar[i].src = t → F[ar[i].dst.toNat]? ≠ some ((j : Int) - 1) := by
                  intro h i hi hi2 hs
                  by_cases e : i = k
                  · subst e; exact h hs
                  · exact hno i (by omega) hi2 hs
                have htake : ar[k].src = t → F[ar[k].dst.toNat]? = some ((j : Int) - 1) → ∀ V, Gd ar F p ar[k].dst.toNat V → Gd ar F p 0 ((W ++ [ar[k].by_]) ++ V) := by
                  intro hs hf V hV
                  rw [List.append_assoc]
                  refine hG _ (.step htp hk hs (fun u v hu hv => ?_) (fun i hi hs2 u v hu hv e => ?_) hV)
                  · rw [hf] at hu; rw [hFt] at hv
                    have e1 := Option.some.inj hu; have e2 := Option.some.inj hv; omega
                  · rw [hFt] at hv
                    have e2 := Option.some.inj hv
                    exact hno i hi (by omega) hs2 (by rw [hu, e, ← e2])
                rw [g1] at hmore htake
                generalize hak : ar[k] = a at *
                simp (maxSteps := 2000000) (disch := first | omega | (simp only [lenS]; try omega)) only [go_sem, reduceAdd, reduceEqDiff, reduceLeDiff, reduceSub, hak, hFt, g1, hFl]
                refine ⟨fun e => ⟨fun e2 => ?_, fun e2 => ?_⟩, fun e => ?_⟩
                · refine ⟨j - 1, by omega, a.dst.toNat, W ++ [a.by_], by omega, by rw [g1, e2]; congr 1; omega, by simp only [List.length_append, List.length_cons, List.length_nil]; omega, htake e (by rw [e2]), ?_⟩
                  rw [List.map_append, List.length_append, Int.toNat_of_nonneg a3]; rfl
                · exact ⟨hmore (fun _ h => e2 (Option.some.inj h)), rfl⟩
                · exact ⟨hmore (fun h => (e h).elim), rfl⟩
              · rintro s ⟨hno, rfl⟩
                exact (hno i0 hi0 hi0 hs0 hf0).elim
      | cons x q =>
        obtain ⟨d, hw⟩ := hF.look
        have hpos := hw.pos
        simp only [List.length_cons] at hle
        rcases hV with ⟨rfl, rfl⟩ | ⟨pre, rfl, rfl⟩
        · simp (maxSteps := 2000000) (disch := first | omega | (simp only [lenS]; try omega)) only [go_sem, reduceAdd, reduceEqDiff, reduceLeDiff, reduceSub, Int.toNat_zero, List.getElem_cons_zero, Int.toNat_one, Nat.add_sub_cancel]
          obtain ⟨P, hP⟩ : ∃ P : List Int, P = [x] := ⟨_, rfl⟩
          refine W_for ar.length (fun m s => ∃ (F' pre' q' : List Int), FW ar p n x d m F' q' ∧ bndF n F' ∧ cntU F' + q'.length ≤ cntU F + q.length ∧ s = ⟨[.any, I p, .ptr 0 0, .any, .ref 1 1 0 n, .any, .qref 2 1 pre'.length q'.length, I x, .any, .any, .any, .any, .any, .any, .any, .any, .sl true 3 (ar.map encA), I ar.length, I m, .any, .any, .any, .any, .any, .any, .any, .any], [.box wfz [rows ms, .sl true 3 (ar.map encA)], .row t_int true 1 (F'.map I), .que t_int 1 ((pre' ++ q').map I)]⟩) ?_ ?_ ?_
          · refine ⟨F, P, q, hw, hbd, Nat.le_refl _, ?_⟩
            simp (maxSteps := 2000000) (disch := first | omega | (simp only [lenS]; try omega)) only [go_sem, reduceAdd, reduceEqDiff, reduceLeDiff, reduceSub]
            rw [hP]
            first
              | rfl
              | (rw [List.length_append, hL]; rfl)
          · rintro m s hm2 ⟨F', pre', q', h1, h2, h3, rfl⟩
            obtain ⟨a1, a2, a3, a4⟩ := hA _ (List.getElem_mem hm2)
            have hFl' := h1.len
            have hlt : ar[m].src.toNat < F'.length := by omega
            obtain ⟨u, g1⟩ : ∃ u, F'[ar[m].src.toNat]? = some u := ⟨_, List.getElem?_eq_getElem hlt⟩
            clear hlt
            have g2 := h1.at_
            have hdb := h2 _ _ g2
            have hu := h1.val _ _ g1
            have o1 := h1.old hm2
            have o2 := h1.new hA hm2
            have hcs := z9u (F := F') (k := ar[m].src.toNat) (v := (d : Int) + 1)
            have hbs := z6k (y := ar[m].src.toNat) h2 g2
            have hdrop : ((pre' ++ q').map I).drop pre'.length = q'.map I := by rw [← List.map_drop, List.drop_left]
            have hLl : (pre' ++ q').length = pre'.length + q'.length := List.length_append
            generalize hL' : pre' ++ q' = L' at *
            generalize hak : ar[m] = a at *
            simp (maxSteps := 2000000) (disch := first | omega | (simp only [lenS]; try omega)) only [go_sem, reduceAdd, reduceEqDiff, reduceLeDiff, reduceSub, hak, g1, g2, hFl', hLl, hdrop]
            refine ⟨fun e => ⟨fun hneg => ?_, fun hp' => ?_⟩, fun e => ?_⟩
            · have hu1 : u = -1 := by rcases hu with h | ⟨d', h, _⟩ <;> omega
              subst hu1
              have := hcs g1 (by omega)
              refine ⟨_, [], q' ++ [a.src], o2 e g1, hbs g1, by rw [List.length_append]; simp only [List.length_cons, List.length_nil]; omega, ?_⟩
              rw [List.nil_append, List.map_append, List.map_set, List.length_append]; rfl
            · exact ⟨F', pre', q', o1 (fun _ => ⟨u, g1, hp'⟩), h2, h3, by rw [hL']; rfl⟩
            · exact ⟨F', pre', q', o1 (fun h => (e h).elim), h2, h3, by rw [hL']; rfl⟩
          · rintro s ⟨F', pre', q', h1, h2, h3, rfl⟩
            simp (maxSteps := 2000000) (disch := first | omega | (simp only [lenS]; try omega)) only [go_sem, reduceAdd, reduceEqDiff, reduceLeDiff, reduceSub]
            exact ⟨cntU F' + q'.length, by omega, F', q', _, _, .inr ⟨pre', rfl, rfl⟩, h1.next, h2, rfl, by omega, rfl⟩
        · have hx : (pre ++ x :: q)[pre.length]? = some x := by simp
          have hLl : (pre ++ x :: q).length = pre.length + q.length + 1 := by simp; omega
          have hL : (pre ++ x :: q) = (pre ++ [x]) ++ q := by simp
          obtain ⟨P, hP⟩ : ∃ P : List Int, P = pre ++ [x] := ⟨_, rfl⟩
          generalize pre ++ x :: q = L at *
          have hx' : L[pre.length]'(by omega) = x := by rw [List.getElem?_eq_getElem (by omega)] at hx; exact Option.some.inj hx
          simp (maxSteps := 2000000) (disch := first | omega | (simp only [lenS]; try omega)) only [go_sem, reduceAdd, reduceEqDiff, reduceLeDiff, reduceSub, Int.toNat_zero, hx, hx', hLl, Int.toNat_one, Nat.add_sub_cancel]
          refine W_for ar.length (fun m s => ∃ (F' pre' q' : List Int), FW ar p n x d m F' q' ∧ bndF n F' ∧ cntU F' + q'.length ≤ cntU F + q.length ∧ s = ⟨[.any, I p, .ptr 0 0, .any, .ref 1 1 0 n, .any, .qref 2 1 pre'.length q'.length, I x, .any, .any, .any, .any, .any, .any, .any, .any, .sl true 3 (ar.map encA), I ar.length, I m, .any, .any, .any, .any, .any, .any, .any, .any], [.box wfz [rows ms, .sl true 3 (ar.map encA)], .row t_int true 1 (F'.map I), .que t_int 1 ((pre' ++ q').map I)]⟩) ?_ ?_ ?_
          · refine ⟨F, P, q, hw, hbd, Nat.le_refl _, ?_⟩
            simp (maxSteps := 2000000) (disch := first | omega | (simp only [lenS]; try omega)) only [go_sem, reduceAdd, reduceEqDiff, reduceLeDiff, reduceSub]
            rw [hP]
            first
              | rfl
              | (rw [List.length_append, hL]; rfl)
          · rintro m s hm2 ⟨F', pre', q', h1, h2, h3, rfl⟩
            obtain ⟨a1, a2, a3, a4⟩ := hA _ (List.getElem_mem hm2)
            have hFl' := h1.len
            have hlt : ar[m].src.toNat < F'.length := by omega
            obtain ⟨u, g1⟩ : ∃ u, F'[ar[m].src.toNat]? = some u := ⟨_, List.getElem?_eq_getElem hlt⟩
            clear hlt
            have g2 := h1.at_
            have hdb := h2 _ _ g2
            have hu := h1.val _ _ g1
            have o1 := h1.old hm2
            have o2 := h1.new hA hm2
            have hcs := z9u (F := F') (k := ar[m].src.toNat) (v := (d : Int) + 1)
            have hbs := z6k (y := ar[m].src.toNat) h2 g2
            have hdrop : ((pre' ++ q').map I).drop pre'.length = q'.map I := by rw [← List.map_drop, List.drop_left]
            have hLl : (pre' ++ q').length = pre'.length + q'.length := List.length_append
            generalize hL' : pre' ++ q' = L' at *
            generalize hak : ar[m] = a at *
            simp (maxSteps := 2000000) (disch := first | omega | (simp only [lenS]; try omega)) only [go_sem, reduceAdd, reduceEqDiff, reduceLeDiff, reduceSub, hak, g1, g2, hFl', hLl, hdrop]
            refine ⟨fun e => ⟨fun hneg => ?_, fun hp' => ?_⟩, fun e => ?_⟩
            · have hu1 : u = -1 := by rcases hu with h | ⟨d', h, _⟩ <;> omega
              subst hu1
              have := hcs g1 (by omega)
              refine ⟨_, [], q' ++ [a.src], o2 e g1, hbs g1, by rw [List.length_append]; simp only [List.length_cons, List.length_nil]; omega, ?_⟩
              rw [List.nil_append, List.map_append, List.map_set, List.length_append]; rfl
            · exact ⟨F', pre', q', o1 (fun _ => ⟨u, g1, hp'⟩), h2, h3, by rw [hL']; rfl⟩
            · exact ⟨F', pre', q', o1 (fun h => (e h).elim), h2, h3, by rw [hL']; rfl⟩
          · rintro s ⟨F', pre', q', h1, h2, h3, rfl⟩
            simp (maxSteps := 2000000) (disch := first | omega | (simp only [lenS]; try omega)) only [go_sem, reduceAdd, reduceEqDiff, reduceLeDiff, reduceSub]
            exact ⟨cntU F' + q'.length, by omega, F', q', _, _, .inr ⟨pre', rfl, rfl⟩, h1.next, h2, rfl, by omega, rfl⟩
theorem wet (a b : List Int) (hl : a.length = b.length) (hb : b.length < 2^62) : C w8j [ints a, ints b] [] = some (.bool (zaf a b), []) := by
  refine w25 ?_
  simp (maxSteps := 2000000) (disch := first | omega | (simp only [lenS]; try omega)) only [wcz, go_sem, reduceAdd, reduceEqDiff, reduceLeDiff, reduceSub]
  refine W_for b.length (fun k s => s = ⟨[ints a, .any, .any, .any, .any, ints b, I b.length, I k, .any, .any], []⟩ ∧ ((a.zip b).take k).all (fun p => decide (p.2 ≤ p.1)) = true) ?_ ?_ ?_
  · simp (maxSteps := 2000000) (disch := first | omega | (simp only [lenS]; try omega)) only [go_sem, reduceAdd, reduceEqDiff, reduceLeDiff, reduceSub]
    rfl
  · rintro k s hk ⟨rfl, hall⟩
    simp (maxSteps := 2000000) (disch := first | omega | (simp only [lenS]; try omega)) only [go_sem, reduceAdd, reduceEqDiff, reduceLeDiff, reduceSub]
    have hz : k < (a.zip b).length := by simp; omega
    refine ⟨fun h => ?_, fun h => ⟨rfl, z2s hz hall (by simp; omega)⟩⟩
    have : zaf a b = false := z2r hz (by simp; omega)
    rw [this]
  · rintro s ⟨rfl, hall⟩
    simp (maxSteps := 2000000) (disch := first | omega | (simp only [lenS]; try omega)) only [go_sem, reduceAdd, reduceEqDiff, reduceLeDiff, reduceSub]
    rw [List.take_of_length_le (by simp; omega)] at hall
    unfold zaf
    rw [hall]
theorem wfl (ms : List (List Int)) (ar : List Arc3) (n : Net) (hr : ar.length < 2^35) (ht : n.tr.length < 2^20) : C w98 [encN n, .agg [rows ms, .sl true 3 (ar.map encA)]] [] = some (.un t_int true 1 ((deadK ar n.tr.length).map I), []) := by
  refine w2k ?_
  simp (maxSteps := 2000000) (disch := first | omega | (simp only [lenS]; try omega)) only [wdo, go_sem, reduceAdd, reduceEqDiff, reduceLeDiff, reduceSub]
  refine W_for n.tr.length (fun k s => s = ⟨[.any, .any, .any, .ptr 0 0, .any, .ref 1 1 0 (deadK ar k).length, .any, .any, .any, I n.tr.length, I k, .any, .any, .any, .any, .any, .any], [.box wfz [rows ms, .sl true 3 (ar.map encA)], .row t_int true 1 ((deadK ar k).map I)]⟩) ?_ ?_ ?_
  · simp (maxSteps := 2000000) (disch := first | omega | (simp only [lenS]; try omega)) only [go_sem, reduceAdd, reduceEqDiff, reduceLeDiff, reduceSub]
    rfl
  · rintro k s hk rfl
    have hl := zai ar k
    have hst := zaj ar k
    rw [hst]
    generalize deadK ar k = D at *
    simp (maxSteps := 2000000) (disch := first | omega | (simp only [lenS]; try omega)) only [go_sem, reduceAdd, reduceEqDiff, reduceLeDiff, reduceSub]
    refine W_for ar.length (fun j s => s = ⟨[.any, .any, .any, .ptr 0 0, .any, .ref 1 1 0 D.length, I k, .bool ((ar.take j).any fun a => decide (a.by_ = (k : Int))), .any, I n.tr.length, I k, .any, .sl true 3 (ar.map encA), I ar.length, I j, .any, .any], [.box wfz [rows ms, .sl true 3 (ar.map encA)], .row t_int true 1 (D.map I)]⟩) ?_ ?_ ?_
    · simp (maxSteps := 2000000) (disch := first | omega | (simp only [lenS]; try omega)) only [go_sem, reduceAdd, reduceEqDiff, reduceLeDiff, reduceSub]
      rfl
    · rintro j s hj rfl
      have e1 : (ar.take (j + 1)).any (fun a => decide (a.by_ = (k : Int))) = ((ar.take j).any (fun a => decide (a.by_ = (k : Int))) || decide (ar[j].by_ = (k : Int))) := by
        rw [List.take_succ_eq_append_getElem hj, List.any_append]; simp
      rw [e1]
      generalize (ar.take j).any (fun a => decide (a.by_ = (k : Int))) = q at *
      generalize hA : ar[j] = a at *
      cases q with
      | true =>
        simp (maxSteps := 2000000) (disch := first | omega | (simp only [lenS]; try omega)) only [go_sem, reduceAdd, reduceEqDiff, reduceLeDiff, reduceSub, hA]
        first | done | rfl | simp
      | false =>
        simp (maxSteps := 2000000) (disch := first | omega | (simp only [lenS]; try omega)) only [go_sem, reduceAdd, reduceEqDiff, reduceLeDiff, reduceSub, hA]
        first | done | rfl | (by_cases h : a.by_ = (k : Int) <;> simp [h])
    · rintro s rfl
      rw [List.take_length]
      cases ha : ar.any fun a => decide (a.by_ = (k : Int)) with
      | true =>
        simp (maxSteps := 2000000) (disch := first | omega | (simp only [lenS]; try omega)) only [go_sem, reduceAdd, reduceEqDiff, reduceLeDiff, reduceSub]
        simp
      | false =>
        simp (maxSteps := 2000000) (disch := first | omega | (simp only [lenS]; try omega)) only [go_sem, reduceAdd, reduceEqDiff, reduceLeDiff, reduceSub]
        simp
  · rintro s rfl
    simp (maxSteps := 2000000) (disch := first | omega | (simp only [lenS]; try omega)) only [go_sem, reduceAdd, reduceEqDiff, reduceLeDiff, reduceSub]
def vdPV (v : Vd) : PV := .agg [I v.ok, I v.kind, if v.kind = 1 ∨ v.kind = 2 then .un t_int true 1 (v.way.map I) else .nil true 1, I v.dead]
theorem wfr (f : Fl) (ms : List (List Int)) (ar : List Arc3) (hg : zgg f = true) (hm : ms.length < 2^30) (hr : ar.length < 2^35) (hb : Bfs ar ms.length) (h0 : 0 < ms.length) (hxs : ∀ x ∈ ms, x.length = f.net.pl.toNat) :
    C w9e [encF f, .agg [rows ms, .sl true 3 (ar.map encA)]] [] = some (vdPV (chkV f.net.tr.length ms ar (oneM f.net.pl.toNat f.dst)), []) := by
  have he := wft f hg
  obtain ⟨g1, g2, g3, _⟩ := zgj hg
  have hn := zgv g1
  have hEl : (oneM f.net.pl.toNat f.dst).length = f.net.pl.toNat := by simp [oneM]
  have hdd := wfl ms ar f.net hr (by omega)
  have hdl := zai ar f.net.tr.length
  unfold chkV
  generalize oneM f.net.pl.toNat f.dst = E at *
  generalize oneM f.net.pl.toNat f.src = E0 at *
  generalize deadK ar f.net.tr.length = D at *
  have fd := wfn ms E (by omega) (fun x hx => by have := hxs x hx; omega)
  have hfg := fun h => (zdx (l := ms) (m := E) h).1
  have hS : ∀ k ∈ endS ms E, 0 ≤ k ∧ k < ms.length := by
    intro k hk
    unfold endS at hk
    split at hk
    · rename_i h
      have := hfg h
      rw [List.mem_singleton] at hk
      omega
    · simp at hk
  have hto := wfo ms ar (endS ms E) (by omega) (by omega) (by unfold endS; split <;> simp) hb.inn hS
  have hcl := z19u ar ms.length (endS ms E)
  have hway := fun p hp => wfp ms ar p hm hr hb hp
  have hend : endS ms E = if 0 ≤ findM ms E then [findM ms E] else [] := rfl
  generalize endS ms E = S at *
  generalize findM ms E = z at *
  generalize toL ar ms.length S = c at *
  generalize hV : (if 0 ≤ idxI c (fun x => x == false) then (⟨2, 1, tw ar (idxI c (fun x => x == false)).toNat, 0⟩ : Vd) else if 0 ≤ idxI ms (fun m => overB m E) then ⟨2, 2, tw ar (idxI ms (fun m => overB m E)).toNat, 0⟩ else if 0 < D.length then ⟨2, 3, [], D.getD 0 0⟩ else ⟨1, 0, [], 0⟩) = V
  by_cases hz : 0 ≤ z
  · rw [if_pos hz] at hend
    subst hend
    simp only [ints, List.map_cons, List.map_nil] at hto
    refine w2q ?_
    simp (maxSteps := 2000000) (disch := first | omega | (simp only [lenS]; try omega)) only [wdu, go_sem, reduceAdd, reduceEqDiff, reduceLeDiff, reduceSub]
    simp (maxSteps := 2000000) (disch := first | omega | (simp only [lenS]; try omega)) only [go_sem, reduceAdd, reduceEqDiff, reduceLeDiff, reduceSub, he, fd, hz, hto]
    refine W_for c.length (fun k s => s = ⟨[.any, .any, .ptr 0 0, .ptr 1 0, .ptr 2 0, .ref 3 1 0 E.length, .any, .any, .any, .any, .any, .any, .any, .any, .ref 4 1 0 c.length, I c.length, I k, .any, .any, .any, .any, .any, .any, .any, .any], [.box wfw [I f.net.pl, trs f.net.tr, I f.src, I f.dst], .box wfz [rows ms, .sl true 3 (ar.map encA)], .box wg3 [I 0, I 0, .nil true 1, I 0], .row t_int true 1 (E.map I), .row wfu true 1 (c.map PV.bool)]⟩ ∧ (c.take k).any (fun x => x == false) = false) ?_ ?_ ?_
    · simp (maxSteps := 2000000) (disch := first | omega | (simp only [lenS]; try omega)) only [go_sem, reduceAdd, reduceEqDiff, reduceLeDiff, reduceSub]
      simp
    · rintro k s hk ⟨rfl, h0⟩
      have e1 := z37 (p := fun x : Bool => x == false) hk h0
      have e2 := fun h => zhy (p := fun x : Bool => x == false) hk h0 h
      have e3 : c[k]? = some c[k] := List.getElem?_eq_getElem hk
      generalize c[k] = b at *
      cases b with
      | true =>
        simp (maxSteps := 2000000) (disch := first | omega | (simp only [lenS]; try omega)) only [go_sem, reduceAdd, reduceEqDiff, reduceLeDiff, reduceSub, e3]
        exact ⟨rfl, e1 rfl⟩
      | false =>
        have hw := hway k (by omega)
        simp (maxSteps := 2000000) (disch := first | omega | (simp only [lenS]; try omega)) only [go_sem, reduceAdd, reduceEqDiff, reduceLeDiff, reduceSub, e3, hw]
        rw [← hV, e2 rfl, if_pos (by omega), Int.toNat_natCast]; rfl
    · rintro s ⟨rfl, h0⟩
      rw [List.take_length] at h0
      have n1 := zhx h0
      simp (maxSteps := 2000000) (disch := first | omega | (simp only [lenS]; try omega)) only [go_sem, reduceAdd, reduceEqDiff, reduceLeDiff, reduceSub]
      refine W_for ms.length (fun k s => s = ⟨[.any, .any, .ptr 0 0, .ptr 1 0, .ptr 2 0, .ref 3 1 0 E.length, .any, .any, .any, .any, .any, .any, .any, .any, .any, .any, .any, .any, .any, rows ms, I ms.length, I k, .any, .any, .any], [.box wfw [I f.net.pl, trs f.net.tr, I f.src, I f.dst], .box wfz [rows ms, .sl true 3 (ar.map encA)], .box wg3 [I 0, I 0, .nil true 1, I 0], .row t_int true 1 (E.map I)]⟩ ∧ (ms.take k).any (fun m => overB m E) = false) ?_ ?_ ?_
      · simp (maxSteps := 2000000) (disch := first | omega | (simp only [lenS]; try omega)) only [go_sem, reduceAdd, reduceEqDiff, reduceLeDiff, reduceSub]
        simp
      · rintro k s hk ⟨rfl, h0⟩
        have e1 := z37 (p := fun m => overB m E) hk h0
        have e2 := fun h => zhy (p := fun m => overB m E) hk h0 h
        have e3 : ms[k]? = some ms[k] := List.getElem?_eq_getElem hk
        have e4 := hxs _ (List.getElem_mem hk)
        have c1 := wet ms[k] E (by omega) (by omega)
        have c2 := wfc ms[k] E (by omega)
        have hw := hway k hk
        unfold overB at e1 e2
        generalize ms[k] = x at *
        generalize zaf x E = q1 at *
        generalize decide (x = E) = q2 at *
        cases q1 <;> cases q2
        · simp (maxSteps := 2000000) (disch := first | omega | (simp only [lenS]; try omega)) only [go_sem, reduceAdd, reduceEqDiff, reduceLeDiff, reduceSub, e3, c1, c2]
          exact ⟨rfl, e1 rfl⟩
        · simp (maxSteps := 2000000) (disch := first | omega | (simp only [lenS]; try omega)) only [go_sem, reduceAdd, reduceEqDiff, reduceLeDiff, reduceSub, e3, c1, c2]
          exact ⟨rfl, e1 rfl⟩
        · simp (maxSteps := 2000000) (disch := first | omega | (simp only [lenS]; try omega)) only [go_sem, reduceAdd, reduceEqDiff, reduceLeDiff, reduceSub, e3, c1, c2, hw]
          rw [← hV, n1, if_neg (by decide)]
          unfold overB
          rw [e2 rfl, if_pos (by omega), Int.toNat_natCast]; rfl
        · simp (maxSteps := 2000000) (disch := first | omega | (simp only [lenS]; try omega)) only [go_sem, reduceAdd, reduceEqDiff, reduceLeDiff, reduceSub, e3, c1, c2]
          exact ⟨rfl, e1 rfl⟩
      · rintro s ⟨rfl, h0⟩
        rw [List.take_length] at h0
        have n2 := zhx h0
        cases D with
        | nil =>
          simp (maxSteps := 2000000) (disch := first | omega | (simp only [lenS]; try omega)) only [go_sem, reduceAdd, reduceEqDiff, reduceLeDiff, reduceSub, hdd]
          rw [← hV, n1, n2]; rfl
        | cons d D =>
          simp (maxSteps := 2000000) (disch := first | omega | (simp only [lenS]; try omega)) only [go_sem, reduceAdd, reduceEqDiff, reduceLeDiff, reduceSub, hdd, Int.toNat_zero, List.getElem_cons_zero]
          rw [← hV, n1, n2]; rfl
  · rw [if_neg hz] at hend
    subst hend
    simp only [ints, List.map_nil] at hto
    refine w2q ?_
    simp (maxSteps := 2000000) (disch := first | omega | (simp only [lenS]; try omega)) only [wdu, go_sem, reduceAdd, reduceEqDiff, reduceLeDiff, reduceSub]
    simp (maxSteps := 2000000) (disch := first | omega | (simp only [lenS]; try omega)) only [go_sem, reduceAdd, reduceEqDiff, reduceLeDiff, reduceSub, he, fd, hz, hto]
    refine W_for c.length (fun k s => s = ⟨[.any, .any, .ptr 0 0, .ptr 1 0, .ptr 2 0, .ref 3 1 0 E.length, .any, .any, .any, .any, .any, .any, .any, .any, .ref 4 1 0 c.length, I c.length, I k, .any, .any, .any, .any, .any, .any, .any, .any], [.box wfw [I f.net.pl, trs f.net.tr, I f.src, I f.dst], .box wfz [rows ms, .sl true 3 (ar.map encA)], .box wg3 [I 0, I 0, .nil true 1, I 0], .row t_int true 1 (E.map I), .row wfu true 1 (c.map PV.bool)]⟩ ∧ (c.take k).any (fun x => x == false) = false) ?_ ?_ ?_
    · simp (maxSteps := 2000000) (disch := first | omega | (simp only [lenS]; try omega)) only [go_sem, reduceAdd, reduceEqDiff, reduceLeDiff, reduceSub]
      simp
    · rintro k s hk ⟨rfl, h0⟩
      have e1 := z37 (p := fun x : Bool => x == false) hk h0
      have e2 := fun h => zhy (p := fun x : Bool => x == false) hk h0 h
      have e3 : c[k]? = some c[k] := List.getElem?_eq_getElem hk
      generalize c[k] = b at *
      cases b with
      | true =>
        simp (maxSteps := 2000000) (disch := first | omega | (simp only [lenS]; try omega)) only [go_sem, reduceAdd, reduceEqDiff, reduceLeDiff, reduceSub, e3]
        exact ⟨rfl, e1 rfl⟩
      | false =>
        have hw := hway k (by omega)
        simp (maxSteps := 2000000) (disch := first | omega | (simp only [lenS]; try omega)) only [go_sem, reduceAdd, reduceEqDiff, reduceLeDiff, reduceSub, e3, hw]
        rw [← hV, e2 rfl, if_pos (by omega), Int.toNat_natCast]; rfl
    · rintro s ⟨rfl, h0⟩
      rw [List.take_length] at h0
      have n1 := zhx h0
      simp (maxSteps := 2000000) (disch := first | omega | (simp only [lenS]; try omega)) only [go_sem, reduceAdd, reduceEqDiff, reduceLeDiff, reduceSub]
      refine W_for ms.length (fun k s => s = ⟨[.any, .any, .ptr 0 0, .ptr 1 0, .ptr 2 0, .ref 3 1 0 E.length, .any, .any, .any, .any, .any, .any, .any, .any, .any, .any, .any, .any, .any, rows ms, I ms.length, I k, .any, .any, .any], [.box wfw [I f.net.pl, trs f.net.tr, I f.src, I f.dst], .box wfz [rows ms, .sl true 3 (ar.map encA)], .box wg3 [I 0, I 0, .nil true 1, I 0], .row t_int true 1 (E.map I)]⟩ ∧ (ms.take k).any (fun m => overB m E) = false) ?_ ?_ ?_
      · simp (maxSteps := 2000000) (disch := first | omega | (simp only [lenS]; try omega)) only [go_sem, reduceAdd, reduceEqDiff, reduceLeDiff, reduceSub]
        simp
      · rintro k s hk ⟨rfl, h0⟩
        have e1 := z37 (p := fun m => overB m E) hk h0
        have e2 := fun h => zhy (p := fun m => overB m E) hk h0 h
        have e3 : ms[k]? = some ms[k] := List.getElem?_eq_getElem hk
        have e4 := hxs _ (List.getElem_mem hk)
        have c1 := wet ms[k] E (by omega) (by omega)
        have c2 := wfc ms[k] E (by omega)
        have hw := hway k hk
        unfold overB at e1 e2
        generalize ms[k] = x at *
        generalize zaf x E = q1 at *
        generalize decide (x = E) = q2 at *
        cases q1 <;> cases q2
        · simp (maxSteps := 2000000) (disch := first | omega | (simp only [lenS]; try omega)) only [go_sem, reduceAdd, reduceEqDiff, reduceLeDiff, reduceSub, e3, c1, c2]
          exact ⟨rfl, e1 rfl⟩
        · simp (maxSteps := 2000000) (disch := first | omega | (simp only [lenS]; try omega)) only [go_sem, reduceAdd, reduceEqDiff, reduceLeDiff, reduceSub, e3, c1, c2]
          exact ⟨rfl, e1 rfl⟩
        · simp (maxSteps := 2000000) (disch := first | omega | (simp only [lenS]; try omega)) only [go_sem, reduceAdd, reduceEqDiff, reduceLeDiff, reduceSub, e3, c1, c2, hw]
          rw [← hV, n1, if_neg (by decide)]
          unfold overB
          rw [e2 rfl, if_pos (by omega), Int.toNat_natCast]; rfl
        · simp (maxSteps := 2000000) (disch := first | omega | (simp only [lenS]; try omega)) only [go_sem, reduceAdd, reduceEqDiff, reduceLeDiff, reduceSub, e3, c1, c2]
          exact ⟨rfl, e1 rfl⟩
      · rintro s ⟨rfl, h0⟩
        rw [List.take_length] at h0
        have n2 := zhx h0
        cases D with
        | nil =>
          simp (maxSteps := 2000000) (disch := first | omega | (simp only [lenS]; try omega)) only [go_sem, reduceAdd, reduceEqDiff, reduceLeDiff, reduceSub, hdd]
          rw [← hV, n1, n2]; rfl
        | cons d D =>
          simp (maxSteps := 2000000) (disch := first | omega | (simp only [lenS]; try omega)) only [go_sem, reduceAdd, reduceEqDiff, reduceLeDiff, reduceSub, hdd, Int.toNat_zero, List.getElem_cons_zero]
          rw [← hV, n1, n2]; rfl
theorem w69 {f : Fl} {b : Int} (hg : zgg f = true) (hb : inB 1 400 b = true) : ExOk f.net (oneM f.net.pl.toNat f.src) b (exAll f.net (oneM f.net.pl.toNat f.src) b) ∧ (exAll f.net (oneM f.net.pl.toNat f.src) b).sp.ms.length ≤ 400 ∧ (exAll f.net (oneM f.net.pl.toNat f.src) b).sp.ar.length ≤ 20000 ∧ Bfs (exAll f.net (oneM f.net.pl.toNat f.src) b).sp.ar (exAll f.net (oneM f.net.pl.toNat f.src) b).sp.ms.length ∧ 0 < (exAll f.net (oneM f.net.pl.toNat f.src) b).sp.ms.length ∧ ∀ x ∈ (exAll f.net (oneM f.net.pl.toNat f.src) b).sp.ms, x.length = f.net.pl.toNat := by
  have h1 := ztk hg
  simp only [inB, Bool.and_eq_true, decide_eq_true_eq] at hb
  have f1 := (zbx h1 hb.1).1
  have hl := f1.lenb
  refine ⟨f1, by omega, zbu (zgv (zp9 h1).1).2.2.1 hb.2, zbv h1 hb.1, ?_, fun x hx => ?_⟩
  · have := f1.first
    rcases Nat.eq_zero_or_pos (exAll f.net (oneM f.net.pl.toNat f.src) b).sp.ms.length with h | h
    · rw [List.length_eq_zero_iff.1 h] at this; simp at this
    · exact h
  · have := zgn (zp9 (f1.good x hx)).2
    omega
theorem wef (f : Fl) (b : Int) (hg : zgg f = true) (hb : inB 1 400 b = true) (hf : smN f.net) : C w85 [encF f, I b] [] = some (.tup [vdPV (sndV f b), .bool true], []) := by
  have ha := wfq f b hf
  rw [hg, hb] at ha
  have he := wft f hg
  have hx := wfm f.net (oneM f.net.pl.toNat f.src) b (ztk hg) (by simp only [inB, Bool.and_eq_true, decide_eq_true_eq] at hb; omega)
  obtain ⟨f1, f2, f3, f4, f5, f6⟩ := w69 hg hb
  unfold sndV
  have hcd := zbw f.net (oneM f.net.pl.toNat f.src) b
  have hck := wfr f (exAll f.net (oneM f.net.pl.toNat f.src) b).sp.ms (exAll f.net (oneM f.net.pl.toNat f.src) b).sp.ar hg (by omega) (by omega) f4 f5 f6
  have hwl := z8q (nt := f.net.tr.length) (E := oneM f.net.pl.toNat f.dst) f4
  have hcw := z8r f.net.tr.length (exAll f.net (oneM f.net.pl.toNat f.src) b).sp.ms (exAll f.net (oneM f.net.pl.toNat f.src) b).sp.ar (oneM f.net.pl.toNat f.dst)
  generalize chkV f.net.tr.length (exAll f.net (oneM f.net.pl.toNat f.src) b).sp.ms (exAll f.net (oneM f.net.pl.toNat f.src) b).sp.ar (oneM f.net.pl.toNat f.dst) = V at *
  generalize exAll f.net (oneM f.net.pl.toNat f.src) b = R at *
  have hEl : (oneM f.net.pl.toNat f.src).length = f.net.pl.toNat := by simp [oneM]
  generalize oneM f.net.pl.toNat f.src = E0 at *
  generalize oneM f.net.pl.toNat f.dst = E at *
  by_cases hc : R.code = 0
  · rw [if_pos hc]
    unfold vdPV at hck
    by_cases hk : V.kind = 1 ∨ V.kind = 2
    · rw [if_pos hk] at hck
      have e1 : vdPV V = .agg [I V.ok, I V.kind, .un t_int true 1 (V.way.map I), I V.dead] := by unfold vdPV; rw [if_pos hk]
      by_cases hl : V.way.length ≤ 60
      · rw [if_pos hl, e1]
        by_cases har : R.sp.ar = []
        · simp only [exPV, w67, arcPV, hc, har, if_true] at hx
          simp only [har, List.map_nil] at hck
          refine w1s ?_
          simp (maxSteps := 2000000) (disch := first | omega | (simp only [lenS]; try omega)) only [wcl, go_sem, reduceAdd, reduceEqDiff, reduceLeDiff, reduceSub]
          simp (maxSteps := 2000000) (disch := first | omega | (simp only [lenS]; try omega)) only [go_sem, reduceAdd, reduceEqDiff, reduceLeDiff, reduceSub, ha, he, hx, hck]
          first | done | rfl
        · simp only [exPV, w67, arcPV, hc, har, if_true, if_false] at hx
          refine w1s ?_
          simp (maxSteps := 2000000) (disch := first | omega | (simp only [lenS]; try omega)) only [wcl, go_sem, reduceAdd, reduceEqDiff, reduceLeDiff, reduceSub]
          simp (maxSteps := 2000000) (disch := first | omega | (simp only [lenS]; try omega)) only [go_sem, reduceAdd, reduceEqDiff, reduceLeDiff, reduceSub, ha, he, hx, hck]
          first | done | rfl
      · rw [if_neg hl]
        by_cases har : R.sp.ar = []
        · simp only [exPV, w67, arcPV, hc, har, if_true] at hx
          simp only [har, List.map_nil] at hck
          refine w1s ?_
          simp (maxSteps := 2000000) (disch := first | omega | (simp only [lenS]; try omega)) only [wcl, go_sem, reduceAdd, reduceEqDiff, reduceLeDiff, reduceSub]
          simp (maxSteps := 2000000) (disch := first | omega | (simp only [lenS]; try omega)) only [go_sem, reduceAdd, reduceEqDiff, reduceLeDiff, reduceSub, ha, he, hx, hck]
          first | done | rfl
        · simp only [exPV, w67, arcPV, hc, har, if_true, if_false] at hx
          refine w1s ?_
          simp (maxSteps := 2000000) (disch := first | omega | (simp only [lenS]; try omega)) only [wcl, go_sem, reduceAdd, reduceEqDiff, reduceLeDiff, reduceSub]
          simp (maxSteps := 2000000) (disch := first | omega | (simp only [lenS]; try omega)) only [go_sem, reduceAdd, reduceEqDiff, reduceLeDiff, reduceSub, ha, he, hx, hck]
          first | done | rfl
    · rw [if_neg hk] at hck
      have e1 : vdPV V = .agg [I V.ok, I V.kind, .nil true 1, I V.dead] := by unfold vdPV; rw [if_neg hk]
      rw [hcw hk, if_pos (by simp), e1]
      by_cases har : R.sp.ar = []
      · simp only [exPV, w67, arcPV, hc, har, if_true] at hx
        simp only [har, List.map_nil] at hck
        refine w1s ?_
        simp (maxSteps := 2000000) (disch := first | omega | (simp only [lenS]; try omega)) only [wcl, go_sem, reduceAdd, reduceEqDiff, reduceLeDiff, reduceSub]
        simp (maxSteps := 2000000) (disch := first | omega | (simp only [lenS]; try omega)) only [go_sem, reduceAdd, reduceEqDiff, reduceLeDiff, reduceSub, ha, he, hx, hck]
      · simp only [exPV, w67, arcPV, hc, har, if_true, if_false] at hx
        refine w1s ?_
        simp (maxSteps := 2000000) (disch := first | omega | (simp only [lenS]; try omega)) only [wcl, go_sem, reduceAdd, reduceEqDiff, reduceLeDiff, reduceSub]
        simp (maxSteps := 2000000) (disch := first | omega | (simp only [lenS]; try omega)) only [go_sem, reduceAdd, reduceEqDiff, reduceLeDiff, reduceSub, ha, he, hx, hck]
  · have hc1 : ¬ R.code = 1 := by omega
    rw [if_neg hc]
    simp only [exPV, w67, hc, if_false] at hx
    refine w1s ?_
    simp (maxSteps := 2000000) (disch := first | omega | (simp only [lenS]; try omega)) only [wcl, go_sem, reduceAdd, reduceEqDiff, reduceLeDiff, reduceSub]
    simp (maxSteps := 2000000) (disch := first | omega | (simp only [lenS]; try omega)) only [go_sem, reduceAdd, reduceEqDiff, reduceLeDiff, reduceSub, ha, he, hx, hc1]
    first | done | rfl
theorem wg7 (ar : List Arc3) (n : Nat) : toL ar n [] = List.replicate n false := by
  have hno : ∀ k, ¬ Rk ar [] k := by
    intro k hk
    induction hk with
    | base h => simp at h
    | step _ _ ih => exact ih
  unfold toL
  rw [List.eq_replicate_iff]
  refine ⟨by simp, fun b hb => ?_⟩
  obtain ⟨k, _, rfl⟩ := List.mem_map.1 hb
  simp [hno k]
theorem wg8 (k : Int) (W : List Int) (hk : k = 1 ∨ k = 2) : vdPV ⟨2, k, W, 0⟩ = .agg [I 2, I k, .un t_int true 1 (W.map I), I 0] := by
  unfold vdPV; rw [if_pos hk]
theorem wa2 (f : Fl) (b : Int) (hg : zgg f = true) (hb : inB 1 400 b = true) : C w6x [encF f, I b] [] = some (.tup [vdPV (sndV f b), exPV (exAll f.net (oneM f.net.pl.toNat f.src) b)], []) := by
  have hs0 := wao f hg
  have he0 := wa5 f hg
  have hx := wa6 f.net (oneM f.net.pl.toNat f.src) b (ztk hg) (by simp only [inB, Bool.and_eq_true, decide_eq_true_eq] at hb; omega)
  obtain ⟨f1, f2, f3, f4, f5, f6⟩ := w69 hg hb
  unfold sndV
  have hcd := zbw f.net (oneM f.net.pl.toNat f.src) b
  have hEl : (oneM f.net.pl.toNat f.dst).length = f.net.pl.toNat := by simp [oneM]
  have hnd := f1.nodup
  obtain ⟨g1, _⟩ := zgj hg
  have hn := zgv g1
  generalize exAll f.net (oneM f.net.pl.toNat f.src) b = R at *
  generalize oneM f.net.pl.toNat f.src = E0 at *
  generalize oneM f.net.pl.toNat f.dst = E at *
  have hdd := w9o R.sp.ms R.sp.ar f.net (by omega) (by omega)
  have hdl := zai R.sp.ar f.net.tr.length
  have fd := w9q R.sp.ms (R.sp.ar.map encA) E (by omega) (fun x hx => by have := f6 x hx; omega)
  have hfg := fun h => (zdx (l := R.sp.ms) (m := E) h).1
  have hcl := z19u R.sp.ar R.sp.ms.length (endS R.sp.ms E)
  have hct := wea (toL R.sp.ar R.sp.ms.length (endS R.sp.ms E)) false (by omega)
  have hil := zhw (toL R.sp.ar R.sp.ms.length (endS R.sp.ms E)) (fun x => x == false)
  rw [hcl] at hil
  have hov := we9 R.sp.ms w6y [.pv (.agg [ints E]) 0] rfl (fun _ _ => rfl) (fun m => overB m E) (fun x hx => wa1 x E (by have := f6 x hx; omega) (by omega)) (by omega)
  have hol := zhw R.sp.ms (fun m => overB m E)
  by_cases hc : R.code = 0
  · rw [if_pos hc]
    have hec : w67 R = 1 := by simp only [w67, hc, if_true]
    rw [hec] at hx
    have hls : ∀ x ∈ R.sp.ms, x.length < 2^62 := fun x hx => by have := f6 x hx; omega
    have hway : ∀ A, A = R.sp.ar.map encA → ∀ K : Nat, (hK : K < R.sp.ms.length) → C w6o [.agg [rows R.sp.ms, .sl true 3 A], ints R.sp.ms[K]] [] = some (.tup [.un t_int true 1 ((tw R.sp.ar K).map I), .bool true], []) := fun A hA K hK => by subst hA; exact w9t R.sp.ms R.sp.ar R.sp.ms[K] (by omega) (by omega) f4 hls K hK (by rw [zg8 hK]; exact zdw hnd hK)
    unfold chkV
    have hend : endS R.sp.ms E = if 0 ≤ findM R.sp.ms E then [findM R.sp.ms E] else [] := rfl
    have hlt0 := fun h : 0 ≤ findM R.sp.ms E => w9r R.sp.ms R.sp.ar (findM R.sp.ms E) (by omega) (by omega) f4.inn ⟨h, by have := hfg h; omega⟩
    generalize endS R.sp.ms E = S at *
    generalize findM R.sp.ms E = z at *
    by_cases hz : 0 ≤ z
    · rw [if_pos hz] at hend
      have hlt := hlt0 hz
      subst hend
      generalize toL R.sp.ar R.sp.ms.length [z] = c at *
      generalize deadK R.sp.ar f.net.tr.length = D at *
      generalize idxI c (fun x => x == false) = k1 at *
      generalize idxI R.sp.ms (fun m => overB m E) = k2 at *
      generalize hV : (if 0 ≤ k1 then (⟨2, 1, tw R.sp.ar k1.toNat, 0⟩ : Vd) else if 0 ≤ k2 then ⟨2, 2, tw R.sp.ar k2.toNat, 0⟩ else if 0 < D.length then ⟨2, 3, [], D.getD 0 0⟩ else ⟨1, 0, [], 0⟩) = V
      simp only [ints, List.map_cons, List.map_nil] at hlt
      by_cases har : R.sp.ar = []
      · have hPV : exPV R = .agg [.un wg5 false 1 (R.sp.ms.map ints), .nil true 3] := by simp only [exPV, arcPV, hc, har, if_true]
        rw [hPV] at hx ⊢
        have hway := hway [] (by rw [har]; rfl)
        simp only [har, List.map_nil] at hlt fd hdd
        by_cases h1 : 0 ≤ k1
        · obtain ⟨K, rfl⟩ : ∃ K : Nat, k1 = K := ⟨k1.toNat, by omega⟩
          have hKl : K < R.sp.ms.length := by omega
          have hVe : V = ⟨2, 1, tw R.sp.ar K, 0⟩ := by rw [← hV, if_pos h1, Int.toNat_natCast]
          have hwt := hway K hKl
          have e3 : R.sp.ms[K]? = some R.sp.ms[K] := List.getElem?_eq_getElem hKl
          have htl := z1ai f4 K hKl
          rw [hVe]
          simp only
          generalize R.sp.ms[K] = x at *
          generalize tw R.sp.ar K = W at *
          by_cases hl : W.length ≤ 60
          · rw [if_pos hl, wg8 1 W (.inl rfl)]
            refine w0l ?_
            simp (maxSteps := 2000000) (disch := first | omega | (simp only [lenS]; try omega)) only [wbe, go_sem, reduceAdd, reduceEqDiff, reduceLeDiff, reduceSub]
            simp (maxSteps := 2000000) (disch := first | omega | (simp only [lenS]; try omega)) only [go_sem, reduceAdd, reduceEqDiff, reduceLeDiff, reduceSub, hs0, he0, hx, fd, hz, hlt, hct, e3, hwt, hdd]
            first | done | rfl | exact ⟨rfl, rfl⟩
          · rw [if_neg hl]
            refine w0l ?_
            simp (maxSteps := 2000000) (disch := first | omega | (simp only [lenS]; try omega)) only [wbe, go_sem, reduceAdd, reduceEqDiff, reduceLeDiff, reduceSub]
            simp (maxSteps := 2000000) (disch := first | omega | (simp only [lenS]; try omega)) only [go_sem, reduceAdd, reduceEqDiff, reduceLeDiff, reduceSub, hs0, he0, hx, fd, hz, hlt, hct, e3, hwt, hdd]
            first | done | rfl | exact ⟨rfl, rfl⟩
        · by_cases h2 : 0 ≤ k2
          · obtain ⟨K, rfl⟩ : ∃ K : Nat, k2 = K := ⟨k2.toNat, by omega⟩
            have hKl : K < R.sp.ms.length := by omega
            have hVe : V = ⟨2, 2, tw R.sp.ar K, 0⟩ := by rw [← hV, if_neg h1, if_pos h2, Int.toNat_natCast]
            have hwt := hway K hKl
            have e3 : R.sp.ms[K]? = some R.sp.ms[K] := List.getElem?_eq_getElem hKl
            have htl := z1ai f4 K hKl
            rw [hVe]
            simp only
            generalize R.sp.ms[K] = x at *
            generalize tw R.sp.ar K = W at *
            by_cases hl : W.length ≤ 60
            · rw [if_pos hl, wg8 2 W (.inr rfl)]
              refine w0l ?_
              simp (maxSteps := 2000000) (disch := first | omega | (simp only [lenS]; try omega)) only [wbe, go_sem, reduceAdd, reduceEqDiff, reduceLeDiff, reduceSub]
              simp (maxSteps := 2000000) (disch := first | omega | (simp only [lenS]; try omega)) only [go_sem, reduceAdd, reduceEqDiff, reduceLeDiff, reduceSub, hs0, he0, hx, fd, hz, hlt, hct, h1, hov, e3, hwt, hdd]
              first | done | rfl | exact ⟨rfl, rfl⟩
            · rw [if_neg hl]
              refine w0l ?_
              simp (maxSteps := 2000000) (disch := first | omega | (simp only [lenS]; try omega)) only [wbe, go_sem, reduceAdd, reduceEqDiff, reduceLeDiff, reduceSub]
              simp (maxSteps := 2000000) (disch := first | omega | (simp only [lenS]; try omega)) only [go_sem, reduceAdd, reduceEqDiff, reduceLeDiff, reduceSub, hs0, he0, hx, fd, hz, hlt, hct, h1, hov, e3, hwt, hdd]
              first | done | rfl | exact ⟨rfl, rfl⟩
          · cases D with
            | nil =>
              have hVe : V = ⟨1, 0, [], 0⟩ := by rw [← hV, if_neg h1, if_neg h2]; rfl
              rw [hVe]
              refine w0l ?_
              simp (maxSteps := 2000000) (disch := first | omega | (simp only [lenS]; try omega)) only [wbe, go_sem, reduceAdd, reduceEqDiff, reduceLeDiff, reduceSub]
              simp (maxSteps := 2000000) (disch := first | omega | (simp only [lenS]; try omega)) only [go_sem, reduceAdd, reduceEqDiff, reduceLeDiff, reduceSub, hs0, he0, hx, fd, hz, hlt, hct, h1, hov, h2, hdd]
              first | done | rfl | exact ⟨rfl, rfl⟩
            | cons d D =>
              have hVe : V = ⟨2, 3, [], d⟩ := by rw [← hV, if_neg h1, if_neg h2]; rfl
              rw [hVe]
              refine w0l ?_
              simp (maxSteps := 2000000) (disch := first | omega | (simp only [lenS]; try omega)) only [wbe, go_sem, reduceAdd, reduceEqDiff, reduceLeDiff, reduceSub]
              simp (maxSteps := 2000000) (disch := first | omega | (simp only [lenS]; try omega)) only [go_sem, reduceAdd, reduceEqDiff, reduceLeDiff, reduceSub, hs0, he0, hx, fd, hz, hlt, hct, h1, hov, h2, hdd, Int.toNat_zero, List.getElem_cons_zero]
              first | done | rfl | exact ⟨rfl, rfl⟩
      · have hPV : exPV R = .agg [.un wg5 false 1 (R.sp.ms.map ints), .un wfv true 3 (R.sp.ar.map encA)] := by simp only [exPV, arcPV, hc, har, if_true, if_false]
        rw [hPV] at hx ⊢
        have hway := hway _ rfl
        by_cases h1 : 0 ≤ k1
        · obtain ⟨K, rfl⟩ : ∃ K : Nat, k1 = K := ⟨k1.toNat, by omega⟩
          have hKl : K < R.sp.ms.length := by omega
          have hVe : V = ⟨2, 1, tw R.sp.ar K, 0⟩ := by rw [← hV, if_pos h1, Int.toNat_natCast]
          have hwt := hway K hKl
          have e3 : R.sp.ms[K]? = some R.sp.ms[K] := List.getElem?_eq_getElem hKl
          have htl := z1ai f4 K hKl
          rw [hVe]
          simp only
          generalize R.sp.ms[K] = x at *
          generalize tw R.sp.ar K = W at *
          by_cases hl : W.length ≤ 60
          · rw [if_pos hl, wg8 1 W (.inl rfl)]
            refine w0l ?_
            simp (maxSteps := 2000000) (disch := first | omega | (simp only [lenS]; try omega)) only [wbe, go_sem, reduceAdd, reduceEqDiff, reduceLeDiff, reduceSub]
            simp (maxSteps := 2000000) (disch := first | omega | (simp only [lenS]; try omega)) only [go_sem, reduceAdd, reduceEqDiff, reduceLeDiff, reduceSub, hs0, he0, hx, fd, hz, hlt, hct, e3, hwt, hdd]
            first | done | rfl | exact ⟨rfl, rfl⟩
          · rw [if_neg hl]
            refine w0l ?_
            simp (maxSteps := 2000000) (disch := first | omega | (simp only [lenS]; try omega)) only [wbe, go_sem, reduceAdd, reduceEqDiff, reduceLeDiff, reduceSub]
            simp (maxSteps := 2000000) (disch := first | omega | (simp only [lenS]; try omega)) only [go_sem, reduceAdd, reduceEqDiff, reduceLeDiff, reduceSub, hs0, he0, hx, fd, hz, hlt, hct, e3, hwt, hdd]
            first | done | rfl | exact ⟨rfl, rfl⟩
        · by_cases h2 : 0 ≤ k2
          · obtain ⟨K, rfl⟩ : ∃ K : Nat, k2 = K := ⟨k2.toNat, by omega⟩
            have hKl : K < R.sp.ms.length := by omega
            have hVe : V = ⟨2, 2, tw R.sp.ar K, 0⟩ := by rw [← hV, if_neg h1, if_pos h2, Int.toNat_natCast]
            have hwt := hway K hKl
            have e3 : R.sp.ms[K]? = some R.sp.ms[K] := List.getElem?_eq_getElem hKl
            have htl := z1ai f4 K hKl
            rw [hVe]
            simp only
            generalize R.sp.ms[K] = x at *
            generalize tw R.sp.ar K = W at *
            by_cases hl : W.length ≤ 60
            · rw [if_pos hl, wg8 2 W (.inr rfl)]
              refine w0l ?_
              simp (maxSteps := 2000000) (disch := first | omega | (simp only [lenS]; try omega)) only [wbe, go_sem, reduceAdd, reduceEqDiff, reduceLeDiff, reduceSub]
              simp (maxSteps := 2000000) (disch := first | omega | (simp only [lenS]; try omega)) only [go_sem, reduceAdd, reduceEqDiff, reduceLeDiff, reduceSub, hs0, he0, hx, fd, hz, hlt, hct, h1, hov, e3, hwt, hdd]
              first | done | rfl | exact ⟨rfl, rfl⟩
            · rw [if_neg hl]
              refine w0l ?_
              simp (maxSteps := 2000000) (disch := first | omega | (simp only [lenS]; try omega)) only [wbe, go_sem, reduceAdd, reduceEqDiff, reduceLeDiff, reduceSub]
              simp (maxSteps := 2000000) (disch := first | omega | (simp only [lenS]; try omega)) only [go_sem, reduceAdd, reduceEqDiff, reduceLeDiff, reduceSub, hs0, he0, hx, fd, hz, hlt, hct, h1, hov, e3, hwt, hdd]
              first | done | rfl | exact ⟨rfl, rfl⟩
          · cases D with
            | nil =>
              have hVe : V = ⟨1, 0, [], 0⟩ := by rw [← hV, if_neg h1, if_neg h2]; rfl
              rw [hVe]
              refine w0l ?_
              simp (maxSteps := 2000000) (disch := first | omega | (simp only [lenS]; try omega)) only [wbe, go_sem, reduceAdd, reduceEqDiff, reduceLeDiff, reduceSub]
              simp (maxSteps := 2000000) (disch := first | omega | (simp only [lenS]; try omega)) only [go_sem, reduceAdd, reduceEqDiff, reduceLeDiff, reduceSub, hs0, he0, hx, fd, hz, hlt, hct, h1, hov, h2, hdd]
              first | done | rfl | exact ⟨rfl, rfl⟩
            | cons d D =>
              have hVe : V = ⟨2, 3, [], d⟩ := by rw [← hV, if_neg h1, if_neg h2]; rfl
              rw [hVe]
              refine w0l ?_
              simp (maxSteps := 2000000) (disch := first | omega | (simp only [lenS]; try omega)) only [wbe, go_sem, reduceAdd, reduceEqDiff, reduceLeDiff, reduceSub]
              simp (maxSteps := 2000000) (disch := first | omega | (simp only [lenS]; try omega)) only [go_sem, reduceAdd, reduceEqDiff, reduceLeDiff, reduceSub, hs0, he0, hx, fd, hz, hlt, hct, h1, hov, h2, hdd, Int.toNat_zero, List.getElem_cons_zero]
              first | done | rfl | exact ⟨rfl, rfl⟩
    · rw [if_neg hz] at hend
      have hlt := hcl
      subst hend
      have hrp := wg7 R.sp.ar R.sp.ms.length
      rw [hrp, List.map_replicate] at hct
      rw [hrp] at hil ⊢
      generalize deadK R.sp.ar f.net.tr.length = D at *
      generalize idxI (List.replicate R.sp.ms.length false) (fun x => x == false) = k1 at *
      generalize idxI R.sp.ms (fun m => overB m E) = k2 at *
      generalize hV : (if 0 ≤ k1 then (⟨2, 1, tw R.sp.ar k1.toNat, 0⟩ : Vd) else if 0 ≤ k2 then ⟨2, 2, tw R.sp.ar k2.toNat, 0⟩ else if 0 < D.length then ⟨2, 3, [], D.getD 0 0⟩ else ⟨1, 0, [], 0⟩) = V
      clear hlt hcl
      have hlt : True := trivial
      by_cases har : R.sp.ar = []
      · have hPV : exPV R = .agg [.un wg5 false 1 (R.sp.ms.map ints), .nil true 3] := by simp only [exPV, arcPV, hc, har, if_true]
        rw [hPV] at hx ⊢
        have hway := hway [] (by rw [har]; rfl)
        simp only [har, List.map_nil] at hlt fd hdd
        by_cases h1 : 0 ≤ k1
        · obtain ⟨K, rfl⟩ : ∃ K : Nat, k1 = K := ⟨k1.toNat, by omega⟩
          have hKl : K < R.sp.ms.length := by omega
          have hVe : V = ⟨2, 1, tw R.sp.ar K, 0⟩ := by rw [← hV, if_pos h1, Int.toNat_natCast]
          have hwt := hway K hKl
          have e3 : R.sp.ms[K]? = some R.sp.ms[K] := List.getElem?_eq_getElem hKl
          have htl := z1ai f4 K hKl
          rw [hVe]
          simp only
          generalize R.sp.ms[K] = x at *
          generalize tw R.sp.ar K = W at *
          by_cases hl : W.length ≤ 60
          · rw [if_pos hl, wg8 1 W (.inl rfl)]
            refine w0l ?_
            simp (maxSteps := 2000000) (disch := first | omega | (simp only [lenS]; try omega)) only [wbe, go_sem, reduceAdd, reduceEqDiff, reduceLeDiff, reduceSub]
            simp (maxSteps := 2000000) (disch := first | omega | (simp only [lenS]; try omega)) only [go_sem, reduceAdd, reduceEqDiff, reduceLeDiff, reduceSub, hs0, he0, hx, fd, hz, hlt, hct, e3, hwt, hdd]
            first | done | rfl | exact ⟨rfl, rfl⟩
          · rw [if_neg hl]
            refine w0l ?_
            simp (maxSteps := 2000000) (disch := first | omega | (simp only [lenS]; try omega)) only [wbe, go_sem, reduceAdd, reduceEqDiff, reduceLeDiff, reduceSub]
            simp (maxSteps := 2000000) (disch := first | omega | (simp only [lenS]; try omega)) only [go_sem, reduceAdd, reduceEqDiff, reduceLeDiff, reduceSub, hs0, he0, hx, fd, hz, hlt, hct, e3, hwt, hdd]
            first | done | rfl | exact ⟨rfl, rfl⟩
        · by_cases h2 : 0 ≤ k2
          · obtain ⟨K, rfl⟩ : ∃ K : Nat, k2 = K := ⟨k2.toNat, by omega⟩
            have hKl : K < R.sp.ms.length := by omega
            have hVe : V = ⟨2, 2, tw R.sp.ar K, 0⟩ := by rw [← hV, if_neg h1, if_pos h2, Int.toNat_natCast]
            have hwt := hway K hKl
            have e3 : R.sp.ms[K]? = some R.sp.ms[K] := List.getElem?_eq_getElem hKl
            have htl := z1ai f4 K hKl
            rw [hVe]
            simp only
            generalize R.sp.ms[K] = x at *
            generalize tw R.sp.ar K = W at *
            by_cases hl : W.length ≤ 60
            · rw [if_pos hl, wg8 2 W (.inr rfl)]
              refine w0l ?_
              simp (maxSteps := 2000000) (disch := first | omega | (simp only [lenS]; try omega)) only [wbe, go_sem, reduceAdd, reduceEqDiff, reduceLeDiff, reduceSub]
              simp (maxSteps := 2000000) (disch := first | omega | (simp only [lenS]; try omega)) only [go_sem, reduceAdd, reduceEqDiff, reduceLeDiff, reduceSub, hs0, he0, hx, fd, hz, hlt, hct, h1, hov, e3, hwt, hdd]
              first | done | rfl | exact ⟨rfl, rfl⟩
            · rw [if_neg hl]
              refine w0l ?_
              simp (maxSteps := 2000000) (disch := first | omega | (simp only [lenS]; try omega)) only [wbe, go_sem, reduceAdd, reduceEqDiff, reduceLeDiff, reduceSub]
              simp (maxSteps := 2000000) (disch := first | omega | (simp only [lenS]; try omega)) only [go_sem, reduceAdd, reduceEqDiff, reduceLeDiff, reduceSub, hs0, he0, hx, fd, hz, hlt, hct, h1, hov, e3, hwt, hdd]
              first | done | rfl | exact ⟨rfl, rfl⟩
          · cases D with
            | nil =>
              have hVe : V = ⟨1, 0, [], 0⟩ := by rw [← hV, if_neg h1, if_neg h2]; rfl
              rw [hVe]
              refine w0l ?_
              simp (maxSteps := 2000000) (disch := first | omega | (simp only [lenS]; try omega)) only [wbe, go_sem, reduceAdd, reduceEqDiff, reduceLeDiff, reduceSub]
              simp (maxSteps := 2000000) (disch := first | omega | (simp only [lenS]; try omega)) only [go_sem, reduceAdd, reduceEqDiff, reduceLeDiff, reduceSub, hs0, he0, hx, fd, hz, hlt, hct, h1, hov, h2, hdd]
              first | done | rfl | exact ⟨rfl, rfl⟩
            | cons d D =>
              have hVe : V = ⟨2, 3, [], d⟩ := by rw [← hV, if_neg h1, if_neg h2]; rfl
              rw [hVe]
              refine w0l ?_
              simp (maxSteps := 2000000) (disch := first | omega | (simp only [lenS]; try omega)) only [wbe, go_sem, reduceAdd, reduceEqDiff, reduceLeDiff, reduceSub]
              simp (maxSteps := 2000000) (disch := first | omega | (simp only [lenS]; try omega)) only [go_sem, reduceAdd, reduceEqDiff, reduceLeDiff, reduceSub, hs0, he0, hx, fd, hz, hlt, hct, h1, hov, h2, hdd, Int.toNat_zero, List.getElem_cons_zero]
              first | done | rfl | exact ⟨rfl, rfl⟩
      · have hPV : exPV R = .agg [.un wg5 false 1 (R.sp.ms.map ints), .un wfv true 3 (R.sp.ar.map encA)] := by simp only [exPV, arcPV, hc, har, if_true, if_false]
        rw [hPV] at hx ⊢
        have hway := hway _ rfl
        by_cases h1 : 0 ≤ k1
        · obtain ⟨K, rfl⟩ : ∃ K : Nat, k1 = K := ⟨k1.toNat, by omega⟩
          have hKl : K < R.sp.ms.length := by omega
          have hVe : V = ⟨2, 1, tw R.sp.ar K, 0⟩ := by rw [← hV, if_pos h1, Int.toNat_natCast]
          have hwt := hway K hKl
          have e3 : R.sp.ms[K]? = some R.sp.ms[K] := List.getElem?_eq_getElem hKl
          have htl := z1ai f4 K hKl
          rw [hVe]
          simp only
          generalize R.sp.ms[K] = x at *
          generalize tw R.sp.ar K = W at *
          by_cases hl : W.length ≤ 60
          · rw [if_pos hl, wg8 1 W (.inl rfl)]
            refine w0l ?_
            simp (maxSteps := 2000000) (disch := first | omega | (simp only [lenS]; try omega)) only [wbe, go_sem, reduceAdd, reduceEqDiff, reduceLeDiff, reduceSub]
            simp (maxSteps := 2000000) (disch := first | omega | (simp only [lenS]; try omega)) only [go_sem, reduceAdd, reduceEqDiff, reduceLeDiff, reduceSub, hs0, he0, hx, fd, hz, hlt, hct, e3, hwt, hdd]
            first | done | rfl | exact ⟨rfl, rfl⟩
          · rw [if_neg hl]
            refine w0l ?_
            simp (maxSteps := 2000000) (disch := first | omega | (simp only [lenS]; try omega)) only [wbe, go_sem, reduceAdd, reduceEqDiff, reduceLeDiff, reduceSub]
            simp (maxSteps := 2000000) (disch := first | omega | (simp only [lenS]; try omega)) only [go_sem, reduceAdd, reduceEqDiff, reduceLeDiff, reduceSub, hs0, he0, hx, fd, hz, hlt, hct, e3, hwt, hdd]
            first | done | rfl | exact ⟨rfl, rfl⟩
        · by_cases h2 : 0 ≤ k2
          · obtain ⟨K, rfl⟩ : ∃ K : Nat, k2 = K := ⟨k2.toNat, by omega⟩
            have hKl : K < R.sp.ms.length := by omega
            have hVe : V = ⟨2, 2, tw R.sp.ar K, 0⟩ := by rw [← hV, if_neg h1, if_pos h2, Int.toNat_natCast]
            have hwt := hway K hKl
            have e3 : R.sp.ms[K]? = some R.sp.ms[K] := List.getElem?_eq_getElem hKl
            have htl := z1ai f4 K hKl
            rw [hVe]
            simp only
            generalize R.sp.ms[K] = x at *
            generalize tw R.sp.ar K = W at *
            by_cases hl : W.length ≤ 60
            · rw [if_pos hl, wg8 2 W (.inr rfl)]
              refine w0l ?_
              simp (maxSteps := 2000000) (disch := first | omega | (simp only [lenS]; try omega)) only [wbe, go_sem, reduceAdd, reduceEqDiff, reduceLeDiff, reduceSub]
              simp (maxSteps := 2000000) (disch := first | omega | (simp only [lenS]; try omega)) only [go_sem, reduceAdd, reduceEqDiff, reduceLeDiff, reduceSub, hs0, he0, hx, fd, hz, hlt, hct, h1, hov, e3, hwt, hdd]
              first | done | rfl | exact ⟨rfl, rfl⟩
            · rw [if_neg hl]
              refine w0l ?_
              simp (maxSteps := 2000000) (disch := first | omega | (simp only [lenS]; try omega)) only [wbe, go_sem, reduceAdd, reduceEqDiff, reduceLeDiff, reduceSub]
              simp (maxSteps := 2000000) (disch := first | omega | (simp only [lenS]; try omega)) only [go_sem, reduceAdd, reduceEqDiff, reduceLeDiff, reduceSub, hs0, he0, hx, fd, hz, hlt, hct, h1, hov, e3, hwt, hdd]
              first | done | rfl | exact ⟨rfl, rfl⟩
          · cases D with
            | nil =>
              have hVe : V = ⟨1, 0, [], 0⟩ := by rw [← hV, if_neg h1, if_neg h2]; rfl
              rw [hVe]
              refine w0l ?_
              simp (maxSteps := 2000000) (disch := first | omega | (simp only [lenS]; try omega)) only [wbe, go_sem, reduceAdd, reduceEqDiff, reduceLeDiff, reduceSub]
              simp (maxSteps := 2000000) (disch := first | omega | (simp only [lenS]; try omega)) only [go_sem, reduceAdd, reduceEqDiff, reduceLeDiff, reduceSub, hs0, he0, hx, fd, hz, hlt, hct, h1, hov, h2, hdd]
              first | done | rfl | exact ⟨rfl, rfl⟩
            | cons d D =>
              have hVe : V = ⟨2, 3, [], d⟩ := by rw [← hV, if_neg h1, if_neg h2]; rfl
              rw [hVe]
              refine w0l ?_
              simp (maxSteps := 2000000) (disch := first | omega | (simp only [lenS]; try omega)) only [wbe, go_sem, reduceAdd, reduceEqDiff, reduceLeDiff, reduceSub]
              simp (maxSteps := 2000000) (disch := first | omega | (simp only [lenS]; try omega)) only [go_sem, reduceAdd, reduceEqDiff, reduceLeDiff, reduceSub, hs0, he0, hx, fd, hz, hlt, hct, h1, hov, h2, hdd, Int.toNat_zero, List.getElem_cons_zero]
              first | done | rfl | exact ⟨rfl, rfl⟩
  · rw [if_neg hc]
    simp only [exPV, w67, hc, if_false] at hx ⊢
    have hc1 : ¬ R.code = 1 := by omega
    refine w0l ?_
    simp (maxSteps := 2000000) (disch := first | omega | (simp only [lenS]; try omega)) only [wbe, go_sem, reduceAdd, reduceEqDiff, reduceLeDiff, reduceSub]
    simp (maxSteps := 2000000) (disch := first | omega | (simp only [lenS]; try omega)) only [go_sem, reduceAdd, reduceEqDiff, reduceLeDiff, reduceSub, hs0, hx, hc1]
    first | done | rfl
theorem we3 (l : List (List Int)) (g : FuncId) (caps : List PV) (hc : refsL caps = []) (hcv : ∀ m h, z1aw [] m h caps = some caps) (p : List Int → Bool) (hp : ∀ x ∈ l, C g (ints x :: caps) [] = some (.bool (p x), [])) (hl : l.length < 2^62) :
    C w7u [rows l, .clo g caps] [] = some (.bool (l.any p), []) := by
  refine w1h ?_
  simp (maxSteps := 2000000) (disch := first | omega | (simp only [lenS]; try omega)) only [wca, go_sem, reduceAdd, reduceEqDiff, reduceLeDiff, reduceSub]
  simp (maxSteps := 2000000) (disch := first | omega | (simp only [lenS]; try omega)) only [go_sem, reduceAdd, reduceEqDiff, reduceLeDiff, reduceSub, hc, hcv, we9 l g caps hc hcv p hp hl]
  have := zhv l p
  grind
theorem w9v (m : List Int) (hl : m.length < 2^62) : C w6s [ints m] [] = some (.bool (!m.all (inB 0 1)), []) := by
  have h1 := w9x m 0 1 hl
  generalize m.all (inB 0 1) = q at *
  refine w0g ?_
  simp (maxSteps := 2000000) (disch := first | omega | (simp only [lenS]; try omega)) only [wb9, go_sem, reduceAdd, reduceEqDiff, reduceLeDiff, reduceSub]
  simp (maxSteps := 2000000) (disch := first | omega | (simp only [lenS]; try omega)) only [go_sem, reduceAdd, reduceEqDiff, reduceLeDiff, reduceSub, h1]
  cases q <;> simp
theorem wfd (l : List Int) (h : ∀ p ∈ l, 0 ≤ p ∧ p < 30) (hi : incr l = true) (hl : l.length < 2^30) : C w90 [I (maskN l)] [] = some (.un t_int true 1 (l.map I), []) := by
  have hp : l.Pairwise (· < ·) := by simpa [incr] using hi
  have h0 : ∀ p ∈ l, 0 ≤ p := fun p hp => (h p hp).1
  have hm : maskN l < 2 ^ 30 := zpd (q := 30) h
  refine w2c ?_
  simp (maxSteps := 2000000) (disch := first | omega | (simp only [lenS]; try omega)) only [wdg, go_sem, reduceAdd, reduceEqDiff, reduceLeDiff, reduceSub]
  refine z1a (fun j s => ∃ k : Nat, j + k = 40 ∧ k ≤ 31 ∧ s = ⟨[I (maskN l), .any, .ref 0 1 0 (below l k).length, I k, .any, .any], [.row t_int true 1 ((below l k).map I)]⟩) 40 ?_ ?_
  · refine ⟨0, rfl, by omega, ?_⟩
    rw [z5b h0]
    simp (maxSteps := 2000000) (disch := first | omega | (simp only [lenS]; try omega)) only [go_sem, reduceAdd, reduceEqDiff, reduceLeDiff, reduceSub]
    rfl
  · rintro j s ⟨k, hj, hk, rfl⟩
    have hbl := z59 l k
    have e1 : ((maskN l : Nat) : Int) / 2 ^ min k 64 = ((maskN l / 2 ^ k : Nat) : Int) := by
      rw [show min k 64 = k by omega]; simp
    have e2 : maskN l / 2 ^ k < 2 ^ 62 := Nat.lt_of_le_of_lt (Nat.div_le_self _ _) (by omega)
    have e3 := z2x (a := maskN l / 2 ^ k) (b := 1) e2 (by decide)
    rw [Nat.and_one_is_mod] at e3
    have hk64 : IntKind.u64.wrap (k : Int) = k := by rw [IntKind.wrap_u64]; omega
    simp (maxSteps := 2000000) (disch := first | omega | (simp only [lenS]; try omega)) only [go_sem, reduceAdd, reduceEqDiff, reduceLeDiff, reduceSub, hk64, e1]
    have eb := zph h0 k
    have hone : ((1 : Nat) : Int) = 1 := rfl
    rw [hone] at e3
    refine ⟨fun hne => ?_, fun hz => ?_⟩
    · have hk30 : k < 30 := by
        rcases Nat.lt_or_ge k 30 with h5 | h5
        · exact h5
        · have h6 : maskN l / 2 ^ k = 0 := Nat.div_eq_of_lt (Nat.lt_of_lt_of_le hm (Nat.pow_le_pow_right (by decide) h5))
          omega
      refine ⟨fun h1 => ⟨j - 1, by omega, k + 1, by omega, by omega, ?_⟩, fun h1 => ⟨j - 1, by omega, k + 1, by omega, by omega, ?_⟩⟩
      · have hm1 : maskN l / 2 ^ k % 2 = 1 := by rw [e3] at h1; omega
        rw [decide_eq_true hm1] at eb
        rw [z5a hp, if_pos (by simpa [hasB] using eb), List.map_append]
        simp
      · have hm1 : ¬ maskN l / 2 ^ k % 2 = 1 := by rw [e3] at h1; omega
        rw [decide_eq_false hm1] at eb
        rw [z5a hp, if_neg (by simpa [hasB] using eb), List.append_nil]
        rfl
    · have hz2 : maskN l / 2 ^ k = 0 := by
        clear e1 e3
        generalize maskN l / 2 ^ k = z at hz
        omega
      rw [z58 (zpi h0 k hz2)]
theorem weq (l : List Int) (n : Nat) (hn : n < 8) (hl : 1 ≤ l.length ∧ l.length ≤ 3) (h : n < 2 ^ l.length) : C w8g [ints l, I n] [] = some (.un t_int true 1 ((someL l n).map I), []) := by
  obtain ⟨e1, e2, e3, e4, e5⟩ := z14d n hn
  have h5 := e5 l.length hl.1 hl.2 h
  have hS := wfd (setB n) (fun p hp => by have := e3 p hp; omega) e2 (by omega)
  rw [e1] at hS
  refine w22 ?_
  simp (maxSteps := 2000000) (disch := first | omega | (simp only [lenS]; try omega)) only [wcw, go_sem, reduceAdd, reduceEqDiff, reduceLeDiff, reduceSub]
  simp (maxSteps := 2000000) (disch := first | omega | (simp only [lenS]; try omega)) only [go_sem, reduceAdd, reduceEqDiff, reduceLeDiff, reduceSub, hS]
  refine W_for (setB n).length (fun i st => st = ⟨[ints l, .any, .any, .ref 0 1 0 i, .any, .ref 1 1 0 (setB n).length, I (setB n).length, I i, .any], [.row t_int true 1 (((setB n).take i).map fun p => I (at_ l p)), .row t_int true 1 ((setB n).map I)]⟩) ?_ ?_ ?_
  · simp (maxSteps := 2000000) (disch := first | omega | (simp only [lenS]; try omega)) only [go_sem, reduceAdd, reduceEqDiff, reduceLeDiff, reduceSub]
    simp
  · rintro i st hi rfl
    have h6 := h5 _ (List.getElem_mem hi)
    have h7 := e3 _ (List.getElem_mem hi)
    have e := at_eq (m := l) (p := (setB n)[i]) (by omega)
    simp (maxSteps := 2000000) (disch := first | omega | (simp only [lenS]; try omega)) only [go_sem, reduceAdd, reduceEqDiff, reduceLeDiff, reduceSub]
    rw [List.take_succ_eq_append_getElem hi, List.map_append]
    simp [e]
  · rintro st rfl
    simp (maxSteps := 2000000) (disch := first | omega | (simp only [lenS]; try omega)) only [go_sem, reduceAdd, reduceEqDiff, reduceLeDiff, reduceSub]
    simp [someL]
theorem wep (s : Spc) (k : Nat) (hk : k < s.tasks.length) (hc : 2 ≤ s.conds ∧ s.conds ≤ 8) (ht : smTk s.tasks[k]) (h1 : s.tasks[k].cut.length ≤ 16) (h0 : s.tasks[k].stop.length ≤ 16) (h2 : ∀ x ∈ s.tasks[k].stop, 0 ≤ x ∧ x < 16) : C w8f [encS s, I k] [] = some (.un t_int true 1 ((regL s s.tasks[k]).map I), []) := by
  obtain ⟨a, b, c, d⟩ := ht
  refine w21 ?_
  simp (maxSteps := 2000000) (disch := first | omega | (simp only [lenS]; try omega)) only [wcv, go_sem, reduceAdd, reduceEqDiff, reduceLeDiff, reduceSub]
  simp (maxSteps := 2000000) (disch := first | omega | (simp only [lenS]; try omega)) only [go_sem, reduceAdd, reduceEqDiff, reduceLeDiff, reduceSub, wf7]
  generalize hT : s.tasks[k] = t at *
  refine W_for t.stop.length (fun i st => st = ⟨[.any, .any, .ptr 0 0, .any, .ref 1 1 0 (t.cut.length + i), .any, ints t.stop, I t.stop.length, I i, .any], [.box wg0 [I s.conds, tks s.tasks], .row t_int true 1 ((t.cut ++ (t.stop.take i).map (s.conds + ·)).map I)]⟩) ?_ ?_ ?_
  · simp (maxSteps := 2000000) (disch := first | omega | (simp only [lenS]; try omega)) only [go_sem, reduceAdd, reduceEqDiff, reduceLeDiff, reduceSub]
    simp
  · rintro i st hi rfl
    have h3 := h2 _ (List.getElem_mem hi)
    have e := z10e (s := s) hi
    simp (maxSteps := 2000000) (disch := first | omega | (simp only [lenS]; try omega)) only [go_sem, reduceAdd, reduceEqDiff, reduceLeDiff, reduceSub]
    rw [e, List.map_append]
    simp
    omega
  · rintro st rfl
    simp (maxSteps := 2000000) (disch := first | omega | (simp only [lenS]; try omega)) only [go_sem, reduceAdd, reduceEqDiff, reduceLeDiff, reduceSub]
    simp [regL]
theorem weo (s : Spc) (h : zt9 s = true) : C w8e [encS s] [] = some (.tup [.agg [I (s.conds + s.tasks.length), .un wg2 false 3 ((trS s).map encT), I 0, I 1], .un wfx true 3 ((mvS s).map encM)], []) := by
  obtain ⟨hc, hn, hg⟩ := zta h
  have shl1 : IntKind.i64.wrap (1 * 2 ^ min 1 64) = 2 := by decide
  have shl2 : IntKind.i64.wrap (1 * 2 ^ min 2 64) = 4 := by decide
  have shl3 : IntKind.i64.wrap (1 * 2 ^ min 3 64) = 8 := by decide
  have hu1 : IntKind.u64.wrap ((1 : Nat) : Int) = ((1 : Nat) : Int) := by decide
  have hu2 : IntKind.u64.wrap ((2 : Nat) : Int) = ((2 : Nat) : Int) := by decide
  have hu3 : IntKind.u64.wrap ((3 : Nat) : Int) = ((3 : Nat) : Int) := by decide
  refine w20 ?_
  simp (maxSteps := 2000000) (disch := first | omega | (simp only [lenS]; try omega)) only [wcu, go_sem, reduceAdd, reduceEqDiff, reduceLeDiff, reduceSub]
  refine W_for s.tasks.length (fun k st => st = ⟨[.any, .ptr 0 0, .ptr 1 0, .any, .ptr 2 0, .ref 3 3 0 (mvU s k).length, .any, .any, .any, .any, .any, .any, .any, .any, .any, .any, .any, .any, .any, tks s.tasks, I s.tasks.length, I k, .any, .any, .any, .any, .any, .any, .any, .any, .any, .any, .any, .any, .any, .any, .any, .any, .any, .any, .any, .any, .any, .any], [.box wg0 [I s.conds, tks s.tasks], .box wfw [I 0, .nil false 3, I 0, I 0], .box wfw [I (s.conds + s.tasks.length), cellT 4 (trU s k), I 0, I 1], .row wfx true 3 ((mvU s k).map encM)] ++ blkT wg2 (trU s k)⟩) ?_ ?_ ?_
  · simp (maxSteps := 2000000) (disch := first | omega | (simp only [lenS]; try omega)) only [go_sem, reduceAdd, reduceEqDiff, reduceLeDiff, reduceSub]
    simp [cellT, blkT, trU, mvU]
  · rintro k st hk rfl
    have hK := hg k hk
    have hl := zr7 h k (by omega)
    have hlT := z1ab s k
    have hbl := z52 hK
    have hel := zbl hK
    have hbin := z51 hK
    have hein := zbk hK
    have hRl := z10d h hk
    obtain ⟨c1, c2, c3, c4⟩ := ztb h hk
    have hreg := wep s k hk hc c1 c2 c3 c4
    have heq := z19s hk
    rw [← heq] at hreg
    have hF : endF (tkN s k) = if (tkN s k).split = 2 then 0 else if (tkN s k).split = 3 then 1 else 0 := rfl
    rw [zr6, z1aa]
    generalize hT0 : trU s k = T at *
    generalize hU0 : mvU s k = U at *
    generalize hR0 : regL s (tkN s k) = R at *
    generalize hb0 : s.conds + (k : Int) = b at *
    have hg2 : s.tasks[k]? = some (tkN s k) := by rw [heq]; exact List.getElem?_eq_getElem hk
    have hg3 : s.tasks[k]'hk = tkN s k := heq.symm
    generalize tkN s k = t at *
    obtain ⟨hj, hs, h1, h2, -, -, -, -, -, -⟩ := zgk hK
    generalize hN : (z50 t).length = nb at *
    generalize hM : (endL t).length = ne at *
    refine' share (orc := C) (m := 0) (⟨[.any, .ptr 0 0, .ptr 1 0, .any, .ptr 2 0, .ref 3 3 0 U.length, I k, .ptr 4 0, .ref 5 1 0 1, .any, .any, .any, .any, .any, .any, .any, .any, .any, .any, tks s.tasks, I s.tasks.length, I k, .any, .any, .any, .any, .any, .any, .ref 6 1 0 nb, I nb, I 0, .any, .any, .any, .any, .any, .any, .any, .any, .any, .any, .any, .any, .any], [.box wg0 [I s.conds, tks s.tasks], .box wfw [I 0, .nil false 3, I 0, I 0], .box wfw [I (s.conds + s.tasks.length), cellT 7 T, I 0, I 1], .row wfx true 3 (U.map encM), .box wg1 [I t.join, I t.split, ints t.inn, ints t.out, ints t.cut, ints t.stop, I t.role], .row t_int true 1 [I b], .row wg5 false 1 ((z50 t).map ints)] ++ blkT wg2 T⟩ : St) _ _ _ ?main4 ?key4
    case main4 =>
      intro key4
      have hTT : (cellT 4 T = .nil false 3 ∧ cellT 7 T = .nil false 3 ∧ blkT wg2 T = []) ∨ (cellT 4 T = .ref 4 3 0 T.length ∧ cellT 7 T = .ref 7 3 0 T.length ∧ blkT wg2 T = [.row wg2 false 3 (T.map encT)]) := by
        by_cases hTe : T = []
        · left; subst hTe; exact ⟨rfl, rfl, rfl⟩
        · right; exact ⟨z7w hTe, z7w hTe, z6h hTe⟩
      rcases hj with hj | hj
      · have hBl : z50 t = [t.inn] := by simp [z50, hj]
        have hN1 : nb = 1 := by rw [← hN, hBl]; rfl
        rcases hTT with ⟨q1, q2, q3⟩ | ⟨q1, q2, q3⟩
        all_goals
          simp (maxSteps := 2000000) (disch := first | omega | (simp only [lenS]; try omega)) only [go_sem, reduceAdd, reduceEqDiff, reduceLeDiff, reduceSub, hg2, hg3, hj, hb0, q1, q3]
          refine key4 _ ?_
          simp (maxSteps := 2000000) (disch := first | omega | (simp only [lenS]; try omega)) only [go_sem, reduceAdd, reduceEqDiff, reduceLeDiff, reduceSub, q2, q3]
          simp [hBl, hN1, hj]
      · have hBl : z50 t = t.inn.map fun p => [p] := by simp [z50, hj]
        have hN1 : nb = t.inn.length := by rw [← hN, hBl]; simp
        rcases hTT with ⟨q1, q2, q3⟩ | ⟨q1, q2, q3⟩
        all_goals
          simp (maxSteps := 2000000) (disch := first | omega | (simp only [lenS]; try omega)) only [go_sem, reduceAdd, reduceEqDiff, reduceLeDiff, reduceSub, hg2, hg3, hj, hb0, q1, q3]
          refine W_for nb (fun i st => st = ⟨[.any, .ptr 0 0, .ptr 1 0, .any, .ptr 2 0, .ref 3 3 0 U.length, I k, .ptr 4 0, .ref 5 1 0 1, .ref 6 1 0 i, .any, .any, .any, .any, .any, .any, .any, .any, .any, tks s.tasks, I s.tasks.length, I k, .any, .any, ints t.inn, I nb, I i, .any, .any, .any, .any, .any, .any, .any, .any, .any, .any, .any, .any, .any, .any, .any, .any, .any], [.box wg0 [I s.conds, tks s.tasks], .box wfw [I 0, .nil false 3, I 0, I 0], .box wfw [I (s.conds + s.tasks.length), cellT 7 T, I 0, I 1], .row wfx true 3 (U.map encM), .box wg1 [I t.join, I t.split, ints t.inn, ints t.out, ints t.cut, ints t.stop, I t.role], .row t_int true 1 [I b], .row wg5 false 1 ((t.inn.take i).map fun p => ints [p])] ++ blkT wg2 T⟩) ?_ ?_ ?_
          · simp (maxSteps := 2000000) (disch := first | omega | (simp only [lenS]; try omega)) only [go_sem, reduceAdd, reduceEqDiff, reduceLeDiff, reduceSub, q2, q3]
            simp [hN1, hj]
          · rintro i st hi rfl
            simp (maxSteps := 2000000) (disch := first | omega | (simp only [lenS]; try omega)) only [go_sem, reduceAdd, reduceEqDiff, reduceLeDiff, reduceSub, q2, q3]
            rw [List.take_succ_eq_append_getElem (by omega), List.map_append]
            simp
          · rintro st rfl
            simp (maxSteps := 2000000) (disch := first | omega | (simp only [lenS]; try omega)) only [go_sem, reduceAdd, reduceEqDiff, reduceLeDiff, reduceSub, q2, q3]
            refine key4 _ ?_
            simp (maxSteps := 2000000) (disch := first | omega | (simp only [lenS]; try omega)) only [go_sem, reduceAdd, reduceEqDiff, reduceLeDiff, reduceSub, q2, q3]
            simp [hBl, hN1]
    case key4 =>
      intro st0 hst
      have hOb : C w8v [.sl true 1 [I b]] [] = some (.un t_int true 1 [I b], []) := wf7 [b] (by simp)
      have hT8 : ∀ (l : List Tr), (l = [] ∧ cellT 7 l = .nil false 3 ∧ blkT wg2 l = []) ∨ (cellT 7 l = .ref 7 3 0 l.length ∧ blkT wg2 l = [.row wg2 false 3 (l.map encT)]) := by
        intro l
        by_cases hTe : l = []
        · left; subst hTe; exact ⟨rfl, rfl, rfl⟩
        · right; exact ⟨z7w hTe, z6h hTe⟩
      refine W_for nb (fun i st => st = ⟨[.any, .ptr 0 0, .ptr 1 0, .any, .ptr 2 0, .ref 3 3 0 (U.length + i), I k, .ptr 4 0, .ref 5 1 0 1, .any, .any, .any, .any, .any, .any, .any, .any, .any, .any, tks s.tasks, I s.tasks.length, I k, .any, .any, .any, .any, .any, .any, .ref 6 1 0 nb, I nb, I i, .any, .any, .any, .any, .any, .any, .any, .any, .any, .any, .any, .any, .any], [.box wg0 [I s.conds, tks s.tasks], .box wfw [I 0, .nil false 3, I 0, I 0], .box wfw [I (s.conds + s.tasks.length), cellT 7 (T ++ layB b ((z50 t).take i)), I 0, I 1], .row wfx true 3 ((U ++ mvB k i).map encM), .box wg1 [I t.join, I t.split, ints t.inn, ints t.out, ints t.cut, ints t.stop, I t.role], .row t_int true 1 [I b], .row wg5 false 1 ((z50 t).map ints)] ++ blkT wg2 (T ++ layB b ((z50 t).take i))⟩) ?_ ?_ ?_
      · rw [hst]
        simp [mvB, layB]
      · rintro i st hi rfl
        have e1 := zqy k i
        have e2 := zm1 (b := b) (l := z50 t) (i := i) (by omega)
        have e3 := zm2 (b := b) (l := z50 t) (i := i) (by omega)
        have e4 := hbin _ (List.getElem_mem (show i < (z50 t).length by omega))
        have hlen : (T ++ layB b ((z50 t).take i)).length = T.length + i := by rw [List.length_append, e2]
        have hne : T ++ layB b ((z50 t).take i) ++ [⟨(z50 t)[i], [b], []⟩] ≠ [] := by simp
        have q5 := z7w (b := 7) hne
        have q6 := z6h (t := wg2) hne
        rw [e3, ← List.append_assoc, q5, q6, zqz]
        generalize T ++ layB b ((z50 t).take i) = L at *
        rcases hT8 L with ⟨hL, q1, q2⟩ | ⟨q1, q2⟩
        · subst hL
          simp (maxSteps := 2000000) (disch := first | omega | (simp only [lenS]; try omega)) only [go_sem, reduceAdd, reduceEqDiff, reduceLeDiff, reduceSub, q1, q2, e1, wf7, hOb]
          refine ⟨rfl, ?_⟩
          simp
          omega
        · simp (maxSteps := 2000000) (disch := first | omega | (simp only [lenS]; try omega)) only [go_sem, reduceAdd, reduceEqDiff, reduceLeDiff, reduceSub, q1, q2, e1, hlen, wf7, hOb]
          refine ⟨rfl, ?_⟩
          simp
          omega
      · rintro st rfl
        have e1 := zqy k nb
        have e2 := zm1 (b := b) (l := z50 t) (i := nb) (by omega)
        have e3 : (z50 t).take nb = z50 t := by rw [← hN]; simp
        rw [e3] at e2
        have hlen : (T ++ layB b (z50 t)).length = T.length + nb := by rw [List.length_append, e2]
        have hVlen : (U ++ mvB k nb).length = U.length + nb := by rw [List.length_append, e1]
        rw [e3]
        have hYne : T ++ layB b (z50 t) ≠ [] := by intro e; rw [e] at hlen; simp at hlen; omega
        rw [z7w hYne, z6h hYne, ← hVlen]
        generalize hY0 : T ++ layB b (z50 t) = Y at *
        generalize hV0 : U ++ mvB k nb = V at *
        refine' share (orc := C) (m := 0) (⟨[.any, .ptr 0 0, .ptr 1 0, .any, .ptr 2 0, .ref 3 3 0 V.length, I k, .any, .ref 4 1 0 1, .any, .any, .any, .any, .any, I (endF t), .any, .any, .any, .any, tks s.tasks, I s.tasks.length, I k, .any, .any, .any, .any, .any, .any, .any, .any, .any, .any, .any, .any, .any, .any, .any, .any, .any, .any, .ref 5 1 0 ne, I ne, I 0, .any], [.box wg0 [I s.conds, tks s.tasks], .box wfw [I 0, .nil false 3, I 0, I 0], .box wfw [I (s.conds + s.tasks.length), .ref 6 3 0 Y.length, I 0, I 1], .row wfx true 3 (V.map encM), .row t_int true 1 [I b], .row wg5 false 1 ((endL t).map ints), .row wg2 false 3 (Y.map encT)]⟩ : St) _ _ _ ?main11 ?key11
        case main11 =>
          intro key11
          rcases hs with hs | hs | hs
          · have hF0 : endF t = 0 := by simpa [hs] using hF
            have hEl : endL t = [t.out] := by simp [endL, hs]
            have hM1 : ne = 1 := by rw [← hM, hEl]; rfl
            simp (maxSteps := 2000000) (disch := first | omega | (simp only [lenS]; try omega)) only [go_sem, reduceAdd, reduceEqDiff, reduceLeDiff, reduceSub, hs]
            refine key11 _ ?_
            simp (maxSteps := 2000000) (disch := first | omega | (simp only [lenS]; try omega)) only [go_sem, reduceAdd, reduceEqDiff, reduceLeDiff, reduceSub]
            simp [hEl, hF0, hM1]
          · have hF0 : endF t = 0 := by simpa [hs] using hF
            have hEl : endL t = t.out.map fun p => [p] := by simp [endL, hs]
            have hM1 : ne = t.out.length := by rw [← hM, hEl]; simp
            simp (maxSteps := 2000000) (disch := first | omega | (simp only [lenS]; try omega)) only [go_sem, reduceAdd, reduceEqDiff, reduceLeDiff, reduceSub, hs]
            refine W_for ne (fun i st => st = ⟨[.any, .ptr 0 0, .ptr 1 0, .any, .ptr 2 0, .ref 3 3 0 V.length, I k, .any, .ref 4 1 0 1, .any, .any, .any, .any, .ref 5 1 0 i, I 0, .any, .any, .any, .any, tks s.tasks, I s.tasks.length, I k, .any, .any, .any, .any, .any, .any, .any, .any, .any, .any, .any, .any, ints t.out, I ne, I i, .any, .any, .any, .any, .any, .any, .any], [.box wg0 [I s.conds, tks s.tasks], .box wfw [I 0, .nil false 3, I 0, I 0], .box wfw [I (s.conds + s.tasks.length), .ref 6 3 0 Y.length, I 0, I 1], .row wfx true 3 (V.map encM), .row t_int true 1 [I b], .row wg5 false 1 ((t.out.take i).map fun p => ints [p]), .row wg2 false 3 (Y.map encT)]⟩) ?_ ?_ ?_
            · simp (maxSteps := 2000000) (disch := first | omega | (simp only [lenS]; try omega)) only [go_sem, reduceAdd, reduceEqDiff, reduceLeDiff, reduceSub]
              simp [hM1]
            · rintro i st hi rfl
              simp (maxSteps := 2000000) (disch := first | omega | (simp only [lenS]; try omega)) only [go_sem, reduceAdd, reduceEqDiff, reduceLeDiff, reduceSub]
              rw [List.take_succ_eq_append_getElem (by omega), List.map_append]
              simp
            · rintro st rfl
              simp (maxSteps := 2000000) (disch := first | omega | (simp only [lenS]; try omega)) only [go_sem, reduceAdd, reduceEqDiff, reduceLeDiff, reduceSub]
              refine key11 _ ?_
              simp (maxSteps := 2000000) (disch := first | omega | (simp only [lenS]; try omega)) only [go_sem, reduceAdd, reduceEqDiff, reduceLeDiff, reduceSub]
              simp [hEl, hF0, hM1]
          · have hF0 : endF t = 1 := by simpa [hs] using hF
            have hEl : endL t = (List.range (2 ^ t.out.length - 1)).map fun i => someL t.out (i + 1) := by simp [endL, hs]
            have hM1 : ne = 2 ^ t.out.length - 1 := by rw [← hM, hEl]; simp
            have hpp := zxz h2.1 h2.2
            simp (maxSteps := 2000000) (disch := first | omega | (simp only [lenS]; try omega)) only [go_sem, reduceAdd, reduceEqDiff, reduceLeDiff, reduceSub, hs]
            refine W_for ne (fun i st => st = ⟨[.any, .ptr 0 0, .ptr 1 0, .any, .ptr 2 0, .ref 3 3 0 V.length, I k, .ptr 4 0, .ref 5 1 0 1, .any, .any, .any, .any, .ref 6 1 0 i, I 1, .any, I (i + 1 : Int), .any, .any, tks s.tasks, I s.tasks.length, I k, .any, .any, .any, .any, .any, .any, .any, .any, .any, .any, .any, .any, .any, .any, .any, .any, .any, .any, .any, .any, .any, .any], [.box wg0 [I s.conds, tks s.tasks], .box wfw [I 0, .nil false 3, I 0, I 0], .box wfw [I (s.conds + s.tasks.length), .ref 7 3 0 Y.length, I 0, I 1], .row wfx true 3 (V.map encM), .box wg1 [I t.join, I t.split, ints t.inn, ints t.out, ints t.cut, ints t.stop, I t.role], .row t_int true 1 [I b], .row wg5 false 1 ((List.range i).map fun (j : Nat) => ints (someL t.out (j + 1))), .row wg2 false 3 (Y.map encT)]⟩) ?_ ?_ ?_
            · simp (maxSteps := 2000000) (disch := first | omega | (simp only [lenS]; try omega)) only [go_sem, reduceAdd, reduceEqDiff, reduceLeDiff, reduceSub]
              simp [hs]
            · rintro i st hi rfl
              have hS := weq t.out (i + 1) (by omega) h2 (by omega)
              rw [show ((i + 1 : Nat) : Int) = (i : Int) + 1 by omega] at hS
              have e5 : t.out.length = 1 ∨ t.out.length = 2 ∨ t.out.length = 3 := by omega
              rcases e5 with e5 | e5 | e5
              all_goals
                simp only [e5] at hM1
                simp (maxSteps := 2000000) (disch := first | omega | (simp only [lenS]; try omega)) only [go_sem, reduceAdd, reduceEqDiff, reduceLeDiff, reduceSub, e5, shl1, shl2, shl3, hu1, hu2, hu3, hS]
                simp [List.range_succ]
            · rintro st rfl
              have e5 : t.out.length = 1 ∨ t.out.length = 2 ∨ t.out.length = 3 := by omega
              rcases e5 with e5 | e5 | e5
              all_goals
                simp only [e5] at hM1
                simp (maxSteps := 2000000) (disch := first | omega | (simp only [lenS]; try omega)) only [go_sem, reduceAdd, reduceEqDiff, reduceLeDiff, reduceSub, e5, shl1, shl2, shl3, hu1, hu2, hu3]
                refine key11 _ ?_
                simp (maxSteps := 2000000) (disch := first | omega | (simp only [lenS]; try omega)) only [go_sem, reduceAdd, reduceEqDiff, reduceLeDiff, reduceSub]
                simp [hEl, hF0, hM1, e5]
        case key11 =>
          intro st0 hst
          have hOb2 : C w8v [.sl true 1 [I b]] [] = some (.un t_int true 1 [I b], []) := wf7 [b] (by simp)
          have hF2 : 0 ≤ endF t ∧ endF t ≤ 1 := by rw [hF]; (repeat' split) <;> omega
          refine W_for ne (fun i st => st = ⟨[.any, .ptr 0 0, .ptr 1 0, .any, .ptr 2 0, .ref 3 3 0 (V.length + i), I k, .any, .ref 4 1 0 1, .any, .any, .any, .any, .any, I (endF t), .any, .any, .any, .any, tks s.tasks, I s.tasks.length, I k, .any, .any, .any, .any, .any, .any, .any, .any, .any, .any, .any, .any, .any, .any, .any, .any, .any, .any, .ref 5 1 0 ne, I ne, I i, .any], [.box wg0 [I s.conds, tks s.tasks], .box wfw [I 0, .nil false 3, I 0, I 0], .box wfw [I (s.conds + s.tasks.length), .ref 6 3 0 (Y.length + i), I 0, I 1], .row wfx true 3 ((V ++ mvE k (endF t) i).map encM), .row t_int true 1 [I b], .row wg5 false 1 ((endL t).map ints), .row wg2 false 3 ((Y ++ layE b R ((endL t).take i)).map encT)]⟩) ?_ ?_ ?_
          · rw [hst]
            simp [mvE, layE]
          · rintro i st hi rfl
            have e1 := zr0 k (endF t) i
            have e2 := zm3 (b := b) (R := R) (l := endL t) (i := i) (by omega)
            have e3 := zm4 (b := b) (R := R) (l := endL t) (i := i) (by omega)
            have e4 := hein _ (List.getElem_mem (show i < (endL t).length by omega))
            simp (maxSteps := 2000000) (disch := first | omega | (simp only [lenS]; try omega)) only [go_sem, reduceAdd, reduceEqDiff, reduceLeDiff, reduceSub, e1, e2, wf7, hOb2, hreg]
            rw [zr1, e3]
            refine ⟨rfl, ?_⟩
            simp
            omega
          · rintro st rfl
            have e1 := zr0 k (endF t) ne
            have e2 := zm3 (b := b) (R := R) (l := endL t) (i := ne) (by omega)
            have e3 : (endL t).take ne = endL t := by rw [← hM]; simp
            rw [e3] at e2 ⊢
            have hZne : Y ++ layE b R (endL t) ≠ [] := by simp [hYne]
            have hZl : (Y ++ layE b R (endL t)).length = Y.length + ne := by rw [List.length_append, e2]
            have hWl : (V ++ mvE k (endF t) ne).length = V.length + ne := by rw [List.length_append, e1]
            rw [z7w hZne, z6h hZne, hZl, hWl]
            generalize Y ++ layE b R (endL t) = Z at *
            generalize V ++ mvE k (endF t) ne = X at *
            simp (maxSteps := 2000000) (disch := first | omega | (simp only [lenS]; try omega)) only [go_sem, reduceAdd, reduceEqDiff, reduceLeDiff, reduceSub]
            rfl
  · rintro st rfl
    have hml := zr7 h s.tasks.length (by omega)
    have htl := z1ab s s.tasks.length
    have hZne : trU s s.tasks.length ≠ [] := by intro e; rw [e] at htl; simp at htl; omega
    rw [z7w hZne, z6h hZne]
    unfold trS mvS
    simp (maxSteps := 2000000) (disch := first | omega | (simp only [lenS]; try omega)) only [go_sem, reduceAdd, reduceEqDiff, reduceLeDiff, reduceSub]
theorem wel (f : Fl) (b : Int) (hg : zgg f = true) (hb : inB 1 400 b = true) (hf : smN f.net) : C w8b [encF f, I b] [] = some (.tup [.bool (safeV f b), .bool (decide ((exAll f.net (oneM f.net.pl.toNat f.src) b).code = 0))], []) := by
  have ha := wfq f b hf
  rw [hg, hb] at ha
  have he := wft f hg
  have hx := wfm f.net (oneM f.net.pl.toNat f.src) b (ztk hg) (by simp only [inB, Bool.and_eq_true, decide_eq_true_eq] at hb; omega)
  obtain ⟨f1, f2, f3, f4, f5, f6⟩ := w69 hg hb
  unfold safeV
  have hcd := zbw f.net (oneM f.net.pl.toNat f.src) b
  obtain ⟨g1, _⟩ := zgj hg
  have hn := zgv g1
  generalize exAll f.net (oneM f.net.pl.toNat f.src) b = R at *
  have hEl : (oneM f.net.pl.toNat f.src).length = f.net.pl.toNat := by simp [oneM]
  generalize oneM f.net.pl.toNat f.src = E0 at *
  generalize oneM f.net.pl.toNat f.dst = E at *
  by_cases hc : R.code = 0
  · simp only [hc, decide_true, Bool.true_and]
    have e0 : (R.sp.ms.all fun m => m.all (inB 0 1)) = !(R.sp.ms.any fun m => !m.all (inB 0 1)) := by rw [List.any_eq_not_all_not]; simp
    rw [e0]
    by_cases har : R.sp.ar = []
    · simp only [exPV, w67, arcPV, hc, har, if_true] at hx
      refine w1x ?_
      simp (maxSteps := 2000000) (disch := first | omega | (simp only [lenS]; try omega)) only [wcr, go_sem, reduceAdd, reduceEqDiff, reduceLeDiff, reduceSub]
      simp (maxSteps := 2000000) (disch := first | omega | (simp only [lenS]; try omega)) only [go_sem, reduceAdd, reduceEqDiff, reduceLeDiff, reduceSub, ha, he, hx]
      refine W_for R.sp.ms.length (fun k s => s = ⟨[.any, .any, .any, .any, .any, .any, .any, .any, .any, .any, .any, .ref 0 1 0 R.sp.ms.length, I R.sp.ms.length, I k, .any, .any], [.row wg5 false 1 (R.sp.ms.map ints)]⟩ ∧ (R.sp.ms.take k).any (fun m => !m.all (inB 0 1)) = false) ?_ ?_ ?_
      · simp (maxSteps := 2000000) (disch := first | omega | (simp only [lenS]; try omega)) only [go_sem, reduceAdd, reduceEqDiff, reduceLeDiff, reduceSub]
        simp
      · rintro k s hk ⟨rfl, h0⟩
        have e1 := z37 (p := fun m => !m.all (inB 0 1)) hk h0
        have e2 : (!(R.sp.ms[k].all (inB 0 1))) = true → R.sp.ms.any (fun m => !m.all (inB 0 1)) = true := fun e => List.any_eq_true.2 ⟨_, List.getElem_mem hk, e⟩
        have e3 : R.sp.ms[k]? = some R.sp.ms[k] := List.getElem?_eq_getElem hk
        have e4 := f6 _ (List.getElem_mem hk)
        have c1 := wes R.sp.ms[k] 0 1 (by omega)
        generalize R.sp.ms[k] = x at *
        generalize x.all (inB 0 1) = q at *
        cases q with
        | true =>
          simp (maxSteps := 2000000) (disch := first | omega | (simp only [lenS]; try omega)) only [go_sem, reduceAdd, reduceEqDiff, reduceLeDiff, reduceSub, e3, c1]
          exact ⟨rfl, e1 rfl⟩
        | false =>
          simp (maxSteps := 2000000) (disch := first | omega | (simp only [lenS]; try omega)) only [go_sem, reduceAdd, reduceEqDiff, reduceLeDiff, reduceSub, e3, c1]
          rw [e2 rfl]; rfl
      · rintro s ⟨rfl, h0⟩
        rw [List.take_length] at h0
        simp (maxSteps := 2000000) (disch := first | omega | (simp only [lenS]; try omega)) only [go_sem, reduceAdd, reduceEqDiff, reduceLeDiff, reduceSub]
        rw [h0]; rfl
    · simp only [exPV, w67, arcPV, hc, har, if_true, if_false] at hx
      refine w1x ?_
      simp (maxSteps := 2000000) (disch := first | omega | (simp only [lenS]; try omega)) only [wcr, go_sem, reduceAdd, reduceEqDiff, reduceLeDiff, reduceSub]
      simp (maxSteps := 2000000) (disch := first | omega | (simp only [lenS]; try omega)) only [go_sem, reduceAdd, reduceEqDiff, reduceLeDiff, reduceSub, ha, he, hx]
      refine W_for R.sp.ms.length (fun k s => s = ⟨[.any, .any, .any, .any, .any, .any, .any, .any, .any, .any, .any, .ref 0 1 0 R.sp.ms.length, I R.sp.ms.length, I k, .any, .any], [.row wg5 false 1 (R.sp.ms.map ints)]⟩ ∧ (R.sp.ms.take k).any (fun m => !m.all (inB 0 1)) = false) ?_ ?_ ?_
      · simp (maxSteps := 2000000) (disch := first | omega | (simp only [lenS]; try omega)) only [go_sem, reduceAdd, reduceEqDiff, reduceLeDiff, reduceSub]
        simp
      · rintro k s hk ⟨rfl, h0⟩
        have e1 := z37 (p := fun m => !m.all (inB 0 1)) hk h0
        have e2 : (!(R.sp.ms[k].all (inB 0 1))) = true → R.sp.ms.any (fun m => !m.all (inB 0 1)) = true := fun e => List.any_eq_true.2 ⟨_, List.getElem_mem hk, e⟩
        have e3 : R.sp.ms[k]? = some R.sp.ms[k] := List.getElem?_eq_getElem hk
        have e4 := f6 _ (List.getElem_mem hk)
        have c1 := wes R.sp.ms[k] 0 1 (by omega)
        generalize R.sp.ms[k] = x at *
        generalize x.all (inB 0 1) = q at *
        cases q with
        | true =>
          simp (maxSteps := 2000000) (disch := first | omega | (simp only [lenS]; try omega)) only [go_sem, reduceAdd, reduceEqDiff, reduceLeDiff, reduceSub, e3, c1]
          exact ⟨rfl, e1 rfl⟩
        | false =>
          simp (maxSteps := 2000000) (disch := first | omega | (simp only [lenS]; try omega)) only [go_sem, reduceAdd, reduceEqDiff, reduceLeDiff, reduceSub, e3, c1]
          rw [e2 rfl]; rfl
      · rintro s ⟨rfl, h0⟩
        rw [List.take_length] at h0
        simp (maxSteps := 2000000) (disch := first | omega | (simp only [lenS]; try omega)) only [go_sem, reduceAdd, reduceEqDiff, reduceLeDiff, reduceSub]
        rw [h0]; rfl
  · have hc1 : ¬ R.code = 1 := by omega
    simp only [exPV, w67, hc, if_false, decide_false, Bool.false_and] at hx ⊢
    refine w1x ?_
    simp (maxSteps := 2000000) (disch := first | omega | (simp only [lenS]; try omega)) only [wcr, go_sem, reduceAdd, reduceEqDiff, reduceLeDiff, reduceSub]
    simp (maxSteps := 2000000) (disch := first | omega | (simp only [lenS]; try omega)) only [go_sem, reduceAdd, reduceEqDiff, reduceLeDiff, reduceSub, ha, he, hx, hc1]
    first | done | rfl
theorem wen (s : Spc) (b : Int) (hg : goodS s = true) (hb : inB 1 400 b = true) : C w8d [encS s, I b] [] = some (.tup [I (admC (flS s) b), vdPV (sndV (flS s) b)], []) := by
  have hk := zgx hg
  have hgf : zgg (flS s) = true := by simp only [goodS, Bool.and_eq_true] at hg; exact hg.2
  have hl := weo s hk
  have h1 : C w85 [.agg [I (s.conds + s.tasks.length), .sl false 3 ((trS s).map encT), I 0, I 1], I b] [] = some (.tup [vdPV (sndV (flS s) b), .bool true], []) := wef (flS s) b hgf hb (zeg hk)
  have h2 : C w8b [.agg [I (s.conds + s.tasks.length), .sl false 3 ((trS s).map encT), I 0, I 1], I b] [] = some (.tup [.bool (safeV (flS s) b), .bool (decide ((exAll (flS s).net (oneM (flS s).net.pl.toNat (flS s).src) b).code = 0))], []) := wel (flS s) b hgf hb (zeg hk)
  unfold admC
  have hw : (sndV (flS s) b).way.length ≤ 60 := by
    unfold sndV
    split
    · split
      · assumption
      · simp
    · simp
  generalize sndV (flS s) b = V at *
  generalize safeV (flS s) b = q at *
  generalize decide ((exAll (flS s).net (oneM (flS s).net.pl.toNat (flS s).src) b).code = 0) = q2 at *
  unfold vdPV at h1 ⊢
  have htl : (trS s).length ≤ 2^20 := by have := zgv (zgj hgf).1; have e : (flS s).net.tr = trS s := rfl; rw [e] at this; omega
  obtain ⟨vo, vk, vw, vd⟩ := V
  simp only at h1 hw ⊢
  by_cases hk : vk = 1 ∨ vk = 2
  · simp only [hk, if_true] at h1 ⊢
    refine w1z ?_
    simp (maxSteps := 2000000) (disch := first | omega | (simp only [lenS]; try omega)) only [wct, go_sem, reduceAdd, reduceEqDiff, reduceLeDiff, reduceSub]
    by_cases ho : vo = 1
    · subst ho
      cases q with
      | true =>
        simp (maxSteps := 2000000) (disch := first | omega | (simp only [lenS]; try omega)) only [go_sem, reduceAdd, reduceEqDiff, reduceLeDiff, reduceSub, hl, h1, h2]
        first | done | rfl
      | false =>
        simp (maxSteps := 2000000) (disch := first | omega | (simp only [lenS]; try omega)) only [go_sem, reduceAdd, reduceEqDiff, reduceLeDiff, reduceSub, hl, h1, h2]
        first | done | rfl
    · simp (maxSteps := 2000000) (disch := first | omega | (simp only [lenS]; try omega)) only [go_sem, reduceAdd, reduceEqDiff, reduceLeDiff, reduceSub, hl, h1, h2, ho]
      first | done | rfl
  · simp only [hk, if_false] at h1 ⊢
    refine w1z ?_
    simp (maxSteps := 2000000) (disch := first | omega | (simp only [lenS]; try omega)) only [wct, go_sem, reduceAdd, reduceEqDiff, reduceLeDiff, reduceSub]
    by_cases ho : vo = 1
    · subst ho
      cases q with
      | true =>
        simp (maxSteps := 2000000) (disch := first | omega | (simp only [lenS]; try omega)) only [go_sem, reduceAdd, reduceEqDiff, reduceLeDiff, reduceSub, hl, h1, h2]
        first | done | rfl
      | false =>
        simp (maxSteps := 2000000) (disch := first | omega | (simp only [lenS]; try omega)) only [go_sem, reduceAdd, reduceEqDiff, reduceLeDiff, reduceSub, hl, h1, h2]
        first | done | rfl
    · simp (maxSteps := 2000000) (disch := first | omega | (simp only [lenS]; try omega)) only [go_sem, reduceAdd, reduceEqDiff, reduceLeDiff, reduceSub, hl, h1, h2, ho]
      first | done | rfl
theorem w9w (s : Spc) (b : Int) (hg : goodS s = true) (hb : inB 1 400 b = true) : C w6r [encS s, I b] [] = some (.tup [I (admC (flS s) b), vdPV (sndV (flS s) b)], []) := by
  have hk := zgx hg
  have hgf : zgg (flS s) = true := by simp only [goodS, Bool.and_eq_true] at hg; exact hg.2
  have hl := wan s hk
  have h1 : C w6x [.agg [I (s.conds + s.tasks.length), .sl false 3 ((trS s).map encT), I 0, I 1], I b] [] = some (.tup [vdPV (sndV (flS s) b), exPV (exAll (flS s).net (oneM (flS s).net.pl.toNat (flS s).src) b)], []) := wa2 (flS s) b hgf hb
  obtain ⟨f1, f2, f3, f4, f5, f6⟩ := w69 hgf hb
  have hw : (sndV (flS s) b).way.length ≤ 60 := by
    unfold sndV
    split
    · split
      · assumption
      · simp
    · simp
  have ho1 : (sndV (flS s) b).ok = 1 → (exAll (flS s).net (oneM (flS s).net.pl.toNat (flS s).src) b).code = 0 := by
    unfold sndV
    split
    · exact fun _ => by assumption
    · intro h; simp at h
  have hgn := zgv (zgj hgf).1
  have htl : (trS s).length ≤ 2^20 := by have := hgn; have e : (flS s).net.tr = trS s := rfl; rw [e] at this; omega
  unfold admC safeV
  generalize sndV (flS s) b = V at *
  generalize exAll (flS s).net (oneM (flS s).net.pl.toNat (flS s).src) b = R at *
  have hcf := we3 R.sp.ms w6s [] rfl (fun _ _ => rfl) (fun m => !m.all (inB 0 1)) (fun x hx => w9v x (by have := f6 x hx; omega)) (by omega)
  have e0 : (R.sp.ms.all fun m => m.all (inB 0 1)) = !(R.sp.ms.any fun m => !m.all (inB 0 1)) := by rw [List.any_eq_not_all_not]; simp
  rw [e0]
  generalize (R.sp.ms.any fun m => !m.all (inB 0 1)) = q at *
  unfold vdPV at h1 ⊢
  obtain ⟨vo, vk, vw, vd⟩ := V
  simp only at h1 hw ho1 ⊢
  by_cases ho : vo = 1
  · have hc := ho1 ho
    subst ho
    simp only [hc, decide_true, Bool.true_and]
    by_cases hkd : vk = 1 ∨ vk = 2
    · simp only [hkd, if_true] at h1 ⊢
      by_cases har : R.sp.ar = []
      · simp only [exPV, arcPV, hc, har, if_true] at h1
        cases q with
        | true =>
          refine w0f ?_
          simp (maxSteps := 2000000) (disch := first | omega | (simp only [lenS]; try omega)) only [wb8, go_sem, reduceAdd, reduceEqDiff, reduceLeDiff, reduceSub]
          simp (maxSteps := 2000000) (disch := first | omega | (simp only [lenS]; try omega)) only [go_sem, reduceAdd, reduceEqDiff, reduceLeDiff, reduceSub, hl, h1, hcf]
          first | done | rfl | exact ⟨rfl, rfl⟩ | simp
        | false =>
          refine w0f ?_
          simp (maxSteps := 2000000) (disch := first | omega | (simp only [lenS]; try omega)) only [wb8, go_sem, reduceAdd, reduceEqDiff, reduceLeDiff, reduceSub]
          simp (maxSteps := 2000000) (disch := first | omega | (simp only [lenS]; try omega)) only [go_sem, reduceAdd, reduceEqDiff, reduceLeDiff, reduceSub, hl, h1, hcf]
          first | done | rfl | exact ⟨rfl, rfl⟩ | simp
      · simp only [exPV, arcPV, hc, har, if_true, if_false] at h1
        cases q with
        | true =>
          refine w0f ?_
          simp (maxSteps := 2000000) (disch := first | omega | (simp only [lenS]; try omega)) only [wb8, go_sem, reduceAdd, reduceEqDiff, reduceLeDiff, reduceSub]
          simp (maxSteps := 2000000) (disch := first | omega | (simp only [lenS]; try omega)) only [go_sem, reduceAdd, reduceEqDiff, reduceLeDiff, reduceSub, hl, h1, hcf]
          first | done | rfl | exact ⟨rfl, rfl⟩ | simp
        | false =>
          refine w0f ?_
          simp (maxSteps := 2000000) (disch := first | omega | (simp only [lenS]; try omega)) only [wb8, go_sem, reduceAdd, reduceEqDiff, reduceLeDiff, reduceSub]
          simp (maxSteps := 2000000) (disch := first | omega | (simp only [lenS]; try omega)) only [go_sem, reduceAdd, reduceEqDiff, reduceLeDiff, reduceSub, hl, h1, hcf]
          first | done | rfl | exact ⟨rfl, rfl⟩ | simp
    · simp only [hkd, if_false] at h1 ⊢
      by_cases har : R.sp.ar = []
      · simp only [exPV, arcPV, hc, har, if_true] at h1
        cases q with
        | true =>
          refine w0f ?_
          simp (maxSteps := 2000000) (disch := first | omega | (simp only [lenS]; try omega)) only [wb8, go_sem, reduceAdd, reduceEqDiff, reduceLeDiff, reduceSub]
          simp (maxSteps := 2000000) (disch := first | omega | (simp only [lenS]; try omega)) only [go_sem, reduceAdd, reduceEqDiff, reduceLeDiff, reduceSub, hl, h1, hcf]
          first | done | rfl | exact ⟨rfl, rfl⟩ | simp
        | false =>
          refine w0f ?_
          simp (maxSteps := 2000000) (disch := first | omega | (simp only [lenS]; try omega)) only [wb8, go_sem, reduceAdd, reduceEqDiff, reduceLeDiff, reduceSub]
          simp (maxSteps := 2000000) (disch := first | omega | (simp only [lenS]; try omega)) only [go_sem, reduceAdd, reduceEqDiff, reduceLeDiff, reduceSub, hl, h1, hcf]
          first | done | rfl | exact ⟨rfl, rfl⟩ | simp
      · simp only [exPV, arcPV, hc, har, if_true, if_false] at h1
        cases q with
        | true =>
          refine w0f ?_
          simp (maxSteps := 2000000) (disch := first | omega | (simp only [lenS]; try omega)) only [wb8, go_sem, reduceAdd, reduceEqDiff, reduceLeDiff, reduceSub]
          simp (maxSteps := 2000000) (disch := first | omega | (simp only [lenS]; try omega)) only [go_sem, reduceAdd, reduceEqDiff, reduceLeDiff, reduceSub, hl, h1, hcf]
          first | done | rfl | exact ⟨rfl, rfl⟩ | simp
        | false =>
          refine w0f ?_
          simp (maxSteps := 2000000) (disch := first | omega | (simp only [lenS]; try omega)) only [wb8, go_sem, reduceAdd, reduceEqDiff, reduceLeDiff, reduceSub]
          simp (maxSteps := 2000000) (disch := first | omega | (simp only [lenS]; try omega)) only [go_sem, reduceAdd, reduceEqDiff, reduceLeDiff, reduceSub, hl, h1, hcf]
          first | done | rfl | exact ⟨rfl, rfl⟩ | simp
  · rw [if_neg ho]
    by_cases hc : R.code = 0
    · by_cases hkd : vk = 1 ∨ vk = 2
      · simp only [hkd, if_true] at h1 ⊢
        by_cases har : R.sp.ar = []
        · simp only [exPV, arcPV, hc, har, if_true] at h1
          refine w0f ?_
          simp (maxSteps := 2000000) (disch := first | omega | (simp only [lenS]; try omega)) only [wb8, go_sem, reduceAdd, reduceEqDiff, reduceLeDiff, reduceSub]
          simp (maxSteps := 2000000) (disch := first | omega | (simp only [lenS]; try omega)) only [go_sem, reduceAdd, reduceEqDiff, reduceLeDiff, reduceSub, hl, h1, ho]
          first | done | rfl | exact ⟨rfl, rfl⟩ | simp
        · simp only [exPV, arcPV, hc, har, if_true, if_false] at h1
          refine w0f ?_
          simp (maxSteps := 2000000) (disch := first | omega | (simp only [lenS]; try omega)) only [wb8, go_sem, reduceAdd, reduceEqDiff, reduceLeDiff, reduceSub]
          simp (maxSteps := 2000000) (disch := first | omega | (simp only [lenS]; try omega)) only [go_sem, reduceAdd, reduceEqDiff, reduceLeDiff, reduceSub, hl, h1, ho]
          first | done | rfl | exact ⟨rfl, rfl⟩ | simp
      · simp only [hkd, if_false] at h1 ⊢
        by_cases har : R.sp.ar = []
        · simp only [exPV, arcPV, hc, har, if_true] at h1
          refine w0f ?_
          simp (maxSteps := 2000000) (disch := first | omega | (simp only [lenS]; try omega)) only [wb8, go_sem, reduceAdd, reduceEqDiff, reduceLeDiff, reduceSub]
          simp (maxSteps := 2000000) (disch := first | omega | (simp only [lenS]; try omega)) only [go_sem, reduceAdd, reduceEqDiff, reduceLeDiff, reduceSub, hl, h1, ho]
          first | done | rfl | exact ⟨rfl, rfl⟩ | simp
        · simp only [exPV, arcPV, hc, har, if_true, if_false] at h1
          refine w0f ?_
          simp (maxSteps := 2000000) (disch := first | omega | (simp only [lenS]; try omega)) only [wb8, go_sem, reduceAdd, reduceEqDiff, reduceLeDiff, reduceSub]
          simp (maxSteps := 2000000) (disch := first | omega | (simp only [lenS]; try omega)) only [go_sem, reduceAdd, reduceEqDiff, reduceLeDiff, reduceSub, hl, h1, ho]
          first | done | rfl | exact ⟨rfl, rfl⟩ | simp
    · simp only [exPV, hc, if_false] at h1
      by_cases hkd : vk = 1 ∨ vk = 2
      · simp only [hkd, if_true] at h1 ⊢
        refine w0f ?_
        simp (maxSteps := 2000000) (disch := first | omega | (simp only [lenS]; try omega)) only [wb8, go_sem, reduceAdd, reduceEqDiff, reduceLeDiff, reduceSub]
        simp (maxSteps := 2000000) (disch := first | omega | (simp only [lenS]; try omega)) only [go_sem, reduceAdd, reduceEqDiff, reduceLeDiff, reduceSub, hl, h1, ho]
        first | done | rfl | exact ⟨rfl, rfl⟩ | simp
      · simp only [hkd, if_false] at h1 ⊢
        refine w0f ?_
        simp (maxSteps := 2000000) (disch := first | omega | (simp only [lenS]; try omega)) only [wb8, go_sem, reduceAdd, reduceEqDiff, reduceLeDiff, reduceSub]
        simp (maxSteps := 2000000) (disch := first | omega | (simp only [lenS]; try omega)) only [go_sem, reduceAdd, reduceEqDiff, reduceLeDiff, reduceSub, hl, h1, ho]
        first | done | rfl | exact ⟨rfl, rfl⟩ | simp
theorem wer (s : Spc) (k : Nat) (hk : k < s.tasks.length) (hl : s.tasks.length ≤ 6) (hc : 2 ≤ s.conds ∧ s.conds ≤ 8) (ht : smTk s.tasks[k]) : C w8h [encS s, I k] [] = some (.bool (goodK s k s.tasks[k]), []) := by
  obtain ⟨a, b, c, d⟩ := ht
  refine w23 ?_
  simp (maxSteps := 2000000) (disch := first | omega | (simp only [lenS]; try omega)) only [wcx, go_sem, reduceAdd, reduceEqDiff, reduceLeDiff, reduceSub]
  unfold goodK
  generalize hT : s.tasks[k] = t at *
  simp (maxSteps := 2000000) (disch := first | omega | (simp only [lenS]; try omega)) only [go_sem, reduceAdd, reduceEqDiff, reduceLeDiff, reduceSub, hT, wf6, wfb, wf5]
  generalize t.inn.all (inB 0 (s.conds - 1)) = q1
  generalize t.out.all (inB 0 (s.conds - 1)) = q2
  generalize t.cut.all (inB 2 (s.conds - 1)) = q3
  generalize t.stop.all (inB 0 ((s.tasks.length : Int) - 1)) = q4
  (repeat' (first | apply And.intro | intro _)) <;> simp_all
theorem wek (s : Spc) (hs : smSpc s) : C w8a [encS s] [] = some (.bool (goodS s), []) := by
  obtain ⟨hl, ht⟩ := hs
  refine w1w ?_
  simp (maxSteps := 2000000) (disch := first | omega | (simp only [lenS]; try omega)) only [wcq, go_sem, reduceAdd, reduceEqDiff, reduceLeDiff, reduceSub]
  simp (maxSteps := 2000000) (disch := first | omega | (simp only [lenS]; try omega)) only [go_sem, reduceAdd, reduceEqDiff, reduceLeDiff, reduceSub, wf6]
  refine ⟨fun h1 => ⟨fun h2 => ?_, fun h2 => by simp [goodS, zt9, h2]⟩, fun h1 => by simp [goodS, zt9, h1]⟩
  have hc : 2 ≤ s.conds ∧ s.conds ≤ 8 := by simpa [inB] using h1
  have hn : 1 ≤ s.tasks.length ∧ s.tasks.length ≤ 6 := by simp [inB] at h2; omega
  refine W_for s.tasks.length (fun i st => st = ⟨[.any, .ptr 0 0, .any, .any, .any, .any, I s.tasks.length, I i, .any, .any], [.box wg0 [I s.conds, tks s.tasks]]⟩ ∧ ∀ k, k < i → goodK s k (tkN s k) = true) ?_ ?_ ?_
  · simp (maxSteps := 2000000) (disch := first | omega | (simp only [lenS]; try omega)) only [go_sem, reduceAdd, reduceEqDiff, reduceLeDiff, reduceSub]
    exact ⟨rfl, fun k hk => by omega⟩
  · rintro i st hi ⟨rfl, hall⟩
    have hT := wer s i hi hn.2 hc (ht _ (List.getElem_mem hi))
    rw [← z19s hi] at hT
    simp (maxSteps := 2000000) (disch := first | omega | (simp only [lenS]; try omega)) only [go_sem, reduceAdd, reduceEqDiff, reduceLeDiff, reduceSub, hT]
    refine ⟨fun h => ⟨rfl, fun k hk => ?_⟩, fun h => ?_⟩
    · rcases Nat.lt_or_ge k i with h5 | h5
      · exact hall k h5
      · rw [show k = i by omega]; exact h
    · have : zt9 s = false := by
        rw [Bool.eq_false_iff]
        intro he
        have := (zta he).2.2 i hi
        rw [h] at this; cases this
      simp [goodS, this]
  · rintro st ⟨rfl, hall⟩
    have hok : zt9 s = true := by
      simp only [zt9, h1, h2, Bool.true_and, List.all_eq_true, List.mem_range]
      exact hall
    have hf := weo s hok
    have hg := weh (flS s) (zeg hok)
    have e : (trS s).length = (mvS s).length := z1ab s s.tasks.length
    have h3 := zr7 hok s.tasks.length (by omega)
    have h4 : (mvS s).length ≤ 60 := by unfold mvS; omega
    unfold encF flS at hg
    simp only at hg
    simp (maxSteps := 2000000) (disch := first | omega | (simp only [lenS]; try omega)) only [go_sem, reduceAdd, reduceEqDiff, reduceLeDiff, reduceSub, hf, hg]
    simp [goodS, hok, flS]
theorem wee (s : Spc) (b : Int) (hs : smSpc s) : C w84 [encS s, I b] [] = some (.tup [if goodS s && inB 1 400 b then I (admC (flS s) b) else I 0, if goodS s && inB 1 400 b then vdPV (sndV (flS s) b) else vdPV ⟨0, 0, [], 0⟩, .bool (goodS s && inB 1 400 b)], []) := by
  have h0 := wek s hs
  cases hg : goodS s with
  | false =>
    rw [hg] at h0
    refine w1r ?_
    simp (maxSteps := 2000000) (disch := first | omega | (simp only [lenS]; try omega)) only [wck, go_sem, reduceAdd, reduceEqDiff, reduceLeDiff, reduceSub]
    simp (maxSteps := 2000000) (disch := first | omega | (simp only [lenS]; try omega)) only [go_sem, reduceAdd, reduceEqDiff, reduceLeDiff, reduceSub, h0]
    first | done | rfl
  | true =>
    rw [hg] at h0
    cases hb : inB 1 400 b with
    | false =>
      refine w1r ?_
      simp (maxSteps := 2000000) (disch := first | omega | (simp only [lenS]; try omega)) only [wck, go_sem, reduceAdd, reduceEqDiff, reduceLeDiff, reduceSub]
      simp (maxSteps := 2000000) (disch := first | omega | (simp only [lenS]; try omega)) only [go_sem, reduceAdd, reduceEqDiff, reduceLeDiff, reduceSub, h0, wf6, hb]
      first | done | rfl
    | true =>
      have h1 := wen s b hg hb
      have hw : (sndV (flS s) b).way.length ≤ 60 := by
        unfold sndV
        split
        · split
          · assumption
          · simp
        · simp
      generalize sndV (flS s) b = V at *
      generalize admC (flS s) b = q at *
      unfold vdPV at h1 ⊢
      obtain ⟨vo, vk, vw, vd⟩ := V
      simp only at h1 hw ⊢
      by_cases hk : vk = 1 ∨ vk = 2
      · simp only [hk, if_true] at h1 ⊢
        refine w1r ?_
        simp (maxSteps := 2000000) (disch := first | omega | (simp only [lenS]; try omega)) only [wck, go_sem, reduceAdd, reduceEqDiff, reduceLeDiff, reduceSub]
        simp (maxSteps := 2000000) (disch := first | omega | (simp only [lenS]; try omega)) only [go_sem, reduceAdd, reduceEqDiff, reduceLeDiff, reduceSub, h0, wf6, hb, h1]
        first | done | rfl
      · simp only [hk, if_false] at h1 ⊢
        refine w1r ?_
        simp (maxSteps := 2000000) (disch := first | omega | (simp only [lenS]; try omega)) only [wck, go_sem, reduceAdd, reduceEqDiff, reduceLeDiff, reduceSub]
        simp (maxSteps := 2000000) (disch := first | omega | (simp only [lenS]; try omega)) only [go_sem, reduceAdd, reduceEqDiff, reduceLeDiff, reduceSub, h0, wf6, hb, h1]
        first | done | rfl
theorem w9g (s : Spc) (b : Int) (hs : smSpc s) : C w6c [encS s, I b] [] = some (.tup [if goodS s && inB 1 400 b then I (admC (flS s) b) else I 0, if goodS s && inB 1 400 b then vdPV (sndV (flS s) b) else vdPV ⟨0, 0, [], 0⟩, .bool (goodS s && inB 1 400 b)], []) := by
  have h0 := wad s hs
  cases hg : goodS s with
  | false =>
    rw [hg] at h0
    refine w00 ?_
    simp (maxSteps := 2000000) (disch := first | omega | (simp only [lenS]; try omega)) only [war, go_sem, reduceAdd, reduceEqDiff, reduceLeDiff, reduceSub]
    simp (maxSteps := 2000000) (disch := first | omega | (simp only [lenS]; try omega)) only [go_sem, reduceAdd, reduceEqDiff, reduceLeDiff, reduceSub, h0]
    first | done | rfl
  | true =>
    rw [hg] at h0
    cases hb : inB 1 400 b with
    | false =>
      refine w00 ?_
      simp (maxSteps := 2000000) (disch := first | omega | (simp only [lenS]; try omega)) only [war, go_sem, reduceAdd, reduceEqDiff, reduceLeDiff, reduceSub]
      simp (maxSteps := 2000000) (disch := first | omega | (simp only [lenS]; try omega)) only [go_sem, reduceAdd, reduceEqDiff, reduceLeDiff, reduceSub, h0, waq, hb]
      first | done | rfl
    | true =>
      have h1 := w9w s b hg hb
      have hw : (sndV (flS s) b).way.length ≤ 60 := by
        unfold sndV
        split
        · split
          · assumption
          · simp
        · simp
      generalize sndV (flS s) b = V at *
      generalize admC (flS s) b = q at *
      unfold vdPV at h1 ⊢
      obtain ⟨vo, vk, vw, vd⟩ := V
      simp only at h1 hw ⊢
      by_cases hk : vk = 1 ∨ vk = 2
      · simp only [hk, if_true] at h1 ⊢
        refine w00 ?_
        simp (maxSteps := 2000000) (disch := first | omega | (simp only [lenS]; try omega)) only [war, go_sem, reduceAdd, reduceEqDiff, reduceLeDiff, reduceSub]
        simp (maxSteps := 2000000) (disch := first | omega | (simp only [lenS]; try omega)) only [go_sem, reduceAdd, reduceEqDiff, reduceLeDiff, reduceSub, h0, waq, hb, h1]
        first | done | rfl
      · simp only [hk, if_false] at h1 ⊢
        refine w00 ?_
        simp (maxSteps := 2000000) (disch := first | omega | (simp only [lenS]; try omega)) only [war, go_sem, reduceAdd, reduceEqDiff, reduceLeDiff, reduceSub]
        simp (maxSteps := 2000000) (disch := first | omega | (simp only [lenS]; try omega)) only [go_sem, reduceAdd, reduceEqDiff, reduceLeDiff, reduceSub, h0, waq, hb, h1]
        first | done | rfl
theorem wdx (a b : List Int) (hl : a.length < 2^62) : C w7o [ints a, ints b] [] = some (.bool (decide (a = b)), []) := by
  refine w1c ?_
  simp (maxSteps := 2000000) (disch := first | omega | (simp only [lenS]; try omega)) only [wc5, go_sem, reduceAdd, reduceEqDiff, reduceLeDiff, reduceSub]
  refine ⟨fun h => ?_, fun h => ?_⟩
  · have : a ≠ b := fun e => h (by rw [e])
    simp [this]
  refine W_for a.length (fun k s => s = ⟨[ints a, ints b, .any, .any, .any, I a.length, I k, .any, .any], []⟩ ∧ a.take k = b.take k) ?_ ?_ ?_
  · simp (maxSteps := 2000000) (disch := first | omega | (simp only [lenS]; try omega)) only [go_sem, reduceAdd, reduceEqDiff, reduceLeDiff, reduceSub]
    rfl
  · rintro k s hk ⟨rfl, hall⟩
    simp (maxSteps := 2000000) (disch := first | omega | (simp only [lenS]; try omega)) only [go_sem, reduceAdd, reduceEqDiff, reduceLeDiff, reduceSub]
    refine ⟨fun h => ?_, fun h => ⟨rfl, ?_⟩⟩
    · have : a ≠ b := fun e => h (by simp [e])
      simp [this]
    · rw [z19l hk, z19l (show k < b.length by omega), hall, h]
  · rintro s ⟨rfl, hall⟩
    simp (maxSteps := 2000000) (disch := first | omega | (simp only [lenS]; try omega)) only [go_sem, reduceAdd, reduceEqDiff, reduceLeDiff, reduceSub]
    rw [List.take_length, List.take_of_length_le (by omega)] at hall
    simp [hall]
theorem wdy (o k d : Int) (w : List Int) (hw : w.length < 2^40) : C w7p [.agg [I o, I k, ints w, I d], .agg [I o, I k, ints w, I d]] [] = some (.bool true, []) := by
  have h := wdx w w (by omega)
  simp only [decide_true] at h
  refine w1d ?_
  simp (maxSteps := 2000000) (disch := first | omega | (simp only [lenS]; try omega)) only [wc6, go_sem, reduceAdd, reduceEqDiff, reduceLeDiff, reduceSub]
  simp (maxSteps := 2000000) (disch := first | omega | (simp only [lenS]; try omega)) only [go_sem, reduceAdd, reduceEqDiff, reduceLeDiff, reduceSub, h]
theorem w9u (s : Spc) (hs : smSpc s) (hg : goodS s = true) : C w6q [encS s] [] = some (.tup [.agg [I (flS s).net.pl, .un wg2 false 3 ((flS s).net.tr.map encT), I 0, I 1], .bool true], []) := by
  have hG := wad s hs
  have hf := wan s (zgx hg)
  refine w0e ?_
  simp (maxSteps := 2000000) (disch := first | omega | (simp only [lenS]; try omega)) only [wb7, go_sem, reduceAdd, reduceEqDiff, reduceLeDiff, reduceSub]
  simp (maxSteps := 2000000) (disch := first | omega | (simp only [lenS]; try omega)) only [go_sem, reduceAdd, reduceEqDiff, reduceLeDiff, reduceSub, hG, hg, hf]
  rfl
theorem wa9 (f : Fl) (b : Int) (hf : smN f.net) : C w75 [encF f, I b] [] = some (.bool (zgg f && inB 1 400 b), []) := by
  refine w0t ?_
  simp (maxSteps := 2000000) (disch := first | omega | (simp only [lenS]; try omega)) only [wbm, go_sem, reduceAdd, reduceEqDiff, reduceLeDiff, reduceSub]
  simp (maxSteps := 2000000) (disch := first | omega | (simp only [lenS]; try omega)) only [go_sem, reduceAdd, reduceEqDiff, reduceLeDiff, reduceSub, w9i f hf, waq]
  grind
theorem wed (f : Fl) (b : Int) : (sndV f b).way.length ≤ 60 := by
  unfold sndV
  split
  · split
    · assumption
    · simp
  · simp
theorem w9h (f : Fl) (b : Int) (hg : zgg f = true) (hb : inB 1 400 b = true) (hf : smN f.net) : C w6d [encF f, I b] [] = some (.tup [vdPV (sndV f b), .bool true], []) := by
  have h0 := wa9 f b hf
  rw [hg, hb] at h0
  have h1 := wa2 f b hg hb
  have hw := wed f b
  have hgn := zgv (zgj hg).1
  obtain ⟨f1, f2, f3, f4, f5, f6⟩ := w69 hg hb
  generalize sndV f b = V at *
  generalize exAll f.net (oneM f.net.pl.toNat f.src) b = R at *
  obtain ⟨vo, vk, vw, vd⟩ := V
  unfold vdPV at h1 ⊢
  simp only at h1 hw ⊢
  by_cases hc : R.code = 0
  · by_cases har : R.sp.ar = []
    · simp only [exPV, arcPV, hc, har, if_true] at h1
      by_cases hk : vk = 1 ∨ vk = 2
      · simp only [hk, if_true] at h1 ⊢
        refine w01 ?_
        simp (maxSteps := 2000000) (disch := first | omega | (simp only [lenS]; try omega)) only [wat, go_sem, reduceAdd, reduceEqDiff, reduceLeDiff, reduceSub]
        simp (maxSteps := 2000000) (disch := first | omega | (simp only [lenS]; try omega)) only [go_sem, reduceAdd, reduceEqDiff, reduceLeDiff, reduceSub, h0, h1]
        first | done | rfl
      · simp only [hk, if_false] at h1 ⊢
        refine w01 ?_
        simp (maxSteps := 2000000) (disch := first | omega | (simp only [lenS]; try omega)) only [wat, go_sem, reduceAdd, reduceEqDiff, reduceLeDiff, reduceSub]
        simp (maxSteps := 2000000) (disch := first | omega | (simp only [lenS]; try omega)) only [go_sem, reduceAdd, reduceEqDiff, reduceLeDiff, reduceSub, h0, h1]
        first | done | rfl
    · simp only [exPV, arcPV, hc, har, if_true, if_false] at h1
      by_cases hk : vk = 1 ∨ vk = 2
      · simp only [hk, if_true] at h1 ⊢
        refine w01 ?_
        simp (maxSteps := 2000000) (disch := first | omega | (simp only [lenS]; try omega)) only [wat, go_sem, reduceAdd, reduceEqDiff, reduceLeDiff, reduceSub]
        simp (maxSteps := 2000000) (disch := first | omega | (simp only [lenS]; try omega)) only [go_sem, reduceAdd, reduceEqDiff, reduceLeDiff, reduceSub, h0, h1]
        first | done | rfl
      · simp only [hk, if_false] at h1 ⊢
        refine w01 ?_
        simp (maxSteps := 2000000) (disch := first | omega | (simp only [lenS]; try omega)) only [wat, go_sem, reduceAdd, reduceEqDiff, reduceLeDiff, reduceSub]
        simp (maxSteps := 2000000) (disch := first | omega | (simp only [lenS]; try omega)) only [go_sem, reduceAdd, reduceEqDiff, reduceLeDiff, reduceSub, h0, h1]
        first | done | rfl
  · simp only [exPV, hc, if_false] at h1
    by_cases hk : vk = 1 ∨ vk = 2
    · simp only [hk, if_true] at h1 ⊢
      refine w01 ?_
      simp (maxSteps := 2000000) (disch := first | omega | (simp only [lenS]; try omega)) only [wat, go_sem, reduceAdd, reduceEqDiff, reduceLeDiff, reduceSub]
      simp (maxSteps := 2000000) (disch := first | omega | (simp only [lenS]; try omega)) only [go_sem, reduceAdd, reduceEqDiff, reduceLeDiff, reduceSub, h0, h1]
      first | done | rfl
    · simp only [hk, if_false] at h1 ⊢
      refine w01 ?_
      simp (maxSteps := 2000000) (disch := first | omega | (simp only [lenS]; try omega)) only [wat, go_sem, reduceAdd, reduceEqDiff, reduceLeDiff, reduceSub]
      simp (maxSteps := 2000000) (disch := first | omega | (simp only [lenS]; try omega)) only [go_sem, reduceAdd, reduceEqDiff, reduceLeDiff, reduceSub, h0, h1]
      first | done | rfl
theorem w9l (m : List Int) (hl : m.length < 2^62) : C w6i [ints m] [] = some (.bool (!m.all (inB 0 1)), []) := by
  have h1 := w9x m 0 1 hl
  generalize m.all (inB 0 1) = q at *
  refine w06 ?_
  simp (maxSteps := 2000000) (disch := first | omega | (simp only [lenS]; try omega)) only [waz, go_sem, reduceAdd, reduceEqDiff, reduceLeDiff, reduceSub]
  simp (maxSteps := 2000000) (disch := first | omega | (simp only [lenS]; try omega)) only [go_sem, reduceAdd, reduceEqDiff, reduceLeDiff, reduceSub, h1]
  cases q <;> simp
theorem w9m (f : Fl) (b : Int) (hg : zgg f = true) (hb : inB 1 400 b = true) (hf : smN f.net) : C w6h [encF f, I b] [] = some (.tup [.bool (safeV f b), .bool (decide ((exAll f.net (oneM f.net.pl.toNat f.src) b).code = 0))], []) := by
  have h0 := wa9 f b hf
  rw [hg, hb] at h0
  have hs0 := wao f hg
  have hx := wa6 f.net (oneM f.net.pl.toNat f.src) b (ztk hg) (by simp only [inB, Bool.and_eq_true, decide_eq_true_eq] at hb; omega)
  obtain ⟨f1, f2, f3, f4, f5, f6⟩ := w69 hg hb
  unfold safeV
  have hcd := zbw f.net (oneM f.net.pl.toNat f.src) b
  have hgn := zgv (zgj hg).1
  have hEl : (oneM f.net.pl.toNat f.src).length = f.net.pl.toNat := by simp [oneM]
  generalize exAll f.net (oneM f.net.pl.toNat f.src) b = R at *
  generalize oneM f.net.pl.toNat f.src = E0 at *
  have hcf := we3 R.sp.ms w6i [] rfl (fun _ _ => rfl) (fun m => !m.all (inB 0 1)) (fun x hx => w9l x (by have := f6 x hx; omega)) (by omega)
  have e0 : (R.sp.ms.all fun m => m.all (inB 0 1)) = !(R.sp.ms.any fun m => !m.all (inB 0 1)) := by rw [List.any_eq_not_all_not]; simp
  rw [e0]
  generalize (R.sp.ms.any fun m => !m.all (inB 0 1)) = q at *
  by_cases hc : R.code = 0
  · simp only [hc, decide_true, Bool.true_and]
    by_cases har : R.sp.ar = []
    · simp only [exPV, w67, arcPV, hc, har, if_true] at hx
      cases q with
      | true =>
        refine w05 ?_
        simp (maxSteps := 2000000) (disch := first | omega | (simp only [lenS]; try omega)) only [wax, go_sem, reduceAdd, reduceEqDiff, reduceLeDiff, reduceSub]
        simp (maxSteps := 2000000) (disch := first | omega | (simp only [lenS]; try omega)) only [go_sem, reduceAdd, reduceEqDiff, reduceLeDiff, reduceSub, h0, hs0, hx, hcf]
        first | done | rfl
      | false =>
        refine w05 ?_
        simp (maxSteps := 2000000) (disch := first | omega | (simp only [lenS]; try omega)) only [wax, go_sem, reduceAdd, reduceEqDiff, reduceLeDiff, reduceSub]
        simp (maxSteps := 2000000) (disch := first | omega | (simp only [lenS]; try omega)) only [go_sem, reduceAdd, reduceEqDiff, reduceLeDiff, reduceSub, h0, hs0, hx, hcf]
        first | done | rfl
    · simp only [exPV, w67, arcPV, hc, har, if_true, if_false] at hx
      cases q with
      | true =>
        refine w05 ?_
        simp (maxSteps := 2000000) (disch := first | omega | (simp only [lenS]; try omega)) only [wax, go_sem, reduceAdd, reduceEqDiff, reduceLeDiff, reduceSub]
        simp (maxSteps := 2000000) (disch := first | omega | (simp only [lenS]; try omega)) only [go_sem, reduceAdd, reduceEqDiff, reduceLeDiff, reduceSub, h0, hs0, hx, hcf]
        first | done | rfl
      | false =>
        refine w05 ?_
        simp (maxSteps := 2000000) (disch := first | omega | (simp only [lenS]; try omega)) only [wax, go_sem, reduceAdd, reduceEqDiff, reduceLeDiff, reduceSub]
        simp (maxSteps := 2000000) (disch := first | omega | (simp only [lenS]; try omega)) only [go_sem, reduceAdd, reduceEqDiff, reduceLeDiff, reduceSub, h0, hs0, hx, hcf]
        first | done | rfl
  · have hc1 : ¬ R.code = 1 := by omega
    simp only [exPV, w67, hc, if_false, decide_false, Bool.false_and] at hx ⊢
    refine w05 ?_
    simp (maxSteps := 2000000) (disch := first | omega | (simp only [lenS]; try omega)) only [wax, go_sem, reduceAdd, reduceEqDiff, reduceLeDiff, reduceSub]
    simp (maxSteps := 2000000) (disch := first | omega | (simp only [lenS]; try omega)) only [go_sem, reduceAdd, reduceEqDiff, reduceLeDiff, reduceSub, h0, hs0, hx, hc1]
    first | done | rfl
theorem w66 (s : Spc) (b : Int) (hs : smSpc s) : ∃ (c o k d : Int) (w : List Int) (g : Bool) (W : PV), (W = .un t_int true 1 (w.map I) ∨ (W = .nil true 1 ∧ w = [])) ∧ w.length ≤ 60 ∧ C w6c [encS s, I b] [] = some (.tup [I c, .agg [I o, I k, W, I d], .bool g], []) ∧ C w84 [encS s, I b] [] = some (.tup [I c, .agg [I o, I k, W, I d], .bool g], []) ∧ (g = true → goodS s = true ∧ inB 1 400 b = true ∧ c = admC (flS s) b ∧ vdPV (sndV (flS s) b) = .agg [I o, I k, W, I d] ∧ o = (sndV (flS s) b).ok) := by
  have h1 := w9g s b hs
  have h2 := wee s b hs
  have hw := wed (flS s) b
  cases hg : goodS s && inB 1 400 b with
  | false =>
    have e0 : vdPV ⟨0, 0, [], 0⟩ = .agg [I 0, I 0, .nil true 1, I 0] := rfl
    simp only [hg, Bool.false_eq_true, if_false, e0] at h1 h2
    exact ⟨0, 0, 0, 0, [], false, _, .inr ⟨rfl, rfl⟩, by simp, h1, h2, fun h => by cases h⟩
  | true =>
    simp only [hg, if_true] at h1 h2
    rw [Bool.and_eq_true] at hg
    by_cases hk : (sndV (flS s) b).kind = 1 ∨ (sndV (flS s) b).kind = 2
    · have e : vdPV (sndV (flS s) b) = .agg [I (sndV (flS s) b).ok, I (sndV (flS s) b).kind, .un t_int true 1 ((sndV (flS s) b).way.map I), I (sndV (flS s) b).dead] := by unfold vdPV; rw [if_pos hk]
      rw [e] at h1 h2
      exact ⟨_, _, _, _, _, true, _, .inl rfl, hw, h1, h2, fun _ => ⟨hg.1, hg.2, rfl, e, rfl⟩⟩
    · have e : vdPV (sndV (flS s) b) = .agg [I (sndV (flS s) b).ok, I (sndV (flS s) b).kind, .nil true 1, I (sndV (flS s) b).dead] := by unfold vdPV; rw [if_neg hk]
      rw [e] at h1 h2
      exact ⟨_, _, _, _, [], true, _, .inr ⟨rfl, rfl⟩, by simp, h1, h2, fun _ => ⟨hg.1, hg.2, rfl, e, rfl⟩⟩
theorem laws_FnAdmitted_ok (a b : List Int) (ha2 : ∀ x ∈ a, 0 ≤ x ∧ x < 256) (hb2 : ∀ x ∈ b, 0 ≤ x ∧ x < 256) : C w7m [bys a, bys b] [] = some (.bool true, []) := by
  refine w1a ?_
  simp (maxSteps := 2000000) (disch := first | omega | (simp only [lenS]; try omega)) only [wc3, go_sem, reduceAdd, reduceEqDiff, reduceLeDiff, reduceSub]
  simp (maxSteps := 2000000) (disch := first | omega | (simp only [lenS]; try omega)) only [go_sem, reduceAdd, reduceEqDiff, reduceLeDiff, reduceSub, wdw]
  intro hbig
  simp only [Bool.or_eq_false_iff, decide_eq_false_iff_not] at hbig
  obtain ⟨_, e1, S, j, rfl, hS⟩ := weg a (by omega) ha2
  obtain ⟨_, e2, S2, j2, rfl, hS2⟩ := weg b (by omega) hb2
  obtain ⟨c2, o2, k2, d2, w2, g2, W2, hW2, hl2, n1, n2, -⟩ := w66 S2 j2 hS2.sm
  obtain ⟨c, o, k, d, w, g, W, hW, hl, m1, m2, hg⟩ := w66 S j hS.sm
  have s1 := wdy o k d w (by omega)
  have s2 := wdy o2 k2 d2 w2 (by omega)
  obtain ⟨⟨t1, t2⟩, ⟨t3, t4⟩, t5⟩ := hS
  obtain ⟨⟨u1, u2⟩, ⟨u3, u4⟩, u5⟩ := hS2
  cases g with
  | false =>
    clear hg
    rcases hW with rfl | ⟨rfl, rfl⟩
    · rcases hW2 with rfl | ⟨rfl, rfl⟩
      · simp (maxSteps := 2000000) (disch := first | omega | (simp only [lenS]; try omega)) only [go_sem, reduceAdd, reduceEqDiff, reduceLeDiff, reduceSub, e1, e2, n1, n2, m1, m2, s1, s2, beq_self_eq_true, bne_self_eq_false]
        cases g2 <;> simp
      · simp only [ints, List.map_nil] at s2
        simp (maxSteps := 2000000) (disch := first | omega | (simp only [lenS]; try omega)) only [go_sem, reduceAdd, reduceEqDiff, reduceLeDiff, reduceSub, e1, e2, n1, n2, m1, m2, s1, s2, beq_self_eq_true, bne_self_eq_false]
        cases g2 <;> simp
    · simp only [ints, List.map_nil] at s1
      rcases hW2 with rfl | ⟨rfl, rfl⟩
      · simp (maxSteps := 2000000) (disch := first | omega | (simp only [lenS]; try omega)) only [go_sem, reduceAdd, reduceEqDiff, reduceLeDiff, reduceSub, e1, e2, n1, n2, m1, m2, s1, s2, beq_self_eq_true, bne_self_eq_false]
        cases g2 <;> simp
      · simp only [ints, List.map_nil] at s2
        simp (maxSteps := 2000000) (disch := first | omega | (simp only [lenS]; try omega)) only [go_sem, reduceAdd, reduceEqDiff, reduceLeDiff, reduceSub, e1, e2, n1, n2, m1, m2, s1, s2, beq_self_eq_true, bne_self_eq_false]
        cases g2 <;> simp
  | true =>
    obtain ⟨p1, p2, p3, p4, p5⟩ := hg rfl
    have hgf : zgg (flS S) = true := by simp only [goodS, Bool.and_eq_true] at p1; exact p1.2
    have q1 := w9u S (drS.sm ⟨⟨t1, t2⟩, ⟨t3, t4⟩, t5⟩) p1
    have q2 : C w6d [.agg [I (flS S).net.pl, .sl false 3 ((flS S).net.tr.map encT), I 0, I 1], I j] [] = some (.tup [vdPV (sndV (flS S) j), .bool true], []) := w9h (flS S) j hgf p2 (zeg (zgx p1))
    rw [p4] at q2
    have q3 : C w6h [.agg [I (flS S).net.pl, .sl false 3 ((flS S).net.tr.map encT), I 0, I 1], I j] [] = some (.tup [.bool (safeV (flS S) j), .bool (decide ((exAll (flS S).net (oneM (flS S).net.pl.toNat (flS S).src) j).code = 0))], []) := w9m (flS S) j hgf p2 (zeg (zgx p1))
    have hsd : safeV (flS S) j = true → decide ((exAll (flS S).net (oneM (flS S).net.pl.toNat (flS S).src) j).code = 0) = true := by
      unfold safeV
      rw [Bool.and_eq_true]
      exact fun h => h.1
    have h3 : (o ≠ 1 ∧ c = 1) ∨ (o = 1 ∧ safeV (flS S) j = true ∧ c = 0) ∨ (o = 1 ∧ safeV (flS S) j = false ∧ c = 2) := by
      rw [p3, p5]
      unfold admC
      by_cases h : (sndV (flS S) j).ok = 1
      · rw [if_pos h]
        cases safeV (flS S) j <;> simp [h]
      · rw [if_neg h]; exact .inl ⟨h, rfl⟩
    have htl := zgv (zgj hgf).1
    generalize safeV (flS S) j = sf at *
    generalize decide ((exAll (flS S).net (oneM (flS S).net.pl.toNat (flS S).src) j).code = 0) = sd at *
    clear p3 p4 p5 hg
    generalize flS S = FL at *
    rcases hW with rfl | ⟨rfl, rfl⟩
    · rcases hW2 with rfl | ⟨rfl, rfl⟩
      · rcases h3 with ⟨h4, rfl⟩ | ⟨rfl, rfl, rfl⟩ | ⟨rfl, rfl, rfl⟩
        · simp (maxSteps := 2000000) (disch := first | omega | (simp only [lenS]; try omega)) only [go_sem, reduceAdd, reduceEqDiff, reduceLeDiff, reduceSub, e1, e2, n1, n2, m1, m2, s1, s2, q1, q2, q3, h4, beq_self_eq_true, bne_self_eq_false]
          cases g2 <;> simp
        · rw [hsd rfl] at q3
          simp (maxSteps := 2000000) (disch := first | omega | (simp only [lenS]; try omega)) only [go_sem, reduceAdd, reduceEqDiff, reduceLeDiff, reduceSub, e1, e2, n1, n2, m1, m2, s1, s2, q1, q2, q3, beq_self_eq_true, bne_self_eq_false]
          cases g2 <;> simp
        · simp (maxSteps := 2000000) (disch := first | omega | (simp only [lenS]; try omega)) only [go_sem, reduceAdd, reduceEqDiff, reduceLeDiff, reduceSub, e1, e2, n1, n2, m1, m2, s1, s2, q1, q2, q3, beq_self_eq_true, bne_self_eq_false]
          cases g2 <;> simp
      · simp only [ints, List.map_nil] at s2
        rcases h3 with ⟨h4, rfl⟩ | ⟨rfl, rfl, rfl⟩ | ⟨rfl, rfl, rfl⟩
        · simp (maxSteps := 2000000) (disch := first | omega | (simp only [lenS]; try omega)) only [go_sem, reduceAdd, reduceEqDiff, reduceLeDiff, reduceSub, e1, e2, n1, n2, m1, m2, s1, s2, q1, q2, q3, h4, beq_self_eq_true, bne_self_eq_false]
          cases g2 <;> simp
        · rw [hsd rfl] at q3
          simp (maxSteps := 2000000) (disch := first | omega | (simp only [lenS]; try omega)) only [go_sem, reduceAdd, reduceEqDiff, reduceLeDiff, reduceSub, e1, e2, n1, n2, m1, m2, s1, s2, q1, q2, q3, beq_self_eq_true, bne_self_eq_false]
          cases g2 <;> simp
        · simp (maxSteps := 2000000) (disch := first | omega | (simp only [lenS]; try omega)) only [go_sem, reduceAdd, reduceEqDiff, reduceLeDiff, reduceSub, e1, e2, n1, n2, m1, m2, s1, s2, q1, q2, q3, beq_self_eq_true, bne_self_eq_false]
          cases g2 <;> simp
    · simp only [ints, List.map_nil] at s1
      rcases hW2 with rfl | ⟨rfl, rfl⟩
      · rcases h3 with ⟨h4, rfl⟩ | ⟨rfl, rfl, rfl⟩ | ⟨rfl, rfl, rfl⟩
        · simp (maxSteps := 2000000) (disch := first | omega | (simp only [lenS]; try omega)) only [go_sem, reduceAdd, reduceEqDiff, reduceLeDiff, reduceSub, e1, e2, n1, n2, m1, m2, s1, s2, q1, q2, q3, h4, beq_self_eq_true, bne_self_eq_false]
          cases g2 <;> simp
        · rw [hsd rfl] at q3
          simp (maxSteps := 2000000) (disch := first | omega | (simp only [lenS]; try omega)) only [go_sem, reduceAdd, reduceEqDiff, reduceLeDiff, reduceSub, e1, e2, n1, n2, m1, m2, s1, s2, q1, q2, q3, beq_self_eq_true, bne_self_eq_false]
          cases g2 <;> simp
        · simp (maxSteps := 2000000) (disch := first | omega | (simp only [lenS]; try omega)) only [go_sem, reduceAdd, reduceEqDiff, reduceLeDiff, reduceSub, e1, e2, n1, n2, m1, m2, s1, s2, q1, q2, q3, beq_self_eq_true, bne_self_eq_false]
          cases g2 <;> simp
      · simp only [ints, List.map_nil] at s2
        rcases h3 with ⟨h4, rfl⟩ | ⟨rfl, rfl, rfl⟩ | ⟨rfl, rfl, rfl⟩
        · simp (maxSteps := 2000000) (disch := first | omega | (simp only [lenS]; try omega)) only [go_sem, reduceAdd, reduceEqDiff, reduceLeDiff, reduceSub, e1, e2, n1, n2, m1, m2, s1, s2, q1, q2, q3, h4, beq_self_eq_true, bne_self_eq_false]
          cases g2 <;> simp
        · rw [hsd rfl] at q3
          simp (maxSteps := 2000000) (disch := first | omega | (simp only [lenS]; try omega)) only [go_sem, reduceAdd, reduceEqDiff, reduceLeDiff, reduceSub, e1, e2, n1, n2, m1, m2, s1, s2, q1, q2, q3, beq_self_eq_true, bne_self_eq_false]
          cases g2 <;> simp
        · simp (maxSteps := 2000000) (disch := first | omega | (simp only [lenS]; try omega)) only [go_sem, reduceAdd, reduceEqDiff, reduceLeDiff, reduceSub, e1, e2, n1, n2, m1, m2, s1, s2, q1, q2, q3, beq_self_eq_true, bne_self_eq_false]
          cases g2 <;> simp
end Go.Proofs.YtkkifebmicbbaaaGreat.Pi
