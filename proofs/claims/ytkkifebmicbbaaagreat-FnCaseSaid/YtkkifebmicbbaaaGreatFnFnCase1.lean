/- The functions that the law reaches: what they answer. Conditions: those that each theorem names. -/
import Derived.Test.YtkkifebmicbbaaaGreatIrFnCase
import Derived.Test.YtkkifebmicbbaaaGreatPlFnCase
import Derived.Test.YtkkifebmicbbaaaGreatFnFnCase0
namespace Go.Proofs.YtkkifebmicbbaaaGreat.Pi
open Go
set_option linter.all false
open Nat (reduceAdd reduceEqDiff reduceLeDiff reduceSub)
set_option maxHeartbeats 40000000
set_option maxRecDepth 20000
theorem wfv (M : List Mv) (g : FuncId) (b1 b2 : Blk) (t1 t2 : TypeId) (c1 c2 : List PV) (h1 : b1 = .box t1 c1) (h2 : b2 = .box t2 c2) (n1 : refsL c1 = []) (n2 : refsL c2 = []) (q1 : ∀ R m h, z1bj R m h c1 = some c1) (q2 : ∀ R m h, z1bj R m h c2 = some c2) (o1 : c1.all PV.one = true) (o2 : c2.all PV.one = true) (p : Mv → Bool)
    (hp : ∀ x ∈ M, C g [encM x, .pv (.agg c1) 0, .pv (.agg c2) 0] [] = some (.bool (p x), [])) (hl : M.length ≤ 60) (h0 : 0 < M.length) (t : TypeId) :
    Lw (C w8v [.ref 0 3 0 M.length, .clo g [.ptr 1 0, .ptr 2 0]] [.row t true 3 (M.map encM), b1, b2]) fun r => ∃ row : List Mv, r = (.ref 0 3 0 (M.filter (fun x => !p x)).length, [.row t true 3 (row.map encM), b1, b2]) ∧ row.take (M.filter (fun x => !p x)).length = M.filter (fun x => !p x) ∧ row.length = M.length := by
  subst h1 h2
  have hI := wfy M g [.pv (.agg c1) 0, .pv (.agg c2) 0] (by simp [refsL, PV.refs, n1, n2]) (fun m h => by simp [z1bj, PV.viewWith, PV.refs, n1, n2]) p hp (by omega)
  have hilt := zib M p
  have rn1 : ∀ f, renL f c1 = c1 := fun f => z118 f c1 n1
  have rn2 : ∀ f, renL f c2 = c2 := fun f => z118 f c2 n2
  refine w30 ?_
  simp (maxSteps := 2000000) (disch := first | omega | (simp only [lenS]; try omega)) only [wdx, go_sem, reduceAdd, reduceEqDiff, reduceLeDiff, reduceSub]
  simp (maxSteps := 2000000) (disch := first | omega | (simp only [lenS]; try omega)) only [go_sem, reduceAdd, reduceEqDiff, reduceLeDiff, reduceSub, hI, n1, n2, q1, q2, o1, o2, rn1, rn2]
  cases hf : M.findIdx? p with
  | none =>
    have e : idxI M p = -1 := by simp [idxI, hf]
    have hF : M.filter (fun x => !p x) = M := by
      rw [List.findIdx?_eq_none_iff] at hf
      rw [List.filter_eq_self]
      intro x hx
      simpa using hf x hx
    simp (maxSteps := 2000000) (disch := first | omega | (simp only [lenS]; try omega)) only [go_sem, reduceAdd, reduceEqDiff, reduceLeDiff, reduceSub, e, rn1, rn2]
    rw [hF]
    exact ⟨M, rfl, by simp, rfl⟩
  | some i0 =>
    have e : idxI M p = i0 := by simp [idxI, hf]
    rw [List.findIdx?_eq_some_iff_getElem] at hf
    obtain ⟨hi, hpi, hpre⟩ := hf
    rw [e] at hilt
    simp (maxSteps := 2000000) (disch := first | omega | (simp only [lenS]; try omega)) only [go_sem, reduceAdd, reduceEqDiff, reduceLeDiff, reduceSub, e]
    refine ⟨fun h => by omega, fun h => ?_⟩
    refine W_for (M.length - (i0 + 1)) (fun k st => ∃ (row : List Mv) (q : Nat), st = ⟨[.ref 0 3 0 M.length, .clo g [.ptr 1 0, .ptr 2 0], .any, I q, I ((i0 + 1 + k : Nat) : Int), .any, .any, .any, .any], [.row t true 3 (row.map encM), .box t1 c1, .box t2 c2]⟩ ∧ row.length = M.length ∧ q ≤ i0 + k ∧ row.take q = (M.take (i0 + 1 + k)).filter (fun x => !p x) ∧ row.drop (i0 + 1 + k) = M.drop (i0 + 1 + k)) ?_ ?_ ?_
    · simp (maxSteps := 2000000) (disch := first | omega | (simp only [lenS]; try omega)) only [go_sem, reduceAdd, reduceEqDiff, reduceLeDiff, reduceSub, n1, n2, rn1, rn2]
      refine ⟨M, i0, rfl, rfl, by omega, ?_, rfl⟩
      rw [List.take_succ_eq_append_getElem hi, List.filter_append, List.filter_eq_self.2]
      · simp [hpi]
      · intro x hx
        obtain ⟨j, hj, rfl⟩ := List.mem_iff_getElem.1 hx
        have hj' : j < i0 := by simp at hj; omega
        have := hpre j hj'
        simpa using this
    · rintro k st hk ⟨row, q, rfl, r1, r2, r3, r4⟩
      have hj : i0 + 1 + k < M.length := by omega
      have hj1 : i0 + 1 + (k + 1) = i0 + 1 + k + 1 := by omega
      have e1 : row[i0 + 1 + k]? = some M[i0 + 1 + k] := by
        have := congrArg (fun l => l[0]?) r4
        simpa [List.getElem?_drop, hj] using this
      have hx := hp _ (List.getElem_mem hj)
      have r5 : row.drop (i0 + 1 + k + 1) = M.drop (i0 + 1 + k + 1) := by
        have := congrArg List.tail r4
        simpa using this
      have r6 : (M.take (i0 + 1 + k + 1)).filter (fun x => !p x) = (M.take (i0 + 1 + k)).filter (fun x => !p x) ++ (if p M[i0 + 1 + k] = true then [] else [M[i0 + 1 + k]]) := by
        rw [List.take_succ_eq_append_getElem hj, List.filter_append]
        cases hpx : p M[i0 + 1 + k] <;> simp [hpx]
      rw [hj1, r6]
      have hqj : q < i0 + 1 + k := by omega
      generalize i0 + 1 + k = j at *
      simp (maxSteps := 2000000) (disch := first | omega | (simp only [lenS]; try omega)) only [go_sem, reduceAdd, reduceEqDiff, reduceLeDiff, reduceSub, e1, r1, n1, n2, q1, q2, o1, o2, hx, rn1, rn2]
      refine ⟨fun hpx => ?_, fun hpx => ?_⟩
      · refine ⟨row, q, rfl, r1, by omega, ?_, r5⟩
        rw [r3, hpx]; simp
      · refine ⟨row.set q M[j], q + 1, ?_, by simp [r1], by omega, ?_, ?_⟩
        · rw [List.map_set]; rfl
        · rw [hpx, ← r3, z1a7 (by omega)]
          simp
        · rw [List.drop_set_of_lt (by omega)]; exact r5
    · rintro st ⟨row, q, rfl, r1, r2, r3, r4⟩
      rw [show i0 + 1 + (M.length - (i0 + 1)) = M.length by omega] at *
      rw [List.take_length] at r3
      simp (maxSteps := 2000000) (disch := first | omega | (simp only [lenS]; try omega)) only [go_sem, reduceAdd, reduceEqDiff, reduceLeDiff, reduceSub, r1, n1, n2, rn1, rn2]
      rw [← r3]
      have hql : (row.take q).length = q := by simp; omega
      rw [hql]
      refine ⟨row.take q ++ List.replicate (M.length - q) ⟨0, false, 0⟩, ?_, ?_, ?_⟩
      · rw [List.map_append, List.map_replicate, List.map_take, List.drop_of_length_le (by simp; omega), List.append_nil]
        rfl
      · rw [List.take_append_of_le_length (by omega), List.take_take, Nat.min_self]
      · simp; omega
theorem wbm (s : Spc) (c : Cs) (hg : goodS s = true) (hc : goodC s c = true) :
    Lw (C w83 [encS s, encC c] []) fun r => r = (.un whj true 3 ((movL s c).map encM), []) ∨ (movL s c = [] ∧ r = (.sl true 3 [], [])) := by
  have hok := zhc hg
  have hmv := wbn s hok
  have h2 := zrq hok s.tasks.length (by omega)
  have hn := (ztt hok).2.1
  have h3 : (mvS s).length ≤ 60 ∧ 2 ≤ (mvS s).length := by unfold mvS; omega
  obtain ⟨_, hD, row, rfl, hrow, hrl⟩ := wfv (mvS s) w84 _ _ whm whh [I s.conds, tks s.tasks] [I c.state, ints c.mark] rfl rfl rfl rfl (fun _ _ _ => rfl) (fun _ _ _ => rfl) rfl rfl (fun m => !canM s c m) (fun m hm => wbl s c m hg hc hm) (by omega) (by omega) whj
  have hF : (mvS s).filter (fun x => !(fun m => !canM s c m) x) = (mvS s).filter (canM s c) := by simp
  rw [hF] at hD hrow
  have hFl : ((mvS s).filter (canM s c)).length ≤ (mvS s).length := List.length_filter_le _ _
  unfold movL
  refine w2z ?_
  simp (maxSteps := 2000000) (disch := first | omega | (simp only [lenS]; try omega)) only [wd6, go_sem, reduceAdd, reduceEqDiff, reduceLeDiff, reduceSub]
  by_cases h1 : c.state = 1
  · rw [if_pos h1]
    generalize (mvS s).filter (canM s c) = F at *
    generalize mvS s = M at *
    rw [h1] at hD
    by_cases hc1 : F.length = M.length
    · have hrF : row = F := by rw [← hrow, hc1, ← hrl, List.take_length]
      subst hrF
      simp (maxSteps := 2000000) (disch := first | omega | (simp only [lenS]; try omega)) only [go_sem, reduceAdd, reduceEqDiff, reduceLeDiff, reduceSub, h1, hmv, hD]
      simp
    · by_cases hc2 : F.length = 0
      · have hF0 : F = [] := List.eq_nil_of_length_eq_zero hc2
        subst hF0
        simp (maxSteps := 2000000) (disch := first | omega | (simp only [lenS]; try omega)) only [go_sem, reduceAdd, reduceEqDiff, reduceLeDiff, reduceSub, h1, hmv, hD]
        rw [zdn (by simp; omega) (by simp)]
        simp (maxSteps := 2000000) (disch := first | omega | (simp only [lenS]; try omega)) only [go_sem, reduceAdd, reduceEqDiff, reduceLeDiff, reduceSub]
        simp
      · simp (maxSteps := 2000000) (disch := first | omega | (simp only [lenS]; try omega)) only [go_sem, reduceAdd, reduceEqDiff, reduceLeDiff, reduceSub, h1, hmv, hD]
        rw [← List.map_take, hrow]
        exact .inl rfl
  · rw [if_neg h1]
    simp (maxSteps := 2000000) (disch := first | omega | (simp only [lenS]; try omega)) only [go_sem, reduceAdd, reduceEqDiff, reduceLeDiff, reduceSub, h1]
    simp
theorem wg3 (M : List Mv) (m : Mv) (hl : M.length < 2^62) : C w93 [.sl true 3 (M.map encM), encM m] [] = some (I (idxI M (fun y => y == m)), []) := by
  refine w20 ?_
  simp (maxSteps := 2000000) (disch := first | omega | (simp only [lenS]; try omega)) only [we5, go_sem, reduceAdd, reduceEqDiff, reduceLeDiff, reduceSub]
  refine W_for M.length (fun k st => st = ⟨[.sl true 3 (M.map encM), .any, .ptr 0 0, .any, .any, I M.length, I k, .any, .any], [.box whj [I m.task, .bool m.begin_, I m.pick]]⟩ ∧ (M.take k).any (fun y => y == m) = false) ?_ ?_ ?_
  · simp (maxSteps := 2000000) (disch := first | omega | (simp only [lenS]; try omega)) only [go_sem, reduceAdd, reduceEqDiff, reduceLeDiff, reduceSub]
    rfl
  · rintro k st hk ⟨rfl, hall⟩
    have e : (M[k] == m) = (m.task == M[k].task && (m.begin_ == M[k].begin_ && m.pick == M[k].pick)) := by rw [BEq.comm]; exact zru _ _
    simp (maxSteps := 2000000) (disch := first | omega | (simp only [lenS]; try omega)) only [go_sem, reduceAdd, reduceEqDiff, reduceLeDiff, reduceSub, eqL, eq1]
    rw [← e]
    refine ⟨fun h => ?_, fun h => ⟨rfl, z37 hk hall h⟩⟩
    rw [zid hk hall (by simpa using h)]
  · rintro st ⟨rfl, hall⟩
    simp (maxSteps := 2000000) (disch := first | omega | (simp only [lenS]; try omega)) only [go_sem, reduceAdd, reduceEqDiff, reduceLeDiff, reduceSub]
    rw [List.take_length] at hall
    rw [zic hall]
theorem wft (M : List Mv) (m : Mv) (hl : M.length < 2^62) : C w8t [.sl true 3 (M.map encM), encM m] [] = some (.bool (M.any (fun y => y == m)), []) := by
  have h := wg3 M m hl
  rw [zia]
  obtain ⟨mt, mb, mp⟩ := m
  refine w1r ?_
  simp (maxSteps := 2000000) (disch := first | omega | (simp only [lenS]; try omega)) only [wdv, go_sem, reduceAdd, reduceEqDiff, reduceLeDiff, reduceSub]
  cases mb with
  | true =>
    simp (maxSteps := 2000000) (disch := first | omega | (simp only [lenS]; try omega)) only [go_sem, reduceAdd, reduceEqDiff, reduceLeDiff, reduceSub, h]
    grind
  | false =>
    simp (maxSteps := 2000000) (disch := first | omega | (simp only [lenS]; try omega)) only [go_sem, reduceAdd, reduceEqDiff, reduceLeDiff, reduceSub, h]
    grind
theorem wbd (t : Tr) (m : List Int) (h1 : ∀ q ∈ t.inn, 0 ≤ q ∧ q.toNat < m.length) (h2 : ∀ q ∈ t.out, 0 ≤ q ∧ q.toNat < m.length) (h3 : ∀ q ∈ t.rst, 0 ≤ q ∧ q.toNat < m.length) (hl : smT t) (hm : m.length < 2^30) (hb : ∀ x ∈ m, 0 ≤ x ∧ x ≤ 50) :
    C w7v [encT t, ints m] [] = some (.un t_int true 1 ((zem t m).map I), []) := by
  obtain ⟨g1, g2, g3⟩ := hl
  refine w0v ?_
  simp (maxSteps := 2000000) (disch := first | omega | (simp only [lenS]; try omega)) only [wcy, go_sem, reduceAdd, reduceEqDiff, reduceLeDiff, reduceSub]
  simp (maxSteps := 2000000) (disch := first | omega | (simp only [lenS]; try omega)) only [go_sem, reduceAdd, reduceEqDiff, reduceLeDiff, reduceSub, wfn]
  refine W_for t.inn.length (fun k s => s = ⟨[.any, .any, .ptr 0 0, .any, .ref 1 1 0 m.length, .any, .any, .any, ints t.inn, I t.inn.length, I k, .any, .any, .any, .any, .any, .any, .any, .any, .any], [.box whp [ints t.inn, ints t.out, ints t.rst], .row t_int true 1 ((decL m (t.inn.take k)).map I)]⟩) ?_ ?_ ?_
  · simp (maxSteps := 2000000) (disch := first | omega | (simp only [lenS]; try omega)) only [go_sem, reduceAdd, reduceEqDiff, reduceLeDiff, reduceSub]
    rfl
  · rintro k s hk rfl
    obtain ⟨h4, h5⟩ := h1 _ (List.getElem_mem hk)
    have h6 := zb2 m (t.inn.take k)
    have h7 := z46 (p := t.inn[k]) (zb1 (l := t.inn.take k) hb (fun p hp => (h1 p (List.mem_of_mem_take hp)).2)) (by omega)
    have h8 : (t.inn.take k).length = k := by simp; omega
    simp (maxSteps := 2000000) (disch := first | omega | (simp only [lenS]; try omega)) only [go_sem, reduceAdd, reduceEqDiff, reduceLeDiff, reduceSub, at_eq]
    rw [zb3 hk]; rfl
  · rintro s rfl
    simp (maxSteps := 2000000) (disch := first | omega | (simp only [lenS]; try omega)) only [go_sem, reduceAdd, reduceEqDiff, reduceLeDiff, reduceSub, List.take_length]
    have b1 := zb1 (l := t.inn) hb (fun p hp => (h1 p hp).2)
    have l1 := zb2 m t.inn
    generalize e1 : decL m t.inn = m1 at b1 l1 ⊢
    refine W_for t.rst.length (fun k s => s = ⟨[.any, .any, .ptr 0 0, .any, .ref 1 1 0 m.length, .any, .any, .any, .any, .any, .any, .any, ints t.rst, I t.rst.length, I k, .any, .any, .any, .any, .any], [.box whp [ints t.inn, ints t.out, ints t.rst], .row t_int true 1 ((zerL m1 (t.rst.take k)).map I)]⟩) ?_ ?_ ?_
    · simp (maxSteps := 2000000) (disch := first | omega | (simp only [lenS]; try omega)) only [go_sem, reduceAdd, reduceEqDiff, reduceLeDiff, reduceSub]
      rfl
    · rintro k s hk rfl
      obtain ⟨h4, h5⟩ := h3 _ (List.getElem_mem hk)
      have h6 := z1co m1 (t.rst.take k)
      simp (maxSteps := 2000000) (disch := first | omega | (simp only [lenS]; try omega)) only [go_sem, reduceAdd, reduceEqDiff, reduceLeDiff, reduceSub]
      rw [z1cp hk]; rfl
    · rintro s rfl
      simp (maxSteps := 2000000) (disch := first | omega | (simp only [lenS]; try omega)) only [go_sem, reduceAdd, reduceEqDiff, reduceLeDiff, reduceSub, List.take_length]
      have b2 := z1cn (l := t.rst) b1 (by omega)
      have l2 := z1co m1 t.rst
      generalize e2 : zerL m1 t.rst = m2 at b2 l2 ⊢
      refine W_for t.out.length (fun k s => s = ⟨[.any, .any, .any, .any, .ref 0 1 0 m.length, .any, .any, .any, .any, .any, .any, .any, .any, .any, .any, .any, ints t.out, I t.out.length, I k, .any], [.row t_int true 1 ((incL m2 (t.out.take k)).map I)]⟩) ?_ ?_ ?_
      · simp (maxSteps := 2000000) (disch := first | omega | (simp only [lenS]; try omega)) only [go_sem, reduceAdd, reduceEqDiff, reduceLeDiff, reduceSub]
        rfl
      · rintro k s hk rfl
        obtain ⟨h4, h5⟩ := h2 _ (List.getElem_mem hk)
        have h6 := zkc m2 (t.out.take k)
        have h7 := z46 (p := t.out[k]) (zkb (l := t.out.take k) b2 (fun p hp => by have := (h2 p (List.mem_of_mem_take hp)).2; omega)) (by omega)
        have h8 : (t.out.take k).length = k := by simp; omega
        simp (maxSteps := 2000000) (disch := first | omega | (simp only [lenS]; try omega)) only [go_sem, reduceAdd, reduceEqDiff, reduceLeDiff, reduceSub, at_eq]
        rw [zkd hk]; rfl
      · rintro s rfl
        have h6 := zkc m2 t.out
        simp (maxSteps := 2000000) (disch := first | omega | (simp only [lenS]; try omega)) only [go_sem, reduceAdd, reduceEqDiff, reduceLeDiff, reduceSub, List.take_length]
        subst e2 e1; rfl
theorem wb8 (m : List Int) (t : TypeId) (hm : m.length < 2^62) (h : m.all (inB 0 50) = true) : C w7q [.ref 0 1 0 m.length] [.row t true 1 (m.map I)] = some (.tup [.ref 0 1 0 m.length, .bool true], [.row t true 1 (m.map I)]) := by
  refine w0q ?_
  simp (maxSteps := 2000000) (disch := first | omega | (simp only [lenS]; try omega)) only [wct, go_sem, reduceAdd, reduceEqDiff, reduceLeDiff, reduceSub]
  simp (maxSteps := 2000000) (disch := first | omega | (simp only [lenS]; try omega)) only [go_sem, reduceAdd, reduceEqDiff, reduceLeDiff, reduceSub, waz m _ _ hm, h]
theorem wb7 (m : List Int) (t : TypeId) (hm : m.length < 2^62) (h : m.all (inB 0 50) = false) : C w7q [.ref 0 1 0 m.length] [.row t true 1 (m.map I)] = some (.tup [.un t_int true 1 [], .bool false], [.row t true 1 (m.map I)]) := by
  refine w0q ?_
  simp (maxSteps := 2000000) (disch := first | omega | (simp only [lenS]; try omega)) only [wct, go_sem, reduceAdd, reduceEqDiff, reduceLeDiff, reduceSub]
  simp (maxSteps := 2000000) (disch := first | omega | (simp only [lenS]; try omega)) only [go_sem, reduceAdd, reduceEqDiff, reduceLeDiff, reduceSub, waz m _ _ hm, h]
theorem wby (s : Spc) (c : Cs) (m : Mv) (hg : goodS s = true) (hc : goodC s c = true) : C w8f [encS s, encC c, encM m] [] = some (z17u t_int s c m, []) := by
  have hok := zhc hg
  have h2 := zrq hok s.tasks.length (by omega)
  have hn := (ztt hok).2.1
  have hML : (movL s c).length ≤ 60 := by
    unfold movL
    split
    · have h4 : ((mvS s).filter (canM s c)).length ≤ (mvS s).length := List.length_filter_le _ _
      unfold mvS at *; omega
    · simp
  have hcont := wft (movL s c) m (by omega)
  have hany := zr6 s c m
  obtain ⟨_, hM, hr⟩ := wbm s c hg hc
  unfold z17u
  cases hb : (movL s c).any (fun y => y == m) with
  | false =>
    have hB : stepB s c m = false := by unfold stepB; rw [← hany, hb]; simp
    rw [hB, if_neg (by simp)]
    obtain ⟨mt, mb, mp⟩ := m
    refine w1e ?_
    simp (maxSteps := 2000000) (disch := first | omega | (simp only [lenS]; try omega)) only [wdi, go_sem, reduceAdd, reduceEqDiff, reduceLeDiff, reduceSub]
    rcases hr with rfl | ⟨h0, rfl⟩
    · cases mb with
      | true => simp (maxSteps := 2000000) (disch := first | omega | (simp only [lenS]; try omega)) only [go_sem, reduceAdd, reduceEqDiff, reduceLeDiff, reduceSub, hM, hcont, hb]
      | false => simp (maxSteps := 2000000) (disch := first | omega | (simp only [lenS]; try omega)) only [go_sem, reduceAdd, reduceEqDiff, reduceLeDiff, reduceSub, hM, hcont, hb]
    · rw [h0] at hcont hb
      have hcont' : ∀ b, (⟨mt, mb, mp⟩ : Mv).begin_ = b → C w8t [.sl true 3 [], .agg [I mt, .bool b, I mp]] [] = some (.bool false, []) := fun b hb' => by subst hb'; exact hcont
      cases mb with
      | true => simp (maxSteps := 2000000) (disch := first | omega | (simp only [lenS]; try omega)) only [go_sem, reduceAdd, reduceEqDiff, reduceLeDiff, reduceSub, hM, hcont' true rfl]
      | false => simp (maxSteps := 2000000) (disch := first | omega | (simp only [lenS]; try omega)) only [go_sem, reduceAdd, reduceEqDiff, reduceLeDiff, reduceSub, hM, hcont' false rfl]
  | true =>
    rw [hb] at hany
    have hany' := hany.symm
    simp only [Bool.and_eq_true] at hany'
    obtain ⟨⟨hst, hmem⟩, hcan⟩ := hany'
    have hm := z33 hmem
    have hst1 : c.state = 1 := by simpa using hst
    have hr1 : movL s c ≠ [] := by intro e; rw [e] at hb; simp at hb
    obtain rfl := hr.resolve_right (fun h => hr1 h.1)
    have hT := z1an hg hm
    have hgm := zh2 (zgu hc)
    have hcl := (zgt (zgu hc) (ztt hok).1.1)
    have hlt := zhg hT hcl.1
    have ht := wc0 s m hok (zro hm)
    have hsz := z1aw hok (trM s m) (by rw [z1av]; exact List.mem_map_of_mem hm)
    have hfi := wbd (trM s m) c.mark hlt.1 hlt.2.1 hlt.2.2 ⟨by omega, by omega, by omega⟩ (by omega) hgm.2.2.2.2
    have hfl : (zem (trM s m) c.mark).length = c.mark.length := zeo (trM s m) c.mark
    have hBs : stepB s c m = (zem (trM s m) c.mark).all (inB 0 50) := by unfold stepB; rw [← hany]; simp
    rw [hBs]
    simp only [stepC]
    have h1l : 1 < (zem (trM s m) c.mark).length := by omega
    have hat : (zem (trM s m) c.mark)[1]? = some (at_ (zem (trM s m) c.mark) 1) := by
      rw [List.getElem?_eq_getElem h1l]
      exact congrArg some (at_eq (p := 1) h1l)
    have hckt := wb8 (zem (trM s m) c.mark) t_int (by omega)
    have hckf := wb7 (zem (trM s m) c.mark) t_int (by omega)
    obtain ⟨mt, mb, mp⟩ := m
    have hfin : mb = true → (trM s ⟨mt, mb, mp⟩).rst = [] := by rintro rfl; simp only [trM, if_true]; split <;> rfl
    generalize trM s ⟨mt, mb, mp⟩ = T at *
    generalize hX : zem T c.mark = X at *
    refine w1e ?_
    simp (maxSteps := 2000000) (disch := first | omega | (simp only [lenS]; try omega)) only [wdi, go_sem, reduceAdd, reduceEqDiff, reduceLeDiff, reduceSub]
    unfold encT at hfi
    cases mb with
    | true =>
      rw [hfin rfl, show ints [] = .sl true 1 [] from rfl] at hfi
      rw [if_pos rfl] at ht
      cases ha : X.all (inB 0 50) with
      | false =>
        simp (maxSteps := 2000000) (disch := first | omega | (simp only [lenS]; try omega)) only [go_sem, reduceAdd, reduceEqDiff, reduceLeDiff, reduceSub, hM, hcont, hb, ht, hfi, hckf ha]
      | true =>
        simp (maxSteps := 2000000) (disch := first | omega | (simp only [lenS]; try omega)) only [go_sem, reduceAdd, reduceEqDiff, reduceLeDiff, reduceSub, hM, hcont, hb, ht, hfi, hckt ha, h1l]
        have e : X[Int.toNat 1]'h1l = at_ X 1 := at_eq (p := 1) h1l
        rw [e]
        exact ⟨fun h => by simp [h], fun h => by simp [show ¬ 0 < at_ X 1 by omega]⟩
    | false =>
      rw [if_neg (by simp)] at ht
      cases ha : X.all (inB 0 50) with
      | false =>
        simp (maxSteps := 2000000) (disch := first | omega | (simp only [lenS]; try omega)) only [go_sem, reduceAdd, reduceEqDiff, reduceLeDiff, reduceSub, hM, hcont, hb, ht, hfi, hckf ha]
      | true =>
        simp (maxSteps := 2000000) (disch := first | omega | (simp only [lenS]; try omega)) only [go_sem, reduceAdd, reduceEqDiff, reduceLeDiff, reduceSub, hM, hcont, hb, ht, hfi, hckt ha, h1l]
        have e : X[Int.toNat 1]'h1l = at_ X 1 := at_eq (p := 1) h1l
        rw [e]
        exact ⟨fun h => by simp [h], fun h => by simp [show ¬ 0 < at_ X 1 by omega]⟩
theorem wam (s : Spc) (l : List Mv) (hs : smSpc s) (hl : l.length < 2^36) : C w77 [encS s, .sl true 3 (l.map encM)] [] = some (.tup [if (goodS s && decide (l.length ≤ 60)) = true then .agg [I (playK s (zeq s) l l.length).1.state, .un t_int true 1 ((playK s (zeq s) l l.length).1.mark.map I)] else .agg [I 0, .nil true 1], .un whf true 1 ((if (goodS s && decide (l.length ≤ 60)) = true then (playK s (zeq s) l l.length).2 else []).map PV.bool), .bool (goodS s && decide (l.length ≤ 60))], []) := by
  have hG := wbj s hs
  refine w07 ?_
  simp (maxSteps := 2000000) (disch := first | omega | (simp only [lenS]; try omega)) only [wca, go_sem, reduceAdd, reduceEqDiff, reduceLeDiff, reduceSub]
  cases hg : goodS s with
  | false => simp (maxSteps := 2000000) (disch := first | omega | (simp only [lenS]; try omega)) only [go_sem, reduceAdd, reduceEqDiff, reduceLeDiff, reduceSub, hG, hg]
  | true =>
    by_cases h60 : l.length ≤ 60
    · have hok := zhc hg
      have hN := wbo s hok
      have hfl := zes hok
      rw [show (oneM (s.conds + s.tasks.length).toNat 0) = (zeq s).mark from rfl] at hN
      have hgood := zy9 (l := l) (zer hok)
      simp (maxSteps := 2000000) (disch := first | omega | (simp only [lenS]; try omega)) only [go_sem, reduceAdd, reduceEqDiff, reduceLeDiff, reduceSub, hG, hg, hN]
      refine W_for l.length (fun k st => st = ⟨[.any, .any, .ptr 0 0, .ptr 1 0, .any, .any, .ptr 2 0, .ref 3 1 0 l.length, .any, .any, .any, .any, .any, .sl true 3 (l.map encM), I l.length, I k, .any, .any], [.box whm [I s.conds, tks s.tasks], .box whh [I 0, .nil true 1], .box whh [I (playK s (zeq s) l k).1.state, .ref 4 1 0 (playK s (zeq s) l k).1.mark.length], .row whf true 1 (((playK s (zeq s) l k).2 ++ List.replicate (l.length - k) false).map PV.bool), .row t_int true 1 ((playK s (zeq s) l k).1.mark.map I)]⟩) ?_ ?_ ?_
      · simp (maxSteps := 2000000) (disch := first | omega | (simp only [lenS]; try omega)) only [go_sem, reduceAdd, reduceEqDiff, reduceLeDiff, reduceSub]
        rw [zyc]
        simp [zeq]
      · rintro k st hk rfl
        have hgk := hgood k (by omega)
        have hS := wby s (playK s (zeq s) l k).1 l[k] hg hgk
        have hlen := zya s (zeq s) l k (by omega)
        have hcl := (zgt (zgu hgk) (ztt hok).1.1)
        have hml := zh2 (zgu hgk)
        rw [zyb hk]
        unfold playS z17u at *
        generalize hx : playK s (zeq s) l k = x at *
        obtain ⟨c, did⟩ := x
        simp only at *
        have hpad := z158 (l := did) (z := false) (x := true) hk hlen
        have hrl : (did ++ List.replicate (l.length - k) false).length = l.length := by simp; omega
        have hlk : l[k]? = some l[k] := List.getElem?_eq_getElem hk
        generalize l[k] = m at *
        obtain ⟨mt, mb, mp⟩ := m
        generalize stepC s c ⟨mt, mb, mp⟩ = X at *
        generalize stepB s c ⟨mt, mb, mp⟩ = B at *
        cases B with
        | false =>
          rw [if_neg (by simp)] at hS ⊢
          have hrep : List.replicate (l.length - k) false = false :: List.replicate (l.length - (k + 1)) false := by rw [show l.length - k = l.length - (k + 1) + 1 by omega]; rfl
          cases mb <;> simp (maxSteps := 2000000) (disch := first | omega | (simp only [lenS]; try omega)) only [go_sem, reduceAdd, reduceEqDiff, reduceLeDiff, reduceSub, hlk, hS, hrl]
          all_goals (rw [hrep]; simp)
        | true =>
          rw [if_pos rfl] at hS ⊢
          cases mb <;> simp (maxSteps := 2000000) (disch := first | omega | (simp only [lenS]; try omega)) only [go_sem, reduceAdd, reduceEqDiff, reduceLeDiff, reduceSub, hlk, hS, hrl]
          all_goals (rw [hpad]; rfl)
      · rintro st rfl
        have hlen := zya s (zeq s) l l.length (by omega)
        simp (maxSteps := 2000000) (disch := first | omega | (simp only [lenS]; try omega)) only [go_sem, reduceAdd, reduceEqDiff, reduceLeDiff, reduceSub]
        simp [h60]
    · simp (maxSteps := 2000000) (disch := first | omega | (simp only [lenS]; try omega)) only [go_sem, reduceAdd, reduceEqDiff, reduceLeDiff, reduceSub, hG, hg]
      simp [h60]
theorem wgn (c : Cs) (h : c.mark.length < 2^36) : C w9n [encC c] [] = some (.agg [I c.state, .un t_int true 1 (c.mark.map I)], []) := by
  have h1 := wh1 c.mark h
  refine w2h ?_
  simp (maxSteps := 2000000) (disch := first | omega | (simp only [lenS]; try omega)) only [wep, go_sem, reduceAdd, reduceEqDiff, reduceLeDiff, reduceSub]
  simp (maxSteps := 2000000) (disch := first | omega | (simp only [lenS]; try omega)) only [go_sem, reduceAdd, reduceEqDiff, reduceLeDiff, reduceSub, h1]
theorem wgg (s : Spc) (l : List Mv) (hs : smSpc s) (hl : l.length < 2^36) : C w9g [encS s, .sl true 3 (l.map encM)] [] = some (.tup [if (goodS s && decide (l.length ≤ 60)) = true then .agg [I (playK s (zeq s) l l.length).1.state, .un t_int true 1 ((playK s (zeq s) l l.length).1.mark.map I)] else .agg [I 0, .nil true 1], .un whf true 1 ((if (goodS s && decide (l.length ≤ 60)) = true then (playK s (zeq s) l l.length).2 else []).map PV.bool), .bool (goodS s && decide (l.length ≤ 60))], []) := by
  have hN := wge s hs
  refine w2a ?_
  simp (maxSteps := 2000000) (disch := first | omega | (simp only [lenS]; try omega)) only [wei, go_sem, reduceAdd, reduceEqDiff, reduceLeDiff, reduceSub]
  cases hg : goodS s with
  | false =>
    rw [hg, if_neg (by simp)] at hN
    simp (maxSteps := 2000000) (disch := first | omega | (simp only [lenS]; try omega)) only [go_sem, reduceAdd, reduceEqDiff, reduceLeDiff, reduceSub, hN]
  | true =>
    rw [hg, if_pos rfl] at hN
    have hok := zhc hg
    have hfl := zes hok
    rw [show (oneM (s.conds + s.tasks.length).toNat 0) = (zeq s).mark from rfl] at hN
    have hgood := zy9 (l := l) (zer hok)
    by_cases h60 : l.length ≤ 60
    · simp (maxSteps := 2000000) (disch := first | omega | (simp only [lenS]; try omega)) only [go_sem, reduceAdd, reduceEqDiff, reduceLeDiff, reduceSub, hN]
      refine W_for l.length (fun k st => st = ⟨[.any, .any, .ptr 0 0, .ptr 1 0, .any, .any, .ptr 2 0, .any, .ref 3 1 0 k, .any, .any, .any, .any, .sl true 3 (l.map encM), I l.length, I k, .any, .any], [.box whm [I s.conds, tks s.tasks], .box whh [I 0, .nil true 1], .box whh [I (playK s (zeq s) l k).1.state, .ref 4 1 0 (playK s (zeq s) l k).1.mark.length], .row whf true 1 ((playK s (zeq s) l k).2.map PV.bool), .row t_int true 1 ((playK s (zeq s) l k).1.mark.map I)]⟩) ?_ ?_ ?_
      · simp (maxSteps := 2000000) (disch := first | omega | (simp only [lenS]; try omega)) only [go_sem, reduceAdd, reduceEqDiff, reduceLeDiff, reduceSub]
        rw [zyc]
        simp [zeq]
      · rintro k st hk rfl
        have hgk := hgood k (by omega)
        have hS := wgo s (playK s (zeq s) l k).1 l[k] hg hgk
        have hlen := zya s (zeq s) l k (by omega)
        have hcl := (zgt (zgu hgk) (ztt hok).1.1)
        have hml := zh2 (zgu hgk)
        have hlk : l[k]? = some l[k] := List.getElem?_eq_getElem hk
        rw [zyb hk]
        unfold playS z17u at *
        generalize hx : playK s (zeq s) l k = x at *
        obtain ⟨c, did⟩ := x
        simp only at *
        generalize l[k] = m at *
        obtain ⟨mt, mb, mp⟩ := m
        generalize stepC s c ⟨mt, mb, mp⟩ = X at *
        generalize stepB s c ⟨mt, mb, mp⟩ = B at *
        cases B with
        | false =>
          rw [if_neg (by simp)] at hS ⊢
          cases mb <;> simp (maxSteps := 2000000) (disch := first | omega | (simp only [lenS]; try omega)) only [go_sem, reduceAdd, reduceEqDiff, reduceLeDiff, reduceSub, hlk, hS, hlen]
          all_goals simp
        | true =>
          rw [if_pos rfl] at hS ⊢
          cases mb <;> simp (maxSteps := 2000000) (disch := first | omega | (simp only [lenS]; try omega)) only [go_sem, reduceAdd, reduceEqDiff, reduceLeDiff, reduceSub, hlk, hS, hlen]
          all_goals simp
      · rintro st rfl
        have hlen := zya s (zeq s) l l.length (by omega)
        have hgl := hgood l.length (by omega)
        have hml := zh2 (zgu hgl)
        have hO := wgn (playK s (zeq s) l l.length).1 (by omega)
        simp (maxSteps := 2000000) (disch := first | omega | (simp only [lenS]; try omega)) only [go_sem, reduceAdd, reduceEqDiff, reduceLeDiff, reduceSub, hO, hlen]
        simp [h60]
    · simp (maxSteps := 2000000) (disch := first | omega | (simp only [lenS]; try omega)) only [go_sem, reduceAdd, reduceEqDiff, reduceLeDiff, reduceSub, hN]
      simp [h60]
theorem wfj (a : List Bool) (hl : a.length < 2^62) : C w8l [.sl true 1 (a.map PV.bool), .sl true 1 (a.map PV.bool)] [] = some (.bool true, []) := by
  refine w1k ?_
  simp (maxSteps := 2000000) (disch := first | omega | (simp only [lenS]; try omega)) only [wdo, go_sem, reduceAdd, reduceEqDiff, reduceLeDiff, reduceSub]
  refine W_for a.length (fun k s => s = ⟨[.sl true 1 (a.map PV.bool), .sl true 1 (a.map PV.bool), .any, .any, .any, I a.length, I k, .any, .any], []⟩) ?_ ?_ ?_
  · simp (maxSteps := 2000000) (disch := first | omega | (simp only [lenS]; try omega)) only [go_sem, reduceAdd, reduceEqDiff, reduceLeDiff, reduceSub]
    rfl
  · rintro k s hk rfl
    have e3 : a[k]? = some a[k] := List.getElem?_eq_getElem hk
    generalize a[k] = b at *
    cases b <;> simp (maxSteps := 2000000) (disch := first | omega | (simp only [lenS]; try omega)) only [go_sem, reduceAdd, reduceEqDiff, reduceLeDiff, reduceSub, e3] <;> rfl
  · rintro s rfl
    simp (maxSteps := 2000000) (disch := first | omega | (simp only [lenS]; try omega)) only [go_sem, reduceAdd, reduceEqDiff, reduceLeDiff, reduceSub]
theorem wfl (a b : List Int) (hl : a.length < 2^62) : C w8n [ints a, ints b] [] = some (.bool (decide (a = b)), []) := by
  refine w1m ?_
  simp (maxSteps := 2000000) (disch := first | omega | (simp only [lenS]; try omega)) only [wdq, go_sem, reduceAdd, reduceEqDiff, reduceLeDiff, reduceSub]
  refine ⟨fun h => ?_, fun h => ?_⟩
  · have : a ≠ b := fun e => h (by rw [e])
    simp [this]
  refine W_for a.length (fun k s => s = ⟨[ints a, ints b, .any, .any, .any, I a.length, I k, .any, .any], []⟩ ∧ a.take k = b.take k) ?_ ?_ ?_
  · simp (maxSteps := 2000000) (disch := first | omega | (simp only [lenS]; try omega)) only [go_sem, reduceAdd, reduceEqDiff, reduceLeDiff, reduceSub]
    rfl
  · rintro k s hk ⟨rfl, hall⟩
    simp (maxSteps := 2000000) (disch := first | omega | (simp only [lenS]; try omega)) only [go_sem, reduceAdd, reduceEqDiff, reduceLeDiff, reduceSub]
    refine ⟨fun h => ?_, fun h => ⟨rfl, ?_⟩⟩
    · have : a ≠ b := fun e => h (by simp [e])
      simp [this]
    · rw [z1a8 hk, z1a8 (show k < b.length by omega), hall, h]
  · rintro s ⟨rfl, hall⟩
    simp (maxSteps := 2000000) (disch := first | omega | (simp only [lenS]; try omega)) only [go_sem, reduceAdd, reduceEqDiff, reduceLeDiff, reduceSub]
    rw [List.take_length, List.take_of_length_le (by omega)] at hall
    simp [hall]
theorem wfk (c : Cs) (hl : c.mark.length < 2^62) : C w8m [encC c, encC c] [] = some (.bool true, []) := by
  have h := wfl c.mark c.mark hl
  rw [decide_eq_true rfl] at h
  refine w1l ?_
  simp (maxSteps := 2000000) (disch := first | omega | (simp only [lenS]; try omega)) only [wdp, go_sem, reduceAdd, reduceEqDiff, reduceLeDiff, reduceSub]
  simp (maxSteps := 2000000) (disch := first | omega | (simp only [lenS]; try omega)) only [go_sem, reduceAdd, reduceEqDiff, reduceLeDiff, reduceSub, h]
theorem wbx (f : Fl) (hg : zgv f = true) : C w8e [encF f] [] = some (.un t_int true 1 ((oneM f.net.pl.toNat f.src).map I), []) := by
  obtain ⟨g1, g2, g3, _⟩ := zgy hg
  have hn := zha g1
  refine w1d ?_
  simp (maxSteps := 2000000) (disch := first | omega | (simp only [lenS]; try omega)) only [wdh, go_sem, reduceAdd, reduceEqDiff, reduceLeDiff, reduceSub]
  simp (maxSteps := 2000000) (disch := first | omega | (simp only [lenS]; try omega)) only [go_sem, reduceAdd, reduceEqDiff, reduceLeDiff, reduceSub, wbv f.net.pl f.src (by omega) g2]
theorem wba (n : Net) (m : List Int) (hg : goodN n = true) (hm : (m.length : Int) = n.pl) : C w7s [encN n, ints m] [] = some (.un t_int true 1 ((enabL n m).map I), []) := by
  have hb := zha hg
  refine w0s ?_
  simp (maxSteps := 2000000) (disch := first | omega | (simp only [lenS]; try omega)) only [wcv, go_sem, reduceAdd, reduceEqDiff, reduceLeDiff, reduceSub]
  refine W_for n.tr.length (fun k s => s = ⟨[.any, ints m, .any, .any, .ref 0 1 0 (enabK n m k).length, .any, .any, trs n.tr, I n.tr.length, I k, .any, .any], [.row t_int true 1 ((enabK n m k).map I)]⟩) ?_ ?_ ?_
  · simp (maxSteps := 2000000) (disch := first | omega | (simp only [lenS]; try omega)) only [go_sem, reduceAdd, reduceEqDiff, reduceLeDiff, reduceSub]
    rfl
  · rintro k s hk rfl
    have hT := hb.2.2.2 _ (List.getElem_mem hk)
    have h2 := zbs n m k
    simp (maxSteps := 2000000) (disch := first | omega | (simp only [lenS]; try omega)) only [go_sem, reduceAdd, reduceEqDiff, reduceLeDiff, reduceSub, wbh _ m (zhg hT hm).1 (by have := (zhf hT (by omega)).1; omega)]
    refine ⟨fun h => ?_, fun h => ?_⟩
    · rw [zbt hk h, List.map_append]; simp
    · rw [zbr hk h]; rfl
  · rintro s rfl
    simp (maxSteps := 2000000) (disch := first | omega | (simp only [lenS]; try omega)) only [go_sem, reduceAdd, reduceEqDiff, reduceLeDiff, reduceSub]
    rfl
theorem wfw (a b : List Int) (hl : a.length < 2^62) : C w8w [ints a, ints b] [] = some (.bool (decide (a = b)), []) := by
  refine w1t ?_
  simp (maxSteps := 2000000) (disch := first | omega | (simp only [lenS]; try omega)) only [wdy, go_sem, reduceAdd, reduceEqDiff, reduceLeDiff, reduceSub]
  refine ⟨fun h => ?_, fun h => ?_⟩
  · have : a ≠ b := fun e => h (by rw [e])
    simp [this]
  refine W_for a.length (fun k s => s = ⟨[ints a, ints b, .any, .any, .any, I a.length, I k, .any, .any], []⟩ ∧ a.take k = b.take k) ?_ ?_ ?_
  · simp (maxSteps := 2000000) (disch := first | omega | (simp only [lenS]; try omega)) only [go_sem, reduceAdd, reduceEqDiff, reduceLeDiff, reduceSub]
    rfl
  · rintro k s hk ⟨rfl, hall⟩
    simp (maxSteps := 2000000) (disch := first | omega | (simp only [lenS]; try omega)) only [go_sem, reduceAdd, reduceEqDiff, reduceLeDiff, reduceSub]
    refine ⟨fun h => ?_, fun h => ⟨rfl, ?_⟩⟩
    · have : a ≠ b := fun e => h (by simp [e])
      simp [this]
    · rw [z1a8 hk, z1a8 (show k < b.length by omega), hall, h]
  · rintro s ⟨rfl, hall⟩
    simp (maxSteps := 2000000) (disch := first | omega | (simp only [lenS]; try omega)) only [go_sem, reduceAdd, reduceEqDiff, reduceLeDiff, reduceSub]
    rw [List.take_length, List.take_of_length_le (by omega)] at hall
    simp [hall]
abbrev encA (a : Arc3) : PV := .agg [I a.src, I a.by_, I a.dst]
def arcPV (l : List Arc3) : PV := if l = [] then .nil true 3 else .un whg true 3 (l.map encA)
def exPV (r : Ex) : PV := if r.code = 0 then .agg [.un whs false 1 (r.sp.ms.map ints), arcPV r.sp.ar] else .agg [.nil false 1, .nil true 3]
def w6u (r : Ex) : Int := if r.code = 0 then 1 else r.code
theorem w6v {n : Net} {start : List Int} {b : Int} (hm : zpr n start = true) (hb : 1 ≤ b) : ExOk n start b ⟨⟨[start], []⟩, 0⟩ := by
  refine ⟨rfl, fun m hm2 => ?_, by simp; omega, by simp, fun a ha => by simp at ha, fun j hj hl => ?_⟩
  · simp only [List.mem_singleton] at hm2; subst hm2; exact hm
  · simp only [List.length_cons, List.length_nil] at hl; omega
theorem wap (x m : List Int) (hx : x.length < 2^62) : C w7b [ints x, .pv (.agg [ints m]) 0] [] = some (.bool (decide (x = m)), []) := by
  refine w0b ?_
  simp (maxSteps := 2000000) (disch := first | omega | (simp only [lenS]; try omega)) only [wce, go_sem, reduceAdd, reduceEqDiff, reduceLeDiff, reduceSub]
  simp (maxSteps := 2000000) (disch := first | omega | (simp only [lenS]; try omega)) only [go_sem, reduceAdd, reduceEqDiff, reduceLeDiff, reduceSub, wfw]
  grind
theorem wg1 (l : List (List Int)) (g : FuncId) (caps : List PV) (hc : refsL caps = []) (hcv : ∀ m h, z1bj [] m h caps = some caps) (p : List Int → Bool) (hp : ∀ x ∈ l, C g (ints x :: caps) [] = some (.bool (p x), [])) (hl : l.length < 2^62) :
    C w91 [rows l, .clo g caps] [] = some (I (idxI l p), []) := by
  refine w1y ?_
  simp (maxSteps := 2000000) (disch := first | omega | (simp only [lenS]; try omega)) only [we3, go_sem, reduceAdd, reduceEqDiff, reduceLeDiff, reduceSub]
  refine W_for l.length (fun k s => s = ⟨[rows l, .clo g caps, .any, .any, I l.length, I k, .any, .any], []⟩ ∧ (l.take k).any p = false) ?_ ?_ ?_
  · simp (maxSteps := 2000000) (disch := first | omega | (simp only [lenS]; try omega)) only [go_sem, reduceAdd, reduceEqDiff, reduceLeDiff, reduceSub, hc]
    rfl
  · rintro k s hk ⟨rfl, hall⟩
    simp (maxSteps := 2000000) (disch := first | omega | (simp only [lenS]; try omega)) only [go_sem, reduceAdd, reduceEqDiff, reduceLeDiff, reduceSub, hc, hcv, hp _ (List.getElem_mem hk)]
    exact ⟨fun h => by rw [zid hk hall h], fun h => ⟨rfl, z37 hk hall h⟩⟩
  · rintro s ⟨rfl, hall⟩
    simp (maxSteps := 2000000) (disch := first | omega | (simp only [lenS]; try omega)) only [go_sem, reduceAdd, reduceEqDiff, reduceLeDiff, reduceSub]
    rw [List.take_length] at hall
    rw [zic hall]
theorem waq (ms : List (List Int)) (A : List PV) (m : List Int) (hl : ms.length < 2^62) (hx : ∀ x ∈ ms, x.length < 2^62) : C w7a [.agg [rows ms, .sl true 3 A], ints m] [] = some (I (findM ms m), []) := by
  have h := wg1 ms w7b [.pv (.agg [ints m]) 0] rfl (fun _ _ => rfl) (fun x => decide (x = m)) (fun x h => wap x m (hx x h)) hl
  refine w0a ?_
  simp (maxSteps := 2000000) (disch := first | omega | (simp only [lenS]; try omega)) only [wcd, go_sem, reduceAdd, reduceEqDiff, reduceLeDiff, reduceSub]
  simp (maxSteps := 2000000) (disch := first | omega | (simp only [lenS]; try omega)) only [go_sem, reduceAdd, reduceEqDiff, reduceLeDiff, reduceSub, h]
  rfl
theorem wbc (n : Net) (start : List Int) (b : Int) (hm : zpr n start = true) (hb : 1 ≤ b ∧ b ≤ 400) : C w7u [encN n, ints start, I b] [] = some (.tup [exPV (exAll n start b), I (w6u (exAll n start b))], []) := by
  obtain ⟨hg, hmk⟩ := zps hm
  have hn := zha hg
  have hs := zh2 hmk
  refine w0u ?_
  simp (maxSteps := 2000000) (disch := first | omega | (simp only [lenS]; try omega)) only [wcx, go_sem, reduceAdd, reduceEqDiff, reduceLeDiff, reduceSub]
  simp (maxSteps := 2000000) (disch := first | omega | (simp only [lenS]; try omega)) only [go_sem, reduceAdd, reduceEqDiff, reduceLeDiff, reduceSub, wfn]
  generalize hR : exAll n start b = R
  refine z1a (fun d s => ∃ (k : Nat) (c : Ex), d + k = b.toNat + 1 ∧ ExOk n start b c ∧ c.code = 0 ∧ k ≤ c.sp.ms.length ∧ c.sp.ar.length ≤ 24 * k ∧ exRun n b (d + 1) k c = R ∧ ((s = ⟨[.any, .any, I b, .ptr 0 0, .ptr 1 0, .any, .ptr 2 0, I k, .any, .any, .any, .any, .any, .any, .any, .any, .any, .any, .any], [.box whk [I n.pl, trs n.tr], .box whl [.nil false 1, .nil true 3], .box whl [.ref 3 1 0 c.sp.ms.length, .nil true 3], .row whs false 1 (c.sp.ms.map ints)]⟩ ∧ c.sp.ar = []) ∨ (s = ⟨[.any, .any, I b, .ptr 0 0, .ptr 1 0, .any, .ptr 2 0, I k, .any, .any, .any, .any, .any, .any, .any, .any, .any, .any, .any], [.box whk [I n.pl, trs n.tr], .box whl [.nil false 1, .nil true 3], .box whl [.ref 3 1 0 c.sp.ms.length, .ref 4 3 0 c.sp.ar.length], .row whs false 1 (c.sp.ms.map ints), .row whg true 3 (c.sp.ar.map encA)]⟩ ∧ c.sp.ar ≠ []))) (b.toNat + 1) ?_ ?_
  · refine ⟨0, ⟨⟨[start], []⟩, 0⟩, by omega, w6v hm hb.1, rfl, by omega, by simp, hR, .inl ⟨?_, rfl⟩⟩
    simp (maxSteps := 2000000) (disch := first | omega | (simp only [lenS]; try omega)) only [go_sem, reduceAdd, reduceEqDiff, reduceLeDiff, reduceSub]
    rfl
  · rintro d s ⟨k, c, hd, hok, hc0, hk, hal, hrun, hcs⟩
    have hlb := hok.lenb
    by_cases hkl : k < c.sp.ms.length
    · have hmem := zgm hkl
      have hmg := zps (hok.good _ hmem)
      have hml := zh2 hmg.2
      have en := wba n (c.sp.ms.getD k []) hg hml.2.2.1
      have hLl : (enabL n (c.sp.ms.getD k [])).length ≤ n.tr.length := zbs ..
      have er : exRun n b (d + 1) k c = exRun n b d (k + 1) (exL n b k c (enabL n (c.sp.ms.getD k []))) := by
        show (if c.code ≠ 0 then c else if k < c.sp.ms.length then _ else c) = _
        rw [if_neg (by omega), if_pos hkl]
      rw [er] at hrun
      have hen : ∀ t ∈ enabL n (c.sp.ms.getD k []), t ∈ enabL n (c.sp.ms.getD k []) := fun t h => h
      generalize hL : enabL n (c.sp.ms.getD k []) = L at *
      rcases hcs with ⟨rfl, har⟩ | ⟨rfl, har⟩
      all_goals
        simp (maxSteps := 2000000) (disch := first | omega | (simp only [lenS]; try omega)) only [go_sem, reduceAdd, reduceEqDiff, reduceLeDiff, reduceSub, zgn, en]
        refine W_for L.length (fun j s => ∃ c' : Ex, ExOk n start b c' ∧ c'.code = 0 ∧ k < c'.sp.ms.length ∧ enabL n (c'.sp.ms.getD k []) = L ∧ c'.sp.ar.length ≤ 24 * k + j ∧ exRun n b d (k + 1) (exL n b k c' (L.drop j)) = R ∧ ((s = ⟨[.any, .any, I b, .ptr 0 0, .ptr 1 0, .any, .ptr 2 0, I k, .any, .any, .any, .any, .ref 3 1 0 L.length, I L.length, I j, .any, .any, .any, .any], [.box whk [I n.pl, trs n.tr], .box whl [.nil false 1, .nil true 3], .box whl [.ref 4 1 0 c'.sp.ms.length, .nil true 3], .row t_int true 1 (L.map I), .row whs false 1 (c'.sp.ms.map ints)]⟩ ∧ c'.sp.ar = []) ∨ (s = ⟨[.any, .any, I b, .ptr 0 0, .ptr 1 0, .any, .ptr 2 0, I k, .any, .any, .any, .any, .ref 3 1 0 L.length, I L.length, I j, .any, .any, .any, .any], [.box whk [I n.pl, trs n.tr], .box whl [.nil false 1, .nil true 3], .box whl [.ref 4 1 0 c'.sp.ms.length, .ref 5 3 0 c'.sp.ar.length], .row t_int true 1 (L.map I), .row whs false 1 (c'.sp.ms.map ints), .row whg true 3 (c'.sp.ar.map encA)]⟩ ∧ c'.sp.ar ≠ []))) ?_ ?_ ?_
        · refine ⟨c, hok, hc0, hkl, hL, by omega, hrun, ?_⟩
          first
          | refine .inl ⟨?_, har⟩
            simp (maxSteps := 2000000) (disch := first | omega | (simp only [lenS]; try omega)) only [go_sem, reduceAdd, reduceEqDiff, reduceLeDiff, reduceSub]
            done
          | refine .inl ⟨?_, har⟩
            simp (maxSteps := 2000000) (disch := first | omega | (simp only [lenS]; try omega)) only [go_sem, reduceAdd, reduceEqDiff, reduceLeDiff, reduceSub]
            rfl
          | refine .inr ⟨?_, har⟩
            simp (maxSteps := 2000000) (disch := first | omega | (simp only [lenS]; try omega)) only [go_sem, reduceAdd, reduceEqDiff, reduceLeDiff, reduceSub]
            done
          | refine .inr ⟨?_, har⟩
            simp (maxSteps := 2000000) (disch := first | omega | (simp only [lenS]; try omega)) only [go_sem, reduceAdd, reduceEqDiff, reduceLeDiff, reduceSub]
            rfl
        · rintro j s hj ⟨c', hok', hc0', hkl', hL', hal', hrun', hcs'⟩
          have hlb' := hok'.lenb
          have ht : L[j] ∈ enabL n (c'.sp.ms.getD k []) := by rw [hL']; exact List.getElem_mem hj
          obtain ⟨t1, t2, t3⟩ := zbu.1 ht
          have hT := hn.2.2.2 (trAt n L[j]) (by rw [← z1ak t2]; exact List.getElem_mem _)
          have hm2 := zh2 (zps (hok'.good _ (zgm hkl'))).2
          have hx := zhg hT hm2.2.2.1
          have hy := zhf hT (by omega)
          have hfire := wbd (trAt n L[j]) (c'.sp.ms.getD k []) hx.1 hx.2.1 hx.2.2 ⟨by omega, by omega, by omega⟩ (by omega) hm2.2.2.2.2
          have hMl := zeo (trAt n L[j]) (c'.sp.ms.getD k [])
          have hok2 := zcv hok' hkl' ht
          have hxs : ∀ x ∈ c'.sp.ms, x.length < 2^62 := fun x hx => by have := zh2 (zps (hok'.good x hx)).2; omega
          rw [zcg hj] at hrun'
          have f1 := zcz (n := n) (b := b) (k := k) (s := c') (t := L[j]) hc0'
          have f2 := zcw (n := n) (b := b) (k := k) (s := c') (t := L[j]) hc0'
          have f3 := zcs (n := n) (b := b) (k := k) (s := c') (t := L[j]) hc0'
          have f4 := zcu (n := n) (b := b) (k := k) (s := c') (t := L[j]) hc0'
          generalize hM : zem (trAt n L[j]) (c'.sp.ms.getD k []) = M at *
          have ck : C w7i [ints M, I 0, I 50] [] = some (.bool (M.all (inB 0 50)), []) := waz M 0 50 (by omega)
          have fd := fun A => waq c'.sp.ms A M (by omega) hxs
          have hsl : ∀ c2 : Ex, c2.code ≠ 0 → exRun n b d (k + 1) (exL n b k c2 (L.drop (j + 1))) = c2 := fun c2 h => by rw [zci h, zcn h]
          cases ha : M.all (inB 0 50) with
          | false =>
            rw [f1 ha, hsl _ (by simp)] at hrun'
            subst hrun'
            rw [ha] at ck
            rcases hcs' with ⟨rfl, har'⟩ | ⟨rfl, har'⟩ <;> simp (maxSteps := 2000000) (disch := first | omega | (simp only [lenS]; try omega)) only [go_sem, reduceAdd, reduceEqDiff, reduceLeDiff, reduceSub, zgn, z1ak, hfire, ck, exPV, w6u]
          | true =>
            rw [ha] at ck
            by_cases h2 : 0 ≤ findM c'.sp.ms M
            · rw [f2 ha h2] at hrun' hok2
              rcases hcs' with ⟨rfl, har'⟩ | ⟨rfl, har'⟩
              · simp (maxSteps := 2000000) (disch := first | omega | (simp only [lenS]; try omega)) only [go_sem, reduceAdd, reduceEqDiff, reduceLeDiff, reduceSub, zgn, z1ak, hfire, ck, fd]
                refine ⟨_, hok2, rfl, hkl', hL', by simp only [List.length_append, List.length_cons, List.length_nil]; omega, hrun', .inr ⟨?_, by simp⟩⟩
                simp [har']
              · simp (maxSteps := 2000000) (disch := first | omega | (simp only [lenS]; try omega)) only [go_sem, reduceAdd, reduceEqDiff, reduceLeDiff, reduceSub, zgn, z1ak, hfire, ck, fd]
                refine ⟨_, hok2, rfl, hkl', hL', by simp only [List.length_append, List.length_cons, List.length_nil]; omega, hrun', .inr ⟨?_, by simp⟩⟩
                simp
            · by_cases h3 : b ≤ c'.sp.ms.length
              · rw [f3 ha h2 h3, hsl _ (by simp)] at hrun'
                subst hrun'
                rcases hcs' with ⟨rfl, har'⟩ | ⟨rfl, har'⟩ <;> simp (maxSteps := 2000000) (disch := first | omega | (simp only [lenS]; try omega)) only [go_sem, reduceAdd, reduceEqDiff, reduceLeDiff, reduceSub, zgn, z1ak, hfire, ck, fd, exPV, w6u]
              · rw [f4 ha h2 h3] at hrun' hok2
                rcases hcs' with ⟨rfl, har'⟩ | ⟨rfl, har'⟩
                · simp (maxSteps := 2000000) (disch := first | omega | (simp only [lenS]; try omega)) only [go_sem, reduceAdd, reduceEqDiff, reduceLeDiff, reduceSub, zgn, z1ak, hfire, ck, fd]
                  refine ⟨_, hok2, rfl, by simp only [List.length_append]; omega, by simp only; rw [zgi hkl']; exact hL', by simp only [List.length_append, List.length_cons, List.length_nil]; omega, hrun', .inr ⟨?_, by simp⟩⟩
                  simp [har']
                · simp (maxSteps := 2000000) (disch := first | omega | (simp only [lenS]; try omega)) only [go_sem, reduceAdd, reduceEqDiff, reduceLeDiff, reduceSub, zgn, z1ak, hfire, ck, fd]
                  refine ⟨_, hok2, rfl, by simp only [List.length_append]; omega, by simp only; rw [zgi hkl']; exact hL', by simp only [List.length_append, List.length_cons, List.length_nil]; omega, hrun', .inr ⟨?_, by simp⟩⟩
                  simp
        · rintro s ⟨c', hok', hc0', hkl', hL', hal', hrun', hcs'⟩
          rw [List.drop_length] at hrun'
          have hlb' := hok'.lenb
          rcases hcs' with ⟨rfl, har'⟩ | ⟨rfl, har'⟩
          · simp (maxSteps := 2000000) (disch := first | omega | (simp only [lenS]; try omega)) only [go_sem, reduceAdd, reduceEqDiff, reduceLeDiff, reduceSub]
            refine ⟨d - 1, by omega, k + 1, c', by omega, hok', hc0', by omega, by omega, by rw [show d - 1 + 1 = d by omega]; exact hrun', .inl ⟨rfl, har'⟩⟩
          · simp (maxSteps := 2000000) (disch := first | omega | (simp only [lenS]; try omega)) only [go_sem, reduceAdd, reduceEqDiff, reduceLeDiff, reduceSub]
            refine ⟨d - 1, by omega, k + 1, c', by omega, hok', hc0', by omega, by omega, by rw [show d - 1 + 1 = d by omega]; exact hrun', .inr ⟨rfl, har'⟩⟩
    · have er : exRun n b (d + 1) k c = c := by
        show (if c.code ≠ 0 then c else if k < c.sp.ms.length then _ else c) = _
        rw [if_neg (by omega), if_neg hkl]
      rw [er] at hrun
      subst hrun
      rcases hcs with ⟨rfl, har⟩ | ⟨rfl, har⟩
      · simp (maxSteps := 2000000) (disch := first | omega | (simp only [lenS]; try omega)) only [go_sem, reduceAdd, reduceEqDiff, reduceLeDiff, reduceSub]
        simp [exPV, w6u, hc0, arcPV, har]
      · simp (maxSteps := 2000000) (disch := first | omega | (simp only [lenS]; try omega)) only [go_sem, reduceAdd, reduceEqDiff, reduceLeDiff, reduceSub]
        simp [exPV, w6u, hc0, arcPV, har]
theorem wbb (f : Fl) (hg : zgv f = true) : C w7t [encF f] [] = some (.un t_int true 1 ((oneM f.net.pl.toNat f.dst).map I), []) := by
  obtain ⟨g1, g2, g3, _⟩ := zgy hg
  have hn := zha g1
  refine w0t ?_
  simp (maxSteps := 2000000) (disch := first | omega | (simp only [lenS]; try omega)) only [wcw, go_sem, reduceAdd, reduceEqDiff, reduceLeDiff, reduceSub]
  simp (maxSteps := 2000000) (disch := first | omega | (simp only [lenS]; try omega)) only [go_sem, reduceAdd, reduceEqDiff, reduceLeDiff, reduceSub, wbv f.net.pl f.dst (by omega) g3]
theorem war (ms : List (List Int)) (ar : List Arc3) (p : Int) (hm : ms.length < 2^36) (hr : ar.length < 2^35) (ha : z3v ar ms.length) (hk : 0 ≤ p ∧ p < ms.length) :
    C w7c [.agg [rows ms, .sl true 3 (ar.map encA)], ints [p]] [] = some (.un whf true 1 ((toL ar ms.length [p]).map PV.bool), []) := by
  refine w0c ?_
  simp (maxSteps := 2000000) (disch := first | omega | (simp only [lenS]; try omega)) only [wcf, go_sem, reduceAdd, reduceEqDiff, reduceLeDiff, reduceSub]
  generalize hn : ms.length = n at *
  refine W_for ar.length (fun k s => s = ⟨[.any, ints [p], .any, .any, .ref 0 1 0 n, .ref 1 1 0 n, .any, .any, .any, .any, .any, .sl true 3 (ar.map encA), I ar.length, I k, .any, .any, .any, .any, .any, .any, .any, .any, .any, .any, .any], [.row whf true 1 (List.replicate n (.bool false)), .lin whs 1 (befP (ar.take k) n)]⟩) ?_ ?_ ?_
  · simp (maxSteps := 2000000) (disch := first | omega | (simp only [lenS]; try omega)) only [go_sem, reduceAdd, reduceEqDiff, reduceLeDiff, reduceSub]
    rw [z4w]; rfl
  · rintro k s hk2 rfl
    obtain ⟨a1, a2, a3, a4⟩ := ha _ (List.getElem_mem hk2)
    have h1 := z4u (ar.take k) n
    have h2 := z4t (ar := ar.take k) (n := n) a3 a4
    have h3 := z4v (n := n) hk2 a3
    have h4 := z4x (ar.take k) ar[k].dst
    rw [List.length_take] at h4
    rw [h3]
    generalize befP (ar.take k) n = B at *
    generalize befs (ar.take k) ar[k].dst = L at *
    generalize hA : ar[k] = a at *
    by_cases hL : L = []
    · subst hL
      rw [show pvB [] = PV.nil true 1 from rfl] at h2
      simp (maxSteps := 2000000) (disch := first | omega | (simp only [lenS]; try omega)) only [go_sem, reduceAdd, reduceEqDiff, reduceLeDiff, reduceSub, hA, h1, h2]
      exact ⟨by decide, rfl⟩
    · have hpos := List.length_pos_iff.2 hL
      rw [show pvB L = ints L by simp [pvB, hL]] at h2
      simp (maxSteps := 2000000) (disch := first | omega | (simp only [lenS]; try omega)) only [go_sem, reduceAdd, reduceEqDiff, reduceLeDiff, reduceSub, hA, h1, h2, List.getElem_set_self, List.set_set]
      refine ⟨by decide, ?_⟩
      rw [show ints (L ++ [a.src]) = .sl true 1 (L.map I ++ [I a.src]) by show PV.sl true 1 ((L ++ [a.src]).map I) = _; rw [List.map_append]; rfl]; rfl
  · rintro s rfl
    have hcl := wfn (es := [I p]) (by simp)
    rw [List.take_length]
    simp (maxSteps := 2000000) (disch := first | omega | (simp only [lenS]; try omega)) only [go_sem, reduceAdd, reduceEqDiff, reduceLeDiff, reduceSub, hcl]
    refine W_for 1 (fun k s => s = ⟨[.any, .any, .any, .any, .ref 0 1 0 n, .ref 1 1 0 n, .any, .ref 2 1 0 1, .any, .any, .any, .any, .any, .any, .any, ints [p], I 1, I k, .any, .any, .any, .any, .any, .any, .any], [.row whf true 1 ((putS (List.replicate n false) ([p].take k)).map PV.bool), .lin whs 1 (befP ar n), .row t_int true 1 [I p]]⟩) ?_ ?_ ?_
    · simp (maxSteps := 2000000) (disch := first | omega | (simp only [lenS]; try omega)) only [go_sem, reduceAdd, reduceEqDiff, reduceLeDiff, reduceSub]
      simp [putS]
    · rintro k s hk2 rfl
      obtain rfl : k = 0 := by omega
      have h5 : (List.replicate n false)[p.toNat]? = some false := by rw [List.getElem?_replicate, if_pos (by omega)]
      have h6 : (List.replicate n false).length = n := List.length_replicate
      show W _ _ _ ⟨_, [.row whf true 1 ((List.replicate n false).map PV.bool), _, _]⟩ _
      rw [show putS (List.replicate n false) ([p].take (0 + 1)) = (List.replicate n false).set p.toNat true from rfl]
      generalize List.replicate n false = c at *
      simp (maxSteps := 2000000) (disch := first | omega | (simp only [lenS]; try omega)) only [go_sem, reduceAdd, reduceEqDiff, reduceLeDiff, reduceSub, h5, h6]
      rw [List.map_set]; rfl
    · rintro s rfl
      have e0 : putS (List.replicate n false) ([p].take 1) = (List.replicate n false).set p.toNat true := rfl
      rw [e0]
      have hst := BF.start (ar := ar) hk.1 hk.2
      generalize (List.replicate n false).set p.toNat true = c0 at *
      simp (maxSteps := 2000000) (disch := first | omega | (simp only [lenS]; try omega)) only [go_sem, reduceAdd, reduceEqDiff, reduceLeDiff, reduceSub]
      refine z1a (fun j s => ∃ (c : List Bool) (q : List Int) (i : Nat) (K : Blk), (K = .lin whs 1 (befP ar n) ∨ K = .fro false 1 (befP ar n)) ∧ BF ar n [p] c q i ∧ j = cntF c + (q.length - i) ∧ s = ⟨[.any, .any, .any, .any, .ref 0 1 0 n, .ref 1 1 0 n, .any, .ref 2 1 0 q.length, .any, I i, .any, .any, .any, .any, .any, .any, .any, .any, .any, .any, .any, .any, .any, .any, .any], [.row whf true 1 (c.map PV.bool), K, .row t_int true 1 (q.map I)]⟩) (cntF c0 + 1) ?_ ?_
      · refine ⟨c0, [p], 0, _, .inl rfl, hst, rfl, ?_⟩
        simp (maxSteps := 2000000) (disch := first | omega | (simp only [lenS]; try omega)) only [go_sem, reduceAdd, reduceEqDiff, reduceLeDiff, reduceSub]
        rfl
      · rintro j s ⟨c, q, i, K, hK, hB, rfl, rfl⟩
        have hqn : q.length ≤ n := by have := hB.cnt; omega
        by_cases hi : i < q.length
        case neg =>
          have hiq : i = q.length := by have := hB.le; omega
          subst hiq
          have hend := hB.end_ ha (fun k hk' => by simp at hk'; subst hk'; exact hk)
          have hcl := hB.len
          rcases hK with rfl | rfl
          all_goals
            simp (maxSteps := 2000000) (disch := first | omega | (simp only [lenS]; try omega)) only [go_sem, reduceAdd, reduceEqDiff, reduceLeDiff, reduceSub, hcl]
            rw [hend]
        case pos =>
          have hq := hB.inn _ (List.getElem_mem hi)
          have hlk := hB.look hi
          have hget := z4t (ar := ar) (n := n) hq.1 hq.2
          have hln := z4u ar n
          have hbl := z4x ar q[i]
          have hsrc : ∀ x ∈ befs ar q[i], 0 ≤ x ∧ x < n := fun x hx => by
            obtain ⟨a, h1, _, rfl⟩ := z4y.1 hx
            exact ⟨(ha a h1).1, (ha a h1).2.1⟩
          have hnext := fun c' q' => BG.next (ar := ar) (n := n) (S := [p]) (i := i) (x := q[i]) (c := c') (q := q')
          have hold := fun m c' q' => BG.old (ar := ar) (n := n) (S := [p]) (i := i) (L := befs ar q[i]) (m := m) (x := q[i]) (c := c') (q := q')
          have hnew := fun m c' q' (h : BG ar n [p] i (befs ar q[i]) m q[i] c' q') => h.new ha
          generalize befs ar q[i] = L at *
          generalize hqi : q[i] = x at *
          generalize befP ar n = B at *
          have hmeas := hB.cnt
          by_cases hL : L = []
          · subst hL
            rw [show pvB [] = PV.nil true 1 from rfl] at hget
            rcases hK with rfl | rfl
            all_goals
              simp (maxSteps := 2000000) (disch := first | omega | (simp only [lenS]; try omega)) only [go_sem, reduceAdd, reduceEqDiff, reduceLeDiff, reduceSub, hqi, hln, hget]
              refine W_for 0 (fun m s => m = 0 ∧ s = ⟨[.any, .any, .any, .any, .ref 0 1 0 n, .ref 1 1 0 n, .any, .ref 2 1 0 q.length, .any, I i, .any, .any, .any, .any, .any, .any, .any, .any, .any, .any, .nil true 1, I 0, I 0, .any, .any], [.row whf true 1 (c.map PV.bool), .fro false 1 B, .row t_int true 1 (q.map I)]⟩) ?_ ?_ ?_
              · simp (maxSteps := 2000000) (disch := first | omega | (simp only [lenS]; try omega)) only [go_sem, reduceAdd, reduceEqDiff, reduceLeDiff, reduceSub]
                first | done | rfl | exact ⟨rfl, rfl⟩
              · intro m s hm2; omega
              · rintro s ⟨_, rfl⟩
                simp (maxSteps := 2000000) (disch := first | omega | (simp only [lenS]; try omega)) only [go_sem, reduceAdd, reduceEqDiff, reduceLeDiff, reduceSub]
                exact ⟨cntF c + (q.length - (i + 1)), by omega, c, q, i + 1, _, .inr rfl, hnext c q hlk, rfl, rfl⟩
          · have hpos := List.length_pos_iff.2 hL
            rw [show pvB L = ints L by simp [pvB, hL]] at hget
            rcases hK with rfl | rfl
            all_goals
              simp (maxSteps := 2000000) (disch := first | omega | (simp only [lenS]; try omega)) only [go_sem, reduceAdd, reduceEqDiff, reduceLeDiff, reduceSub, hqi, hln, hget]
              refine W_for L.length (fun m s => ∃ (c' : List Bool) (q' : List Int), BG ar n [p] i L m x c' q' ∧ cntF c' + q'.length ≤ cntF c + q.length ∧ s = ⟨[.any, .any, .any, .any, .ref 0 1 0 n, .ref 1 1 0 n, .any, .ref 2 1 0 q'.length, .any, I i, .any, .any, .any, .any, .any, .any, .any, .any, .any, .any, ints L, I L.length, I m, .any, .any], [.row whf true 1 (c'.map PV.bool), .fro false 1 B, .row t_int true 1 (q'.map I)]⟩) ?_ ?_ ?_
              · refine ⟨c, q, hlk, Nat.le_refl _, ?_⟩
                simp (maxSteps := 2000000) (disch := first | omega | (simp only [lenS]; try omega)) only [go_sem, reduceAdd, reduceEqDiff, reduceLeDiff, reduceSub]
                first | done | rfl
              · rintro m s hm2 ⟨c', q', h1, h2, rfl⟩
                have hy := hsrc _ (List.getElem_mem hm2)
                have hcl := h1.len
                have hcn := h1.cnt
                have g1 : c'[L[m].toNat]? = some (c'[L[m].toNat]'(by omega)) := List.getElem?_eq_getElem (by omega)
                have o1 := hold m c' q' h1 hm2
                have o2 := hnew m c' q' h1 hm2
                have hcs := z9z (l := c') (k := L[m].toNat) (by omega)
                rw [List.getD_eq_getElem?_getD] at hcs
                rw [g1] at o1 o2 hcs
                generalize c'[L[m].toNat]'(by omega) = b at *
                generalize hy2 : L[m] = y at *
                simp (maxSteps := 2000000) (disch := first | omega | (simp only [lenS]; try omega)) only [go_sem, reduceAdd, reduceEqDiff, reduceLeDiff, reduceSub, hy2, hcl, g1]
                refine ⟨fun e => ?_, fun e => ?_⟩
                · subst e
                  exact ⟨c', q', o1 rfl, h2, rfl⟩
                · subst e
                  have := hcs rfl
                  refine ⟨_, _, o2 rfl, by rw [List.length_append]; simp only [List.length_cons, List.length_nil]; omega, ?_⟩
                  rw [List.map_append, List.map_set, List.length_append]; rfl
              · rintro s ⟨c', q', h1, h2, rfl⟩
                simp (maxSteps := 2000000) (disch := first | omega | (simp only [lenS]; try omega)) only [go_sem, reduceAdd, reduceEqDiff, reduceLeDiff, reduceSub]
                exact ⟨cntF c' + (q'.length - (i + 1)), by have := h1.lt; omega, c', q', i + 1, _, .inr rfl, hnext c' q' h1, rfl, rfl⟩
theorem wg2 (c : List Bool) (b : Bool) (hl : c.length < 2^62) : C w92 [.sl true 1 (c.map PV.bool), .bool b] [] = some (I (idxI c (fun x => x == b)), []) := by
  refine w1z ?_
  simp (maxSteps := 2000000) (disch := first | omega | (simp only [lenS]; try omega)) only [we4, go_sem, reduceAdd, reduceEqDiff, reduceLeDiff, reduceSub]
  refine W_for c.length (fun k s => s = ⟨[.sl true 1 (c.map PV.bool), .bool b, .any, .any, I c.length, I k, .any, .any], []⟩ ∧ (c.take k).any (fun x => x == b) = false) ?_ ?_ ?_
  · simp (maxSteps := 2000000) (disch := first | omega | (simp only [lenS]; try omega)) only [go_sem, reduceAdd, reduceEqDiff, reduceLeDiff, reduceSub]
    simp
  · rintro k s hk ⟨rfl, h⟩
    have h1 := fun e => zid (p := fun x => x == b) hk h e
    have h2 := fun e => z37 (p := fun x => x == b) hk h e
    cases b
    all_goals
      simp (maxSteps := 2000000) (disch := first | omega | (simp only [lenS]; try omega)) only [go_sem, reduceAdd, reduceEqDiff, reduceLeDiff, reduceSub]
      refine ⟨fun e => ?_, fun e => ?_⟩
      all_goals first
        | (rw [h1 (by simp [e])])
        | exact ⟨rfl, h2 (by simp [e])⟩
  · rintro s ⟨rfl, h⟩
    rw [List.take_length] at h
    simp (maxSteps := 2000000) (disch := first | omega | (simp only [lenS]; try omega)) only [go_sem, reduceAdd, reduceEqDiff, reduceLeDiff, reduceSub]
    rw [zic h]
theorem wb9 (a b : List Int) (hl : a.length = b.length) (hb : b.length < 2^62) : C w7r [ints a, ints b] [] = some (.bool (zaq a b), []) := by
  refine w0r ?_
  simp (maxSteps := 2000000) (disch := first | omega | (simp only [lenS]; try omega)) only [wcu, go_sem, reduceAdd, reduceEqDiff, reduceLeDiff, reduceSub]
  refine W_for a.length (fun k s => s = ⟨[.any, ints b, .any, .any, .any, ints a, I a.length, I k, .any, .any], []⟩ ∧ ((a.zip b).take k).all (fun p => decide (p.2 ≤ p.1)) = true) ?_ ?_ ?_
  · simp (maxSteps := 2000000) (disch := first | omega | (simp only [lenS]; try omega)) only [go_sem, reduceAdd, reduceEqDiff, reduceLeDiff, reduceSub]
    rfl
  · rintro k s hk ⟨rfl, hall⟩
    simp (maxSteps := 2000000) (disch := first | omega | (simp only [lenS]; try omega)) only [go_sem, reduceAdd, reduceEqDiff, reduceLeDiff, reduceSub]
    have hz : k < (a.zip b).length := by simp; omega
    refine ⟨fun h => ?_, fun h => ⟨rfl, z2s hz hall (by simp; omega)⟩⟩
    have : zaq a b = false := z2r hz (by simp; omega)
    rw [this]
  · rintro s ⟨rfl, hall⟩
    simp (maxSteps := 2000000) (disch := first | omega | (simp only [lenS]; try omega)) only [go_sem, reduceAdd, reduceEqDiff, reduceLeDiff, reduceSub]
    rw [List.take_of_length_le (by simp; omega)] at hall
    unfold zaq
    rw [hall]
theorem wbi (a b : List Int) (hl : a.length = b.length) (hb : b.length < 2^62) : C w80 [ints a, ints b] [] = some (.bool (overB a b), []) := by
  have h1 := wb9 a b hl hb
  have h2 := wfw a b (by omega)
  unfold overB
  generalize zaq a b = c at *
  refine w10 ?_
  simp (maxSteps := 2000000) (disch := first | omega | (simp only [lenS]; try omega)) only [wd3, go_sem, reduceAdd, reduceEqDiff, reduceLeDiff, reduceSub]
  simp (maxSteps := 2000000) (disch := first | omega | (simp only [lenS]; try omega)) only [go_sem, reduceAdd, reduceEqDiff, reduceLeDiff, reduceSub, h1, h2]
  grind
theorem wb5 (a b : List Int) (hl : a.length = b.length) (hb : b.length < 2^62) : C w7p [ints a, .pv (.agg [ints b]) 0] [] = some (.bool (overB a b), []) := by
  have h1 := wbi a b hl hb
  generalize overB a b = c at *
  refine w0p ?_
  simp (maxSteps := 2000000) (disch := first | omega | (simp only [lenS]; try omega)) only [wcs, go_sem, reduceAdd, reduceEqDiff, reduceLeDiff, reduceSub]
  simp (maxSteps := 2000000) (disch := first | omega | (simp only [lenS]; try omega)) only [go_sem, reduceAdd, reduceEqDiff, reduceLeDiff, reduceSub, h1]
  cases c <;> simp
theorem wat (a : Arc3) (p : Int) : C w7e [encA a, .pv (.agg [I p]) 0] [] = some (.bool (decide (a.dst = p)), []) := by
  refine w0e ?_
  simp (maxSteps := 2000000) (disch := first | omega | (simp only [lenS]; try omega)) only [wch, go_sem, reduceAdd, reduceEqDiff, reduceLeDiff, reduceSub]
  grind
theorem wfx (l : List Arc3) (g : FuncId) (caps : List PV) (hc : refsL caps = []) (hcv : ∀ m h, z1bj [] m h caps = some caps) (p : Arc3 → Bool) (hp : ∀ x ∈ l, C g (encA x :: caps) [] = some (.bool (p x), [])) (hl : l.length < 2^62) :
    C w8x [.sl true 3 (l.map encA), .clo g caps] [] = some (I (idxI l p), []) := by
  refine w1u ?_
  simp (maxSteps := 2000000) (disch := first | omega | (simp only [lenS]; try omega)) only [wdz, go_sem, reduceAdd, reduceEqDiff, reduceLeDiff, reduceSub]
  refine W_for l.length (fun k s => s = ⟨[.sl true 3 (l.map encA), .clo g caps, .any, .any, I l.length, I k, .any, .any], []⟩ ∧ (l.take k).any p = false) ?_ ?_ ?_
  · simp (maxSteps := 2000000) (disch := first | omega | (simp only [lenS]; try omega)) only [go_sem, reduceAdd, reduceEqDiff, reduceLeDiff, reduceSub, hc]
    rfl
  · rintro k s hk ⟨rfl, hall⟩
    simp (maxSteps := 2000000) (disch := first | omega | (simp only [lenS]; try omega)) only [go_sem, reduceAdd, reduceEqDiff, reduceLeDiff, reduceSub, hc, hcv, hp _ (List.getElem_mem hk)]
    exact ⟨fun h => by rw [zid hk hall h], fun h => ⟨rfl, z37 hk hall h⟩⟩
  · rintro s ⟨rfl, hall⟩
    simp (maxSteps := 2000000) (disch := first | omega | (simp only [lenS]; try omega)) only [go_sem, reduceAdd, reduceEqDiff, reduceLeDiff, reduceSub]
    rw [List.take_length] at hall
    rw [zic hall]
theorem wg5 (l : List Int) (hl : l.length < 2^60) : C w95 [.ref 0 1 0 l.length] [.row t_int true 1 (l.map I)] = some (.tup [], [.row t_int true 1 (l.reverse.map I)]) := by
  refine w22 ?_
  simp (maxSteps := 2000000) (disch := first | omega | (simp only [lenS]; try omega)) only [we7, go_sem, reduceAdd, reduceEqDiff, reduceLeDiff, reduceSub]
  refine z1a (fun k s => ∃ (i : Nat) (c : List Int), k + 2 * i = l.length + 1 ∧ revI l c i ∧ s = ⟨[.ref 0 1 0 l.length, I i, I (l.length - 1 - i : Int), .any], [.row t_int true 1 (c.map I)]⟩) (l.length + 1) ?_ ?_
  · refine ⟨0, l, by omega, z12u l, ?_⟩
    simp (maxSteps := 2000000) (disch := first | omega | (simp only [lenS]; try omega)) only [go_sem, reduceAdd, reduceEqDiff, reduceLeDiff, reduceSub]
    simp
  · rintro k s ⟨i, c, hk, hr, rfl⟩
    have hcl := hr.1
    by_cases hi : 2 * i + 1 < l.length
    · have e1 : ((l.length : Int) - 1 - i).toNat = l.length - 1 - i := by omega
      have hst := z12t hr hi
      simp (maxSteps := 2000000) (disch := first | omega | (simp only [lenS]; try omega)) only [go_sem, reduceAdd, reduceEqDiff, reduceLeDiff, reduceSub, e1]
      refine ⟨k - 2, by omega, i + 1, _, by omega, hst, ?_⟩
      rw [show (l.length : Int) - 1 - ((i + 1 : Nat) : Int) = l.length - 1 - i - 1 by omega]
      rfl
    · have := z12s hr (by omega)
      subst this
      simp (maxSteps := 2000000) (disch := first | omega | (simp only [lenS]; try omega)) only [go_sem, reduceAdd, reduceEqDiff, reduceLeDiff, reduceSub]
theorem wan (a : Arc3) (t : Int) : C w79 [encA a, .pv (.agg [I t]) 0] [] = some (.bool (decide (a.by_ = t)), []) := by
  refine w09 ?_
  simp (maxSteps := 2000000) (disch := first | omega | (simp only [lenS]; try omega)) only [wcc, go_sem, reduceAdd, reduceEqDiff, reduceLeDiff, reduceSub]
  grind
theorem wfo (l : List Arc3) (g : FuncId) (caps : List PV) (hc : refsL caps = []) (hcv : ∀ m h, z1bj [] m h caps = some caps) (p : Arc3 → Bool) (hp : ∀ x ∈ l, C g (encA x :: caps) [] = some (.bool (p x), [])) (hl : l.length < 2^62) :
    C w8p [.sl true 3 (l.map encA), .clo g caps] [] = some (.bool (l.any p), []) := by
  refine w1n ?_
  simp (maxSteps := 2000000) (disch := first | omega | (simp only [lenS]; try omega)) only [wdr, go_sem, reduceAdd, reduceEqDiff, reduceLeDiff, reduceSub]
  simp (maxSteps := 2000000) (disch := first | omega | (simp only [lenS]; try omega)) only [go_sem, reduceAdd, reduceEqDiff, reduceLeDiff, reduceSub, hc, hcv, wfx l g caps hc hcv p hp hl]
  have := zia l p
  grind
theorem wao (ms : List (List Int)) (ar : List Arc3) (n : Net) (hr : ar.length < 2^35) (ht : n.tr.length < 2^20) : C w78 [.agg [rows ms, .sl true 3 (ar.map encA)], encN n] [] = some (.un t_int true 1 ((deadK ar n.tr.length).map I), []) := by
  refine w08 ?_
  simp (maxSteps := 2000000) (disch := first | omega | (simp only [lenS]; try omega)) only [wcb, go_sem, reduceAdd, reduceEqDiff, reduceLeDiff, reduceSub]
  refine W_for n.tr.length (fun k s => s = ⟨[.any, .any, .ptr 0 0, .any, .any, .ref 1 1 0 (deadK ar k).length, .any, I n.tr.length, I k, .any, .any], [.box whl [rows ms, .sl true 3 (ar.map encA)], .row t_int true 1 ((deadK ar k).map I)]⟩) ?_ ?_ ?_
  · simp (maxSteps := 2000000) (disch := first | omega | (simp only [lenS]; try omega)) only [go_sem, reduceAdd, reduceEqDiff, reduceLeDiff, reduceSub]
    rfl
  · rintro k s hk rfl
    have ix := wfo ar w79 [.pv (.agg [I k]) 0] rfl (fun _ _ => rfl) (fun a => decide (a.by_ = k)) (fun x _ => wan x k) (by omega)
    have hl := zax ar k
    have hst := zay ar k
    rw [hst]
    generalize deadK ar k = D at *
    cases ha : ar.any fun a => decide (a.by_ = (k : Int)) with
    | true =>
      rw [ha] at ix
      simp (maxSteps := 2000000) (disch := first | omega | (simp only [lenS]; try omega)) only [go_sem, reduceAdd, reduceEqDiff, reduceLeDiff, reduceSub, ix]
      simp
    | false =>
      rw [ha] at ix
      simp (maxSteps := 2000000) (disch := first | omega | (simp only [lenS]; try omega)) only [go_sem, reduceAdd, reduceEqDiff, reduceLeDiff, reduceSub, ix]
      simp
  · rintro s rfl
    simp (maxSteps := 2000000) (disch := first | omega | (simp only [lenS]; try omega)) only [go_sem, reduceAdd, reduceEqDiff, reduceLeDiff, reduceSub]
theorem wau (ms : List (List Int)) (ar : List Arc3) (m : List Int) (hm : ms.length < 2^30) (hr : ar.length < 2^35) (hb : Bfs ar ms.length) (hxs : ∀ x ∈ ms, x.length < 2^62) (K : Nat) (hK : K < ms.length) (hf : findM ms m = K) :
    C w7d [.agg [rows ms, .sl true 3 (ar.map encA)], ints m] [] = some (.tup [.un t_int true 1 ((tw ar K).map I), .bool true], []) := by
  have fd := waq ms (ar.map encA) m (by omega) hxs
  rw [hf] at fd
  refine w0d ?_
  simp (maxSteps := 2000000) (disch := first | omega | (simp only [lenS]; try omega)) only [wcg, go_sem, reduceAdd, reduceEqDiff, reduceLeDiff, reduceSub]
  simp (maxSteps := 2000000) (disch := first | omega | (simp only [lenS]; try omega)) only [go_sem, reduceAdd, reduceEqDiff, reduceLeDiff, reduceSub, fd]
  refine z1a (fun k s => ∃ W : List Int, k < ms.length ∧ tw ar K = tw ar k ++ W.reverse ∧ s = ⟨[.any, .any, .ptr 0 0, .any, .any, .ptr 1 0, .ref 2 1 0 W.length, .any, .any, .any], [.box whl [rows ms, .sl true 3 (ar.map encA)], .box t_int [I k], .row t_int true 1 (W.map I)]⟩) K ?_ ?_
  · refine ⟨[], hK, by simp, ?_⟩
    simp (maxSteps := 2000000) (disch := first | omega | (simp only [lenS]; try omega)) only [go_sem, reduceAdd, reduceEqDiff, reduceLeDiff, reduceSub]
    first | done | rfl
  · rintro k s ⟨W, hk, hW, rfl⟩
    have hlW := congrArg List.length hW
    rw [List.length_append, List.length_reverse] at hlW
    have hlK := z1b5 hb K hK
    by_cases h0 : 0 < k
    · obtain ⟨i, hi, a1, a2, a3, a4, a5⟩ := hb.arc h0 hk
      have ix := wfx ar w7e [.pv (.agg [I k]) 0] rfl (fun _ _ => rfl) (fun a => decide (a.dst = k)) (fun x _ => wat x k) (by omega)
      rw [show idxI ar (fun a => decide (a.dst = k)) = i from a1] at ix
      have hst := z1b8 hb h0 hk hi a1
      rw [hst] at hW
      simp (maxSteps := 2000000) (disch := first | omega | (simp only [lenS]; try omega)) only [go_sem, reduceAdd, reduceEqDiff, reduceLeDiff, reduceSub, ix]
      have e2 : ((ar[i].src.toNat : Nat) : Int) = ar[i].src := by omega
      refine ⟨ar[i].src.toNat, by omega, W ++ [ar[i].by_], by omega, by rw [hW, List.reverse_append]; simp, ?_⟩
      rw [e2, List.map_append, List.length_append]; rfl
    · have : k = 0 := by omega
      subst this
      rw [z1b9, List.nil_append] at hW
      have rv := wg5 W (by omega)
      rw [← hW] at rv
      have hl2 : W.length = (tw ar K).length := by rw [hW, List.length_reverse]
      rw [hl2] at rv
      generalize tw ar K = T at *
      simp (maxSteps := 2000000) (disch := first | omega | (simp only [lenS]; try omega)) only [go_sem, reduceAdd, reduceEqDiff, reduceLeDiff, reduceSub, rv, hl2]
def vdPV (v : Vd) : PV := .agg [I v.ok, I v.kind, if v.kind = 1 ∨ v.kind = 2 then .un t_int true 1 (v.way.map I) else .nil true 1, I v.dead]
theorem w6w {f : Fl} {b : Int} (hg : zgv f = true) (hb : inB 1 400 b = true) : ExOk f.net (oneM f.net.pl.toNat f.src) b (exAll f.net (oneM f.net.pl.toNat f.src) b) ∧ (exAll f.net (oneM f.net.pl.toNat f.src) b).sp.ms.length ≤ 400 ∧ (exAll f.net (oneM f.net.pl.toNat f.src) b).sp.ar.length ≤ 20000 ∧ Bfs (exAll f.net (oneM f.net.pl.toNat f.src) b).sp.ar (exAll f.net (oneM f.net.pl.toNat f.src) b).sp.ms.length ∧ 0 < (exAll f.net (oneM f.net.pl.toNat f.src) b).sp.ms.length ∧ ∀ x ∈ (exAll f.net (oneM f.net.pl.toNat f.src) b).sp.ms, x.length = f.net.pl.toNat := by
  have h1 := zu3 hg
  simp only [inB, Bool.and_eq_true, decide_eq_true_eq] at hb
  have f1 := (zcc h1 hb.1).1
  have hl := f1.lenb
  refine ⟨f1, by omega, zc9 (zha (zps h1).1).2.2.1 hb.2, zca h1 hb.1, ?_, fun x hx => ?_⟩
  · have := f1.first
    rcases Nat.eq_zero_or_pos (exAll f.net (oneM f.net.pl.toNat f.src) b).sp.ms.length with h | h
    · rw [List.length_eq_zero_iff.1 h] at this; simp at this
    · exact h
  · have := zh2 (zps (f1.good x hx)).2
    omega
theorem whu (ar : List Arc3) (n : Nat) : toL ar n [] = List.replicate n false := by
  have hno : ∀ k, ¬ Rk ar [] k := by
    intro k hk
    induction hk with
    | base h => simp at h
    | step _ _ ih => exact ih
  unfold toL
  rw [List.eq_replicate_iff]
  refine ⟨by simp, fun b hb => ?_⟩
  obtain ⟨k, _, rfl⟩ := List.mem_map.1 hb
  simp [hno k]
theorem whv (k : Int) (W : List Int) (hk : k = 1 ∨ k = 2) : vdPV ⟨2, k, W, 0⟩ = .agg [I 2, I k, .un t_int true 1 (W.map I), I 0] := by
  unfold vdPV; rw [if_pos hk]
theorem wb6 (f : Fl) (b : Int) (hg : zgv f = true) (hb : inB 1 400 b = true) : C w7o [encF f, I b] [] = some (.tup [vdPV (sndV f b), exPV (exAll f.net (oneM f.net.pl.toNat f.src) b)], []) := by
  have hs0 := wbx f hg
  have he0 := wbb f hg
  have hx := wbc f.net (oneM f.net.pl.toNat f.src) b (zu3 hg) (by simp only [inB, Bool.and_eq_true, decide_eq_true_eq] at hb; omega)
  obtain ⟨f1, f2, f3, f4, f5, f6⟩ := w6w hg hb
  unfold sndV
  have hcd := zcb f.net (oneM f.net.pl.toNat f.src) b
  have hEl : (oneM f.net.pl.toNat f.dst).length = f.net.pl.toNat := by simp [oneM]
  have hnd := f1.nodup
  obtain ⟨g1, _⟩ := zgy hg
  have hn := zha g1
  generalize exAll f.net (oneM f.net.pl.toNat f.src) b = R at *
  generalize oneM f.net.pl.toNat f.src = E0 at *
  generalize oneM f.net.pl.toNat f.dst = E at *
  have hdd := wao R.sp.ms R.sp.ar f.net (by omega) (by omega)
  have hdl := zax R.sp.ar f.net.tr.length
  have fd := waq R.sp.ms (R.sp.ar.map encA) E (by omega) (fun x hx => by have := f6 x hx; omega)
  have hfg := fun h => (zec (l := R.sp.ms) (m := E) h).1
  have hcl := z1ah R.sp.ar R.sp.ms.length (endS R.sp.ms E)
  have hct := wg2 (toL R.sp.ar R.sp.ms.length (endS R.sp.ms E)) false (by omega)
  have hil := zib (toL R.sp.ar R.sp.ms.length (endS R.sp.ms E)) (fun x => x == false)
  rw [hcl] at hil
  have hov := wg1 R.sp.ms w7p [.pv (.agg [ints E]) 0] rfl (fun _ _ => rfl) (fun m => overB m E) (fun x hx => wb5 x E (by have := f6 x hx; omega) (by omega)) (by omega)
  have hol := zib R.sp.ms (fun m => overB m E)
  by_cases hc : R.code = 0
  · rw [if_pos hc]
    have hec : w6u R = 1 := by simp only [w6u, hc, if_true]
    rw [hec] at hx
    have hls : ∀ x ∈ R.sp.ms, x.length < 2^62 := fun x hx => by have := f6 x hx; omega
    have hway : ∀ A, A = R.sp.ar.map encA → ∀ K : Nat, (hK : K < R.sp.ms.length) → C w7d [.agg [rows R.sp.ms, .sl true 3 A], ints R.sp.ms[K]] [] = some (.tup [.un t_int true 1 ((tw R.sp.ar K).map I), .bool true], []) := fun A hA K hK => by subst hA; exact wau R.sp.ms R.sp.ar R.sp.ms[K] (by omega) (by omega) f4 hls K hK (by rw [zgn hK]; exact zeb hnd hK)
    unfold chkV
    have hend : endS R.sp.ms E = if 0 ≤ findM R.sp.ms E then [findM R.sp.ms E] else [] := rfl
    have hlt0 := fun h : 0 ≤ findM R.sp.ms E => war R.sp.ms R.sp.ar (findM R.sp.ms E) (by omega) (by omega) f4.inn ⟨h, by have := hfg h; omega⟩
    generalize endS R.sp.ms E = S at *
    generalize findM R.sp.ms E = z at *
    by_cases hz : 0 ≤ z
    · rw [if_pos hz] at hend
      have hlt := hlt0 hz
      subst hend
      generalize toL R.sp.ar R.sp.ms.length [z] = c at *
      generalize deadK R.sp.ar f.net.tr.length = D at *
      generalize idxI c (fun x => x == false) = k1 at *
      generalize idxI R.sp.ms (fun m => overB m E) = k2 at *
      generalize hV : (if 0 ≤ k1 then (⟨2, 1, tw R.sp.ar k1.toNat, 0⟩ : Vd) else if 0 ≤ k2 then ⟨2, 2, tw R.sp.ar k2.toNat, 0⟩ else if 0 < D.length then ⟨2, 3, [], D.getD 0 0⟩ else ⟨1, 0, [], 0⟩) = V
      simp only [ints, List.map_cons, List.map_nil] at hlt
      by_cases har : R.sp.ar = []
      · have hPV : exPV R = .agg [.un whs false 1 (R.sp.ms.map ints), .nil true 3] := by simp only [exPV, arcPV, hc, har, if_true]
        rw [hPV] at hx ⊢
        have hway := hway [] (by rw [har]; rfl)
        simp only [har, List.map_nil] at hlt fd hdd
        by_cases h1 : 0 ≤ k1
        · obtain ⟨K, rfl⟩ : ∃ K : Nat, k1 = K := ⟨k1.toNat, by omega⟩
          have hKl : K < R.sp.ms.length := by omega
          have hVe : V = ⟨2, 1, tw R.sp.ar K, 0⟩ := by rw [← hV, if_pos h1, Int.toNat_natCast]
          have hwt := hway K hKl
          have e3 : R.sp.ms[K]? = some R.sp.ms[K] := List.getElem?_eq_getElem hKl
          have htl := z1b5 f4 K hKl
          rw [hVe]
          simp only
          generalize R.sp.ms[K] = x at *
          generalize tw R.sp.ar K = W at *
          by_cases hl : W.length ≤ 60
          · rw [if_pos hl, whv 1 W (.inl rfl)]
            refine w0o ?_
            simp (maxSteps := 2000000) (disch := first | omega | (simp only [lenS]; try omega)) only [wcr, go_sem, reduceAdd, reduceEqDiff, reduceLeDiff, reduceSub]
            simp (maxSteps := 2000000) (disch := first | omega | (simp only [lenS]; try omega)) only [go_sem, reduceAdd, reduceEqDiff, reduceLeDiff, reduceSub, hs0, he0, hx, fd, hz, hlt, hct, e3, hwt, hdd]
            first | done | rfl | exact ⟨rfl, rfl⟩
          · rw [if_neg hl]
            refine w0o ?_
            simp (maxSteps := 2000000) (disch := first | omega | (simp only [lenS]; try omega)) only [wcr, go_sem, reduceAdd, reduceEqDiff, reduceLeDiff, reduceSub]
            simp (maxSteps := 2000000) (disch := first | omega | (simp only [lenS]; try omega)) only [go_sem, reduceAdd, reduceEqDiff, reduceLeDiff, reduceSub, hs0, he0, hx, fd, hz, hlt, hct, e3, hwt, hdd]
            first | done | rfl | exact ⟨rfl, rfl⟩
        · by_cases h2 : 0 ≤ k2
          · obtain ⟨K, rfl⟩ : ∃ K : Nat, k2 = K := ⟨k2.toNat, by omega⟩
            have hKl : K < R.sp.ms.length := by omega
            have hVe : V = ⟨2, 2, tw R.sp.ar K, 0⟩ := by rw [← hV, if_neg h1, if_pos h2, Int.toNat_natCast]
            have hwt := hway K hKl
            have e3 : R.sp.ms[K]? = some R.sp.ms[K] := List.getElem?_eq_getElem hKl
            have htl := z1b5 f4 K hKl
            rw [hVe]
            simp only
            generalize R.sp.ms[K] = x at *
            generalize tw R.sp.ar K = W at *
            by_cases hl : W.length ≤ 60
            · rw [if_pos hl, whv 2 W (.inr rfl)]
              refine w0o ?_
              simp (maxSteps := 2000000) (disch := first | omega | (simp only [lenS]; try omega)) only [wcr, go_sem, reduceAdd, reduceEqDiff, reduceLeDiff, reduceSub]
              simp (maxSteps := 2000000) (disch := first | omega | (simp only [lenS]; try omega)) only [go_sem, reduceAdd, reduceEqDiff, reduceLeDiff, reduceSub, hs0, he0, hx, fd, hz, hlt, hct, h1, hov, e3, hwt, hdd]
              first | done | rfl | exact ⟨rfl, rfl⟩
            · rw [if_neg hl]
              refine w0o ?_
              simp (maxSteps := 2000000) (disch := first | omega | (simp only [lenS]; try omega)) only [wcr, go_sem, reduceAdd, reduceEqDiff, reduceLeDiff, reduceSub]
              simp (maxSteps := 2000000) (disch := first | omega | (simp only [lenS]; try omega)) only [go_sem, reduceAdd, reduceEqDiff, reduceLeDiff, reduceSub, hs0, he0, hx, fd, hz, hlt, hct, h1, hov, e3, hwt, hdd]
              first | done | rfl | exact ⟨rfl, rfl⟩
          · cases D with
            | nil =>
              have hVe : V = ⟨1, 0, [], 0⟩ := by rw [← hV, if_neg h1, if_neg h2]; rfl
              rw [hVe]
              refine w0o ?_
              simp (maxSteps := 2000000) (disch := first | omega | (simp only [lenS]; try omega)) only [wcr, go_sem, reduceAdd, reduceEqDiff, reduceLeDiff, reduceSub]
              simp (maxSteps := 2000000) (disch := first | omega | (simp only [lenS]; try omega)) only [go_sem, reduceAdd, reduceEqDiff, reduceLeDiff, reduceSub, hs0, he0, hx, fd, hz, hlt, hct, h1, hov, h2, hdd]
              first | done | rfl | exact ⟨rfl, rfl⟩
            | cons d D =>
              have hVe : V = ⟨2, 3, [], d⟩ := by rw [← hV, if_neg h1, if_neg h2]; rfl
              rw [hVe]
              refine w0o ?_
              simp (maxSteps := 2000000) (disch := first | omega | (simp only [lenS]; try omega)) only [wcr, go_sem, reduceAdd, reduceEqDiff, reduceLeDiff, reduceSub]
              simp (maxSteps := 2000000) (disch := first | omega | (simp only [lenS]; try omega)) only [go_sem, reduceAdd, reduceEqDiff, reduceLeDiff, reduceSub, hs0, he0, hx, fd, hz, hlt, hct, h1, hov, h2, hdd, Int.toNat_zero, List.getElem_cons_zero]
              first | done | rfl | exact ⟨rfl, rfl⟩
      · have hPV : exPV R = .agg [.un whs false 1 (R.sp.ms.map ints), .un whg true 3 (R.sp.ar.map encA)] := by simp only [exPV, arcPV, hc, har, if_true, if_false]
        rw [hPV] at hx ⊢
        have hway := hway _ rfl
        by_cases h1 : 0 ≤ k1
        · obtain ⟨K, rfl⟩ : ∃ K : Nat, k1 = K := ⟨k1.toNat, by omega⟩
          have hKl : K < R.sp.ms.length := by omega
          have hVe : V = ⟨2, 1, tw R.sp.ar K, 0⟩ := by rw [← hV, if_pos h1, Int.toNat_natCast]
          have hwt := hway K hKl
          have e3 : R.sp.ms[K]? = some R.sp.ms[K] := List.getElem?_eq_getElem hKl
          have htl := z1b5 f4 K hKl
          rw [hVe]
          simp only
          generalize R.sp.ms[K] = x at *
          generalize tw R.sp.ar K = W at *
          by_cases hl : W.length ≤ 60
          · rw [if_pos hl, whv 1 W (.inl rfl)]
            refine w0o ?_
            simp (maxSteps := 2000000) (disch := first | omega | (simp only [lenS]; try omega)) only [wcr, go_sem, reduceAdd, reduceEqDiff, reduceLeDiff, reduceSub]
            simp (maxSteps := 2000000) (disch := first | omega | (simp only [lenS]; try omega)) only [go_sem, reduceAdd, reduceEqDiff, reduceLeDiff, reduceSub, hs0, he0, hx, fd, hz, hlt, hct, e3, hwt, hdd]
            first | done | rfl | exact ⟨rfl, rfl⟩
          · rw [if_neg hl]
            refine w0o ?_
            simp (maxSteps := 2000000) (disch := first | omega | (simp only [lenS]; try omega)) only [wcr, go_sem, reduceAdd, reduceEqDiff, reduceLeDiff, reduceSub]
            simp (maxSteps := 2000000) (disch := first | omega | (simp only [lenS]; try omega)) only [go_sem, reduceAdd, reduceEqDiff, reduceLeDiff, reduceSub, hs0, he0, hx, fd, hz, hlt, hct, e3, hwt, hdd]
            first | done | rfl | exact ⟨rfl, rfl⟩
        · by_cases h2 : 0 ≤ k2
          · obtain ⟨K, rfl⟩ : ∃ K : Nat, k2 = K := ⟨k2.toNat, by omega⟩
            have hKl : K < R.sp.ms.length := by omega
            have hVe : V = ⟨2, 2, tw R.sp.ar K, 0⟩ := by rw [← hV, if_neg h1, if_pos h2, Int.toNat_natCast]
            have hwt := hway K hKl
            have e3 : R.sp.ms[K]? = some R.sp.ms[K] := List.getElem?_eq_getElem hKl
            have htl := z1b5 f4 K hKl
            rw [hVe]
            simp only
            generalize R.sp.ms[K] = x at *
            generalize tw R.sp.ar K = W at *
            by_cases hl : W.length ≤ 60
            · rw [if_pos hl, whv 2 W (.inr rfl)]
              refine w0o ?_
              simp (maxSteps := 2000000) (disch := first | omega | (simp only [lenS]; try omega)) only [wcr, go_sem, reduceAdd, reduceEqDiff, reduceLeDiff, reduceSub]
              simp (maxSteps := 2000000) (disch := first | omega | (simp only [lenS]; try omega)) only [go_sem, reduceAdd, reduceEqDiff, reduceLeDiff, reduceSub, hs0, he0, hx, fd, hz, hlt, hct, h1, hov, e3, hwt, hdd]
              first | done | rfl | exact ⟨rfl, rfl⟩
            · rw [if_neg hl]
              refine w0o ?_
              simp (maxSteps := 2000000) (disch := first | omega | (simp only [lenS]; try omega)) only [wcr, go_sem, reduceAdd, reduceEqDiff, reduceLeDiff, reduceSub]
              simp (maxSteps := 2000000) (disch := first | omega | (simp only [lenS]; try omega)) only [go_sem, reduceAdd, reduceEqDiff, reduceLeDiff, reduceSub, hs0, he0, hx, fd, hz, hlt, hct, h1, hov, e3, hwt, hdd]
              first | done | rfl | exact ⟨rfl, rfl⟩
          · cases D with
            | nil =>
              have hVe : V = ⟨1, 0, [], 0⟩ := by rw [← hV, if_neg h1, if_neg h2]; rfl
              rw [hVe]
              refine w0o ?_
              simp (maxSteps := 2000000) (disch := first | omega | (simp only [lenS]; try omega)) only [wcr, go_sem, reduceAdd, reduceEqDiff, reduceLeDiff, reduceSub]
              simp (maxSteps := 2000000) (disch := first | omega | (simp only [lenS]; try omega)) only [go_sem, reduceAdd, reduceEqDiff, reduceLeDiff, reduceSub, hs0, he0, hx, fd, hz, hlt, hct, h1, hov, h2, hdd]
              first | done | rfl | exact ⟨rfl, rfl⟩
            | cons d D =>
              have hVe : V = ⟨2, 3, [], d⟩ := by rw [← hV, if_neg h1, if_neg h2]; rfl
              rw [hVe]
              refine w0o ?_
              simp (maxSteps := 2000000) (disch := first | omega | (simp only [lenS]; try omega)) only [wcr, go_sem, reduceAdd, reduceEqDiff, reduceLeDiff, reduceSub]
              simp (maxSteps := 2000000) (disch := first | omega | (simp only [lenS]; try omega)) only [go_sem, reduceAdd, reduceEqDiff, reduceLeDiff, reduceSub, hs0, he0, hx, fd, hz, hlt, hct, h1, hov, h2, hdd, Int.toNat_zero, List.getElem_cons_zero]
              first | done | rfl | exact ⟨rfl, rfl⟩
    · rw [if_neg hz] at hend
      have hlt := hcl
      subst hend
      have hrp := whu R.sp.ar R.sp.ms.length
      rw [hrp, List.map_replicate] at hct
      rw [hrp] at hil ⊢
      generalize deadK R.sp.ar f.net.tr.length = D at *
      generalize idxI (List.replicate R.sp.ms.length false) (fun x => x == false) = k1 at *
      generalize idxI R.sp.ms (fun m => overB m E) = k2 at *
      generalize hV : (if 0 ≤ k1 then (⟨2, 1, tw R.sp.ar k1.toNat, 0⟩ : Vd) else if 0 ≤ k2 then ⟨2, 2, tw R.sp.ar k2.toNat, 0⟩ else if 0 < D.length then ⟨2, 3, [], D.getD 0 0⟩ else ⟨1, 0, [], 0⟩) = V
      clear hlt hcl
      have hlt : True := trivial
      by_cases har : R.sp.ar = []
      · have hPV : exPV R = .agg [.un whs false 1 (R.sp.ms.map ints), .nil true 3] := by simp only [exPV, arcPV, hc, har, if_true]
        rw [hPV] at hx ⊢
        have hway := hway [] (by rw [har]; rfl)
        simp only [har, List.map_nil] at hlt fd hdd
        by_cases h1 : 0 ≤ k1
        · obtain ⟨K, rfl⟩ : ∃ K : Nat, k1 = K := ⟨k1.toNat, by omega⟩
          have hKl : K < R.sp.ms.length := by omega
          have hVe : V = ⟨2, 1, tw R.sp.ar K, 0⟩ := by rw [← hV, if_pos h1, Int.toNat_natCast]
          have hwt := hway K hKl
          have e3 : R.sp.ms[K]? = some R.sp.ms[K] := List.getElem?_eq_getElem hKl
          have htl := z1b5 f4 K hKl
          rw [hVe]
          simp only
          generalize R.sp.ms[K] = x at *
          generalize tw R.sp.ar K = W at *
          by_cases hl : W.length ≤ 60
          · rw [if_pos hl, whv 1 W (.inl rfl)]
            refine w0o ?_
            simp (maxSteps := 2000000) (disch := first | omega | (simp only [lenS]; try omega)) only [wcr, go_sem, reduceAdd, reduceEqDiff, reduceLeDiff, reduceSub]
            simp (maxSteps := 2000000) (disch := first | omega | (simp only [lenS]; try omega)) only [go_sem, reduceAdd, reduceEqDiff, reduceLeDiff, reduceSub, hs0, he0, hx, fd, hz, hlt, hct, e3, hwt, hdd]
            first | done | rfl | exact ⟨rfl, rfl⟩
          · rw [if_neg hl]
            refine w0o ?_
            simp (maxSteps := 2000000) (disch := first | omega | (simp only [lenS]; try omega)) only [wcr, go_sem, reduceAdd, reduceEqDiff, reduceLeDiff, reduceSub]
            simp (maxSteps := 2000000) (disch := first | omega | (simp only [lenS]; try omega)) only [go_sem, reduceAdd, reduceEqDiff, reduceLeDiff, reduceSub, hs0, he0, hx, fd, hz, hlt, hct, e3, hwt, hdd]
            first | done | rfl | exact ⟨rfl, rfl⟩
        · by_cases h2 : 0 ≤ k2
          · obtain ⟨K, rfl⟩ : ∃ K : Nat, k2 = K := ⟨k2.toNat, by omega⟩
            have hKl : K < R.sp.ms.length := by omega
            have hVe : V = ⟨2, 2, tw R.sp.ar K, 0⟩ := by rw [← hV, if_neg h1, if_pos h2, Int.toNat_natCast]
            have hwt := hway K hKl
            have e3 : R.sp.ms[K]? = some R.sp.ms[K] := List.getElem?_eq_getElem hKl
            have htl := z1b5 f4 K hKl
            rw [hVe]
            simp only
            generalize R.sp.ms[K] = x at *
            generalize tw R.sp.ar K = W at *
            by_cases hl : W.length ≤ 60
            · rw [if_pos hl, whv 2 W (.inr rfl)]
              refine w0o ?_
              simp (maxSteps := 2000000) (disch := first | omega | (simp only [lenS]; try omega)) only [wcr, go_sem, reduceAdd, reduceEqDiff, reduceLeDiff, reduceSub]
              simp (maxSteps := 2000000) (disch := first | omega | (simp only [lenS]; try omega)) only [go_sem, reduceAdd, reduceEqDiff, reduceLeDiff, reduceSub, hs0, he0, hx, fd, hz, hlt, hct, h1, hov, e3, hwt, hdd]
              first | done | rfl | exact ⟨rfl, rfl⟩
            · rw [if_neg hl]
              refine w0o ?_
              simp (maxSteps := 2000000) (disch := first | omega | (simp only [lenS]; try omega)) only [wcr, go_sem, reduceAdd, reduceEqDiff, reduceLeDiff, reduceSub]
              simp (maxSteps := 2000000) (disch := first | omega | (simp only [lenS]; try omega)) only [go_sem, reduceAdd, reduceEqDiff, reduceLeDiff, reduceSub, hs0, he0, hx, fd, hz, hlt, hct, h1, hov, e3, hwt, hdd]
              first | done | rfl | exact ⟨rfl, rfl⟩
          · cases D with
            | nil =>
              have hVe : V = ⟨1, 0, [], 0⟩ := by rw [← hV, if_neg h1, if_neg h2]; rfl
              rw [hVe]
              refine w0o ?_
              simp (maxSteps := 2000000) (disch := first | omega | (simp only [lenS]; try omega)) only [wcr, go_sem, reduceAdd, reduceEqDiff, reduceLeDiff, reduceSub]
              simp (maxSteps := 2000000) (disch := first | omega | (simp only [lenS]; try omega)) only [go_sem, reduceAdd, reduceEqDiff, reduceLeDiff, reduceSub, hs0, he0, hx, fd, hz, hlt, hct, h1, hov, h2, hdd]
              first | done | rfl | exact ⟨rfl, rfl⟩
            | cons d D =>
              have hVe : V = ⟨2, 3, [], d⟩ := by rw [← hV, if_neg h1, if_neg h2]; rfl
              rw [hVe]
              refine w0o ?_
              simp (maxSteps := 2000000) (disch := first | omega | (simp only [lenS]; try omega)) only [wcr, go_sem, reduceAdd, reduceEqDiff, reduceLeDiff, reduceSub]
              simp (maxSteps := 2000000) (disch := first | omega | (simp only [lenS]; try omega)) only [go_sem, reduceAdd, reduceEqDiff, reduceLeDiff, reduceSub, hs0, he0, hx, fd, hz, hlt, hct, h1, hov, h2, hdd, Int.toNat_zero, List.getElem_cons_zero]
              first | done | rfl | exact ⟨rfl, rfl⟩
      · have hPV : exPV R = .agg [.un whs false 1 (R.sp.ms.map ints), .un whg true 3 (R.sp.ar.map encA)] := by simp only [exPV, arcPV, hc, har, if_true, if_false]
        rw [hPV] at hx ⊢
        have hway := hway _ rfl
        by_cases h1 : 0 ≤ k1
        · obtain ⟨K, rfl⟩ : ∃ K : Nat, k1 = K := ⟨k1.toNat, by omega⟩
          have hKl : K < R.sp.ms.length := by omega
          have hVe : V = ⟨2, 1, tw R.sp.ar K, 0⟩ := by rw [← hV, if_pos h1, Int.toNat_natCast]
          have hwt := hway K hKl
          have e3 : R.sp.ms[K]? = some R.sp.ms[K] := List.getElem?_eq_getElem hKl
          have htl := z1b5 f4 K hKl
          rw [hVe]
          simp only
          generalize R.sp.ms[K] = x at *
          generalize tw R.sp.ar K = W at *
          by_cases hl : W.length ≤ 60
          · rw [if_pos hl, whv 1 W (.inl rfl)]
            refine w0o ?_
            simp (maxSteps := 2000000) (disch := first | omega | (simp only [lenS]; try omega)) only [wcr, go_sem, reduceAdd, reduceEqDiff, reduceLeDiff, reduceSub]
            simp (maxSteps := 2000000) (disch := first | omega | (simp only [lenS]; try omega)) only [go_sem, reduceAdd, reduceEqDiff, reduceLeDiff, reduceSub, hs0, he0, hx, fd, hz, hlt, hct, e3, hwt, hdd]
            first | done | rfl | exact ⟨rfl, rfl⟩
          · rw [if_neg hl]
            refine w0o ?_
            simp (maxSteps := 2000000) (disch := first | omega | (simp only [lenS]; try omega)) only [wcr, go_sem, reduceAdd, reduceEqDiff, reduceLeDiff, reduceSub]
            simp (maxSteps := 2000000) (disch := first | omega | (simp only [lenS]; try omega)) only [go_sem, reduceAdd, reduceEqDiff, reduceLeDiff, reduceSub, hs0, he0, hx, fd, hz, hlt, hct, e3, hwt, hdd]
            first | done | rfl | exact ⟨rfl, rfl⟩
        · by_cases h2 : 0 ≤ k2
          · obtain ⟨K, rfl⟩ : ∃ K : Nat, k2 = K := ⟨k2.toNat, by omega⟩
            have hKl : K < R.sp.ms.length := by omega
            have hVe : V = ⟨2, 2, tw R.sp.ar K, 0⟩ := by rw [← hV, if_neg h1, if_pos h2, Int.toNat_natCast]
            have hwt := hway K hKl
            have e3 : R.sp.ms[K]? = some R.sp.ms[K] := List.getElem?_eq_getElem hKl
            have htl := z1b5 f4 K hKl
            rw [hVe]
            simp only
            generalize R.sp.ms[K] = x at *
            generalize tw R.sp.ar K = W at *
            by_cases hl : W.length ≤ 60
            · rw [if_pos hl, whv 2 W (.inr rfl)]
              refine w0o ?_
              simp (maxSteps := 2000000) (disch := first | omega | (simp only [lenS]; try omega)) only [wcr, go_sem, reduceAdd, reduceEqDiff, reduceLeDiff, reduceSub]
              simp (maxSteps := 2000000) (disch := first | omega | (simp only [lenS]; try omega)) only [go_sem, reduceAdd, reduceEqDiff, reduceLeDiff, reduceSub, hs0, he0, hx, fd, hz, hlt, hct, h1, hov, e3, hwt, hdd]
              first | done | rfl | exact ⟨rfl, rfl⟩
            · rw [if_neg hl]
              refine w0o ?_
              simp (maxSteps := 2000000) (disch := first | omega | (simp only [lenS]; try omega)) only [wcr, go_sem, reduceAdd, reduceEqDiff, reduceLeDiff, reduceSub]
              simp (maxSteps := 2000000) (disch := first | omega | (simp only [lenS]; try omega)) only [go_sem, reduceAdd, reduceEqDiff, reduceLeDiff, reduceSub, hs0, he0, hx, fd, hz, hlt, hct, h1, hov, e3, hwt, hdd]
              first | done | rfl | exact ⟨rfl, rfl⟩
          · cases D with
            | nil =>
              have hVe : V = ⟨1, 0, [], 0⟩ := by rw [← hV, if_neg h1, if_neg h2]; rfl
              rw [hVe]
              refine w0o ?_
              simp (maxSteps := 2000000) (disch := first | omega | (simp only [lenS]; try omega)) only [wcr, go_sem, reduceAdd, reduceEqDiff, reduceLeDiff, reduceSub]
              simp (maxSteps := 2000000) (disch := first | omega | (simp only [lenS]; try omega)) only [go_sem, reduceAdd, reduceEqDiff, reduceLeDiff, reduceSub, hs0, he0, hx, fd, hz, hlt, hct, h1, hov, h2, hdd]
              first | done | rfl | exact ⟨rfl, rfl⟩
            | cons d D =>
              have hVe : V = ⟨2, 3, [], d⟩ := by rw [← hV, if_neg h1, if_neg h2]; rfl
              rw [hVe]
              refine w0o ?_
              simp (maxSteps := 2000000) (disch := first | omega | (simp only [lenS]; try omega)) only [wcr, go_sem, reduceAdd, reduceEqDiff, reduceLeDiff, reduceSub]
              simp (maxSteps := 2000000) (disch := first | omega | (simp only [lenS]; try omega)) only [go_sem, reduceAdd, reduceEqDiff, reduceLeDiff, reduceSub, hs0, he0, hx, fd, hz, hlt, hct, h1, hov, h2, hdd, Int.toNat_zero, List.getElem_cons_zero]
              first | done | rfl | exact ⟨rfl, rfl⟩
  · rw [if_neg hc]
    simp only [exPV, w6u, hc, if_false] at hx ⊢
    have hc1 : ¬ R.code = 1 := by omega
    refine w0o ?_
    simp (maxSteps := 2000000) (disch := first | omega | (simp only [lenS]; try omega)) only [wcr, go_sem, reduceAdd, reduceEqDiff, reduceLeDiff, reduceSub]
    simp (maxSteps := 2000000) (disch := first | omega | (simp only [lenS]; try omega)) only [go_sem, reduceAdd, reduceEqDiff, reduceLeDiff, reduceSub, hs0, hx, hc1]
    first | done | rfl
theorem wfr (l : List (List Int)) (g : FuncId) (caps : List PV) (hc : refsL caps = []) (hcv : ∀ m h, z1bj [] m h caps = some caps) (p : List Int → Bool) (hp : ∀ x ∈ l, C g (ints x :: caps) [] = some (.bool (p x), [])) (hl : l.length < 2^62) :
    C w8s [rows l, .clo g caps] [] = some (.bool (l.any p), []) := by
  refine w1q ?_
  simp (maxSteps := 2000000) (disch := first | omega | (simp only [lenS]; try omega)) only [wdu, go_sem, reduceAdd, reduceEqDiff, reduceLeDiff, reduceSub]
  simp (maxSteps := 2000000) (disch := first | omega | (simp only [lenS]; try omega)) only [go_sem, reduceAdd, reduceEqDiff, reduceLeDiff, reduceSub, hc, hcv, wg1 l g caps hc hcv p hp hl]
  have := zia l p
  grind
theorem waw (m : List Int) (hl : m.length < 2^62) : C w7h [ints m] [] = some (.bool (!m.all (inB 0 1)), []) := by
  have h1 := waz m 0 1 hl
  generalize m.all (inB 0 1) = q at *
  refine w0h ?_
  simp (maxSteps := 2000000) (disch := first | omega | (simp only [lenS]; try omega)) only [wck, go_sem, reduceAdd, reduceEqDiff, reduceLeDiff, reduceSub]
  simp (maxSteps := 2000000) (disch := first | omega | (simp only [lenS]; try omega)) only [go_sem, reduceAdd, reduceEqDiff, reduceLeDiff, reduceSub, h1]
  cases q <;> simp
theorem wax (s : Spc) (b : Int) (hg : goodS s = true) (hb : inB 1 400 b = true) : C w7g [encS s, I b] [] = some (.tup [I (admC (flS s) b), vdPV (sndV (flS s) b)], []) := by
  have hk := zhc hg
  have hgf : zgv (flS s) = true := by simp only [goodS, Bool.and_eq_true] at hg; exact hg.2
  have hl := wbw s hk
  have h1 : C w7o [.agg [I (s.conds + s.tasks.length), .sl false 3 ((trS s).map encT), I 0, I 1], I b] [] = some (.tup [vdPV (sndV (flS s) b), exPV (exAll (flS s).net (oneM (flS s).net.pl.toNat (flS s).src) b)], []) := wb6 (flS s) b hgf hb
  obtain ⟨f1, f2, f3, f4, f5, f6⟩ := w6w hgf hb
  have hw : (sndV (flS s) b).way.length ≤ 60 := by
    unfold sndV
    split
    · split
      · assumption
      · simp
    · simp
  have ho1 : (sndV (flS s) b).ok = 1 → (exAll (flS s).net (oneM (flS s).net.pl.toNat (flS s).src) b).code = 0 := by
    unfold sndV
    split
    · exact fun _ => by assumption
    · intro h; simp at h
  have hgn := zha (zgy hgf).1
  have htl : (trS s).length ≤ 2^20 := by have := hgn; have e : (flS s).net.tr = trS s := rfl; rw [e] at this; omega
  unfold admC safeV
  generalize sndV (flS s) b = V at *
  generalize exAll (flS s).net (oneM (flS s).net.pl.toNat (flS s).src) b = R at *
  have hcf := wfr R.sp.ms w7h [] rfl (fun _ _ => rfl) (fun m => !m.all (inB 0 1)) (fun x hx => waw x (by have := f6 x hx; omega)) (by omega)
  have e0 : (R.sp.ms.all fun m => m.all (inB 0 1)) = !(R.sp.ms.any fun m => !m.all (inB 0 1)) := by rw [List.any_eq_not_all_not]; simp
  rw [e0]
  generalize (R.sp.ms.any fun m => !m.all (inB 0 1)) = q at *
  unfold vdPV at h1 ⊢
  obtain ⟨vo, vk, vw, vd⟩ := V
  simp only at h1 hw ho1 ⊢
  by_cases ho : vo = 1
  · have hc := ho1 ho
    subst ho
    simp only [hc, decide_true, Bool.true_and]
    by_cases hkd : vk = 1 ∨ vk = 2
    · simp only [hkd, if_true] at h1 ⊢
      by_cases har : R.sp.ar = []
      · simp only [exPV, arcPV, hc, har, if_true] at h1
        cases q with
        | true =>
          refine w0g ?_
          simp (maxSteps := 2000000) (disch := first | omega | (simp only [lenS]; try omega)) only [wcj, go_sem, reduceAdd, reduceEqDiff, reduceLeDiff, reduceSub]
          simp (maxSteps := 2000000) (disch := first | omega | (simp only [lenS]; try omega)) only [go_sem, reduceAdd, reduceEqDiff, reduceLeDiff, reduceSub, hl, h1, hcf]
          first | done | rfl | exact ⟨rfl, rfl⟩ | simp
        | false =>
          refine w0g ?_
          simp (maxSteps := 2000000) (disch := first | omega | (simp only [lenS]; try omega)) only [wcj, go_sem, reduceAdd, reduceEqDiff, reduceLeDiff, reduceSub]
          simp (maxSteps := 2000000) (disch := first | omega | (simp only [lenS]; try omega)) only [go_sem, reduceAdd, reduceEqDiff, reduceLeDiff, reduceSub, hl, h1, hcf]
          first | done | rfl | exact ⟨rfl, rfl⟩ | simp
      · simp only [exPV, arcPV, hc, har, if_true, if_false] at h1
        cases q with
        | true =>
          refine w0g ?_
          simp (maxSteps := 2000000) (disch := first | omega | (simp only [lenS]; try omega)) only [wcj, go_sem, reduceAdd, reduceEqDiff, reduceLeDiff, reduceSub]
          simp (maxSteps := 2000000) (disch := first | omega | (simp only [lenS]; try omega)) only [go_sem, reduceAdd, reduceEqDiff, reduceLeDiff, reduceSub, hl, h1, hcf]
          first | done | rfl | exact ⟨rfl, rfl⟩ | simp
        | false =>
          refine w0g ?_
          simp (maxSteps := 2000000) (disch := first | omega | (simp only [lenS]; try omega)) only [wcj, go_sem, reduceAdd, reduceEqDiff, reduceLeDiff, reduceSub]
          simp (maxSteps := 2000000) (disch := first | omega | (simp only [lenS]; try omega)) only [go_sem, reduceAdd, reduceEqDiff, reduceLeDiff, reduceSub, hl, h1, hcf]
          first | done | rfl | exact ⟨rfl, rfl⟩ | simp
    · simp only [hkd, if_false] at h1 ⊢
      by_cases har : R.sp.ar = []
      · simp only [exPV, arcPV, hc, har, if_true] at h1
        cases q with
        | true =>
          refine w0g ?_
          simp (maxSteps := 2000000) (disch := first | omega | (simp only [lenS]; try omega)) only [wcj, go_sem, reduceAdd, reduceEqDiff, reduceLeDiff, reduceSub]
          simp (maxSteps := 2000000) (disch := first | omega | (simp only [lenS]; try omega)) only [go_sem, reduceAdd, reduceEqDiff, reduceLeDiff, reduceSub, hl, h1, hcf]
          first | done | rfl | exact ⟨rfl, rfl⟩ | simp
        | false =>
          refine w0g ?_
          simp (maxSteps := 2000000) (disch := first | omega | (simp only [lenS]; try omega)) only [wcj, go_sem, reduceAdd, reduceEqDiff, reduceLeDiff, reduceSub]
          simp (maxSteps := 2000000) (disch := first | omega | (simp only [lenS]; try omega)) only [go_sem, reduceAdd, reduceEqDiff, reduceLeDiff, reduceSub, hl, h1, hcf]
          first | done | rfl | exact ⟨rfl, rfl⟩ | simp
      · simp only [exPV, arcPV, hc, har, if_true, if_false] at h1
        cases q with
        | true =>
          refine w0g ?_
          simp (maxSteps := 2000000) (disch := first | omega | (simp only [lenS]; try omega)) only [wcj, go_sem, reduceAdd, reduceEqDiff, reduceLeDiff, reduceSub]
          simp (maxSteps := 2000000) (disch := first | omega | (simp only [lenS]; try omega)) only [go_sem, reduceAdd, reduceEqDiff, reduceLeDiff, reduceSub, hl, h1, hcf]
          first | done | rfl | exact ⟨rfl, rfl⟩ | simp
        | false =>
          refine w0g ?_
          simp (maxSteps := 2000000) (disch := first | omega | (simp only [lenS]; try omega)) only [wcj, go_sem, reduceAdd, reduceEqDiff, reduceLeDiff, reduceSub]
          simp (maxSteps := 2000000) (disch := first | omega | (simp only [lenS]; try omega)) only [go_sem, reduceAdd, reduceEqDiff, reduceLeDiff, reduceSub, hl, h1, hcf]
          first | done | rfl | exact ⟨rfl, rfl⟩ | simp
  · rw [if_neg ho]
    by_cases hc : R.code = 0
    · by_cases hkd : vk = 1 ∨ vk = 2
      · simp only [hkd, if_true] at h1 ⊢
        by_cases har : R.sp.ar = []
        · simp only [exPV, arcPV, hc, har, if_true] at h1
          refine w0g ?_
          simp (maxSteps := 2000000) (disch := first | omega | (simp only [lenS]; try omega)) only [wcj, go_sem, reduceAdd, reduceEqDiff, reduceLeDiff, reduceSub]
          simp (maxSteps := 2000000) (disch := first | omega | (simp only [lenS]; try omega)) only [go_sem, reduceAdd, reduceEqDiff, reduceLeDiff, reduceSub, hl, h1, ho]
          first | done | rfl | exact ⟨rfl, rfl⟩ | simp
        · simp only [exPV, arcPV, hc, har, if_true, if_false] at h1
          refine w0g ?_
          simp (maxSteps := 2000000) (disch := first | omega | (simp only [lenS]; try omega)) only [wcj, go_sem, reduceAdd, reduceEqDiff, reduceLeDiff, reduceSub]
          simp (maxSteps := 2000000) (disch := first | omega | (simp only [lenS]; try omega)) only [go_sem, reduceAdd, reduceEqDiff, reduceLeDiff, reduceSub, hl, h1, ho]
          first | done | rfl | exact ⟨rfl, rfl⟩ | simp
      · simp only [hkd, if_false] at h1 ⊢
        by_cases har : R.sp.ar = []
        · simp only [exPV, arcPV, hc, har, if_true] at h1
          refine w0g ?_
          simp (maxSteps := 2000000) (disch := first | omega | (simp only [lenS]; try omega)) only [wcj, go_sem, reduceAdd, reduceEqDiff, reduceLeDiff, reduceSub]
          simp (maxSteps := 2000000) (disch := first | omega | (simp only [lenS]; try omega)) only [go_sem, reduceAdd, reduceEqDiff, reduceLeDiff, reduceSub, hl, h1, ho]
          first | done | rfl | exact ⟨rfl, rfl⟩ | simp
        · simp only [exPV, arcPV, hc, har, if_true, if_false] at h1
          refine w0g ?_
          simp (maxSteps := 2000000) (disch := first | omega | (simp only [lenS]; try omega)) only [wcj, go_sem, reduceAdd, reduceEqDiff, reduceLeDiff, reduceSub]
          simp (maxSteps := 2000000) (disch := first | omega | (simp only [lenS]; try omega)) only [go_sem, reduceAdd, reduceEqDiff, reduceLeDiff, reduceSub, hl, h1, ho]
          first | done | rfl | exact ⟨rfl, rfl⟩ | simp
    · simp only [exPV, hc, if_false] at h1
      by_cases hkd : vk = 1 ∨ vk = 2
      · simp only [hkd, if_true] at h1 ⊢
        refine w0g ?_
        simp (maxSteps := 2000000) (disch := first | omega | (simp only [lenS]; try omega)) only [wcj, go_sem, reduceAdd, reduceEqDiff, reduceLeDiff, reduceSub]
        simp (maxSteps := 2000000) (disch := first | omega | (simp only [lenS]; try omega)) only [go_sem, reduceAdd, reduceEqDiff, reduceLeDiff, reduceSub, hl, h1, ho]
        first | done | rfl | exact ⟨rfl, rfl⟩ | simp
      · simp only [hkd, if_false] at h1 ⊢
        refine w0g ?_
        simp (maxSteps := 2000000) (disch := first | omega | (simp only [lenS]; try omega)) only [wcj, go_sem, reduceAdd, reduceEqDiff, reduceLeDiff, reduceSub]
        simp (maxSteps := 2000000) (disch := first | omega | (simp only [lenS]; try omega)) only [go_sem, reduceAdd, reduceEqDiff, reduceLeDiff, reduceSub, hl, h1, ho]
        first | done | rfl | exact ⟨rfl, rfl⟩ | simp
theorem wae (s : Spc) (b : Int) (hs : smSpc s) : C w6z [encS s, I b] [] = some (.tup [if goodS s && inB 1 400 b then I (admC (flS s) b) else I 0, if goodS s && inB 1 400 b then vdPV (sndV (flS s) b) else vdPV ⟨0, 0, [], 0⟩, .bool (goodS s && inB 1 400 b)], []) := by
  have h0 := wbj s hs
  cases hg : goodS s with
  | false =>
    rw [hg] at h0
    refine w00 ?_
    simp (maxSteps := 2000000) (disch := first | omega | (simp only [lenS]; try omega)) only [wc2, go_sem, reduceAdd, reduceEqDiff, reduceLeDiff, reduceSub]
    simp (maxSteps := 2000000) (disch := first | omega | (simp only [lenS]; try omega)) only [go_sem, reduceAdd, reduceEqDiff, reduceLeDiff, reduceSub, h0]
    first | done | rfl
  | true =>
    rw [hg] at h0
    cases hb : inB 1 400 b with
    | false =>
      refine w00 ?_
      simp (maxSteps := 2000000) (disch := first | omega | (simp only [lenS]; try omega)) only [wc2, go_sem, reduceAdd, reduceEqDiff, reduceLeDiff, reduceSub]
      simp (maxSteps := 2000000) (disch := first | omega | (simp only [lenS]; try omega)) only [go_sem, reduceAdd, reduceEqDiff, reduceLeDiff, reduceSub, h0, wc1, hb]
      first | done | rfl
    | true =>
      have h1 := wax s b hg hb
      have hw : (sndV (flS s) b).way.length ≤ 60 := by
        unfold sndV
        split
        · split
          · assumption
          · simp
        · simp
      generalize sndV (flS s) b = V at *
      generalize admC (flS s) b = q at *
      unfold vdPV at h1 ⊢
      obtain ⟨vo, vk, vw, vd⟩ := V
      simp only at h1 hw ⊢
      by_cases hk : vk = 1 ∨ vk = 2
      · simp only [hk, if_true] at h1 ⊢
        refine w00 ?_
        simp (maxSteps := 2000000) (disch := first | omega | (simp only [lenS]; try omega)) only [wc2, go_sem, reduceAdd, reduceEqDiff, reduceLeDiff, reduceSub]
        simp (maxSteps := 2000000) (disch := first | omega | (simp only [lenS]; try omega)) only [go_sem, reduceAdd, reduceEqDiff, reduceLeDiff, reduceSub, h0, wc1, hb, h1]
        first | done | rfl
      · simp only [hk, if_false] at h1 ⊢
        refine w00 ?_
        simp (maxSteps := 2000000) (disch := first | omega | (simp only [lenS]; try omega)) only [wc2, go_sem, reduceAdd, reduceEqDiff, reduceLeDiff, reduceSub]
        simp (maxSteps := 2000000) (disch := first | omega | (simp only [lenS]; try omega)) only [go_sem, reduceAdd, reduceEqDiff, reduceLeDiff, reduceSub, h0, wc1, hb, h1]
        first | done | rfl
theorem wah (p : Int) (m : List Int) (hl : m.length < 2^62) : C w72 [I p, ints m] [] = some (.bool (goodM p m), []) := by
  refine w03 ?_
  simp (maxSteps := 2000000) (disch := first | omega | (simp only [lenS]; try omega)) only [wc5, go_sem, reduceAdd, reduceEqDiff, reduceLeDiff, reduceSub]
  simp (maxSteps := 2000000) (disch := first | omega | (simp only [lenS]; try omega)) only [go_sem, reduceAdd, reduceEqDiff, reduceLeDiff, reduceSub, wc1, waz m _ _ hl]
  unfold goodM; grind
theorem wbf (s : Spc) (c : Cs) (h : zts s = true) (hl : c.mark.length < 2^62) : C w7x [encS s, encC c] [] = some (.bool (goodC s c), []) := by
  obtain ⟨hc, hn, -⟩ := ztt h
  have hM := wah (s.conds + s.tasks.length) c.mark hl
  refine w0x ?_
  simp (maxSteps := 2000000) (disch := first | omega | (simp only [lenS]; try omega)) only [wd0, go_sem, reduceAdd, reduceEqDiff, reduceLeDiff, reduceSub]
  cases hg : goodM (s.conds + s.tasks.length) c.mark with
  | false =>
    simp (maxSteps := 2000000) (disch := first | omega | (simp only [lenS]; try omega)) only [go_sem, reduceAdd, reduceEqDiff, reduceLeDiff, reduceSub, hM, hg]
    simp [goodC, hg]
  | true =>
    have h2 := zgt hg hc.1
    have e : c.mark[1]'h2.2 = at_ c.mark 1 := at_eq (p := 1) h2.2
    simp (maxSteps := 2000000) (disch := first | omega | (simp only [lenS]; try omega)) only [go_sem, reduceAdd, reduceEqDiff, reduceLeDiff, reduceSub, hM, hg]
    simp only [goodC, hg, Bool.true_and]
    grind
theorem wak (s : Spc) (c : Cs) (hs : smSpc s) (hl : c.mark.length < 2^62) :
    Lw (C w75 [encS s, encC c] []) fun r => r = (.tup [.un whj true 3 ((if (goodS s && goodC s c) = true then movL s c else []).map encM), .bool (goodS s && goodC s c)], []) ∨ ((if (goodS s && goodC s c) = true then movL s c else []) = [] ∧ r = (.tup [.sl true 3 [], .bool (goodS s && goodC s c)], [])) := by
  have hG := wbj s hs
  refine w2y ?_
  simp (maxSteps := 2000000) (disch := first | omega | (simp only [lenS]; try omega)) only [wc8, go_sem, reduceAdd, reduceEqDiff, reduceLeDiff, reduceSub]
  cases hg : goodS s with
  | false =>
    simp (maxSteps := 2000000) (disch := first | omega | (simp only [lenS]; try omega)) only [go_sem, reduceAdd, reduceEqDiff, reduceLeDiff, reduceSub, hG, hg]
    simp
  | true =>
    have hC := wbf s c (zhc hg) hl
    cases hgc : goodC s c with
    | false =>
      simp (maxSteps := 2000000) (disch := first | omega | (simp only [lenS]; try omega)) only [go_sem, reduceAdd, reduceEqDiff, reduceLeDiff, reduceSub, hG, hg, hC, hgc]
      simp
    | true =>
      obtain ⟨_, hM, hr⟩ := wbm s c hg hgc
      rcases hr with rfl | ⟨h0, rfl⟩
      · simp (maxSteps := 2000000) (disch := first | omega | (simp only [lenS]; try omega)) only [go_sem, reduceAdd, reduceEqDiff, reduceLeDiff, reduceSub, hG, hg, hC, hgc, hM]
        simp
      · simp (maxSteps := 2000000) (disch := first | omega | (simp only [lenS]; try omega)) only [go_sem, reduceAdd, reduceEqDiff, reduceLeDiff, reduceSub, hG, hg, hC, hgc, hM]
        simp [h0]
theorem wb1 (p : Int) (m : List Int) (hl : m.length < 2^62) : C w7l [ints m, .pv (.agg [I p]) 0] [] = some (.bool (!goodM p m), []) := by
  refine w0l ?_
  simp (maxSteps := 2000000) (disch := first | omega | (simp only [lenS]; try omega)) only [wco, go_sem, reduceAdd, reduceEqDiff, reduceLeDiff, reduceSub]
  simp (maxSteps := 2000000) (disch := first | omega | (simp only [lenS]; try omega)) only [go_sem, reduceAdd, reduceEqDiff, reduceLeDiff, reduceSub, wah p m hl]
  grind
theorem wb2 (p : Int) (l : List (List Int)) (hl : l.length < 2^62) (hm : ∀ m ∈ l, m.length < 2^62) : C w7k [I p, rows l] [] = some (.bool (l.all (goodM p)), []) := by
  refine w0k ?_
  simp (maxSteps := 2000000) (disch := first | omega | (simp only [lenS]; try omega)) only [wcn, go_sem, reduceAdd, reduceEqDiff, reduceLeDiff, reduceSub]
  have h := wfr l w7l [.pv (.agg [I p]) 0] rfl (fun _ _ => rfl) (fun m => !goodM p m) (fun x hx => wb1 p x (hm x hx)) hl
  simp (maxSteps := 2000000) (disch := first | omega | (simp only [lenS]; try omega)) only [go_sem, reduceAdd, reduceEqDiff, reduceLeDiff, reduceSub, h]
  have : (l.any fun m => !goodM p m) = !l.all (goodM p) := by rw [List.any_eq_not_all_not]; simp
  rw [this]; grind
theorem wbz (l : List Int) (hb : ∀ x ∈ l, 0 ≤ x ∧ x ≤ 50) (hl : l.length < 2^40) : C w8g [ints l] [] = some (I (sumI l), []) := by
  refine w1f ?_
  simp (maxSteps := 2000000) (disch := first | omega | (simp only [lenS]; try omega)) only [wdj, go_sem, reduceAdd, reduceEqDiff, reduceLeDiff, reduceSub]
  refine W_for l.length (fun k s => s = ⟨[.any, .any, I (sumI (l.take k)), .any, ints l, I l.length, I k, .any], []⟩) ?_ ?_ ?_
  · simp (maxSteps := 2000000) (disch := first | omega | (simp only [lenS]; try omega)) only [go_sem, reduceAdd, reduceEqDiff, reduceLeDiff, reduceSub]
    rfl
  · rintro k s hk rfl
    obtain ⟨h1, h2⟩ := z19f hb k (by omega)
    have h3 := hb l[k] (List.getElem_mem hk)
    simp (maxSteps := 2000000) (disch := first | omega | (simp only [lenS]; try omega)) only [go_sem, reduceAdd, reduceEqDiff, reduceLeDiff, reduceSub, z19m hk]
    rfl
  · rintro s rfl
    simp (maxSteps := 2000000) (disch := first | omega | (simp only [lenS]; try omega)) only [go_sem, reduceAdd, reduceEqDiff, reduceLeDiff, reduceSub, List.take_length]
theorem wav (p : Int) (m : List Int) (hm : m.length < 2^62) : C w7f [I p, ints m] [] = some (.tup [I (if goodM p m then sumI m else 0), .bool (goodM p m)], []) := by
  refine w0f ?_
  simp (maxSteps := 2000000) (disch := first | omega | (simp only [lenS]; try omega)) only [wci, go_sem, reduceAdd, reduceEqDiff, reduceLeDiff, reduceSub]
  have h := wb2 p [m] (by simp) (by simp [hm])
  simp only [rows, go_sem] at h
  simp (maxSteps := 2000000) (disch := first | omega | (simp only [lenS]; try omega)) only [go_sem, reduceAdd, reduceEqDiff, reduceLeDiff, reduceSub, h]
  refine ⟨fun h => ?_, fun h => by simp [h]⟩
  simp (maxSteps := 2000000) (disch := first | omega | (simp only [lenS]; try omega)) only [go_sem, reduceAdd, reduceEqDiff, reduceLeDiff, reduceSub, wbz m (zh2 h).2.2.2.2 (by have := (zh2 h).2.2.2.1; omega)]
  simp [h]
theorem waf (s : Spc) (c : Cs) (hs : smSpc s) (hl : c.mark.length < 2^62) : C w70 [encS s, encC c] [] = some (.bool (goodS s && goodC s c), []) := by
  have hG := wbj s hs
  refine w01 ?_
  simp (maxSteps := 2000000) (disch := first | omega | (simp only [lenS]; try omega)) only [wc3, go_sem, reduceAdd, reduceEqDiff, reduceLeDiff, reduceSub]
  cases hg : goodS s with
  | false => simp (maxSteps := 2000000) (disch := first | omega | (simp only [lenS]; try omega)) only [go_sem, reduceAdd, reduceEqDiff, reduceLeDiff, reduceSub, hG, hg]
  | true =>
    have hC := wbf s c (zhc hg) hl
    simp (maxSteps := 2000000) (disch := first | omega | (simp only [lenS]; try omega)) only [go_sem, reduceAdd, reduceEqDiff, reduceLeDiff, reduceSub, hG, hg, hC]
    grind
theorem wg6 (a : List Int) (hl : a.length < 2^62) (hb : ∀ x ∈ a, 0 ≤ x ∧ x < 256) : Lw (C w96 [bys a] []) fun r => ∃ s : Spc, r = (.agg [I s.conds, .un whn false 7 (s.tasks.map encK)], []) ∧ drS s := by
  obtain ⟨_, e1, S, a1, s1, rfl, h3, h4, h5⟩ := wgx a 0 0 (by omega) (by omega) hl hb
  refine w31 ?_
  simp (maxSteps := 2000000) (disch := first | omega | (simp only [lenS]; try omega)) only [we8, go_sem, reduceAdd, reduceEqDiff, reduceLeDiff, reduceSub]
  simp (maxSteps := 2000000) (disch := first | omega | (simp only [lenS]; try omega)) only [go_sem, reduceAdd, reduceEqDiff, reduceLeDiff, reduceSub, e1]
  exact ⟨S, rfl, h5⟩
theorem wg7 (a : List Int) (hl : a.length < 2^62) (hb : ∀ x ∈ a, 0 ≤ x ∧ x < 256) : Lw (C w97 [bys a] []) fun r => ∃ s : Spc, r = (.agg [I s.conds, .un whn false 7 (s.tasks.map encK)], []) ∧ drS s := by
  obtain ⟨_, e1, S, rfl, h5⟩ := wg6 a hl hb
  refine w32 ?_
  simp (maxSteps := 2000000) (disch := first | omega | (simp only [lenS]; try omega)) only [we9, go_sem, reduceAdd, reduceEqDiff, reduceLeDiff, reduceSub]
  simp (maxSteps := 2000000) (disch := first | omega | (simp only [lenS]; try omega)) only [go_sem, reduceAdd, reduceEqDiff, reduceLeDiff, reduceSub, e1]
  exact ⟨S, rfl, h5⟩
theorem wal (s : Spc) (hs : smSpc s) : C w76 [encS s] [] = some (.tup [if goodS s = true then .agg [I 1, .un t_int true 1 ((oneM (s.conds + s.tasks.length).toNat 0).map I)] else .agg [I 0, .nil true 1], .bool (goodS s)], []) := by
  have hG := wbj s hs
  refine w06 ?_
  simp (maxSteps := 2000000) (disch := first | omega | (simp only [lenS]; try omega)) only [wc9, go_sem, reduceAdd, reduceEqDiff, reduceLeDiff, reduceSub]
  cases hg : goodS s with
  | false => simp (maxSteps := 2000000) (disch := first | omega | (simp only [lenS]; try omega)) only [go_sem, reduceAdd, reduceEqDiff, reduceLeDiff, reduceSub, hG, hg]
  | true =>
    have hO := wbo s (zhc hg)
    simp (maxSteps := 2000000) (disch := first | omega | (simp only [lenS]; try omega)) only [go_sem, reduceAdd, reduceEqDiff, reduceLeDiff, reduceSub, hG, hg, hO]
theorem w6s (s : Spc) (hs : smSpc s) (hg : goodS s = true) : ∃ (c o k d : Int) (w : List Int) (W : PV), (W = .un t_int true 1 (w.map I) ∨ (W = .nil true 1 ∧ w = [])) ∧ w.length ≤ 60 ∧ C w6z [encS s, I 400] [] = some (.tup [I c, .agg [I o, I k, W, I d], .bool true], []) ∧ (c = 0 → (sndV (flS s) 400).ok = 1) := by
  have h1 := wae s 400 hs
  have hw : (sndV (flS s) 400).way.length ≤ 60 := by
    unfold sndV
    split
    · split
      · assumption
      · simp
    · simp
  have hc : admC (flS s) 400 = 0 → (sndV (flS s) 400).ok = 1 := by
    unfold admC
    split
    · intro _; assumption
    · intro h; cases h
  have h400 : inB 1 400 400 = true := by decide
  simp only [hg, h400, Bool.and_self, if_true] at h1
  by_cases hk : (sndV (flS s) 400).kind = 1 ∨ (sndV (flS s) 400).kind = 2
  · have e : vdPV (sndV (flS s) 400) = .agg [I (sndV (flS s) 400).ok, I (sndV (flS s) 400).kind, .un t_int true 1 ((sndV (flS s) 400).way.map I), I (sndV (flS s) 400).dead] := by unfold vdPV; rw [if_pos hk]
    rw [e] at h1
    exact ⟨_, _, _, _, _, _, .inl rfl, hw, h1, hc⟩
  · have e : vdPV (sndV (flS s) 400) = .agg [I (sndV (flS s) 400).ok, I (sndV (flS s) 400).kind, .nil true 1, I (sndV (flS s) 400).dead] := by unfold vdPV; rw [if_neg hk]
    rw [e] at h1
    exact ⟨_, _, _, _, [], _, .inr ⟨rfl, rfl⟩, by simp, h1, hc⟩
theorem w6t (u : Spc) (hu : smSpc u) : ∃ (V : PV) (c : List Int) (g : Bool), (V = .un t_int true 1 (c.map I) ∨ (V = .nil true 1 ∧ c = [])) ∧ c.length ≤ 20 ∧ ∃ z, C w76 [encS u] [] = some (.tup [.agg [I z, V], .bool g], []) ∧ C w9e [encS u] [] = some (.tup [.agg [I z, V], .bool g], []) := by
  have h1 := wal u hu
  have h2 := wge u hu
  cases hg : goodS u with
  | false =>
    simp only [hg, Bool.false_eq_true, if_false] at h1 h2
    exact ⟨_, [], false, .inr ⟨rfl, rfl⟩, by simp, 0, h1, h2⟩
  | true =>
    simp only [hg, if_true] at h1 h2
    have := zes (zhc hg)
    exact ⟨_, _, true, .inl rfl, by have : (zeq u).mark = oneM (u.conds + u.tasks.length).toNat 0 := rfl; rw [← this]; omega, 1, h1, h2⟩
end Go.Proofs.YtkkifebmicbbaaaGreat.Pi
