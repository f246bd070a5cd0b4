/- The functions that the law reaches: what they answer. Conditions: those that each theorem names. -/
import Derived.Test.YtkkifebmicbbaaaGreatIrFnExactAdmitSpec
import Derived.Test.YtkkifebmicbbaaaGreatPlFnExactAdmitSpec
namespace Go.Proofs.YtkkifebmicbbaaaGreat.Pi
open Go
set_option linter.all false
open Nat (reduceAdd reduceEqDiff reduceLeDiff reduceSub)
set_option maxHeartbeats 4000000
set_option maxRecDepth 20000
/-- Lengths, all at once. -/
theorem lenS : (∀ {α : Type} (a b : List α), (a ++ b).length = a.length + b.length) ∧ (∀ {α : Type} (n : Nat) (l : List α), (l.take n).length = min n l.length) ∧ (∀ {α : Type} (n : Nat) (x : α), (List.replicate n x).length = n) ∧ (∀ {α β : Type} (f : α → β) (l : List α), (l.map f).length = l.length) ∧ (∀ {α : Type} (l : List α) (n : Nat) (x : α), (l.set n x).length = l.length) ∧ (∀ {α : Type} (x : α) (l : List α), (x :: l).length = l.length + 1) ∧ (∀ {α : Type}, ([] : List α).length = 0) ∧ (∀ {α β γ : Type} (f : α → β → γ) (a : List α) (b : List β), (List.zipWith f a b).length = min a.length b.length) ∧ (∀ {α : Type} (n : Nat) (l : List α), (l.drop n).length = l.length - n) ∧ (∀ (n : Nat), (List.range n).length = n) :=
  ⟨fun _ _ => List.length_append, fun _ _ => List.length_take, fun _ _ => List.length_replicate, fun _ _ => List.length_map _, fun _ _ _ => List.length_set, fun _ _ => List.length_cons, List.length_nil, fun _ _ _ => List.length_zipWith, fun _ _ => List.length_drop, fun _ => List.length_range⟩
theorem weg (l : List Int) (left : Int) (h0 : 0 ≤ left) (h1 : left ≤ 1048576) (hl : l.length < 2^63) : C w7t [ints l, I left] [] = some (I (if left - l.length < 0 then -1 else left - l.length), []) := by
  refine w1h ?_
  simp (maxSteps := 2000000) (disch := first | omega | (simp only [lenS]; try omega)) only [wc7, go_sem, reduceAdd, reduceEqDiff, reduceLeDiff, reduceSub]
  refine ⟨fun h => by rw [if_pos h], fun h => by rw [if_neg (by omega)]⟩
theorem wej (t : Tk) (left : Int) (h0 : 0 ≤ left) (h1 : left ≤ 1048576) (ht : t.inn.length < 2^63 ∧ t.out.length < 2^63 ∧ t.cut.length < 2^63 ∧ t.stop.length < 2^63) : C w7v [encK t, I left] [] = some (I (szK t left), []) := by
  obtain ⟨a, b, c, d⟩ := ht
  refine w1j ?_
  simp (maxSteps := 2000000) (disch := first | omega | (simp only [lenS]; try omega)) only [wc9, go_sem, reduceAdd, reduceEqDiff, reduceLeDiff, reduceSub]
  by_cases e1 : left - t.inn.length < 0
  · simp (maxSteps := 2000000) (disch := first | omega | (simp only [lenS]; try omega)) only [go_sem, reduceAdd, reduceEqDiff, reduceLeDiff, reduceSub, weg, e1]
    simp [szK, szL, lensK, e1]
  by_cases e2 : left - t.inn.length - t.out.length < 0
  · simp (maxSteps := 2000000) (disch := first | omega | (simp only [lenS]; try omega)) only [go_sem, reduceAdd, reduceEqDiff, reduceLeDiff, reduceSub, weg, e1, e2]
    simp [szK, szL, lensK, e1, e2]
  by_cases e3 : left - t.inn.length - t.out.length - t.cut.length < 0
  · simp (maxSteps := 2000000) (disch := first | omega | (simp only [lenS]; try omega)) only [go_sem, reduceAdd, reduceEqDiff, reduceLeDiff, reduceSub, weg, e1, e2, e3]
    simp [szK, szL, lensK, e1, e2, e3]
  by_cases e4 : left - t.inn.length - t.out.length - t.cut.length - t.stop.length < 0
  · simp (maxSteps := 2000000) (disch := first | omega | (simp only [lenS]; try omega)) only [go_sem, reduceAdd, reduceEqDiff, reduceLeDiff, reduceSub, weg, e1, e2, e3, e4]
    simp [szK, szL, lensK, e1, e2, e3, e4]
  simp (maxSteps := 2000000) (disch := first | omega | (simp only [lenS]; try omega)) only [go_sem, reduceAdd, reduceEqDiff, reduceLeDiff, reduceSub, weg, e1, e2, e3, e4]
  simp [szK, szL, lensK, e1, e2, e3, e4]
theorem wei (l : List Tk) (left : Int) (h0 : 0 ≤ left) (h1 : left ≤ 1048576) (hl : l.length < 2^63) (ht : ∀ t ∈ l, t.inn.length < 2^63 ∧ t.out.length < 2^63 ∧ t.cut.length < 2^63 ∧ t.stop.length < 2^63) :
    C w7w [tks l, I left] [] = some (I (if left - l.length < 0 then -1 else szKs l (left - l.length)), []) := by
  refine w1k ?_
  simp (maxSteps := 2000000) (disch := first | omega | (simp only [lenS]; try omega)) only [wca, go_sem, reduceAdd, reduceEqDiff, reduceLeDiff, reduceSub]
  refine ⟨fun h => by rw [if_pos h], fun h => ?_⟩
  rw [if_neg (by omega)]
  refine W_for l.length (fun k s => s = ⟨[tks l, I (szKs (l.take k) (left - l.length)), .any, I k, .any, .any, .any], []⟩ ∧ 0 ≤ szKs (l.take k) (left - l.length)) ?_ ?_ ?_
  · simp (maxSteps := 2000000) (disch := first | omega | (simp only [lenS]; try omega)) only [go_sem, reduceAdd, reduceEqDiff, reduceLeDiff, reduceSub]
    simp [szKs, szL]
    omega
  · rintro k s hk ⟨rfl, hp⟩
    have h2 := z181 hk (l := left - l.length) (by omega)
    rw [if_neg (by omega)] at h2
    have h3 := z184 ((l.take k).flatMap lensK) (left - l.length) (by omega)
    have h5 : szKs (l.take k) (left - l.length) ≤ left - l.length := h3.2
    have h4 := wej l[k] (szKs (l.take k) (left - l.length)) hp (by omega) (ht _ (List.getElem_mem hk))
    simp (maxSteps := 2000000) (disch := first | omega | (simp only [lenS]; try omega)) only [go_sem, reduceAdd, reduceEqDiff, reduceLeDiff, reduceSub, h4]
    rw [← h2]
    refine ⟨fun h => ?_, fun h => ⟨rfl, by omega⟩⟩
    rw [z180 (by omega) h]
  · rintro s ⟨rfl, hp⟩
    simp (maxSteps := 2000000) (disch := first | omega | (simp only [lenS]; try omega)) only [go_sem, reduceAdd, reduceEqDiff, reduceLeDiff, reduceSub]
theorem weh (s : Spc) (left : Int) (h0 : 0 ≤ left) (h1 : left ≤ 1048576) (hl : s.tasks.length < 2^63) (ht : ∀ t ∈ s.tasks, t.inn.length < 2^63 ∧ t.out.length < 2^63 ∧ t.cut.length < 2^63 ∧ t.stop.length < 2^63) :
    C w7u [encS s, I left] [] = some (I (szS s left), []) := by
  have h2 := wei s.tasks left h0 h1 hl ht
  rw [← z188] at h2
  refine w1i ?_
  simp (maxSteps := 2000000) (disch := first | omega | (simp only [lenS]; try omega)) only [wc8, go_sem, reduceAdd, reduceEqDiff, reduceLeDiff, reduceSub]
  simp (maxSteps := 2000000) (disch := first | omega | (simp only [lenS]; try omega)) only [go_sem, reduceAdd, reduceEqDiff, reduceLeDiff, reduceSub, h2]
  have := (z184 (s.tasks.length :: s.tasks.flatMap lensK) left (by omega)).1
  refine fun h => ?_
  rw [show szS s left = -1 by unfold szS at h ⊢; omega]
theorem wek (l : List Int) (hl : l.length ≤ 2^36) : C w7x [ints l] [] = some (.un t_int true 1 (l.map I), []) := by
  refine w1l ?_
  simp (maxSteps := 2000000) (disch := first | omega | (simp only [lenS]; try omega)) only [wcb, go_sem, reduceAdd, reduceEqDiff, reduceLeDiff, reduceSub]
  refine W_for l.length (fun k s => s = ⟨[ints l, .any, .ref 0 1 0 l.length, I k, .any], [.row t_int true 1 ((padI l k).map I)]⟩) ?_ ?_ ?_
  · simp (maxSteps := 2000000) (disch := first | omega | (simp only [lenS]; try omega)) only [go_sem, reduceAdd, reduceEqDiff, reduceLeDiff, reduceSub]
    rw [zw6]; simp
  · rintro k s hk rfl
    have h1 := zw4 (l := l) (k := k) (by omega)
    have h2 := zw5 hk
    simp (maxSteps := 2000000) (disch := first | omega | (simp only [lenS]; try omega)) only [go_sem, reduceAdd, reduceEqDiff, reduceLeDiff, reduceSub, h1]
    rw [← h2]
    simp
  · rintro s rfl
    have h1 := zw4 (l := l) (k := l.length) (by omega)
    simp (maxSteps := 2000000) (disch := first | omega | (simp only [lenS]; try omega)) only [go_sem, reduceAdd, reduceEqDiff, reduceLeDiff, reduceSub, h1]
    rw [zw3]
theorem wen (t : Tk) (ht : t.inn.length ≤ 2^36 ∧ t.out.length ≤ 2^36 ∧ t.cut.length ≤ 2^36 ∧ t.stop.length ≤ 2^36) : C w7z [encK t] [] = some (.agg [I t.join, I t.split, .un t_int true 1 (t.inn.map I), .un t_int true 1 (t.out.map I), .un t_int true 1 (t.cut.map I), .un t_int true 1 (t.stop.map I), I t.role], []) := by
  obtain ⟨a, b, c, d⟩ := ht
  refine w1n ?_
  simp (maxSteps := 2000000) (disch := first | omega | (simp only [lenS]; try omega)) only [wcd, go_sem, reduceAdd, reduceEqDiff, reduceLeDiff, reduceSub]
  simp (maxSteps := 2000000) (disch := first | omega | (simp only [lenS]; try omega)) only [go_sem, reduceAdd, reduceEqDiff, reduceLeDiff, reduceSub, wek]
theorem wem (l : List Tk) (hl : l.length ≤ 2^36) (ht : ∀ t ∈ l, t.inn.length ≤ 2^36 ∧ t.out.length ≤ 2^36 ∧ t.cut.length ≤ 2^36 ∧ t.stop.length ≤ 2^36) : C w80 [tks l] [] = some (.unn wgd 7 (l.map encK), []) := by
  refine w1o ?_
  simp (maxSteps := 2000000) (disch := first | omega | (simp only [lenS]; try omega)) only [wce, go_sem, reduceAdd, reduceEqDiff, reduceLeDiff, reduceSub]
  refine W_for l.length (fun k s => s = ⟨[tks l, .any, .ref 0 7 0 l.length, I k, .any], [.lin wgd 7 (padK l k)]⟩) ?_ ?_ ?_
  · simp (maxSteps := 2000000) (disch := first | omega | (simp only [lenS]; try omega)) only [go_sem, reduceAdd, reduceEqDiff, reduceLeDiff, reduceSub]
    rw [zwb]
    rfl
  · rintro k s hk rfl
    have h1 := zw9 (l := l) (k := k) (by omega)
    have h2 := zwa hk
    have h3 := zw8 hk
    simp (maxSteps := 2000000) (disch := first | omega | (simp only [lenS]; try omega)) only [go_sem, reduceAdd, reduceEqDiff, reduceLeDiff, reduceSub, wen _ (ht _ (List.getElem_mem hk)), h1, h3]
    rw [← h2]
    rfl
  · rintro s rfl
    have h1 := zw9 (l := l) (k := l.length) (by omega)
    simp (maxSteps := 2000000) (disch := first | omega | (simp only [lenS]; try omega)) only [go_sem, reduceAdd, reduceEqDiff, reduceLeDiff, reduceSub, h1]
    rw [zw7]
theorem wel (s : Spc) (hl : s.tasks.length ≤ 2^36) (ht : ∀ t ∈ s.tasks, t.inn.length ≤ 2^36 ∧ t.out.length ≤ 2^36 ∧ t.cut.length ≤ 2^36 ∧ t.stop.length ≤ 2^36) : C w7y [encS s] [] = some (.agg [I s.conds, .unn wgd 7 (s.tasks.map encK)], []) := by
  refine w1m ?_
  simp (maxSteps := 2000000) (disch := first | omega | (simp only [lenS]; try omega)) only [wcc, go_sem, reduceAdd, reduceEqDiff, reduceLeDiff, reduceSub]
  simp (maxSteps := 2000000) (disch := first | omega | (simp only [lenS]; try omega)) only [go_sem, reduceAdd, reduceEqDiff, reduceLeDiff, reduceSub, wem s.tasks hl ht]
theorem wfk (n lo hi : Int) : C w8v [I n, I lo, I hi] [] = some (.bool (inB lo hi n), []) := by
  refine w2i ?_
  simp (maxSteps := 2000000) (disch := first | omega | (simp only [lenS]; try omega)) only [wd8, go_sem, reduceAdd, reduceEqDiff, reduceLeDiff, reduceSub]
  unfold inB; grind
theorem wfj (l : List Int) (x : Int) (hl : l.length < 2^62) : C w8u [ints l, I x] [] = some (.bool (hasB l x), []) := by
  refine w2h ?_
  simp (maxSteps := 2000000) (disch := first | omega | (simp only [lenS]; try omega)) only [wd7, go_sem, reduceAdd, reduceEqDiff, reduceLeDiff, reduceSub]
  refine W_for l.length (fun k s => s = ⟨[.any, I x, .any, .any, ints l, I l.length, I k, .any, .any], []⟩ ∧ (l.take k).any (fun y => y == x) = false) ?_ ?_ ?_
  · simp (maxSteps := 2000000) (disch := first | omega | (simp only [lenS]; try omega)) only [go_sem, reduceAdd, reduceEqDiff, reduceLeDiff, reduceSub]
    rfl
  · rintro k s hk ⟨rfl, hall⟩
    simp (maxSteps := 2000000) (disch := first | omega | (simp only [lenS]; try omega)) only [go_sem, reduceAdd, reduceEqDiff, reduceLeDiff, reduceSub]
    refine ⟨fun h => ?_, fun h => ⟨rfl, z36 hk hall (by simpa using h)⟩⟩
    rw [zhc hk h]
  · rintro s ⟨rfl, hall⟩
    simp (maxSteps := 2000000) (disch := first | omega | (simp only [lenS]; try omega)) only [go_sem, reduceAdd, reduceEqDiff, reduceLeDiff, reduceSub]
    rw [List.take_length] at hall
    rw [zhb hall]
theorem wfn (l : List Int) (lo hi : Int) (hl : l.length < 2^62) : C w8y [ints l, I lo, I hi] [] = some (.bool (incr l && l.all (inB lo hi)), []) := by
  refine w2l ?_
  simp (maxSteps := 2000000) (disch := first | omega | (simp only [lenS]; try omega)) only [wdb, go_sem, reduceAdd, reduceEqDiff, reduceLeDiff, reduceSub]
  refine W_for l.length (fun k s => s = ⟨[ints l, I lo, I hi, .any, .any, .any, ints l, I l.length, I k, .any, .any], []⟩ ∧ (l.take k).Pairwise (· < ·) ∧ (l.take k).all (inB lo hi) = true) ?_ ?_ ?_
  · simp (maxSteps := 2000000) (disch := first | omega | (simp only [lenS]; try omega)) only [go_sem, reduceAdd, reduceEqDiff, reduceLeDiff, reduceSub]
    exact ⟨rfl, List.Pairwise.nil⟩
  · rintro k s hk ⟨rfl, hp, hall⟩
    simp (maxSteps := 2000000) (disch := first | omega | (simp only [lenS]; try omega)) only [go_sem, reduceAdd, reduceEqDiff, reduceLeDiff, reduceSub, wfk]
    refine ⟨fun h => ⟨fun h2 => ?_, fun h2 => ?_⟩, fun h => by rw [z2r hk h]; simp⟩
    · simp (maxSteps := 2000000) (disch := first | omega | (simp only [lenS]; try omega)) only [go_sem, reduceAdd, reduceEqDiff, reduceLeDiff, reduceSub]
      obtain ⟨j, rfl⟩ : ∃ j, k = j + 1 := ⟨k - 1, by omega⟩
      have e : (((j + 1 : Nat) : Int) - 1).toNat = j := by omega
      refine ⟨fun h3 => ?_, fun h3 => ⟨rfl, ?_, z2s hk hall h⟩⟩
      · rw [zjs hk (by simp only [e] at h3; omega)]; rfl
      · exact zjv hk hp (by simp only [e] at h3; omega)
    · obtain rfl : k = 0 := by omega
      exact ⟨rfl, zjt, z2s hk hall h⟩
  · rintro s ⟨rfl, hp, hall⟩
    simp (maxSteps := 2000000) (disch := first | omega | (simp only [lenS]; try omega)) only [go_sem, reduceAdd, reduceEqDiff, reduceLeDiff, reduceSub]
    rw [List.take_length] at hp hall
    rw [hall, show incr l = true by simpa [incr] using hp]
    rfl
theorem wfg (s : Spc) (k : Nat) (hk : k < s.tasks.length) (hl : s.tasks.length ≤ 6) (hc : 2 ≤ s.conds ∧ s.conds ≤ 8) (ht : smTk s.tasks[k]) : C w8r [encS s, I k] [] = some (.bool (goodK s k s.tasks[k]), []) := by
  obtain ⟨a, b, c, d⟩ := ht
  refine w2e ?_
  simp (maxSteps := 2000000) (disch := first | omega | (simp only [lenS]; try omega)) only [wd4, go_sem, reduceAdd, reduceEqDiff, reduceLeDiff, reduceSub]
  unfold goodK
  generalize hT : s.tasks[k] = t at *
  simp (maxSteps := 2000000) (disch := first | omega | (simp only [lenS]; try omega)) only [go_sem, reduceAdd, reduceEqDiff, reduceLeDiff, reduceSub, hT, wfk, wfn, wfj]
  generalize t.inn.all (inB 0 (s.conds - 1)) = q1
  generalize t.out.all (inB 0 (s.conds - 1)) = q2
  generalize t.cut.all (inB 2 (s.conds - 1)) = q3
  generalize t.stop.all (inB 0 ((s.tasks.length : Int) - 1)) = q4
  (repeat' (first | apply And.intro | intro _)) <;> simp_all
theorem wfl (l : List Int) (h : l.length < 2^36) : C w8w [ints l] [] = some (.un t_int true 1 (l.map I), []) := by
  refine w2j ?_
  simp (maxSteps := 2000000) (disch := first | omega | (simp only [lenS]; try omega)) only [wd9, go_sem, reduceAdd, reduceEqDiff, reduceLeDiff, reduceSub]
theorem wfp (l : List Int) (h : ∀ p ∈ l, 0 ≤ p ∧ p < 30) (hi : incr l = true) (hl : l.length < 2^30) : C w90 [I (maskN l)] [] = some (.un t_int true 1 (l.map I), []) := by
  have hp : l.Pairwise (· < ·) := by simpa [incr] using hi
  have h0 : ∀ p ∈ l, 0 ≤ p := fun p hp => (h p hp).1
  have hm : maskN l < 2 ^ 30 := zoz (q := 30) h
  refine w2n ?_
  simp (maxSteps := 2000000) (disch := first | omega | (simp only [lenS]; try omega)) only [wdd, go_sem, reduceAdd, reduceEqDiff, reduceLeDiff, reduceSub]
  refine z1a (fun j s => ∃ k : Nat, j + k = 40 ∧ k ≤ 31 ∧ s = ⟨[I (maskN l), .any, .ref 0 1 0 (below l k).length, I k, .any, .any], [.row t_int true 1 ((below l k).map I)]⟩) 40 ?_ ?_
  · refine ⟨0, rfl, by omega, ?_⟩
    rw [z59 h0]
    simp (maxSteps := 2000000) (disch := first | omega | (simp only [lenS]; try omega)) only [go_sem, reduceAdd, reduceEqDiff, reduceLeDiff, reduceSub]
    rfl
  · rintro j s ⟨k, hj, hk, rfl⟩
    have hbl := z57 l k
    have e1 : ((maskN l : Nat) : Int) / 2 ^ min k 64 = ((maskN l / 2 ^ k : Nat) : Int) := by
      rw [show min k 64 = k by omega]; simp
    have e2 : maskN l / 2 ^ k < 2 ^ 62 := Nat.lt_of_le_of_lt (Nat.div_le_self _ _) (by omega)
    have e3 := z2x (a := maskN l / 2 ^ k) (b := 1) e2 (by decide)
    rw [Nat.and_one_is_mod] at e3
    have hk64 : IntKind.u64.wrap (k : Int) = k := by rw [IntKind.wrap_u64]; omega
    simp (maxSteps := 2000000) (disch := first | omega | (simp only [lenS]; try omega)) only [go_sem, reduceAdd, reduceEqDiff, reduceLeDiff, reduceSub, hk64, e1]
    have eb := zp3 h0 k
    have hone : ((1 : Nat) : Int) = 1 := rfl
    rw [hone] at e3
    refine ⟨fun hne => ?_, fun hz => ?_⟩
    · have hk30 : k < 30 := by
        rcases Nat.lt_or_ge k 30 with h5 | h5
        · exact h5
        · have h6 : maskN l / 2 ^ k = 0 := Nat.div_eq_of_lt (Nat.lt_of_lt_of_le hm (Nat.pow_le_pow_right (by decide) h5))
          omega
      refine ⟨fun h1 => ⟨j - 1, by omega, k + 1, by omega, by omega, ?_⟩, fun h1 => ⟨j - 1, by omega, k + 1, by omega, by omega, ?_⟩⟩
      · have hm1 : maskN l / 2 ^ k % 2 = 1 := by rw [e3] at h1; omega
        rw [decide_eq_true hm1] at eb
        rw [z58 hp, if_pos (by simpa [hasB] using eb), List.map_append]
        simp
      · have hm1 : ¬ maskN l / 2 ^ k % 2 = 1 := by rw [e3] at h1; omega
        rw [decide_eq_false hm1] at eb
        rw [z58 hp, if_neg (by simpa [hasB] using eb), List.append_nil]
        rfl
    · have hz2 : maskN l / 2 ^ k = 0 := by
        clear e1 e3
        generalize maskN l / 2 ^ k = z at hz
        omega
      rw [z56 (zp4 h0 k hz2)]
theorem wff (l : List Int) (n : Nat) (hn : n < 8) (hl : 1 ≤ l.length ∧ l.length ≤ 3) (h : n < 2 ^ l.length) : C w8q [ints l, I n] [] = some (.un t_int true 1 ((someL l n).map I), []) := by
  obtain ⟨e1, e2, e3, e4, e5⟩ := z13p n hn
  have h5 := e5 l.length hl.1 hl.2 h
  have hS := wfp (setB n) (fun p hp => by have := e3 p hp; omega) e2 (by omega)
  rw [e1] at hS
  refine w2d ?_
  simp (maxSteps := 2000000) (disch := first | omega | (simp only [lenS]; try omega)) only [wd3, go_sem, reduceAdd, reduceEqDiff, reduceLeDiff, reduceSub]
  simp (maxSteps := 2000000) (disch := first | omega | (simp only [lenS]; try omega)) only [go_sem, reduceAdd, reduceEqDiff, reduceLeDiff, reduceSub, hS]
  refine W_for (setB n).length (fun i st => st = ⟨[ints l, .any, .any, .ref 0 1 0 i, .any, .ref 1 1 0 (setB n).length, I (setB n).length, I i, .any], [.row t_int true 1 (((setB n).take i).map fun p => I (at_ l p)), .row t_int true 1 ((setB n).map I)]⟩) ?_ ?_ ?_
  · simp (maxSteps := 2000000) (disch := first | omega | (simp only [lenS]; try omega)) only [go_sem, reduceAdd, reduceEqDiff, reduceLeDiff, reduceSub]
    simp
  · rintro i st hi rfl
    have h6 := h5 _ (List.getElem_mem hi)
    have h7 := e3 _ (List.getElem_mem hi)
    have e := at_eq (m := l) (p := (setB n)[i]) (by omega)
    simp (maxSteps := 2000000) (disch := first | omega | (simp only [lenS]; try omega)) only [go_sem, reduceAdd, reduceEqDiff, reduceLeDiff, reduceSub]
    rw [List.take_succ_eq_append_getElem hi, List.map_append]
    simp [e]
  · rintro st rfl
    simp (maxSteps := 2000000) (disch := first | omega | (simp only [lenS]; try omega)) only [go_sem, reduceAdd, reduceEqDiff, reduceLeDiff, reduceSub]
    simp [someL]
theorem wfe (s : Spc) (k : Nat) (hk : k < s.tasks.length) (hc : 2 ≤ s.conds ∧ s.conds ≤ 8) (ht : smTk s.tasks[k]) (h1 : s.tasks[k].cut.length ≤ 16) (h0 : s.tasks[k].stop.length ≤ 16) (h2 : ∀ x ∈ s.tasks[k].stop, 0 ≤ x ∧ x < 16) : C w8p [encS s, I k] [] = some (.un t_int true 1 ((regL s s.tasks[k]).map I), []) := by
  obtain ⟨a, b, c, d⟩ := ht
  refine w2c ?_
  simp (maxSteps := 2000000) (disch := first | omega | (simp only [lenS]; try omega)) only [wd2, go_sem, reduceAdd, reduceEqDiff, reduceLeDiff, reduceSub]
  simp (maxSteps := 2000000) (disch := first | omega | (simp only [lenS]; try omega)) only [go_sem, reduceAdd, reduceEqDiff, reduceLeDiff, reduceSub, wfl]
  generalize hT : s.tasks[k] = t at *
  refine W_for t.stop.length (fun i st => st = ⟨[.any, .any, .ptr 0 0, .any, .ref 1 1 0 (t.cut.length + i), .any, ints t.stop, I t.stop.length, I i, .any], [.box wgc [I s.conds, tks s.tasks], .row t_int true 1 ((t.cut ++ (t.stop.take i).map (s.conds + ·)).map I)]⟩) ?_ ?_ ?_
  · simp (maxSteps := 2000000) (disch := first | omega | (simp only [lenS]; try omega)) only [go_sem, reduceAdd, reduceEqDiff, reduceLeDiff, reduceSub]
    simp
  · rintro i st hi rfl
    have h3 := h2 _ (List.getElem_mem hi)
    have e := zzx (s := s) hi
    simp (maxSteps := 2000000) (disch := first | omega | (simp only [lenS]; try omega)) only [go_sem, reduceAdd, reduceEqDiff, reduceLeDiff, reduceSub]
    rw [e, List.map_append]
    simp
    omega
  · rintro st rfl
    simp (maxSteps := 2000000) (disch := first | omega | (simp only [lenS]; try omega)) only [go_sem, reduceAdd, reduceEqDiff, reduceLeDiff, reduceSub]
    simp [regL]
theorem wfd (s : Spc) (h : zsv s = true) : C w8o [encS s] [] = some (.tup [.agg [I (s.conds + s.tasks.length), .un wge false 3 ((trS s).map encT), I 0, I 1], .un wg9 true 3 ((mvS s).map encM)], []) := by
  obtain ⟨hc, hn, hg⟩ := zsw h
  have shl1 : IntKind.i64.wrap (1 * 2 ^ min 1 64) = 2 := by decide
  have shl2 : IntKind.i64.wrap (1 * 2 ^ min 2 64) = 4 := by decide
  have shl3 : IntKind.i64.wrap (1 * 2 ^ min 3 64) = 8 := by decide
  have hu1 : IntKind.u64.wrap ((1 : Nat) : Int) = ((1 : Nat) : Int) := by decide
  have hu2 : IntKind.u64.wrap ((2 : Nat) : Int) = ((2 : Nat) : Int) := by decide
  have hu3 : IntKind.u64.wrap ((3 : Nat) : Int) = ((3 : Nat) : Int) := by decide
  refine w2b ?_
  simp (maxSteps := 2000000) (disch := first | omega | (simp only [lenS]; try omega)) only [wd1, go_sem, reduceAdd, reduceEqDiff, reduceLeDiff, reduceSub]
  refine W_for s.tasks.length (fun k st => st = ⟨[.any, .ptr 0 0, .ptr 1 0, .any, .ptr 2 0, .ref 3 3 0 (mvU s k).length, .any, .any, .any, .any, .any, .any, .any, .any, .any, .any, .any, .any, .any, tks s.tasks, I s.tasks.length, I k, .any, .any, .any, .any, .any, .any, .any, .any, .any, .any, .any, .any, .any, .any, .any, .any, .any, .any, .any, .any, .any, .any], [.box wgc [I s.conds, tks s.tasks], .box wg8 [I 0, .nil false 3, I 0, I 0], .box wg8 [I (s.conds + s.tasks.length), cellT 4 (trU s k), I 0, I 1], .row wg9 true 3 ((mvU s k).map encM)] ++ blkT wge (trU s k)⟩) ?_ ?_ ?_
  · simp (maxSteps := 2000000) (disch := first | omega | (simp only [lenS]; try omega)) only [go_sem, reduceAdd, reduceEqDiff, reduceLeDiff, reduceSub]
    simp [cellT, blkT, trU, mvU]
  · rintro k st hk rfl
    have hK := hg k hk
    have hl := zqt h k (by omega)
    have hlT := z197 s k
    have hbl := z50 hK
    have hel := zbe hK
    have hbin := z4z hK
    have hein := zbd hK
    have hRl := zzw h hk
    obtain ⟨c1, c2, c3, c4⟩ := zsx h hk
    have hreg := wfe s k hk hc c1 c2 c3 c4
    have heq := z18o hk
    rw [← heq] at hreg
    have hF : endF (tkN s k) = if (tkN s k).split = 2 then 0 else if (tkN s k).split = 3 then 1 else 0 := rfl
    rw [zqs, z196]
    generalize hT0 : trU s k = T at *
    generalize hU0 : mvU s k = U at *
    generalize hR0 : regL s (tkN s k) = R at *
    generalize hb0 : s.conds + (k : Int) = b at *
    have hg2 : s.tasks[k]? = some (tkN s k) := by rw [heq]; exact List.getElem?_eq_getElem hk
    have hg3 : s.tasks[k]'hk = tkN s k := heq.symm
    generalize tkN s k = t at *
    obtain ⟨hj, hs, h1, h2, -, -, -, -, -, -⟩ := zgb hK
    generalize hN : (z4y t).length = nb at *
    generalize hM : (endL t).length = ne at *
    refine' share (orc := C) (m := 0) (⟨[.any, .ptr 0 0, .ptr 1 0, .any, .ptr 2 0, .ref 3 3 0 U.length, I k, .ptr 4 0, .ref 5 1 0 1, .any, .any, .any, .any, .any, .any, .any, .any, .any, .any, tks s.tasks, I s.tasks.length, I k, .any, .any, .any, .any, .any, .any, .ref 6 1 0 nb, I nb, I 0, .any, .any, .any, .any, .any, .any, .any, .any, .any, .any, .any, .any, .any], [.box wgc [I s.conds, tks s.tasks], .box wg8 [I 0, .nil false 3, I 0, I 0], .box wg8 [I (s.conds + s.tasks.length), cellT 7 T, I 0, I 1], .row wg9 true 3 (U.map encM), .box wgd [I t.join, I t.split, ints t.inn, ints t.out, ints t.cut, ints t.stop, I t.role], .row t_int true 1 [I b], .row wgj false 1 ((z4y t).map ints)] ++ blkT wge T⟩ : St) _ _ _ ?main4 ?key4
    case main4 =>
      intro key4
      have hTT : (cellT 4 T = .nil false 3 ∧ cellT 7 T = .nil false 3 ∧ blkT wge T = []) ∨ (cellT 4 T = .ref 4 3 0 T.length ∧ cellT 7 T = .ref 7 3 0 T.length ∧ blkT wge T = [.row wge false 3 (T.map encT)]) := by
        by_cases hTe : T = []
        · left; subst hTe; exact ⟨rfl, rfl, rfl⟩
        · right; exact ⟨z7s hTe, z7s hTe, z6d hTe⟩
      rcases hj with hj | hj
      · have hBl : z4y t = [t.inn] := by simp [z4y, hj]
        have hN1 : nb = 1 := by rw [← hN, hBl]; rfl
        rcases hTT with ⟨q1, q2, q3⟩ | ⟨q1, q2, q3⟩
        all_goals
          simp (maxSteps := 2000000) (disch := first | omega | (simp only [lenS]; try omega)) only [go_sem, reduceAdd, reduceEqDiff, reduceLeDiff, reduceSub, hg2, hg3, hj, hb0, q1, q3]
          refine key4 _ ?_
          simp (maxSteps := 2000000) (disch := first | omega | (simp only [lenS]; try omega)) only [go_sem, reduceAdd, reduceEqDiff, reduceLeDiff, reduceSub, q2, q3]
          simp [hBl, hN1, hj]
      · have hBl : z4y t = t.inn.map fun p => [p] := by simp [z4y, hj]
        have hN1 : nb = t.inn.length := by rw [← hN, hBl]; simp
        rcases hTT with ⟨q1, q2, q3⟩ | ⟨q1, q2, q3⟩
        all_goals
          simp (maxSteps := 2000000) (disch := first | omega | (simp only [lenS]; try omega)) only [go_sem, reduceAdd, reduceEqDiff, reduceLeDiff, reduceSub, hg2, hg3, hj, hb0, q1, q3]
          refine W_for nb (fun i st => st = ⟨[.any, .ptr 0 0, .ptr 1 0, .any, .ptr 2 0, .ref 3 3 0 U.length, I k, .ptr 4 0, .ref 5 1 0 1, .ref 6 1 0 i, .any, .any, .any, .any, .any, .any, .any, .any, .any, tks s.tasks, I s.tasks.length, I k, .any, .any, ints t.inn, I nb, I i, .any, .any, .any, .any, .any, .any, .any, .any, .any, .any, .any, .any, .any, .any, .any, .any, .any], [.box wgc [I s.conds, tks s.tasks], .box wg8 [I 0, .nil false 3, I 0, I 0], .box wg8 [I (s.conds + s.tasks.length), cellT 7 T, I 0, I 1], .row wg9 true 3 (U.map encM), .box wgd [I t.join, I t.split, ints t.inn, ints t.out, ints t.cut, ints t.stop, I t.role], .row t_int true 1 [I b], .row wgj false 1 ((t.inn.take i).map fun p => ints [p])] ++ blkT wge T⟩) ?_ ?_ ?_
          · simp (maxSteps := 2000000) (disch := first | omega | (simp only [lenS]; try omega)) only [go_sem, reduceAdd, reduceEqDiff, reduceLeDiff, reduceSub, q2, q3]
            simp [hN1, hj]
          · rintro i st hi rfl
            simp (maxSteps := 2000000) (disch := first | omega | (simp only [lenS]; try omega)) only [go_sem, reduceAdd, reduceEqDiff, reduceLeDiff, reduceSub, q2, q3]
            rw [List.take_succ_eq_append_getElem (by omega), List.map_append]
            simp
          · rintro st rfl
            simp (maxSteps := 2000000) (disch := first | omega | (simp only [lenS]; try omega)) only [go_sem, reduceAdd, reduceEqDiff, reduceLeDiff, reduceSub, q2, q3]
            refine key4 _ ?_
            simp (maxSteps := 2000000) (disch := first | omega | (simp only [lenS]; try omega)) only [go_sem, reduceAdd, reduceEqDiff, reduceLeDiff, reduceSub, q2, q3]
            simp [hBl, hN1]
    case key4 =>
      intro st0 hst
      have hOb : C w8w [.sl true 1 [I b]] [] = some (.un t_int true 1 [I b], []) := wfl [b] (by simp)
      have hT8 : ∀ (l : List Tr), (l = [] ∧ cellT 7 l = .nil false 3 ∧ blkT wge l = []) ∨ (cellT 7 l = .ref 7 3 0 l.length ∧ blkT wge l = [.row wge false 3 (l.map encT)]) := by
        intro l
        by_cases hTe : l = []
        · left; subst hTe; exact ⟨rfl, rfl, rfl⟩
        · right; exact ⟨z7s hTe, z6d hTe⟩
      refine W_for nb (fun i st => st = ⟨[.any, .ptr 0 0, .ptr 1 0, .any, .ptr 2 0, .ref 3 3 0 (U.length + i), I k, .ptr 4 0, .ref 5 1 0 1, .any, .any, .any, .any, .any, .any, .any, .any, .any, .any, tks s.tasks, I s.tasks.length, I k, .any, .any, .any, .any, .any, .any, .ref 6 1 0 nb, I nb, I i, .any, .any, .any, .any, .any, .any, .any, .any, .any, .any, .any, .any, .any], [.box wgc [I s.conds, tks s.tasks], .box wg8 [I 0, .nil false 3, I 0, I 0], .box wg8 [I (s.conds + s.tasks.length), cellT 7 (T ++ layB b ((z4y t).take i)), I 0, I 1], .row wg9 true 3 ((U ++ mvB k i).map encM), .box wgd [I t.join, I t.split, ints t.inn, ints t.out, ints t.cut, ints t.stop, I t.role], .row t_int true 1 [I b], .row wgj false 1 ((z4y t).map ints)] ++ blkT wge (T ++ layB b ((z4y t).take i))⟩) ?_ ?_ ?_
      · rw [hst]
        simp [mvB, layB]
      · rintro i st hi rfl
        have e1 := zqk k i
        have e2 := zln (b := b) (l := z4y t) (i := i) (by omega)
        have e3 := zlo (b := b) (l := z4y t) (i := i) (by omega)
        have e4 := hbin _ (List.getElem_mem (show i < (z4y t).length by omega))
        have hlen : (T ++ layB b ((z4y t).take i)).length = T.length + i := by rw [List.length_append, e2]
        have hne : T ++ layB b ((z4y t).take i) ++ [⟨(z4y t)[i], [b], []⟩] ≠ [] := by simp
        have q5 := z7s (b := 7) hne
        have q6 := z6d (t := wge) hne
        rw [e3, ← List.append_assoc, q5, q6, zql]
        generalize T ++ layB b ((z4y t).take i) = L at *
        rcases hT8 L with ⟨hL, q1, q2⟩ | ⟨q1, q2⟩
        · subst hL
          simp (maxSteps := 2000000) (disch := first | omega | (simp only [lenS]; try omega)) only [go_sem, reduceAdd, reduceEqDiff, reduceLeDiff, reduceSub, q1, q2, e1, wfl, hOb]
          refine ⟨rfl, ?_⟩
          simp
          omega
        · simp (maxSteps := 2000000) (disch := first | omega | (simp only [lenS]; try omega)) only [go_sem, reduceAdd, reduceEqDiff, reduceLeDiff, reduceSub, q1, q2, e1, hlen, wfl, hOb]
          refine ⟨rfl, ?_⟩
          simp
          omega
      · rintro st rfl
        have e1 := zqk k nb
        have e2 := zln (b := b) (l := z4y t) (i := nb) (by omega)
        have e3 : (z4y t).take nb = z4y t := by rw [← hN]; simp
        rw [e3] at e2
        have hlen : (T ++ layB b (z4y t)).length = T.length + nb := by rw [List.length_append, e2]
        have hVlen : (U ++ mvB k nb).length = U.length + nb := by rw [List.length_append, e1]
        rw [e3]
        have hYne : T ++ layB b (z4y t) ≠ [] := by intro e; rw [e] at hlen; simp at hlen; omega
        rw [z7s hYne, z6d hYne, ← hVlen]
        generalize hY0 : T ++ layB b (z4y t) = Y at *
        generalize hV0 : U ++ mvB k nb = V at *
        refine' share (orc := C) (m := 0) (⟨[.any, .ptr 0 0, .ptr 1 0, .any, .ptr 2 0, .ref 3 3 0 V.length, I k, .any, .ref 4 1 0 1, .any, .any, .any, .any, .any, I (endF t), .any, .any, .any, .any, tks s.tasks, I s.tasks.length, I k, .any, .any, .any, .any, .any, .any, .any, .any, .any, .any, .any, .any, .any, .any, .any, .any, .any, .any, .ref 5 1 0 ne, I ne, I 0, .any], [.box wgc [I s.conds, tks s.tasks], .box wg8 [I 0, .nil false 3, I 0, I 0], .box wg8 [I (s.conds + s.tasks.length), .ref 6 3 0 Y.length, I 0, I 1], .row wg9 true 3 (V.map encM), .row t_int true 1 [I b], .row wgj false 1 ((endL t).map ints), .row wge false 3 (Y.map encT)]⟩ : St) _ _ _ ?main11 ?key11
        case main11 =>
          intro key11
          rcases hs with hs | hs | hs
          · have hF0 : endF t = 0 := by simpa [hs] using hF
            have hEl : endL t = [t.out] := by simp [endL, hs]
            have hM1 : ne = 1 := by rw [← hM, hEl]; rfl
            simp (maxSteps := 2000000) (disch := first | omega | (simp only [lenS]; try omega)) only [go_sem, reduceAdd, reduceEqDiff, reduceLeDiff, reduceSub, hs]
            refine key11 _ ?_
            simp (maxSteps := 2000000) (disch := first | omega | (simp only [lenS]; try omega)) only [go_sem, reduceAdd, reduceEqDiff, reduceLeDiff, reduceSub]
            simp [hEl, hF0, hM1]
          · have hF0 : endF t = 0 := by simpa [hs] using hF
            have hEl : endL t = t.out.map fun p => [p] := by simp [endL, hs]
            have hM1 : ne = t.out.length := by rw [← hM, hEl]; simp
            simp (maxSteps := 2000000) (disch := first | omega | (simp only [lenS]; try omega)) only [go_sem, reduceAdd, reduceEqDiff, reduceLeDiff, reduceSub, hs]
            refine W_for ne (fun i st => st = ⟨[.any, .ptr 0 0, .ptr 1 0, .any, .ptr 2 0, .ref 3 3 0 V.length, I k, .any, .ref 4 1 0 1, .any, .any, .any, .any, .ref 5 1 0 i, I 0, .any, .any, .any, .any, tks s.tasks, I s.tasks.length, I k, .any, .any, .any, .any, .any, .any, .any, .any, .any, .any, .any, .any, ints t.out, I ne, I i, .any, .any, .any, .any, .any, .any, .any], [.box wgc [I s.conds, tks s.tasks], .box wg8 [I 0, .nil false 3, I 0, I 0], .box wg8 [I (s.conds + s.tasks.length), .ref 6 3 0 Y.length, I 0, I 1], .row wg9 true 3 (V.map encM), .row t_int true 1 [I b], .row wgj false 1 ((t.out.take i).map fun p => ints [p]), .row wge false 3 (Y.map encT)]⟩) ?_ ?_ ?_
            · simp (maxSteps := 2000000) (disch := first | omega | (simp only [lenS]; try omega)) only [go_sem, reduceAdd, reduceEqDiff, reduceLeDiff, reduceSub]
              simp [hM1]
            · rintro i st hi rfl
              simp (maxSteps := 2000000) (disch := first | omega | (simp only [lenS]; try omega)) only [go_sem, reduceAdd, reduceEqDiff, reduceLeDiff, reduceSub]
              rw [List.take_succ_eq_append_getElem (by omega), List.map_append]
              simp
            · rintro st rfl
              simp (maxSteps := 2000000) (disch := first | omega | (simp only [lenS]; try omega)) only [go_sem, reduceAdd, reduceEqDiff, reduceLeDiff, reduceSub]
              refine key11 _ ?_
              simp (maxSteps := 2000000) (disch := first | omega | (simp only [lenS]; try omega)) only [go_sem, reduceAdd, reduceEqDiff, reduceLeDiff, reduceSub]
              simp [hEl, hF0, hM1]
          · have hF0 : endF t = 1 := by simpa [hs] using hF
            have hEl : endL t = (List.range (2 ^ t.out.length - 1)).map fun i => someL t.out (i + 1) := by simp [endL, hs]
            have hM1 : ne = 2 ^ t.out.length - 1 := by rw [← hM, hEl]; simp
            have hpp := zxi h2.1 h2.2
            simp (maxSteps := 2000000) (disch := first | omega | (simp only [lenS]; try omega)) only [go_sem, reduceAdd, reduceEqDiff, reduceLeDiff, reduceSub, hs]
            refine W_for ne (fun i st => st = ⟨[.any, .ptr 0 0, .ptr 1 0, .any, .ptr 2 0, .ref 3 3 0 V.length, I k, .ptr 4 0, .ref 5 1 0 1, .any, .any, .any, .any, .ref 6 1 0 i, I 1, .any, I (i + 1 : Int), .any, .any, tks s.tasks, I s.tasks.length, I k, .any, .any, .any, .any, .any, .any, .any, .any, .any, .any, .any, .any, .any, .any, .any, .any, .any, .any, .any, .any, .any, .any], [.box wgc [I s.conds, tks s.tasks], .box wg8 [I 0, .nil false 3, I 0, I 0], .box wg8 [I (s.conds + s.tasks.length), .ref 7 3 0 Y.length, I 0, I 1], .row wg9 true 3 (V.map encM), .box wgd [I t.join, I t.split, ints t.inn, ints t.out, ints t.cut, ints t.stop, I t.role], .row t_int true 1 [I b], .row wgj false 1 ((List.range i).map fun (j : Nat) => ints (someL t.out (j + 1))), .row wge false 3 (Y.map encT)]⟩) ?_ ?_ ?_
            · simp (maxSteps := 2000000) (disch := first | omega | (simp only [lenS]; try omega)) only [go_sem, reduceAdd, reduceEqDiff, reduceLeDiff, reduceSub]
              simp [hs]
            · rintro i st hi rfl
              have hS := wff t.out (i + 1) (by omega) h2 (by omega)
              rw [show ((i + 1 : Nat) : Int) = (i : Int) + 1 by omega] at hS
              have e5 : t.out.length = 1 ∨ t.out.length = 2 ∨ t.out.length = 3 := by omega
              rcases e5 with e5 | e5 | e5
              all_goals
                simp only [e5] at hM1
                simp (maxSteps := 2000000) (disch := first | omega | (simp only [lenS]; try omega)) only [go_sem, reduceAdd, reduceEqDiff, reduceLeDiff, reduceSub, e5, shl1, shl2, shl3, hu1, hu2, hu3, hS]
                simp [List.range_succ]
            · rintro st rfl
              have e5 : t.out.length = 1 ∨ t.out.length = 2 ∨ t.out.length = 3 := by omega
              rcases e5 with e5 | e5 | e5
              all_goals
                simp only [e5] at hM1
                simp (maxSteps := 2000000) (disch := first | omega | (simp only [lenS]; try omega)) only [go_sem, reduceAdd, reduceEqDiff, reduceLeDiff, reduceSub, e5, shl1, shl2, shl3, hu1, hu2, hu3]
                refine key11 _ ?_
                simp (maxSteps := 2000000) (disch := first | omega | (simp only [lenS]; try omega)) only [go_sem, reduceAdd, reduceEqDiff, reduceLeDiff, reduceSub]
                simp [hEl, hF0, hM1, e5]
        case key11 =>
          intro st0 hst
          have hOb2 : C w8w [.sl true 1 [I b]] [] = some (.un t_int true 1 [I b], []) := wfl [b] (by simp)
          have hF2 : 0 ≤ endF t ∧ endF t ≤ 1 := by rw [hF]; (repeat' split) <;> omega
          refine W_for ne (fun i st => st = ⟨[.any, .ptr 0 0, .ptr 1 0, .any, .ptr 2 0, .ref 3 3 0 (V.length + i), I k, .any, .ref 4 1 0 1, .any, .any, .any, .any, .any, I (endF t), .any, .any, .any, .any, tks s.tasks, I s.tasks.length, I k, .any, .any, .any, .any, .any, .any, .any, .any, .any, .any, .any, .any, .any, .any, .any, .any, .any, .any, .ref 5 1 0 ne, I ne, I i, .any], [.box wgc [I s.conds, tks s.tasks], .box wg8 [I 0, .nil false 3, I 0, I 0], .box wg8 [I (s.conds + s.tasks.length), .ref 6 3 0 (Y.length + i), I 0, I 1], .row wg9 true 3 ((V ++ mvE k (endF t) i).map encM), .row t_int true 1 [I b], .row wgj false 1 ((endL t).map ints), .row wge false 3 ((Y ++ layE b R ((endL t).take i)).map encT)]⟩) ?_ ?_ ?_
          · rw [hst]
            simp [mvE, layE]
          · rintro i st hi rfl
            have e1 := zqm k (endF t) i
            have e2 := zlp (b := b) (R := R) (l := endL t) (i := i) (by omega)
            have e3 := zlq (b := b) (R := R) (l := endL t) (i := i) (by omega)
            have e4 := hein _ (List.getElem_mem (show i < (endL t).length by omega))
            simp (maxSteps := 2000000) (disch := first | omega | (simp only [lenS]; try omega)) only [go_sem, reduceAdd, reduceEqDiff, reduceLeDiff, reduceSub, e1, e2, wfl, hOb2, hreg]
            rw [zqn, e3]
            refine ⟨rfl, ?_⟩
            simp
            omega
          · rintro st rfl
            have e1 := zqm k (endF t) ne
            have e2 := zlp (b := b) (R := R) (l := endL t) (i := ne) (by omega)
            have e3 : (endL t).take ne = endL t := by rw [← hM]; simp
            rw [e3] at e2 ⊢
            have hZne : Y ++ layE b R (endL t) ≠ [] := by simp [hYne]
            have hZl : (Y ++ layE b R (endL t)).length = Y.length + ne := by rw [List.length_append, e2]
            have hWl : (V ++ mvE k (endF t) ne).length = V.length + ne := by rw [List.length_append, e1]
            rw [z7s hZne, z6d hZne, hZl, hWl]
            generalize Y ++ layE b R (endL t) = Z at *
            generalize V ++ mvE k (endF t) ne = X at *
            simp (maxSteps := 2000000) (disch := first | omega | (simp only [lenS]; try omega)) only [go_sem, reduceAdd, reduceEqDiff, reduceLeDiff, reduceSub]
            rfl
  · rintro st rfl
    have hml := zqt h s.tasks.length (by omega)
    have htl := z197 s s.tasks.length
    have hZne : trU s s.tasks.length ≠ [] := by intro e; rw [e] at htl; simp at htl; omega
    rw [z7s hZne, z6d hZne]
    unfold trS mvS
    simp (maxSteps := 2000000) (disch := first | omega | (simp only [lenS]; try omega)) only [go_sem, reduceAdd, reduceEqDiff, reduceLeDiff, reduceSub]
theorem wfm (n : Int) : C w8x [I n] [] = some (.bool (inB 1 16 n), []) := by
  refine w2k ?_
  simp (maxSteps := 2000000) (disch := first | omega | (simp only [lenS]; try omega)) only [wda, go_sem, reduceAdd, reduceEqDiff, reduceLeDiff, reduceSub]
  simp (maxSteps := 2000000) (disch := first | omega | (simp only [lenS]; try omega)) only [go_sem, reduceAdd, reduceEqDiff, reduceLeDiff, reduceSub, wfk]
  grind
theorem wf8 (n : Net) (hn : smN n) : C w8j [encN n] [] = some (.bool (goodN n), []) := by
  have h0 := hn.1
  refine w26 ?_
  simp (maxSteps := 2000000) (disch := first | omega | (simp only [lenS]; try omega)) only [wcw, go_sem, reduceAdd, reduceEqDiff, reduceLeDiff, reduceSub]
  simp (maxSteps := 2000000) (disch := first | omega | (simp only [lenS]; try omega)) only [go_sem, reduceAdd, reduceEqDiff, reduceLeDiff, reduceSub, wfm]
  refine ⟨fun h => ⟨fun h2 => ?_, fun h2 => ?_⟩, fun h => by simp [goodN, h]⟩
  · have : ¬ n.tr.length ≤ 24 := by omega
    simp [goodN, this]
  have hb : 1 ≤ n.pl ∧ n.pl ≤ 16 := by simpa [inB] using h
  refine W_for n.tr.length (fun k s => s = ⟨[.any, .ptr 0 0, .any, .any, .any, trs n.tr, I n.tr.length, I k, .any, .any], [.box wga [I n.pl, trs n.tr]]⟩ ∧ (n.tr.take k).all (goodT n.pl) = true) ?_ ?_ ?_
  · simp (maxSteps := 2000000) (disch := first | omega | (simp only [lenS]; try omega)) only [go_sem, reduceAdd, reduceEqDiff, reduceLeDiff, reduceSub]
    rfl
  · rintro k s hk ⟨rfl, hall⟩
    obtain ⟨h3, h4, h5⟩ := hn.2 _ (List.getElem_mem hk)
    simp (maxSteps := 2000000) (disch := first | omega | (simp only [lenS]; try omega)) only [go_sem, reduceAdd, reduceEqDiff, reduceLeDiff, reduceSub, wfn]
    simp only [zx3]
    refine ⟨fun h6 => by rw [zgk hk (zgu (by omega))], fun h6 => ⟨fun h7 => ⟨fun h8 => ⟨fun h9 => ⟨rfl, z2s hk hall (zgp (by omega) h7 h8 h9)⟩, fun h9 => by rw [zgk hk (by simp [goodT, h9])]⟩, fun h8 => by rw [zgk hk (by simp [goodT, h8])]⟩, fun h7 => by rw [zgk hk (by simp [goodT, h7])]⟩⟩
  · rintro s ⟨rfl, hall⟩
    simp (maxSteps := 2000000) (disch := first | omega | (simp only [lenS]; try omega)) only [go_sem, reduceAdd, reduceEqDiff, reduceLeDiff, reduceSub]
    rw [List.take_length] at hall
    simp [goodN, hall, h, show n.tr.length ≤ 24 by omega]
theorem wfw (n : Net) (p : Int) (hg : goodN n = true) (hp : 0 ≤ p ∧ p < n.pl) : C w96 [encN n, I p] [] = some (.tup [.un wg6 true 1 ((zyv n false p).pl.map PV.bool), .un wg6 true 1 ((zyv n false p).tr.map PV.bool)], []) := by
  have hb := zgm hg
  have hlen := zyx n false p
  rw [zyw] at hlen ⊢
  refine w2t ?_
  simp (maxSteps := 2000000) (disch := first | omega | (simp only [lenS]; try omega)) only [wdj, go_sem, reduceAdd, reduceEqDiff, reduceLeDiff, reduceSub]
  simp (maxSteps := 2000000) (disch := first | omega | (simp only [lenS]; try omega)) only [go_sem, reduceAdd, reduceEqDiff, reduceLeDiff, reduceSub, List.getElem_replicate]
  generalize hR : clRun n false (cntF (List.replicate n.tr.length false) + 1) ⟨(List.replicate n.pl.toNat false).set p.toNat true, List.replicate n.tr.length false, true⟩ = R at *
  refine z1a (fun k s => ∃ c : Cl, c.pl.length = n.pl.toNat ∧ c.tr.length = n.tr.length ∧ ((k = cntF c.tr + 1 ∧ s = ⟨[.any, .any, .ptr 0 0, .any, .any, .ref 1 1 0 n.pl.toNat, .ref 2 1 0 n.tr.length, .bool true, .any, .any, .any, .any, .any, .any, .any, .any, .any, .any, .any, .any, .any, .any, .any, .any, .any, .any, .any], [.box wga [I n.pl, trs n.tr], .row wg6 true 1 (c.pl.map PV.bool), .row wg6 true 1 (c.tr.map PV.bool)]⟩ ∧ clRun n false (cntF c.tr + 1) c = R) ∨ (k = 0 ∧ s = ⟨[.any, .any, .ptr 0 0, .any, .any, .ref 1 1 0 n.pl.toNat, .ref 2 1 0 n.tr.length, .bool false, .any, .any, .any, .any, .any, .any, .any, .any, .any, .any, .any, .any, .any, .any, .any, .any, .any, .any, .any], [.box wga [I n.pl, trs n.tr], .row wg6 true 1 (c.pl.map PV.bool), .row wg6 true 1 (c.tr.map PV.bool)]⟩ ∧ c = R))) (cntF (List.replicate n.tr.length false) + 1) ?_ ?_
  · refine ⟨⟨(List.replicate n.pl.toNat false).set p.toNat true, List.replicate n.tr.length false, true⟩, by simp, by simp, .inl ⟨rfl, ?_, hR⟩⟩
    simp (maxSteps := 2000000) (disch := first | omega | (simp only [lenS]; try omega)) only [go_sem, reduceAdd, reduceEqDiff, reduceLeDiff, reduceSub]
    simp
  · rintro k0 s ⟨c, hc1, hc2, ⟨rfl, rfl, hc⟩ | ⟨rfl, rfl, rfl⟩⟩
    · have hcl := fun k => z8p n false c k
      simp (maxSteps := 2000000) (disch := first | omega | (simp only [lenS]; try omega)) only [go_sem, reduceAdd, reduceEqDiff, reduceLeDiff, reduceSub]
      refine W_for n.tr.length (fun k s => s = ⟨[.any, .any, .ptr 0 0, .any, .any, .ref 1 1 0 n.pl.toNat, .ref 2 1 0 n.tr.length, .bool (clK n false c k).ch, .any, .any, .any, .any, .any, .any, trs n.tr, I n.tr.length, I k, .any, .any, .any, .any, .any, .any, .any, .any, .any, .any], [.box wga [I n.pl, trs n.tr], .row wg6 true 1 ((clK n false c k).pl.map PV.bool), .row wg6 true 1 ((clK n false c k).tr.map PV.bool)]⟩) ?_ ?_ ?_
      · simp (maxSteps := 2000000) (disch := first | omega | (simp only [lenS]; try omega)) only [go_sem, reduceAdd, reduceEqDiff, reduceLeDiff, reduceSub]
        rfl
      · rintro k s hk rfl
        have hT := hb.2.2.2 _ (List.getElem_mem hk)
        have hLs := zgr hT (by omega)
        obtain ⟨_, g1, g2, g3⟩ := zgv hT
        have p1 := zx4 g1
        have p2 := zx4 g2
        have hd := hcl k
        have hstep := z8q n false c k
        have htr : n.tr[k] = trN n k := (z18z hk).symm
        rw [htr] at hLs p1 p2
        have s1 : (clK n false c k).tr.getD k false = true → clK n false c (k + 1) = clK n false c k := fun h => hstep.trans (z8z (.inl h))
        have s2 : hitB (clK n false c k).pl (sideI false (trN n k)) = false → clK n false c (k + 1) = clK n false c k := fun h => hstep.trans (z8z (.inr h))
        have s3 : (clK n false c k).tr.getD k false = false → hitB (clK n false c k).pl (sideI false (trN n k)) = true → clK n false c (k + 1) = ⟨markB (clK n false c k).pl (sideO false (trN n k)), (clK n false c k).tr.set k true, true⟩ := fun h h2 => hstep.trans (z90 h h2)
        simp only [sideI, sideO, Bool.false_eq_true, if_false, if_true] at s2 s3
        clear hstep
        generalize clK n false c k = d at *
        generalize clK n false c (k + 1) = d' at *
        simp (maxSteps := 2000000) (disch := first | omega | (simp only [lenS]; try omega)) only [go_sem, reduceAdd, reduceEqDiff, reduceLeDiff, reduceSub]
        simp only [htr]
        generalize trN n k = tr at *
        refine W_for tr.inn.length (fun j s => s = ⟨[.any, .any, .ptr 0 0, .any, .any, .ref 1 1 0 n.pl.toNat, .ref 2 1 0 n.tr.length, .bool d.ch, I k, .ptr 3 0, .bool ((tr.inn.take j).any fun p => d.pl.getD p.toNat false), .any, .any, .any, trs n.tr, I n.tr.length, I k, .any, ints tr.inn, I tr.inn.length, I j, .any, .any, .any, .any, .any, .any], [.box wga [I n.pl, trs n.tr], .row wg6 true 1 (d.pl.map PV.bool), .row wg6 true 1 (d.tr.map PV.bool), .box wge [ints tr.inn, ints tr.out, ints tr.rst]]⟩) ?_ ?_ ?_
        · simp (maxSteps := 2000000) (disch := first | omega | (simp only [lenS]; try omega)) only [go_sem, reduceAdd, reduceEqDiff, reduceLeDiff, reduceSub]
          rfl
        · rintro j s hj rfl
          have h1 := p1 _ (List.getElem_mem hj)
          have h2 : tr.inn[j].toNat < d.pl.length := by omega
          simp (maxSteps := 2000000) (disch := first | omega | (simp only [lenS]; try omega)) only [go_sem, reduceAdd, reduceEqDiff, reduceLeDiff, reduceSub]
          refine ⟨fun h => ?_, fun h => ⟨fun h3 => ?_, fun h3 => ?_⟩⟩
          · rw [z33 hj h]; rfl
          · rw [z31 hj (by rw [← zfv h2]; exact h3)]; rfl
          · rw [z36 hj h (by rw [← zfv h2]; exact h3)]; rfl
        · rintro s rfl
          have hkd : k < d.tr.length := by omega
          simp (maxSteps := 2000000) (disch := first | omega | (simp only [lenS]; try omega)) only [go_sem, reduceAdd, reduceEqDiff, reduceLeDiff, reduceSub, List.take_length]
          refine ⟨fun h => ⟨fun h3 => ?_, fun h3 => ?_⟩, fun h => ?_⟩
          · rw [s1 (by rw [← zfv hkd]; exact h3)]; rfl
          · have e := s3 (by rw [← zfv hkd]; exact h3) h
            subst e
            refine W_for tr.out.length (fun j s => s = ⟨[.any, .any, .ptr 0 0, .any, .any, .ref 1 1 0 n.pl.toNat, .ref 2 1 0 n.tr.length, .bool true, .any, .any, .any, .any, .any, .any, trs n.tr, I n.tr.length, I k, .any, .any, .any, .any, .any, .any, ints tr.out, I tr.out.length, I j, .any], [.box wga [I n.pl, trs n.tr], .row wg6 true 1 ((markB d.pl (tr.out.take j)).map PV.bool), .row wg6 true 1 ((d.tr.set k true).map PV.bool)]⟩) ?_ ?_ ?_
            · simp (maxSteps := 2000000) (disch := first | omega | (simp only [lenS]; try omega)) only [go_sem, reduceAdd, reduceEqDiff, reduceLeDiff, reduceSub]
              rfl
            · rintro j s hj rfl
              have h1 := p2 _ (List.getElem_mem hj)
              have h2 : tr.out[j].toNat < d.pl.length := by omega
              have h4 := zon d.pl (tr.out.take j)
              simp (maxSteps := 2000000) (disch := first | omega | (simp only [lenS]; try omega)) only [go_sem, reduceAdd, reduceEqDiff, reduceLeDiff, reduceSub]
              rw [zoo hj]; rfl
            · rintro s rfl
              simp (maxSteps := 2000000) (disch := first | omega | (simp only [lenS]; try omega)) only [go_sem, reduceAdd, reduceEqDiff, reduceLeDiff, reduceSub, List.take_length]
              rfl
          · rw [s2 h]; rfl
      · rintro s rfl
        simp (maxSteps := 2000000) (disch := first | omega | (simp only [lenS]; try omega)) only [go_sem, reduceAdd, reduceEqDiff, reduceLeDiff, reduceSub]
        have hn := z8v (n := n) (bk := false) hc2
        rw [hc] at hn
        cases e : (z8r n false c).ch with
        | true =>
          have h1 := (z8o (n := n) (bk := false) (s := c) (k := n.tr.length) (by omega)).2 e
          simp only [e, if_true] at hn
          refine ⟨cntF (z8r n false c).tr + 1, by unfold z8r; omega, z8r n false c, by unfold z8r; have := hcl n.tr.length; omega, by unfold z8r; have := hcl n.tr.length; omega, .inl ⟨rfl, ?_, hn.symm⟩⟩
          unfold z8r at e ⊢
          rw [e]
        | false =>
          simp only [e, Bool.false_eq_true, if_false] at hn
          refine ⟨0, by omega, z8r n false c, by unfold z8r; have := hcl n.tr.length; omega, by unfold z8r; have := hcl n.tr.length; omega, .inr ⟨rfl, ?_, hn.symm⟩⟩
          unfold z8r at e ⊢
          rw [e]
    · simp (maxSteps := 2000000) (disch := first | omega | (simp only [lenS]; try omega)) only [go_sem, reduceAdd, reduceEqDiff, reduceLeDiff, reduceSub]
theorem wfu (n : Net) (p : Int) (hg : goodN n = true) (hp : 0 ≤ p ∧ p < n.pl) : C w94 [encN n, I p] [] = some (.tup [.un wg6 true 1 ((zyv n true p).pl.map PV.bool), .un wg6 true 1 ((zyv n true p).tr.map PV.bool)], []) := by
  have hb := zgm hg
  have hlen := zyx n true p
  rw [zyw] at hlen ⊢
  refine w2r ?_
  simp (maxSteps := 2000000) (disch := first | omega | (simp only [lenS]; try omega)) only [wdh, go_sem, reduceAdd, reduceEqDiff, reduceLeDiff, reduceSub]
  simp (maxSteps := 2000000) (disch := first | omega | (simp only [lenS]; try omega)) only [go_sem, reduceAdd, reduceEqDiff, reduceLeDiff, reduceSub, List.getElem_replicate]
  generalize hR : clRun n true (cntF (List.replicate n.tr.length false) + 1) ⟨(List.replicate n.pl.toNat false).set p.toNat true, List.replicate n.tr.length false, true⟩ = R at *
  refine z1a (fun k s => ∃ c : Cl, c.pl.length = n.pl.toNat ∧ c.tr.length = n.tr.length ∧ ((k = cntF c.tr + 1 ∧ s = ⟨[.any, .any, .ptr 0 0, .any, .any, .ref 1 1 0 n.pl.toNat, .ref 2 1 0 n.tr.length, .bool true, .any, .any, .any, .any, .any, .any, .any, .any, .any, .any, .any, .any, .any, .any, .any, .any, .any, .any, .any], [.box wga [I n.pl, trs n.tr], .row wg6 true 1 (c.pl.map PV.bool), .row wg6 true 1 (c.tr.map PV.bool)]⟩ ∧ clRun n true (cntF c.tr + 1) c = R) ∨ (k = 0 ∧ s = ⟨[.any, .any, .ptr 0 0, .any, .any, .ref 1 1 0 n.pl.toNat, .ref 2 1 0 n.tr.length, .bool false, .any, .any, .any, .any, .any, .any, .any, .any, .any, .any, .any, .any, .any, .any, .any, .any, .any, .any, .any], [.box wga [I n.pl, trs n.tr], .row wg6 true 1 (c.pl.map PV.bool), .row wg6 true 1 (c.tr.map PV.bool)]⟩ ∧ c = R))) (cntF (List.replicate n.tr.length false) + 1) ?_ ?_
  · refine ⟨⟨(List.replicate n.pl.toNat false).set p.toNat true, List.replicate n.tr.length false, true⟩, by simp, by simp, .inl ⟨rfl, ?_, hR⟩⟩
    simp (maxSteps := 2000000) (disch := first | omega | (simp only [lenS]; try omega)) only [go_sem, reduceAdd, reduceEqDiff, reduceLeDiff, reduceSub]
    simp
  · rintro k0 s ⟨c, hc1, hc2, ⟨rfl, rfl, hc⟩ | ⟨rfl, rfl, rfl⟩⟩
    · have hcl := fun k => z8p n true c k
      simp (maxSteps := 2000000) (disch := first | omega | (simp only [lenS]; try omega)) only [go_sem, reduceAdd, reduceEqDiff, reduceLeDiff, reduceSub]
      refine W_for n.tr.length (fun k s => s = ⟨[.any, .any, .ptr 0 0, .any, .any, .ref 1 1 0 n.pl.toNat, .ref 2 1 0 n.tr.length, .bool (clK n true c k).ch, .any, .any, .any, .any, .any, .any, trs n.tr, I n.tr.length, I k, .any, .any, .any, .any, .any, .any, .any, .any, .any, .any], [.box wga [I n.pl, trs n.tr], .row wg6 true 1 ((clK n true c k).pl.map PV.bool), .row wg6 true 1 ((clK n true c k).tr.map PV.bool)]⟩) ?_ ?_ ?_
      · simp (maxSteps := 2000000) (disch := first | omega | (simp only [lenS]; try omega)) only [go_sem, reduceAdd, reduceEqDiff, reduceLeDiff, reduceSub]
        rfl
      · rintro k s hk rfl
        have hT := hb.2.2.2 _ (List.getElem_mem hk)
        have hLs := zgr hT (by omega)
        obtain ⟨_, g1, g2, g3⟩ := zgv hT
        have p1 := zx4 g2
        have p2 := zx4 g1
        have hd := hcl k
        have hstep := z8q n true c k
        have htr : n.tr[k] = trN n k := (z18z hk).symm
        rw [htr] at hLs p1 p2
        have s1 : (clK n true c k).tr.getD k false = true → clK n true c (k + 1) = clK n true c k := fun h => hstep.trans (z8z (.inl h))
        have s2 : hitB (clK n true c k).pl (sideI true (trN n k)) = false → clK n true c (k + 1) = clK n true c k := fun h => hstep.trans (z8z (.inr h))
        have s3 : (clK n true c k).tr.getD k false = false → hitB (clK n true c k).pl (sideI true (trN n k)) = true → clK n true c (k + 1) = ⟨markB (clK n true c k).pl (sideO true (trN n k)), (clK n true c k).tr.set k true, true⟩ := fun h h2 => hstep.trans (z90 h h2)
        simp only [sideI, sideO, Bool.false_eq_true, if_false, if_true] at s2 s3
        clear hstep
        generalize clK n true c k = d at *
        generalize clK n true c (k + 1) = d' at *
        simp (maxSteps := 2000000) (disch := first | omega | (simp only [lenS]; try omega)) only [go_sem, reduceAdd, reduceEqDiff, reduceLeDiff, reduceSub]
        simp only [htr]
        generalize trN n k = tr at *
        refine W_for tr.out.length (fun j s => s = ⟨[.any, .any, .ptr 0 0, .any, .any, .ref 1 1 0 n.pl.toNat, .ref 2 1 0 n.tr.length, .bool d.ch, I k, .ptr 3 0, .bool ((tr.out.take j).any fun p => d.pl.getD p.toNat false), .any, .any, .any, trs n.tr, I n.tr.length, I k, .any, ints tr.out, I tr.out.length, I j, .any, .any, .any, .any, .any, .any], [.box wga [I n.pl, trs n.tr], .row wg6 true 1 (d.pl.map PV.bool), .row wg6 true 1 (d.tr.map PV.bool), .box wge [ints tr.inn, ints tr.out, ints tr.rst]]⟩) ?_ ?_ ?_
        · simp (maxSteps := 2000000) (disch := first | omega | (simp only [lenS]; try omega)) only [go_sem, reduceAdd, reduceEqDiff, reduceLeDiff, reduceSub]
          rfl
        · rintro j s hj rfl
          have h1 := p1 _ (List.getElem_mem hj)
          have h2 : tr.out[j].toNat < d.pl.length := by omega
          simp (maxSteps := 2000000) (disch := first | omega | (simp only [lenS]; try omega)) only [go_sem, reduceAdd, reduceEqDiff, reduceLeDiff, reduceSub]
          refine ⟨fun h => ?_, fun h => ⟨fun h3 => ?_, fun h3 => ?_⟩⟩
          · rw [z33 hj h]; rfl
          · rw [z31 hj (by rw [← zfv h2]; exact h3)]; rfl
          · rw [z36 hj h (by rw [← zfv h2]; exact h3)]; rfl
        · rintro s rfl
          have hkd : k < d.tr.length := by omega
          simp (maxSteps := 2000000) (disch := first | omega | (simp only [lenS]; try omega)) only [go_sem, reduceAdd, reduceEqDiff, reduceLeDiff, reduceSub, List.take_length]
          refine ⟨fun h => ⟨fun h3 => ?_, fun h3 => ?_⟩, fun h => ?_⟩
          · rw [s1 (by rw [← zfv hkd]; exact h3)]; rfl
          · have e := s3 (by rw [← zfv hkd]; exact h3) h
            subst e
            refine W_for tr.inn.length (fun j s => s = ⟨[.any, .any, .ptr 0 0, .any, .any, .ref 1 1 0 n.pl.toNat, .ref 2 1 0 n.tr.length, .bool true, .any, .any, .any, .any, .any, .any, trs n.tr, I n.tr.length, I k, .any, .any, .any, .any, .any, .any, ints tr.inn, I tr.inn.length, I j, .any], [.box wga [I n.pl, trs n.tr], .row wg6 true 1 ((markB d.pl (tr.inn.take j)).map PV.bool), .row wg6 true 1 ((d.tr.set k true).map PV.bool)]⟩) ?_ ?_ ?_
            · simp (maxSteps := 2000000) (disch := first | omega | (simp only [lenS]; try omega)) only [go_sem, reduceAdd, reduceEqDiff, reduceLeDiff, reduceSub]
              rfl
            · rintro j s hj rfl
              have h1 := p2 _ (List.getElem_mem hj)
              have h2 : tr.inn[j].toNat < d.pl.length := by omega
              have h4 := zon d.pl (tr.inn.take j)
              simp (maxSteps := 2000000) (disch := first | omega | (simp only [lenS]; try omega)) only [go_sem, reduceAdd, reduceEqDiff, reduceLeDiff, reduceSub]
              rw [zoo hj]; rfl
            · rintro s rfl
              simp (maxSteps := 2000000) (disch := first | omega | (simp only [lenS]; try omega)) only [go_sem, reduceAdd, reduceEqDiff, reduceLeDiff, reduceSub, List.take_length]
              rfl
          · rw [s2 h]; rfl
      · rintro s rfl
        simp (maxSteps := 2000000) (disch := first | omega | (simp only [lenS]; try omega)) only [go_sem, reduceAdd, reduceEqDiff, reduceLeDiff, reduceSub]
        have hn := z8v (n := n) (bk := true) hc2
        rw [hc] at hn
        cases e : (z8r n true c).ch with
        | true =>
          have h1 := (z8o (n := n) (bk := true) (s := c) (k := n.tr.length) (by omega)).2 e
          simp only [e, if_true] at hn
          refine ⟨cntF (z8r n true c).tr + 1, by unfold z8r; omega, z8r n true c, by unfold z8r; have := hcl n.tr.length; omega, by unfold z8r; have := hcl n.tr.length; omega, .inl ⟨rfl, ?_, hn.symm⟩⟩
          unfold z8r at e ⊢
          rw [e]
        | false =>
          simp only [e, Bool.false_eq_true, if_false] at hn
          refine ⟨0, by omega, z8r n true c, by unfold z8r; have := hcl n.tr.length; omega, by unfold z8r; have := hcl n.tr.length; omega, .inr ⟨rfl, ?_, hn.symm⟩⟩
          unfold z8r at e ⊢
          rw [e]
    · simp (maxSteps := 2000000) (disch := first | omega | (simp only [lenS]; try omega)) only [go_sem, reduceAdd, reduceEqDiff, reduceLeDiff, reduceSub]
theorem wfv (a b : List Bool) (ha : a.length < 2^30) (hab : a.length ≤ b.length) : C w95 [bls a, bls b] [] = some (.un t_int true 1 ((bothL a b).map I), []) := by
  refine w2s ?_
  simp (maxSteps := 2000000) (disch := first | omega | (simp only [lenS]; try omega)) only [wdi, go_sem, reduceAdd, reduceEqDiff, reduceLeDiff, reduceSub]
  refine W_for a.length (fun k s => s = ⟨[bls a, bls b, .any, .ref 0 1 0 (bothK a b k).length, .any, I a.length, I k, .any, .any], [.row t_int true 1 ((bothK a b k).map I)]⟩) ?_ ?_ ?_
  · simp (maxSteps := 2000000) (disch := first | omega | (simp only [lenS]; try omega)) only [go_sem, reduceAdd, reduceEqDiff, reduceLeDiff, reduceSub]
    rfl
  · rintro k s hk rfl
    have h2 := z6j a b k
    have hkb : k < b.length := by omega
    have e1 := zfv hk
    have e2 := zfv hkb
    simp (maxSteps := 2000000) (disch := first | omega | (simp only [lenS]; try omega)) only [go_sem, reduceAdd, reduceEqDiff, reduceLeDiff, reduceSub]
    rw [e1, e2]
    refine ⟨fun h => ⟨fun h3 => ?_, fun h3 => ?_⟩, fun h => ?_⟩
    · rw [z6k h h3, List.map_append]; simp
    · rw [z6i (by rw [h, h3]; rfl)]; rfl
    · rw [z6i (by rw [h]; rfl)]; rfl
  · rintro s rfl
    simp (maxSteps := 2000000) (disch := first | omega | (simp only [lenS]; try omega)) only [go_sem, reduceAdd, reduceEqDiff, reduceLeDiff, reduceSub]
    rfl
theorem wfb (n : Net) (a b : Int) (hn : smN n) : C w8m [encN n, I a, I b] [] = some (.tup [.un t_int true 1 ((if okWay n a b then wayP n a b else []).map I), .un t_int true 1 ((if okWay n a b then wayT n a b else []).map I), .bool (okWay n a b)], []) := by
  refine w29 ?_
  simp (maxSteps := 2000000) (disch := first | omega | (simp only [lenS]; try omega)) only [wcz, go_sem, reduceAdd, reduceEqDiff, reduceLeDiff, reduceSub]
  simp (maxSteps := 2000000) (disch := first | omega | (simp only [lenS]; try omega)) only [go_sem, reduceAdd, reduceEqDiff, reduceLeDiff, reduceSub, wf8 n hn, wfk]
  cases hg : goodN n with
  | false => simp [okWay, hg]
  | true =>
    have hb := zgm hg
    cases h1 : inB 0 (n.pl - 1) a with
    | false => simp (maxSteps := 2000000) (disch := first | omega | (simp only [lenS]; try omega)) only [go_sem, reduceAdd, reduceEqDiff, reduceLeDiff, reduceSub, h1]; simp [okWay, hg, h1]
    | true =>
      cases h2 : inB 0 (n.pl - 1) b with
      | false => simp (maxSteps := 2000000) (disch := first | omega | (simp only [lenS]; try omega)) only [go_sem, reduceAdd, reduceEqDiff, reduceLeDiff, reduceSub, h1, h2]; simp [okWay, hg, h1, h2]
      | true =>
        have hok : okWay n a b = true := by simp [okWay, hg, h1, h2]
        have ha : 0 ≤ a ∧ a < n.pl := by simp [inB] at h1; omega
        have hb2 : 0 ≤ b ∧ b < n.pl := by simp [inB] at h2; omega
        have l1 := zyx n false a
        have l2 := zyx n true b
        simp (maxSteps := 2000000) (disch := first | omega | (simp only [lenS]; try omega)) only [go_sem, reduceAdd, reduceEqDiff, reduceLeDiff, reduceSub, h1, h2, wfw n a hg ha, wfu n b hg hb2, hok]
        simp (maxSteps := 2000000) (disch := first | omega | (simp only [lenS]; try omega)) only [go_sem, reduceAdd, reduceEqDiff, reduceLeDiff, reduceSub, wfv (zyv n false a).pl (zyv n true b).pl (by omega) (by omega), wfv (zyv n false a).tr (zyv n true b).tr (by omega) (by omega)]
        rfl
theorem wf6 (f : Fl) (hf : smN f.net) : C w8h [encF f] [] = some (.bool (zg7 f), []) := by
  have hl := hf.1
  have hw := wfb f.net f.src f.dst hf
  have hP : (wayP f.net f.src f.dst).length < 2^62 ∨ goodN f.net = false := by
    cases hg : goodN f.net with
    | false => exact .inr rfl
    | true =>
      have := zgm hg
      have h1 := z6j (zyv f.net false f.src).pl (zyv f.net true f.dst).pl (zyv f.net false f.src).pl.length
      have h2 := zyx f.net false f.src
      exact .inl (by unfold wayP bothL; omega)
  have hT : (wayT f.net f.src f.dst).length < 2^62 := by
    have h1 := z6j (zyv f.net false f.src).tr (zyv f.net true f.dst).tr (zyv f.net false f.src).tr.length
    have h2 := zyx f.net false f.src
    unfold wayT bothL; omega
  refine w24 ?_
  simp (maxSteps := 2000000) (disch := first | omega | (simp only [lenS]; try omega)) only [wcu, go_sem, reduceAdd, reduceEqDiff, reduceLeDiff, reduceSub]
  cases hok : okWay f.net f.src f.dst with
  | false =>
    simp only [hok] at hw
    simp (maxSteps := 2000000) (disch := first | omega | (simp only [lenS]; try omega)) only [go_sem, reduceAdd, reduceEqDiff, reduceLeDiff, reduceSub, hw]
    simp [zg7, hok]
  | true =>
    have hg : goodN f.net = true := by simp only [okWay, Bool.and_eq_true] at hok; exact hok.1.1
    have hb := zgm hg
    have hP : (wayP f.net f.src f.dst).length < 2^62 := by
      rcases hP with h | h
      · exact h
      · rw [hg] at h; cases h
    simp only [hok, if_true] at hw
    simp (maxSteps := 2000000) (disch := first | omega | (simp only [lenS]; try omega)) only [go_sem, reduceAdd, reduceEqDiff, reduceLeDiff, reduceSub, hw]
    refine ⟨fun h => by simp [zg7, h], fun h => ⟨fun h2 => by simp [zg7, h2], fun h2 => ⟨fun h3 => ?_, fun h3 => ?_⟩⟩⟩
    · have : ¬ (wayT f.net f.src f.dst).length = f.net.tr.length := by omega
      simp [zg7, this]
    refine W_for f.net.tr.length (fun k s => s = ⟨[.any, .ptr 0 0, .any, .any, .any, .any, .any, .any, trs f.net.tr, I f.net.tr.length, I k, .any, .any], [.box wg8 [I f.net.pl, trs f.net.tr, I f.src, I f.dst]]⟩ ∧ (f.net.tr.take k).all (fun t => !z15y f t) = true) ?_ ?_ ?_
    · simp (maxSteps := 2000000) (disch := first | omega | (simp only [lenS]; try omega)) only [go_sem, reduceAdd, reduceEqDiff, reduceLeDiff, reduceSub]
      rfl
    · rintro k s hk ⟨rfl, hall⟩
      have hT := hb.2.2.2 _ (List.getElem_mem hk)
      have hLs := zgr hT (by omega)
      simp (maxSteps := 2000000) (disch := first | omega | (simp only [lenS]; try omega)) only [go_sem, reduceAdd, reduceEqDiff, reduceLeDiff, reduceSub, wfj]
      have gs : z15y f f.net.tr[k] = true → zg7 f = false := fun hs => by
        have : (f.net.tr.all fun t => !z15y f t) = false := z2r hk (by simp [hs])
        simp [zg7, this]
      exact ⟨fun a => by rw [gs (by simp [z15y, a])], fun a => ⟨fun b => by rw [gs (by simp [z15y, b])], fun b => ⟨fun c => by rw [gs (by simp [z15y, c])], fun c => ⟨fun d => by rw [gs (by simp [z15y, d])], fun d => ⟨rfl, z2s hk hall (by simp [z15y, a, b, c, d])⟩⟩⟩⟩⟩
    · rintro s ⟨rfl, hall⟩
      simp (maxSteps := 2000000) (disch := first | omega | (simp only [lenS]; try omega)) only [go_sem, reduceAdd, reduceEqDiff, reduceLeDiff, reduceSub]
      rw [List.take_length] at hall
      have h4 : (wayT f.net f.src f.dst).length = f.net.tr.length := by omega
      simp [zg7, hok, h, h2, h4]
      simpa using hall
theorem wf9 (s : Spc) (hs : smSpc s) : C w8k [encS s] [] = some (.bool (goodS s), []) := by
  obtain ⟨hl, ht⟩ := hs
  refine w27 ?_
  simp (maxSteps := 2000000) (disch := first | omega | (simp only [lenS]; try omega)) only [wcx, go_sem, reduceAdd, reduceEqDiff, reduceLeDiff, reduceSub]
  simp (maxSteps := 2000000) (disch := first | omega | (simp only [lenS]; try omega)) only [go_sem, reduceAdd, reduceEqDiff, reduceLeDiff, reduceSub, wfk]
  refine ⟨fun h1 => ⟨fun h2 => ?_, fun h2 => by simp [goodS, zsv, h2]⟩, fun h1 => by simp [goodS, zsv, h1]⟩
  have hc : 2 ≤ s.conds ∧ s.conds ≤ 8 := by simpa [inB] using h1
  have hn : 1 ≤ s.tasks.length ∧ s.tasks.length ≤ 6 := by simp [inB] at h2; omega
  refine W_for s.tasks.length (fun i st => st = ⟨[.any, .ptr 0 0, .any, .any, .any, .any, I s.tasks.length, I i, .any, .any], [.box wgc [I s.conds, tks s.tasks]]⟩ ∧ ∀ k, k < i → goodK s k (tkN s k) = true) ?_ ?_ ?_
  · simp (maxSteps := 2000000) (disch := first | omega | (simp only [lenS]; try omega)) only [go_sem, reduceAdd, reduceEqDiff, reduceLeDiff, reduceSub]
    exact ⟨rfl, fun k hk => by omega⟩
  · rintro i st hi ⟨rfl, hall⟩
    have hT := wfg s i hi hn.2 hc (ht _ (List.getElem_mem hi))
    rw [← z18o hi] at hT
    simp (maxSteps := 2000000) (disch := first | omega | (simp only [lenS]; try omega)) only [go_sem, reduceAdd, reduceEqDiff, reduceLeDiff, reduceSub, hT]
    refine ⟨fun h => ⟨rfl, fun k hk => ?_⟩, fun h => ?_⟩
    · rcases Nat.lt_or_ge k i with h5 | h5
      · exact hall k h5
      · rw [show k = i by omega]; exact h
    · have : zsv s = false := by
        rw [Bool.eq_false_iff]
        intro he
        have := (zsw he).2.2 i hi
        rw [h] at this; cases this
      simp [goodS, this]
  · rintro st ⟨rfl, hall⟩
    have hok : zsv s = true := by
      simp only [zsv, h1, h2, Bool.true_and, List.all_eq_true, List.mem_range]
      exact hall
    have hf := wfd s hok
    have hg := wf6 (flS s) (ze7 hok)
    have e : (trS s).length = (mvS s).length := z197 s s.tasks.length
    have h3 := zqt hok s.tasks.length (by omega)
    have h4 : (mvS s).length ≤ 60 := by unfold mvS; omega
    unfold encF flS at hg
    simp only at hg
    simp (maxSteps := 2000000) (disch := first | omega | (simp only [lenS]; try omega)) only [go_sem, reduceAdd, reduceEqDiff, reduceLeDiff, reduceSub, hf, hg]
    simp [goodS, hok, flS]
theorem wg3 (f : Fl) (b : Int) (hf : smN f.net) : C w9d [encF f, I b] [] = some (.bool (zg7 f && inB 1 400 b), []) := by
  refine w30 ?_
  simp (maxSteps := 2000000) (disch := first | omega | (simp only [lenS]; try omega)) only [wdq, go_sem, reduceAdd, reduceEqDiff, reduceLeDiff, reduceSub]
  simp (maxSteps := 2000000) (disch := first | omega | (simp only [lenS]; try omega)) only [go_sem, reduceAdd, reduceEqDiff, reduceLeDiff, reduceSub, wf6 f hf, wfk]
  grind
theorem wfx (n p : Int) (hn : 0 ≤ n ∧ n < 2^30) (hp : 0 ≤ p ∧ p < n) : C w97 [I n, I p] [] = some (.un t_int true 1 ((oneM n.toNat p).map I), []) := by
  refine w2u ?_
  simp (maxSteps := 2000000) (disch := first | omega | (simp only [lenS]; try omega)) only [wdk, go_sem, reduceAdd, reduceEqDiff, reduceLeDiff, reduceSub]
  simp (maxSteps := 2000000) (disch := first | omega | (simp only [lenS]; try omega)) only [go_sem, reduceAdd, reduceEqDiff, reduceLeDiff, reduceSub, List.getElem_replicate]
  simp [oneM, List.map_set]
theorem wg5 (f : Fl) (hg : zg7 f = true) : C w9f [encF f] [] = some (.tup [.un t_int true 1 ((oneM f.net.pl.toNat f.src).map I), .un t_int true 1 ((oneM f.net.pl.toNat f.dst).map I)], []) := by
  obtain ⟨g1, g2, g3, _⟩ := zga hg
  have hn := zgm g1
  refine w32 ?_
  simp (maxSteps := 2000000) (disch := first | omega | (simp only [lenS]; try omega)) only [wds, go_sem, reduceAdd, reduceEqDiff, reduceLeDiff, reduceSub]
  simp (maxSteps := 2000000) (disch := first | omega | (simp only [lenS]; try omega)) only [go_sem, reduceAdd, reduceEqDiff, reduceLeDiff, reduceSub, wfx f.net.pl f.src (by omega) g2, wfx f.net.pl f.dst (by omega) g3]
theorem wfq (t : Tr) (m : List Int) (ht : ∀ q ∈ t.inn, 0 ≤ q ∧ q.toNat < m.length) (hl : t.inn.length < 2^62) : C w91 [encT t, ints m] [] = some (.bool (canT t m), []) := by
  refine w2o ?_
  simp (maxSteps := 2000000) (disch := first | omega | (simp only [lenS]; try omega)) only [wde, go_sem, reduceAdd, reduceEqDiff, reduceLeDiff, reduceSub]
  refine W_for t.inn.length (fun k s => s = ⟨[.any, ints m, .any, .any, .any, ints t.inn, I t.inn.length, I k, .any, .any], []⟩ ∧ (t.inn.take k).all (fun p => !(at_ m p == 0)) = true) ?_ ?_ ?_
  · simp (maxSteps := 2000000) (disch := first | omega | (simp only [lenS]; try omega)) only [go_sem, reduceAdd, reduceEqDiff, reduceLeDiff, reduceSub]
    rfl
  · rintro k s hk ⟨rfl, hall⟩
    obtain ⟨h1, h2⟩ := ht _ (List.getElem_mem hk)
    simp (maxSteps := 2000000) (disch := first | omega | (simp only [lenS]; try omega)) only [go_sem, reduceAdd, reduceEqDiff, reduceLeDiff, reduceSub]
    refine ⟨fun h => ?_, fun h => ⟨rfl, z2s hk hall ?_⟩⟩
    · have : canT t m = false := z2r hk (by rw [at_eq h2] at h; simp [h])
      rw [this]
    · rw [at_eq h2] at h; simp [h]
  · rintro s ⟨rfl, hall⟩
    simp (maxSteps := 2000000) (disch := first | omega | (simp only [lenS]; try omega)) only [go_sem, reduceAdd, reduceEqDiff, reduceLeDiff, reduceSub]
    rw [List.take_length] at hall
    unfold canT; rw [hall]
theorem wfr (n : Net) (m : List Int) (hg : goodN n = true) (hm : (m.length : Int) = n.pl) : C w92 [encN n, ints m] [] = some (.un t_int true 1 ((enabL n m).map I), []) := by
  have hb := zgm hg
  refine w2p ?_
  simp (maxSteps := 2000000) (disch := first | omega | (simp only [lenS]; try omega)) only [wdf, go_sem, reduceAdd, reduceEqDiff, reduceLeDiff, reduceSub]
  refine W_for n.tr.length (fun k s => s = ⟨[.any, ints m, .any, .any, .ref 0 1 0 (enabK n m k).length, .any, .any, trs n.tr, I n.tr.length, I k, .any, .any], [.row t_int true 1 ((enabK n m k).map I)]⟩) ?_ ?_ ?_
  · simp (maxSteps := 2000000) (disch := first | omega | (simp only [lenS]; try omega)) only [go_sem, reduceAdd, reduceEqDiff, reduceLeDiff, reduceSub]
    rfl
  · rintro k s hk rfl
    have hT := hb.2.2.2 _ (List.getElem_mem hk)
    have h2 := zb6 n m k
    simp (maxSteps := 2000000) (disch := first | omega | (simp only [lenS]; try omega)) only [go_sem, reduceAdd, reduceEqDiff, reduceLeDiff, reduceSub, wfq _ m (zgs hT hm).1 (by have := (zgr hT (by omega)).1; omega)]
    refine ⟨fun h => ?_, fun h => ?_⟩
    · rw [zb7 hk h, List.map_append]; simp
    · rw [zb5 hk h]; rfl
  · rintro s rfl
    simp (maxSteps := 2000000) (disch := first | omega | (simp only [lenS]; try omega)) only [go_sem, reduceAdd, reduceEqDiff, reduceLeDiff, reduceSub]
    rfl
theorem wft (t : Tr) (m : List Int) (h1 : ∀ q ∈ t.inn, 0 ≤ q ∧ q.toNat < m.length) (h2 : ∀ q ∈ t.out, 0 ≤ q ∧ q.toNat < m.length) (h3 : ∀ q ∈ t.rst, 0 ≤ q ∧ q.toNat < m.length) (hl : smT t) (hm : m.length < 2^30) (hb : ∀ x ∈ m, 0 ≤ x ∧ x ≤ 50) :
    C w93 [encT t, ints m] [] = some (.un t_int true 1 ((ze0 t m).map I), []) := by
  obtain ⟨g1, g2, g3⟩ := hl
  refine w2q ?_
  simp (maxSteps := 2000000) (disch := first | omega | (simp only [lenS]; try omega)) only [wdg, go_sem, reduceAdd, reduceEqDiff, reduceLeDiff, reduceSub]
  simp (maxSteps := 2000000) (disch := first | omega | (simp only [lenS]; try omega)) only [go_sem, reduceAdd, reduceEqDiff, reduceLeDiff, reduceSub, wfl m (by omega)]
  refine W_for t.inn.length (fun k s => s = ⟨[.any, .any, .ptr 0 0, .any, .ref 1 1 0 m.length, .any, .any, .any, ints t.inn, I t.inn.length, I k, .any, .any, .any, .any, .any, .any, .any, .any, .any], [.box wge [ints t.inn, ints t.out, ints t.rst], .row t_int true 1 ((decL m (t.inn.take k)).map I)]⟩) ?_ ?_ ?_
  · simp (maxSteps := 2000000) (disch := first | omega | (simp only [lenS]; try omega)) only [go_sem, reduceAdd, reduceEqDiff, reduceLeDiff, reduceSub]
    rfl
  · rintro k s hk rfl
    obtain ⟨h4, h5⟩ := h1 _ (List.getElem_mem hk)
    have h6 := zai m (t.inn.take k)
    have h7 := z45 (p := t.inn[k]) (zah (l := t.inn.take k) hb (fun p hp => (h1 p (List.mem_of_mem_take hp)).2)) (by omega)
    have h8 : (t.inn.take k).length = k := by simp; omega
    simp (maxSteps := 2000000) (disch := first | omega | (simp only [lenS]; try omega)) only [go_sem, reduceAdd, reduceEqDiff, reduceLeDiff, reduceSub, at_eq]
    rw [zaj hk]; rfl
  · rintro s rfl
    simp (maxSteps := 2000000) (disch := first | omega | (simp only [lenS]; try omega)) only [go_sem, reduceAdd, reduceEqDiff, reduceLeDiff, reduceSub, List.take_length]
    have b1 := zah (l := t.inn) hb (fun p hp => (h1 p hp).2)
    have l1 := zai m t.inn
    generalize e1 : decL m t.inn = m1 at b1 l1 ⊢
    refine W_for t.rst.length (fun k s => s = ⟨[.any, .any, .ptr 0 0, .any, .ref 1 1 0 m.length, .any, .any, .any, .any, .any, .any, .any, ints t.rst, I t.rst.length, I k, .any, .any, .any, .any, .any], [.box wge [ints t.inn, ints t.out, ints t.rst], .row t_int true 1 ((zerL m1 (t.rst.take k)).map I)]⟩) ?_ ?_ ?_
    · simp (maxSteps := 2000000) (disch := first | omega | (simp only [lenS]; try omega)) only [go_sem, reduceAdd, reduceEqDiff, reduceLeDiff, reduceSub]
      rfl
    · rintro k s hk rfl
      obtain ⟨h4, h5⟩ := h3 _ (List.getElem_mem hk)
      have h6 := z1av m1 (t.rst.take k)
      simp (maxSteps := 2000000) (disch := first | omega | (simp only [lenS]; try omega)) only [go_sem, reduceAdd, reduceEqDiff, reduceLeDiff, reduceSub]
      rw [z1aw hk]; rfl
    · rintro s rfl
      simp (maxSteps := 2000000) (disch := first | omega | (simp only [lenS]; try omega)) only [go_sem, reduceAdd, reduceEqDiff, reduceLeDiff, reduceSub, List.take_length]
      have b2 := z1au (l := t.rst) b1 (by omega)
      have l2 := z1av m1 t.rst
      generalize e2 : zerL m1 t.rst = m2 at b2 l2 ⊢
      refine W_for t.out.length (fun k s => s = ⟨[.any, .any, .any, .any, .ref 0 1 0 m.length, .any, .any, .any, .any, .any, .any, .any, .any, .any, .any, .any, ints t.out, I t.out.length, I k, .any], [.row t_int true 1 ((incL m2 (t.out.take k)).map I)]⟩) ?_ ?_ ?_
      · simp (maxSteps := 2000000) (disch := first | omega | (simp only [lenS]; try omega)) only [go_sem, reduceAdd, reduceEqDiff, reduceLeDiff, reduceSub]
        rfl
      · rintro k s hk rfl
        obtain ⟨h4, h5⟩ := h2 _ (List.getElem_mem hk)
        have h6 := zjn m2 (t.out.take k)
        have h7 := z45 (p := t.out[k]) (zjm (l := t.out.take k) b2 (fun p hp => by have := (h2 p (List.mem_of_mem_take hp)).2; omega)) (by omega)
        have h8 : (t.out.take k).length = k := by simp; omega
        simp (maxSteps := 2000000) (disch := first | omega | (simp only [lenS]; try omega)) only [go_sem, reduceAdd, reduceEqDiff, reduceLeDiff, reduceSub, at_eq]
        rw [zjo hk]; rfl
      · rintro s rfl
        have h6 := zjn m2 t.out
        simp (maxSteps := 2000000) (disch := first | omega | (simp only [lenS]; try omega)) only [go_sem, reduceAdd, reduceEqDiff, reduceLeDiff, reduceSub, List.take_length]
        subst e2 e1; rfl
theorem wfh (l : List Int) (lo hi : Int) (hl : l.length < 2^62) : C w8s [ints l, I lo, I hi] [] = some (.bool (l.all (inB lo hi)), []) := by
  refine w2f ?_
  simp (maxSteps := 2000000) (disch := first | omega | (simp only [lenS]; try omega)) only [wd5, go_sem, reduceAdd, reduceEqDiff, reduceLeDiff, reduceSub]
  refine W_for l.length (fun k s => s = ⟨[.any, I lo, I hi, .any, .any, ints l, I l.length, I k, .any, .any], []⟩ ∧ (l.take k).all (inB lo hi) = true) ?_ ?_ ?_
  · simp (maxSteps := 2000000) (disch := first | omega | (simp only [lenS]; try omega)) only [go_sem, reduceAdd, reduceEqDiff, reduceLeDiff, reduceSub]
    rfl
  · rintro k s hk ⟨rfl, hall⟩
    simp (maxSteps := 2000000) (disch := first | omega | (simp only [lenS]; try omega)) only [go_sem, reduceAdd, reduceEqDiff, reduceLeDiff, reduceSub, wfk]
    exact ⟨fun h => ⟨rfl, z2s hk hall h⟩, fun h => by rw [z2r hk h]⟩
  · rintro s ⟨rfl, hall⟩
    simp (maxSteps := 2000000) (disch := first | omega | (simp only [lenS]; try omega)) only [go_sem, reduceAdd, reduceEqDiff, reduceLeDiff, reduceSub]
    rw [List.take_length] at hall
    rw [hall]
theorem wf7 (p : Int) (m : List Int) (hl : m.length < 2^62) : C w8i [I p, ints m] [] = some (.bool (goodM p m), []) := by
  refine w25 ?_
  simp (maxSteps := 2000000) (disch := first | omega | (simp only [lenS]; try omega)) only [wcv, go_sem, reduceAdd, reduceEqDiff, reduceLeDiff, reduceSub]
  simp (maxSteps := 2000000) (disch := first | omega | (simp only [lenS]; try omega)) only [go_sem, reduceAdd, reduceEqDiff, reduceLeDiff, reduceSub, wfm, wfh m _ _ hl]
  unfold goodM; grind
theorem wfo (a b : List Int) (hl : a.length < 2^62) : C w8z [ints a, ints b] [] = some (.bool (decide (a = b)), []) := by
  refine w2m ?_
  simp (maxSteps := 2000000) (disch := first | omega | (simp only [lenS]; try omega)) only [wdc, go_sem, reduceAdd, reduceEqDiff, reduceLeDiff, reduceSub]
  refine ⟨fun h => ?_, fun h => ?_⟩
  · have : a ≠ b := fun e => h (by rw [e])
    simp [this]
  refine W_for a.length (fun k s => s = ⟨[ints a, ints b, .any, .any, .any, I a.length, I k, .any, .any], []⟩ ∧ a.take k = b.take k) ?_ ?_ ?_
  · simp (maxSteps := 2000000) (disch := first | omega | (simp only [lenS]; try omega)) only [go_sem, reduceAdd, reduceEqDiff, reduceLeDiff, reduceSub]
    rfl
  · rintro k s hk ⟨rfl, hall⟩
    simp (maxSteps := 2000000) (disch := first | omega | (simp only [lenS]; try omega)) only [go_sem, reduceAdd, reduceEqDiff, reduceLeDiff, reduceSub]
    refine ⟨fun h => ?_, fun h => ⟨rfl, ?_⟩⟩
    · have : a ≠ b := fun e => h (by simp [e])
      simp [this]
    · rw [z18h hk, z18h (show k < b.length by omega), hall, h]
  · rintro s ⟨rfl, hall⟩
    simp (maxSteps := 2000000) (disch := first | omega | (simp only [lenS]; try omega)) only [go_sem, reduceAdd, reduceEqDiff, reduceLeDiff, reduceSub]
    rw [List.take_length, List.take_of_length_le (by omega)] at hall
    simp [hall]
theorem wg0 (ms : List (List Int)) (m : List Int) (hl : ms.length < 2^62) (hx : ∀ x ∈ ms, x.length < 2^62) : C w9a [rows ms, ints m] [] = some (I (findM ms m), []) := by
  refine w2x ?_
  simp (maxSteps := 2000000) (disch := first | omega | (simp only [lenS]; try omega)) only [wdn, go_sem, reduceAdd, reduceEqDiff, reduceLeDiff, reduceSub]
  refine W_for ms.length (fun k s => s = ⟨[.any, ints m, .any, .any, .any, rows ms, I ms.length, I k, .any, .any], []⟩ ∧ (ms.take k).any (fun x => decide (x = m)) = false) ?_ ?_ ?_
  · simp (maxSteps := 2000000) (disch := first | omega | (simp only [lenS]; try omega)) only [go_sem, reduceAdd, reduceEqDiff, reduceLeDiff, reduceSub]
    rfl
  · rintro k s hk ⟨rfl, hall⟩
    have hxk := hx _ (List.getElem_mem hk)
    simp (maxSteps := 2000000) (disch := first | omega | (simp only [lenS]; try omega)) only [go_sem, reduceAdd, reduceEqDiff, reduceLeDiff, reduceSub, wfo]
    refine ⟨fun h => ?_, fun h => ⟨rfl, z36 hk hall (decide_eq_false h)⟩⟩
    unfold findM
    rw [zho hk hall (decide_eq_true h)]
  · rintro s ⟨rfl, hall⟩
    simp (maxSteps := 2000000) (disch := first | omega | (simp only [lenS]; try omega)) only [go_sem, reduceAdd, reduceEqDiff, reduceLeDiff, reduceSub]
    rw [List.take_length] at hall
    unfold findM
    rw [zhn hall]
theorem weu (a b : List Int) (hl : a.length < 2^62) : C w87 [ints a, ints b] [] = some (.bool (decide (a = b)), []) := by
  refine w1u ?_
  simp (maxSteps := 2000000) (disch := first | omega | (simp only [lenS]; try omega)) only [wck, go_sem, reduceAdd, reduceEqDiff, reduceLeDiff, reduceSub]
  refine ⟨fun h => ?_, fun h => ?_⟩
  · have : a ≠ b := fun e => h (by rw [e])
    simp [this]
  refine W_for a.length (fun k s => s = ⟨[ints a, ints b, .any, .any, .any, I a.length, I k, .any, .any], []⟩ ∧ a.take k = b.take k) ?_ ?_ ?_
  · simp (maxSteps := 2000000) (disch := first | omega | (simp only [lenS]; try omega)) only [go_sem, reduceAdd, reduceEqDiff, reduceLeDiff, reduceSub]
    rfl
  · rintro k s hk ⟨rfl, hall⟩
    simp (maxSteps := 2000000) (disch := first | omega | (simp only [lenS]; try omega)) only [go_sem, reduceAdd, reduceEqDiff, reduceLeDiff, reduceSub]
    refine ⟨fun h => ?_, fun h => ⟨rfl, ?_⟩⟩
    · have : a ≠ b := fun e => h (by simp [e])
      simp [this]
    · rw [z18h hk, z18h (show k < b.length by omega), hall, h]
  · rintro s ⟨rfl, hall⟩
    simp (maxSteps := 2000000) (disch := first | omega | (simp only [lenS]; try omega)) only [go_sem, reduceAdd, reduceEqDiff, reduceLeDiff, reduceSub]
    rw [List.take_length, List.take_of_length_le (by omega)] at hall
    simp [hall]
abbrev encA (a : Arc3) : PV := .agg [I a.src, I a.by_, I a.dst]
def arcPV (l : List Arc3) : PV := if l = [] then .nil true 3 else .un wg7 true 3 (l.map encA)
def exPV (r : Ex) : PV := if r.code = 0 then .agg [.un wgj false 1 (r.sp.ms.map ints), arcPV r.sp.ar] else .agg [.nil false 1, .nil true 3]
def w67 (r : Ex) : Int := if r.code = 0 then 1 else r.code
theorem w68 {n : Net} {start : List Int} {b : Int} (hm : zou n start = true) (hb : 1 ≤ b) : ExOk n start b ⟨⟨[start], []⟩, 0⟩ := by
  refine ⟨rfl, fun m hm2 => ?_, by simp; omega, by simp, fun a ha => by simp at ha, fun j hj hl => ?_⟩
  · simp only [List.mem_singleton] at hm2; subst hm2; exact hm
  · simp only [List.length_cons, List.length_nil] at hl; omega
theorem w9m (x m : List Int) (hx : x.length < 2^62) : C w6j [ints x, .pv (.agg [ints m]) 0] [] = some (.bool (decide (x = m)), []) := by
  refine w07 ?_
  simp (maxSteps := 2000000) (disch := first | omega | (simp only [lenS]; try omega)) only [waw, go_sem, reduceAdd, reduceEqDiff, reduceLeDiff, reduceSub]
  simp (maxSteps := 2000000) (disch := first | omega | (simp only [lenS]; try omega)) only [go_sem, reduceAdd, reduceEqDiff, reduceLeDiff, reduceSub, weu]
  grind
theorem wfz (n : Net) (start : List Int) (b : Int) (hm : zou n start = true) (hb : 1 ≤ b ∧ b ≤ 400) : C w99 [encN n, ints start, I b] [] = some (.tup [exPV (exAll n start b), I (w67 (exAll n start b))], []) := by
  obtain ⟨hg, hmk⟩ := zov hm
  have hn := zgm hg
  have hs := zge hmk
  refine w2w ?_
  simp (maxSteps := 2000000) (disch := first | omega | (simp only [lenS]; try omega)) only [wdm, go_sem, reduceAdd, reduceEqDiff, reduceLeDiff, reduceSub]
  simp (maxSteps := 2000000) (disch := first | omega | (simp only [lenS]; try omega)) only [go_sem, reduceAdd, reduceEqDiff, reduceLeDiff, reduceSub, wfl start (by omega)]
  generalize hR : exAll n start b = R
  refine z1a (fun d s => ∃ (k : Nat) (c : Ex), d + k = b.toNat + 1 ∧ ExOk n start b c ∧ c.code = 0 ∧ k ≤ c.sp.ms.length ∧ c.sp.ar.length ≤ 24 * k ∧ exRun n b (d + 1) k c = R ∧ ((s = ⟨[.any, .any, I b, .ptr 0 0, .ptr 1 0, .any, .ptr 2 0, I k, .any, .any, .any, .any, .any, .any, .any, .any, .any, .any, .any], [.box wga [I n.pl, trs n.tr], .box wgb [.nil false 1, .nil true 3], .box wgb [.ref 3 1 0 c.sp.ms.length, .nil true 3], .row wgj false 1 (c.sp.ms.map ints)]⟩ ∧ c.sp.ar = []) ∨ (s = ⟨[.any, .any, I b, .ptr 0 0, .ptr 1 0, .any, .ptr 2 0, I k, .any, .any, .any, .any, .any, .any, .any, .any, .any, .any, .any], [.box wga [I n.pl, trs n.tr], .box wgb [.nil false 1, .nil true 3], .box wgb [.ref 3 1 0 c.sp.ms.length, .ref 4 3 0 c.sp.ar.length], .row wgj false 1 (c.sp.ms.map ints), .row wg7 true 3 (c.sp.ar.map encA)]⟩ ∧ c.sp.ar ≠ []))) (b.toNat + 1) ?_ ?_
  · refine ⟨0, ⟨⟨[start], []⟩, 0⟩, by omega, w68 hm hb.1, rfl, by omega, by simp, hR, .inl ⟨?_, rfl⟩⟩
    simp (maxSteps := 2000000) (disch := first | omega | (simp only [lenS]; try omega)) only [go_sem, reduceAdd, reduceEqDiff, reduceLeDiff, reduceSub]
    rfl
  · rintro d s ⟨k, c, hd, hok, hc0, hk, hal, hrun, hcs⟩
    have hlb := hok.lenb
    by_cases hkl : k < c.sp.ms.length
    · have hmem := zfy hkl
      have hmg := zov (hok.good _ hmem)
      have hml := zge hmg.2
      have en := wfr n (c.sp.ms.getD k []) hg hml.2.2.1
      have hLl : (enabL n (c.sp.ms.getD k [])).length ≤ n.tr.length := zb6 ..
      have er : exRun n b (d + 1) k c = exRun n b d (k + 1) (exL n b k c (enabL n (c.sp.ms.getD k []))) := by
        show (if c.code ≠ 0 then c else if k < c.sp.ms.length then _ else c) = _
        rw [if_neg (by omega), if_pos hkl]
      rw [er] at hrun
      have hen : ∀ t ∈ enabL n (c.sp.ms.getD k []), t ∈ enabL n (c.sp.ms.getD k []) := fun t h => h
      generalize hL : enabL n (c.sp.ms.getD k []) = L at *
      rcases hcs with ⟨rfl, har⟩ | ⟨rfl, har⟩
      all_goals
        simp (maxSteps := 2000000) (disch := first | omega | (simp only [lenS]; try omega)) only [go_sem, reduceAdd, reduceEqDiff, reduceLeDiff, reduceSub, zfz, en]
        refine W_for L.length (fun j s => ∃ c' : Ex, ExOk n start b c' ∧ c'.code = 0 ∧ k < c'.sp.ms.length ∧ enabL n (c'.sp.ms.getD k []) = L ∧ c'.sp.ar.length ≤ 24 * k + j ∧ exRun n b d (k + 1) (exL n b k c' (L.drop j)) = R ∧ ((s = ⟨[.any, .any, I b, .ptr 0 0, .ptr 1 0, .any, .ptr 2 0, I k, .any, .any, .any, .any, .ref 3 1 0 L.length, I L.length, I j, .any, .any, .any, .any], [.box wga [I n.pl, trs n.tr], .box wgb [.nil false 1, .nil true 3], .box wgb [.ref 4 1 0 c'.sp.ms.length, .nil true 3], .row t_int true 1 (L.map I), .row wgj false 1 (c'.sp.ms.map ints)]⟩ ∧ c'.sp.ar = []) ∨ (s = ⟨[.any, .any, I b, .ptr 0 0, .ptr 1 0, .any, .ptr 2 0, I k, .any, .any, .any, .any, .ref 3 1 0 L.length, I L.length, I j, .any, .any, .any, .any], [.box wga [I n.pl, trs n.tr], .box wgb [.nil false 1, .nil true 3], .box wgb [.ref 4 1 0 c'.sp.ms.length, .ref 5 3 0 c'.sp.ar.length], .row t_int true 1 (L.map I), .row wgj false 1 (c'.sp.ms.map ints), .row wg7 true 3 (c'.sp.ar.map encA)]⟩ ∧ c'.sp.ar ≠ []))) ?_ ?_ ?_
        · refine ⟨c, hok, hc0, hkl, hL, by omega, hrun, ?_⟩
          first
          | refine .inl ⟨?_, har⟩
            simp (maxSteps := 2000000) (disch := first | omega | (simp only [lenS]; try omega)) only [go_sem, reduceAdd, reduceEqDiff, reduceLeDiff, reduceSub]
            done
          | refine .inl ⟨?_, har⟩
            simp (maxSteps := 2000000) (disch := first | omega | (simp only [lenS]; try omega)) only [go_sem, reduceAdd, reduceEqDiff, reduceLeDiff, reduceSub]
            rfl
          | refine .inr ⟨?_, har⟩
            simp (maxSteps := 2000000) (disch := first | omega | (simp only [lenS]; try omega)) only [go_sem, reduceAdd, reduceEqDiff, reduceLeDiff, reduceSub]
            done
          | refine .inr ⟨?_, har⟩
            simp (maxSteps := 2000000) (disch := first | omega | (simp only [lenS]; try omega)) only [go_sem, reduceAdd, reduceEqDiff, reduceLeDiff, reduceSub]
            rfl
        · rintro j s hj ⟨c', hok', hc0', hkl', hL', hal', hrun', hcs'⟩
          have hlb' := hok'.lenb
          have ht : L[j] ∈ enabL n (c'.sp.ms.getD k []) := by rw [hL']; exact List.getElem_mem hj
          obtain ⟨t1, t2, t3⟩ := zb8.1 ht
          have hT := hn.2.2.2 (trAt n L[j]) (by rw [← z18t t2]; exact List.getElem_mem _)
          have hm2 := zge (zov (hok'.good _ (zfy hkl'))).2
          have hx := zgs hT hm2.2.2.1
          have hy := zgr hT (by omega)
          have hfire := wft (trAt n L[j]) (c'.sp.ms.getD k []) hx.1 hx.2.1 hx.2.2 ⟨by omega, by omega, by omega⟩ (by omega) hm2.2.2.2.2
          have hMl := ze2 (trAt n L[j]) (c'.sp.ms.getD k [])
          have hok2 := zc9 hok' hkl' ht
          have hxs : ∀ x ∈ c'.sp.ms, x.length < 2^62 := fun x hx => by have := zge (zov (hok'.good x hx)).2; omega
          rw [zbu hj] at hrun'
          have f1 := zcd (n := n) (b := b) (k := k) (s := c') (t := L[j]) hc0'
          have f2 := zca (n := n) (b := b) (k := k) (s := c') (t := L[j]) hc0'
          have f3 := zc6 (n := n) (b := b) (k := k) (s := c') (t := L[j]) hc0'
          have f4 := zc8 (n := n) (b := b) (k := k) (s := c') (t := L[j]) hc0'
          generalize hM : ze0 (trAt n L[j]) (c'.sp.ms.getD k []) = M at *
          have ck : C w8i [I n.pl, ints M] [] = some (.bool (M.all (inB 0 50)), []) := by
            rw [wf7 n.pl M (by omega)]
            have h9 : inB 1 16 n.pl = true := by simp [inB]; omega
            have h10 : ((M.length : Int) == n.pl) = true := by simp; omega
            simp only [goodM, h9, h10, Bool.true_and]
          have fd := wg0 c'.sp.ms M (by omega) hxs
          have hsl : ∀ c2 : Ex, c2.code ≠ 0 → exRun n b d (k + 1) (exL n b k c2 (L.drop (j + 1))) = c2 := fun c2 h => by rw [zbw h, zc1 h]
          cases ha : M.all (inB 0 50) with
          | false =>
            rw [f1 ha, hsl _ (by simp)] at hrun'
            subst hrun'
            rw [ha] at ck
            rcases hcs' with ⟨rfl, har'⟩ | ⟨rfl, har'⟩ <;> simp (maxSteps := 2000000) (disch := first | omega | (simp only [lenS]; try omega)) only [go_sem, reduceAdd, reduceEqDiff, reduceLeDiff, reduceSub, zfz, z18t, hfire, ck, exPV, w67]
          | true =>
            rw [ha] at ck
            by_cases h2 : 0 ≤ findM c'.sp.ms M
            · rw [f2 ha h2] at hrun' hok2
              rcases hcs' with ⟨rfl, har'⟩ | ⟨rfl, har'⟩
              · simp (maxSteps := 2000000) (disch := first | omega | (simp only [lenS]; try omega)) only [go_sem, reduceAdd, reduceEqDiff, reduceLeDiff, reduceSub, zfz, z18t, hfire, ck, fd]
                refine ⟨_, hok2, rfl, hkl', hL', by simp only [List.length_append, List.length_cons, List.length_nil]; omega, hrun', .inr ⟨?_, by simp⟩⟩
                simp [har']
              · simp (maxSteps := 2000000) (disch := first | omega | (simp only [lenS]; try omega)) only [go_sem, reduceAdd, reduceEqDiff, reduceLeDiff, reduceSub, zfz, z18t, hfire, ck, fd]
                refine ⟨_, hok2, rfl, hkl', hL', by simp only [List.length_append, List.length_cons, List.length_nil]; omega, hrun', .inr ⟨?_, by simp⟩⟩
                simp
            · by_cases h3 : b ≤ c'.sp.ms.length
              · rw [f3 ha h2 h3, hsl _ (by simp)] at hrun'
                subst hrun'
                rcases hcs' with ⟨rfl, har'⟩ | ⟨rfl, har'⟩ <;> simp (maxSteps := 2000000) (disch := first | omega | (simp only [lenS]; try omega)) only [go_sem, reduceAdd, reduceEqDiff, reduceLeDiff, reduceSub, zfz, z18t, hfire, ck, fd, exPV, w67]
              · rw [f4 ha h2 h3] at hrun' hok2
                rcases hcs' with ⟨rfl, har'⟩ | ⟨rfl, har'⟩
                · simp (maxSteps := 2000000) (disch := first | omega | (simp only [lenS]; try omega)) only [go_sem, reduceAdd, reduceEqDiff, reduceLeDiff, reduceSub, zfz, z18t, hfire, ck, fd]
                  refine ⟨_, hok2, rfl, by simp only [List.length_append]; omega, by simp only; rw [zfu hkl']; exact hL', by simp only [List.length_append, List.length_cons, List.length_nil]; omega, hrun', .inr ⟨?_, by simp⟩⟩
                  simp [har']
                · simp (maxSteps := 2000000) (disch := first | omega | (simp only [lenS]; try omega)) only [go_sem, reduceAdd, reduceEqDiff, reduceLeDiff, reduceSub, zfz, z18t, hfire, ck, fd]
                  refine ⟨_, hok2, rfl, by simp only [List.length_append]; omega, by simp only; rw [zfu hkl']; exact hL', by simp only [List.length_append, List.length_cons, List.length_nil]; omega, hrun', .inr ⟨?_, by simp⟩⟩
                  simp
        · rintro s ⟨c', hok', hc0', hkl', hL', hal', hrun', hcs'⟩
          rw [List.drop_length] at hrun'
          have hlb' := hok'.lenb
          rcases hcs' with ⟨rfl, har'⟩ | ⟨rfl, har'⟩
          · simp (maxSteps := 2000000) (disch := first | omega | (simp only [lenS]; try omega)) only [go_sem, reduceAdd, reduceEqDiff, reduceLeDiff, reduceSub]
            refine ⟨d - 1, by omega, k + 1, c', by omega, hok', hc0', by omega, by omega, by rw [show d - 1 + 1 = d by omega]; exact hrun', .inl ⟨rfl, har'⟩⟩
          · simp (maxSteps := 2000000) (disch := first | omega | (simp only [lenS]; try omega)) only [go_sem, reduceAdd, reduceEqDiff, reduceLeDiff, reduceSub]
            refine ⟨d - 1, by omega, k + 1, c', by omega, hok', hc0', by omega, by omega, by rw [show d - 1 + 1 = d by omega]; exact hrun', .inr ⟨rfl, har'⟩⟩
    · have er : exRun n b (d + 1) k c = c := by
        show (if c.code ≠ 0 then c else if k < c.sp.ms.length then _ else c) = _
        rw [if_neg (by omega), if_neg hkl]
      rw [er] at hrun
      subst hrun
      rcases hcs with ⟨rfl, har⟩ | ⟨rfl, har⟩
      · simp (maxSteps := 2000000) (disch := first | omega | (simp only [lenS]; try omega)) only [go_sem, reduceAdd, reduceEqDiff, reduceLeDiff, reduceSub]
        simp [exPV, w67, hc0, arcPV, har]
      · simp (maxSteps := 2000000) (disch := first | omega | (simp only [lenS]; try omega)) only [go_sem, reduceAdd, reduceEqDiff, reduceLeDiff, reduceSub]
        simp [exPV, w67, hc0, arcPV, har]
theorem wg1 (ms : List (List Int)) (ar : List Arc3) (S : List Int) (hm : ms.length < 2^36) (hr : ar.length < 2^40) (hS : S.length < 2^40) (ha : z3u ar ms.length) (hk : ∀ k ∈ S, 0 ≤ k ∧ k < ms.length) :
    C w9b [.agg [rows ms, .sl true 3 (ar.map encA)], ints S] [] = some (.un wg6 true 1 ((toL ar ms.length S).map PV.bool), []) := by
  refine w2y ?_
  simp (maxSteps := 2000000) (disch := first | omega | (simp only [lenS]; try omega)) only [wdo, go_sem, reduceAdd, reduceEqDiff, reduceLeDiff, reduceSub]
  generalize hn : ms.length = n at *
  refine W_for S.length (fun k s => s = ⟨[.any, .any, .ptr 0 0, .any, .ref 1 1 0 n, .any, .any, .any, ints S, I S.length, I k, .any, .any, .any, .any, .any, .any, .any], [.box wgb [rows ms, .sl true 3 (ar.map encA)], .row wg6 true 1 ((putS (List.replicate n false) (S.take k)).map PV.bool)]⟩) ?_ ?_ ?_
  · simp (maxSteps := 2000000) (disch := first | omega | (simp only [lenS]; try omega)) only [go_sem, reduceAdd, reduceEqDiff, reduceLeDiff, reduceSub, hn]
    simp [putS]
  · rintro k s hk2 rfl
    have h1 := hk _ (List.getElem_mem hk2)
    have h2 : (putS (List.replicate n false) (S.take k)).length = n := by rw [zyl, List.length_replicate]
    rw [zyn hk2]
    generalize putS (List.replicate n false) (S.take k) = c at *
    simp (maxSteps := 2000000) (disch := first | omega | (simp only [lenS]; try omega)) only [go_sem, reduceAdd, reduceEqDiff, reduceLeDiff, reduceSub, h2]
    rw [List.map_set]; rfl
  · rintro s rfl
    rw [List.take_length]
    have e1 : (putS (List.replicate n false) S).length = n := by rw [zyl, List.length_replicate]
    have e2 : hasS S (putS (List.replicate n false) S) := zyk (fun k hk' => by have := hk k hk'; simp; omega)
    have e3 : sndB ar S (putS (List.replicate n false) S) := zym (fun k hk' => ⟨(hk k hk').1, hk'⟩) z15v
    generalize putS (List.replicate n false) S = c0 at *
    simp (maxSteps := 2000000) (disch := first | omega | (simp only [lenS]; try omega)) only [go_sem, reduceAdd, reduceEqDiff, reduceLeDiff, reduceSub]
    refine z1a (fun j s => ∃ c : List Bool, c.length = n ∧ hasS S c ∧ sndB ar S c ∧ ((j = cntF c + 1 ∧ s = ⟨[.any, .any, .ptr 0 0, .any, .ref 1 1 0 n, .any, .bool true, .any, .any, .any, .any, .any, .any, .any, .any, .any, .any, .any], [.box wgb [rows ms, .sl true 3 (ar.map encA)], .row wg6 true 1 (c.map PV.bool)]⟩) ∨ (j = 0 ∧ clsB ar c ∧ s = ⟨[.any, .any, .ptr 0 0, .any, .ref 1 1 0 n, .any, .bool false, .any, .any, .any, .any, .any, .any, .any, .any, .any, .any, .any], [.box wgb [rows ms, .sl true 3 (ar.map encA)], .row wg6 true 1 (c.map PV.bool)]⟩))) (cntF c0 + 1) ?_ ?_
    · refine ⟨c0, e1, e2, e3, .inl ⟨rfl, ?_⟩⟩
      simp (maxSteps := 2000000) (disch := first | omega | (simp only [lenS]; try omega)) only [go_sem, reduceAdd, reduceEqDiff, reduceLeDiff, reduceSub]
    · rintro j s ⟨c, h1, h2, h3, ⟨rfl, rfl⟩ | ⟨rfl, h4, rfl⟩⟩
      · simp (maxSteps := 2000000) (disch := first | omega | (simp only [lenS]; try omega)) only [go_sem, reduceAdd, reduceEqDiff, reduceLeDiff, reduceSub]
        refine W_for ar.length (fun k s => s = ⟨[.any, .any, .ptr 0 0, .any, .ref 1 1 0 n, .any, .bool (passK ar c k).2, .any, .any, .any, .any, .any, .any, .sl true 3 (ar.map encA), I ar.length, I k, .any, .any], [.box wgb [rows ms, .sl true 3 (ar.map encA)], .row wg6 true 1 ((passK ar c k).1.map PV.bool)]⟩) ?_ ?_ ?_
        · simp (maxSteps := 2000000) (disch := first | omega | (simp only [lenS]; try omega)) only [go_sem, reduceAdd, reduceEqDiff, reduceLeDiff, reduceSub]
          rfl
        · rintro k s hk2 rfl
          obtain ⟨a1, a2, a3, a4⟩ := ha _ (List.getElem_mem hk2)
          have hl := zwu (ar := ar) (c := c) k
          have y := zwx (c := c) hk2
          have z := zwv (c := c) hk2
          generalize passK ar c (k + 1) = P' at *
          generalize passK ar c k = P at *
          obtain ⟨d, m⟩ := P
          simp only at hl y z
          generalize hA : ar[k] = a at *
          have g1 : d[a.dst.toNat]? = some (d[a.dst.toNat]'(by omega)) := List.getElem?_eq_getElem (by omega)
          have g2 : d[a.src.toNat]? = some (d[a.src.toNat]'(by omega)) := List.getElem?_eq_getElem (by omega)
          rw [g1, g2] at y z
          generalize d[a.dst.toNat]'(by omega) = bd at *
          generalize d[a.src.toNat]'(by omega) = bs at *
          simp (maxSteps := 2000000) (disch := first | omega | (simp only [lenS]; try omega)) only [go_sem, reduceAdd, reduceEqDiff, reduceLeDiff, reduceSub, hA, hl, g1, g2]
          refine ⟨fun e => ⟨fun e2 => ?_, fun e2 => ?_⟩, fun e => ?_⟩
          · rw [z (by simp [e2])]; rfl
          · rw [y (by rw [e]) (by rw [e2])]; rfl
          · rw [z (by simp [e])]; rfl
        · rintro s rfl
          simp (maxSteps := 2000000) (disch := first | omega | (simp only [lenS]; try omega)) only [go_sem, reduceAdd, reduceEqDiff, reduceLeDiff, reduceSub]
          have p1 := zwr (ar := ar) (c := c) ar.length
          have p2 := zwu (ar := ar) (c := c) ar.length
          have p3 := zwt (ar := ar) h2 ar.length
          have p4 := zww ha h3 ar.length
          have p5 := zwq h1 ha
          generalize passK ar c ar.length = P at *
          obtain ⟨d, m⟩ := P
          simp only at p1 p2 p3 p4 p5 ⊢
          cases m with
          | true => exact ⟨cntF d + 1, by have := p1.2.1 rfl; omega, d, by omega, p3, p4, .inl ⟨rfl, rfl⟩⟩
          | false => exact ⟨0, by omega, c, h1, h2, h3, .inr ⟨rfl, p5 rfl, by rw [p1.2.2 rfl]⟩⟩
      · simp (maxSteps := 2000000) (disch := first | omega | (simp only [lenS]; try omega)) only [go_sem, reduceAdd, reduceEqDiff, reduceLeDiff, reduceSub, h1]
        rw [z18r h1 hk h3 h2 h4]
theorem wg2 (ms : List (List Int)) (ar : List Arc3) (p : Nat) (hm : ms.length < 2^30) (hr : ar.length < 2^35) (hb : Bfs ar ms.length) (hp : p < ms.length) :
    C w9c [.agg [rows ms, .sl true 3 (ar.map encA)], I p] [] = some (.un t_int true 1 ((tw ar p).map I), []) := by
  have hA := hb.inn
  refine w2z ?_
  simp (maxSteps := 2000000) (disch := first | omega | (simp only [lenS]; try omega)) only [wdp, go_sem, reduceAdd, reduceEqDiff, reduceLeDiff, reduceSub]
  generalize hn : ms.length = n at *
  refine W_for n (fun k s => s = ⟨[.any, I p, .ptr 0 0, .any, .ref 1 1 0 n, .any, .any, .any, .any, .any, .any, .any, I n, I k, .any, .any, .any, .any, .any, .any, .any, .any, .any, .any, .any, .any, .any], [.box wgb [rows ms, .sl true 3 (ar.map encA)], .row t_int true 1 ((List.replicate k (-1 : Int) ++ List.replicate (n - k) 0).map I)]⟩) ?_ ?_ ?_
  · simp (maxSteps := 2000000) (disch := first | omega | (simp only [lenS]; try omega)) only [go_sem, reduceAdd, reduceEqDiff, reduceLeDiff, reduceSub, hn]
    simp
  · rintro k s hk rfl
    have e1 : (List.replicate k (-1 : Int) ++ List.replicate (n - k) 0).length = n := by simp; omega
    have e2 : List.replicate (k + 1) (-1 : Int) ++ List.replicate (n - (k + 1)) 0 = (List.replicate k (-1 : Int) ++ List.replicate (n - k) 0).set k (-1) := by
      rw [List.set_append, if_neg (by simp), List.length_replicate, Nat.sub_self, show n - k = (n - (k + 1)) + 1 by omega, List.replicate_succ (n := n - (k + 1)), List.set_cons_zero, List.replicate_succ' (n := k)]
      simp
    rw [e2]
    generalize List.replicate k (-1 : Int) ++ List.replicate (n - k) 0 = c at *
    simp (maxSteps := 2000000) (disch := first | omega | (simp only [lenS]; try omega)) only [go_sem, reduceAdd, reduceEqDiff, reduceLeDiff, reduceSub, e1]
    rw [List.map_set]; rfl
  · rintro s rfl
    have hst := FQ.start (ar := ar) (p := (p : Int)) (n := n) hA (by omega)
    have hbs := z6h hp
    have e1 : (List.replicate n (-1 : Int)).length = n := List.length_replicate
    rw [Nat.sub_self, List.replicate_zero, List.append_nil]
    have e2 : (List.replicate n (-1 : Int)).set p 0 = (List.replicate n (-1 : Int)).set (p : Int).toNat 0 := rfl
    rw [Int.toNat_natCast] at hst
    generalize List.replicate n (-1 : Int) = F0 at *
    simp (maxSteps := 2000000) (disch := first | omega | (simp only [lenS]; try omega)) only [go_sem, reduceAdd, reduceEqDiff, reduceLeDiff, reduceSub, e1]
    refine z1a (fun j s => ∃ (F q : List Int) (V : PV) (K : Blk), ((V = .ref 2 1 0 q.length ∧ K = .row t_int true 1 (q.map I)) ∨ ∃ pre : List Int, V = .qref 2 1 pre.length q.length ∧ K = .que t_int 1 ((pre ++ q).map I)) ∧ FQ ar p n F q (fun _ => False) ∧ bndF n F ∧ j = cntU F + q.length ∧ q.length + cntU F ≤ 2^31 ∧ s = ⟨[.any, I p, .ptr 0 0, .any, .ref 1 1 0 n, .any, V, .any, .any, .any, .any, .any, .any, .any, .any, .any, .any, .any, .any, .any, .any, .any, .any, .any, .any, .any, .any], [.box wgb [rows ms, .sl true 3 (ar.map encA)], .row t_int true 1 (F.map I), K]⟩) (cntU (F0.set p 0) + 1) ?_ ?_
    · refine ⟨_, [(p : Int)], _, _, .inl ⟨rfl, rfl⟩, hst, hbs, rfl, ?_, ?_⟩
      · have : cntU (F0.set p 0) ≤ (F0.set p 0).length := List.countP_le_length
        rw [List.length_set] at this
        simp only [List.length_cons, List.length_nil]; omega
      · simp (maxSteps := 2000000) (disch := first | omega | (simp only [lenS]; try omega)) only [go_sem, reduceAdd, reduceEqDiff, reduceLeDiff, reduceSub]
        first | done | (rw [List.map_set]; rfl)
    · rintro j s ⟨F, q, V, K, hV, hF, hbd, rfl, hle, rfl⟩
      have hFl := hF.len
      cases q with
      | nil =>
        have hfar := hF.end_ hA (by omega)
        have h00 : 0 < n := by omega
        obtain ⟨d0, hd0, hdn⟩ := hfar.begin_ hb hp
        have hnn := hfar.nonneg
        rcases hV with ⟨rfl, rfl⟩ | ⟨pre, rfl, rfl⟩
        all_goals
          simp (maxSteps := 2000000) (disch := first | omega | (simp only [lenS]; try omega)) only [go_sem, reduceAdd, reduceEqDiff, reduceLeDiff, reduceSub]
          refine z1a (fun j s => ∃ (t : Nat) (W : List Int), t < n ∧ F[t]? = some (j : Int) ∧ W.length + j ≤ d0 ∧ (∀ V, Gd ar F p t V → Gd ar F p 0 (W ++ V)) ∧ s = ⟨[.any, I p, .ptr 0 0, .any, .ref 1 1 0 n, .any, .any, .any, .any, .ref 2 1 0 W.length, I t, .any, .any, .any, .any, .any, .any, .any, .any, .any, .any, .any, .any, .any, .any, .any, .any], [.box wgb [rows ms, .sl true 3 (ar.map encA)], .row t_int true 1 (F.map I), .row t_int true 1 (W.map I)]⟩) d0 ?_ ?_
          · refine ⟨0, [], h00, hd0, by simp, fun V h => h, ?_⟩
            simp (maxSteps := 2000000) (disch := first | omega | (simp only [lenS]; try omega)) only [go_sem, reduceAdd, reduceEqDiff, reduceLeDiff, reduceSub]
            first | done | rfl
          · rintro j s ⟨t, W, ht, hFt, hWj, hG, rfl⟩
            by_cases htp : t = p
            · subst htp
              have hW := gd_tw hb hp hfar (by simpa using hG [] .refl)
              subst hW
              simp (maxSteps := 2000000) (disch := first | omega | (simp only [lenS]; try omega)) only [go_sem, reduceAdd, reduceEqDiff, reduceLeDiff, reduceSub]
            · obtain ⟨i0, hi0, hs0, hf0⟩ := hfar.near hA ht htp hFt
              have hj0 := hfar.pos ht htp hFt
              have htp2 : ¬ ((t : Int) = (p : Int)) := by omega
              simp (maxSteps := 2000000) (disch := first | omega | (simp only [lenS]; try omega)) only [go_sem, reduceAdd, reduceEqDiff, reduceLeDiff, reduceSub, htp2]
              refine W_for ar.length (fun k s => (∀ i, i < k → ∀ hi : i < ar.length, ar[i].src = t → F[ar[i].dst.toNat]? ≠ some ((j : Int) - 1)) ∧ s = ⟨[.any, I p, .ptr 0 0, .any, .ref 1 1 0 n, .any, .any, .any, .any, .ref 2 1 0 W.length, I t, .any, .any, .any, .any, .any, .any, .any, .any, .any, .any, .any, .sl true 3 (ar.map encA), I ar.length, I k, .any, .any], [.box wgb [rows ms, .sl true 3 (ar.map encA)], .row t_int true 1 (F.map I), .row t_int true 1 (W.map I)]⟩) ?_ ?_ ?_
              · simp (maxSteps := 2000000) (disch := first | omega | (simp only [lenS]; try omega)) only [go_sem, reduceAdd, reduceEqDiff, reduceLeDiff, reduceSub]
                exact ⟨fun i hi => by omega, rfl⟩
              · rintro k s hk ⟨hno, rfl⟩
                obtain ⟨a1, a2, a3, a4⟩ := hA _ (List.getElem_mem hk)
                have hlt : ar[k].dst.toNat < F.length := by omega
                obtain ⟨u, g1⟩ : ∃ u, F[ar[k].dst.toNat]? = some u := ⟨_, List.getElem?_eq_getElem hlt⟩
                clear hlt
                have hmore : (ar[k].src = t → F[ar[k].dst.toNat]? ≠ some ((j : Int) - 1)) → ∀ i, i < k + 1 → ∀ hi : i < ar.length, ar[i].src = t → F[ar[i].dst.toNat]? ≠ some ((j : Int) - 1) := by
                  intro h i hi hi2 hs
                  by_cases e : i = k
                  · subst e; exact h hs
                  · exact hno i (by omega) hi2 hs
                have htake : ar[k].src = t → F[ar[k].dst.toNat]? = some ((j : Int) - 1) → ∀ V, Gd ar F p ar[k].dst.toNat V → Gd ar F p 0 ((W ++ [ar[k].by_]) ++ V) := by
                  intro hs hf V hV
                  rw [List.append_assoc]
                  refine hG _ (.step htp hk hs (fun u v hu hv => ?_) (fun i hi hs2 u v hu hv e => ?_) hV)
                  · rw [hf] at hu; rw [hFt] at hv
                    have e1 := Option.some.inj hu; have e2 := Option.some.inj hv; omega
                  · rw [hFt] at hv
                    have e2 := Option.some.inj hv
                    exact hno i hi (by omega) hs2 (by rw [hu, e, ← e2])
                rw [g1] at hmore htake
                generalize hak : ar[k] = a at *
                simp (maxSteps := 2000000) (disch := first | omega | (simp only [lenS]; try omega)) only [go_sem, reduceAdd, reduceEqDiff, reduceLeDiff, reduceSub, hak, hFt, g1, hFl]
                refine ⟨fun e => ⟨fun e2 => ?_, fun e2 => ?_⟩, fun e => ?_⟩
                · refine ⟨j - 1, by omega, a.dst.toNat, W ++ [a.by_], by omega, by rw [g1, e2]; congr 1; omega, by simp only [List.length_append, List.length_cons, List.length_nil]; omega, htake e (by rw [e2]), ?_⟩
                  rw [List.map_append, List.length_append, Int.toNat_of_nonneg a3]; rfl
                · exact ⟨hmore (fun _ h => e2 (Option.some.inj h)), rfl⟩
                · exact ⟨hmore (fun h => (e h).elim), rfl⟩
              · rintro s ⟨hno, rfl⟩
                exact (hno i0 hi0 hi0 hs0 hf0).elim
      | cons x q =>
        obtain ⟨d, hw⟩ := hF.look
        have hpos := hw.pos
        simp only [List.length_cons] at hle
        rcases hV with ⟨rfl, rfl⟩ | ⟨pre, rfl, rfl⟩
        · simp (maxSteps := 2000000) (disch := first | omega | (simp only [lenS]; try omega)) only [go_sem, reduceAdd, reduceEqDiff, reduceLeDiff, reduceSub, Int.toNat_zero, List.getElem_cons_zero, Int.toNat_one, Nat.add_sub_cancel]
          obtain ⟨P, hP⟩ : ∃ P : List Int, P = [x] := ⟨_, rfl⟩
          refine W_for ar.length (fun m s => ∃ (F' pre' q' : List Int), FW ar p n x d m F' q' ∧ bndF n F' ∧ cntU F' + q'.length ≤ cntU F + q.length ∧ s = ⟨[.any, I p, .ptr 0 0, .any, .ref 1 1 0 n, .any, .qref 2 1 pre'.length q'.length, I x, .any, .any, .any, .any, .any, .any, .any, .any, .sl true 3 (ar.map encA), I ar.length, I m, .any, .any, .any, .any, .any, .any, .any, .any], [.box wgb [rows ms, .sl true 3 (ar.map encA)], .row t_int true 1 (F'.map I), .que t_int 1 ((pre' ++ q').map I)]⟩) ?_ ?_ ?_
          · refine ⟨F, P, q, hw, hbd, Nat.le_refl _, ?_⟩
            simp (maxSteps := 2000000) (disch := first | omega | (simp only [lenS]; try omega)) only [go_sem, reduceAdd, reduceEqDiff, reduceLeDiff, reduceSub]
            rw [hP]
            first
              | rfl
              | (rw [List.length_append, hL]; rfl)
          · rintro m s hm2 ⟨F', pre', q', h1, h2, h3, rfl⟩
            obtain ⟨a1, a2, a3, a4⟩ := hA _ (List.getElem_mem hm2)
            have hFl' := h1.len
            have hlt : ar[m].src.toNat < F'.length := by omega
            obtain ⟨u, g1⟩ : ∃ u, F'[ar[m].src.toNat]? = some u := ⟨_, List.getElem?_eq_getElem hlt⟩
            clear hlt
            have g2 := h1.at_
            have hdb := h2 _ _ g2
            have hu := h1.val _ _ g1
            have o1 := h1.old hm2
            have o2 := h1.new hA hm2
            have hcs := z9p (F := F') (k := ar[m].src.toNat) (v := (d : Int) + 1)
            have hbs := z6g (y := ar[m].src.toNat) h2 g2
            have hdrop : ((pre' ++ q').map I).drop pre'.length = q'.map I := by rw [← List.map_drop, List.drop_left]
            have hLl : (pre' ++ q').length = pre'.length + q'.length := List.length_append
            generalize hL' : pre' ++ q' = L' at *
            generalize hak : ar[m] = a at *
            simp (maxSteps := 2000000) (disch := first | omega | (simp only [lenS]; try omega)) only [go_sem, reduceAdd, reduceEqDiff, reduceLeDiff, reduceSub, hak, g1, g2, hFl', hLl, hdrop]
            refine ⟨fun e => ⟨fun hneg => ?_, fun hp' => ?_⟩, fun e => ?_⟩
            · have hu1 : u = -1 := by rcases hu with h | ⟨d', h, _⟩ <;> omega
              subst hu1
              have := hcs g1 (by omega)
              refine ⟨_, [], q' ++ [a.src], o2 e g1, hbs g1, by rw [List.length_append]; simp only [List.length_cons, List.length_nil]; omega, ?_⟩
              rw [List.nil_append, List.map_append, List.map_set, List.length_append]; rfl
            · exact ⟨F', pre', q', o1 (fun _ => ⟨u, g1, hp'⟩), h2, h3, by rw [hL']; rfl⟩
            · exact ⟨F', pre', q', o1 (fun h => (e h).elim), h2, h3, by rw [hL']; rfl⟩
          · rintro s ⟨F', pre', q', h1, h2, h3, rfl⟩
            simp (maxSteps := 2000000) (disch := first | omega | (simp only [lenS]; try omega)) only [go_sem, reduceAdd, reduceEqDiff, reduceLeDiff, reduceSub]
            exact ⟨cntU F' + q'.length, by omega, F', q', _, _, .inr ⟨pre', rfl, rfl⟩, h1.next, h2, rfl, by omega, rfl⟩
        · have hx : (pre ++ x :: q)[pre.length]? = some x := by simp
          have hLl : (pre ++ x :: q).length = pre.length + q.length + 1 := by simp; omega
          have hL : (pre ++ x :: q) = (pre ++ [x]) ++ q := by simp
          obtain ⟨P, hP⟩ : ∃ P : List Int, P = pre ++ [x] := ⟨_, rfl⟩
          generalize pre ++ x :: q = L at *
          have hx' : L[pre.length]'(by omega) = x := by rw [List.getElem?_eq_getElem (by omega)] at hx; exact Option.some.inj hx
          simp (maxSteps := 2000000) (disch := first | omega | (simp only [lenS]; try omega)) only [go_sem, reduceAdd, reduceEqDiff, reduceLeDiff, reduceSub, Int.toNat_zero, hx, hx', hLl, Int.toNat_one, Nat.add_sub_cancel]
          refine W_for ar.length (fun m s => ∃ (F' pre' q' : List Int), FW ar p n x d m F' q' ∧ bndF n F' ∧ cntU F' + q'.length ≤ cntU F + q.length ∧ s = ⟨[.any, I p, .ptr 0 0, .any, .ref 1 1 0 n, .any, .qref 2 1 pre'.length q'.length, I x, .any, .any, .any, .any, .any, .any, .any, .any, .sl true 3 (ar.map encA), I ar.length, I m, .any, .any, .any, .any, .any, .any, .any, .any], [.box wgb [rows ms, .sl true 3 (ar.map encA)], .row t_int true 1 (F'.map I), .que t_int 1 ((pre' ++ q').map I)]⟩) ?_ ?_ ?_
          · refine ⟨F, P, q, hw, hbd, Nat.le_refl _, ?_⟩
            simp (maxSteps := 2000000) (disch := first | omega | (simp only [lenS]; try omega)) only [go_sem, reduceAdd, reduceEqDiff, reduceLeDiff, reduceSub]
            rw [hP]
            first
              | rfl
              | (rw [List.length_append, hL]; rfl)
          · rintro m s hm2 ⟨F', pre', q', h1, h2, h3, rfl⟩
            obtain ⟨a1, a2, a3, a4⟩ := hA _ (List.getElem_mem hm2)
            have hFl' := h1.len
            have hlt : ar[m].src.toNat < F'.length := by omega
            obtain ⟨u, g1⟩ : ∃ u, F'[ar[m].src.toNat]? = some u := ⟨_, List.getElem?_eq_getElem hlt⟩
            clear hlt
            have g2 := h1.at_
            have hdb := h2 _ _ g2
            have hu := h1.val _ _ g1
            have o1 := h1.old hm2
            have o2 := h1.new hA hm2
            have hcs := z9p (F := F') (k := ar[m].src.toNat) (v := (d : Int) + 1)
            have hbs := z6g (y := ar[m].src.toNat) h2 g2
            have hdrop : ((pre' ++ q').map I).drop pre'.length = q'.map I := by rw [← List.map_drop, List.drop_left]
            have hLl : (pre' ++ q').length = pre'.length + q'.length := List.length_append
            generalize hL' : pre' ++ q' = L' at *
            generalize hak : ar[m] = a at *
            simp (maxSteps := 2000000) (disch := first | omega | (simp only [lenS]; try omega)) only [go_sem, reduceAdd, reduceEqDiff, reduceLeDiff, reduceSub, hak, g1, g2, hFl', hLl, hdrop]
            refine ⟨fun e => ⟨fun hneg => ?_, fun hp' => ?_⟩, fun e => ?_⟩
            · have hu1 : u = -1 := by rcases hu with h | ⟨d', h, _⟩ <;> omega
              subst hu1
              have := hcs g1 (by omega)
              refine ⟨_, [], q' ++ [a.src], o2 e g1, hbs g1, by rw [List.length_append]; simp only [List.length_cons, List.length_nil]; omega, ?_⟩
              rw [List.nil_append, List.map_append, List.map_set, List.length_append]; rfl
            · exact ⟨F', pre', q', o1 (fun _ => ⟨u, g1, hp'⟩), h2, h3, by rw [hL']; rfl⟩
            · exact ⟨F', pre', q', o1 (fun h => (e h).elim), h2, h3, by rw [hL']; rfl⟩
          · rintro s ⟨F', pre', q', h1, h2, h3, rfl⟩
            simp (maxSteps := 2000000) (disch := first | omega | (simp only [lenS]; try omega)) only [go_sem, reduceAdd, reduceEqDiff, reduceLeDiff, reduceSub]
            exact ⟨cntU F' + q'.length, by omega, F', q', _, _, .inr ⟨pre', rfl, rfl⟩, h1.next, h2, rfl, by omega, rfl⟩
theorem wfi (a b : List Int) (hl : a.length = b.length) (hb : b.length < 2^62) : C w8t [ints a, ints b] [] = some (.bool (zaa a b), []) := by
  refine w2g ?_
  simp (maxSteps := 2000000) (disch := first | omega | (simp only [lenS]; try omega)) only [wd6, go_sem, reduceAdd, reduceEqDiff, reduceLeDiff, reduceSub]
  refine W_for b.length (fun k s => s = ⟨[ints a, .any, .any, .any, .any, ints b, I b.length, I k, .any, .any], []⟩ ∧ ((a.zip b).take k).all (fun p => decide (p.2 ≤ p.1)) = true) ?_ ?_ ?_
  · simp (maxSteps := 2000000) (disch := first | omega | (simp only [lenS]; try omega)) only [go_sem, reduceAdd, reduceEqDiff, reduceLeDiff, reduceSub]
    rfl
  · rintro k s hk ⟨rfl, hall⟩
    simp (maxSteps := 2000000) (disch := first | omega | (simp only [lenS]; try omega)) only [go_sem, reduceAdd, reduceEqDiff, reduceLeDiff, reduceSub]
    have hz : k < (a.zip b).length := by simp; omega
    refine ⟨fun h => ?_, fun h => ⟨rfl, z2s hz hall (by simp; omega)⟩⟩
    have : zaa a b = false := z2r hz (by simp; omega)
    rw [this]
  · rintro s ⟨rfl, hall⟩
    simp (maxSteps := 2000000) (disch := first | omega | (simp only [lenS]; try omega)) only [go_sem, reduceAdd, reduceEqDiff, reduceLeDiff, reduceSub]
    rw [List.take_of_length_le (by simp; omega)] at hall
    unfold zaa
    rw [hall]
theorem wfy (ms : List (List Int)) (ar : List Arc3) (n : Net) (hr : ar.length < 2^35) (ht : n.tr.length < 2^20) : C w98 [encN n, .agg [rows ms, .sl true 3 (ar.map encA)]] [] = some (.un t_int true 1 ((deadK ar n.tr.length).map I), []) := by
  refine w2v ?_
  simp (maxSteps := 2000000) (disch := first | omega | (simp only [lenS]; try omega)) only [wdl, go_sem, reduceAdd, reduceEqDiff, reduceLeDiff, reduceSub]
  refine W_for n.tr.length (fun k s => s = ⟨[.any, .any, .any, .ptr 0 0, .any, .ref 1 1 0 (deadK ar k).length, .any, .any, .any, I n.tr.length, I k, .any, .any, .any, .any, .any, .any], [.box wgb [rows ms, .sl true 3 (ar.map encA)], .row t_int true 1 ((deadK ar k).map I)]⟩) ?_ ?_ ?_
  · simp (maxSteps := 2000000) (disch := first | omega | (simp only [lenS]; try omega)) only [go_sem, reduceAdd, reduceEqDiff, reduceLeDiff, reduceSub]
    rfl
  · rintro k s hk rfl
    have hl := zad ar k
    have hst := zae ar k
    rw [hst]
    generalize deadK ar k = D at *
    simp (maxSteps := 2000000) (disch := first | omega | (simp only [lenS]; try omega)) only [go_sem, reduceAdd, reduceEqDiff, reduceLeDiff, reduceSub]
    refine W_for ar.length (fun j s => s = ⟨[.any, .any, .any, .ptr 0 0, .any, .ref 1 1 0 D.length, I k, .bool ((ar.take j).any fun a => decide (a.by_ = (k : Int))), .any, I n.tr.length, I k, .any, .sl true 3 (ar.map encA), I ar.length, I j, .any, .any], [.box wgb [rows ms, .sl true 3 (ar.map encA)], .row t_int true 1 (D.map I)]⟩) ?_ ?_ ?_
    · simp (maxSteps := 2000000) (disch := first | omega | (simp only [lenS]; try omega)) only [go_sem, reduceAdd, reduceEqDiff, reduceLeDiff, reduceSub]
      rfl
    · rintro j s hj rfl
      have e1 : (ar.take (j + 1)).any (fun a => decide (a.by_ = (k : Int))) = ((ar.take j).any (fun a => decide (a.by_ = (k : Int))) || decide (ar[j].by_ = (k : Int))) := by
        rw [List.take_succ_eq_append_getElem hj, List.any_append]; simp
      rw [e1]
      generalize (ar.take j).any (fun a => decide (a.by_ = (k : Int))) = q at *
      generalize hA : ar[j] = a at *
      cases q with
      | true =>
        simp (maxSteps := 2000000) (disch := first | omega | (simp only [lenS]; try omega)) only [go_sem, reduceAdd, reduceEqDiff, reduceLeDiff, reduceSub, hA]
        first | done | rfl | simp
      | false =>
        simp (maxSteps := 2000000) (disch := first | omega | (simp only [lenS]; try omega)) only [go_sem, reduceAdd, reduceEqDiff, reduceLeDiff, reduceSub, hA]
        first | done | rfl | (by_cases h : a.by_ = (k : Int) <;> simp [h])
    · rintro s rfl
      rw [List.take_length]
      cases ha : ar.any fun a => decide (a.by_ = (k : Int)) with
      | true =>
        simp (maxSteps := 2000000) (disch := first | omega | (simp only [lenS]; try omega)) only [go_sem, reduceAdd, reduceEqDiff, reduceLeDiff, reduceSub]
        simp
      | false =>
        simp (maxSteps := 2000000) (disch := first | omega | (simp only [lenS]; try omega)) only [go_sem, reduceAdd, reduceEqDiff, reduceLeDiff, reduceSub]
        simp
  · rintro s rfl
    simp (maxSteps := 2000000) (disch := first | omega | (simp only [lenS]; try omega)) only [go_sem, reduceAdd, reduceEqDiff, reduceLeDiff, reduceSub]
def vdPV (v : Vd) : PV := .agg [I v.ok, I v.kind, if v.kind = 1 ∨ v.kind = 2 then .un t_int true 1 (v.way.map I) else .nil true 1, I v.dead]
theorem wg4 (f : Fl) (ms : List (List Int)) (ar : List Arc3) (hg : zg7 f = true) (hm : ms.length < 2^30) (hr : ar.length < 2^35) (hb : Bfs ar ms.length) (h0 : 0 < ms.length) (hxs : ∀ x ∈ ms, x.length = f.net.pl.toNat) :
    C w9e [encF f, .agg [rows ms, .sl true 3 (ar.map encA)]] [] = some (vdPV (chkV f.net.tr.length ms ar (oneM f.net.pl.toNat f.dst)), []) := by
  have he := wg5 f hg
  obtain ⟨g1, g2, g3, _⟩ := zga hg
  have hn := zgm g1
  have hEl : (oneM f.net.pl.toNat f.dst).length = f.net.pl.toNat := by simp [oneM]
  have hdd := wfy ms ar f.net hr (by omega)
  have hdl := zad ar f.net.tr.length
  unfold chkV
  generalize oneM f.net.pl.toNat f.dst = E at *
  generalize oneM f.net.pl.toNat f.src = E0 at *
  generalize deadK ar f.net.tr.length = D at *
  have fd := wg0 ms E (by omega) (fun x hx => by have := hxs x hx; omega)
  have hfg := fun h => (zdq (l := ms) (m := E) h).1
  have hS : ∀ k ∈ endS ms E, 0 ≤ k ∧ k < ms.length := by
    intro k hk
    unfold endS at hk
    split at hk
    · rename_i h
      have := hfg h
      rw [List.mem_singleton] at hk
      omega
    · simp at hk
  have hto := wg1 ms ar (endS ms E) (by omega) (by omega) (by unfold endS; split <;> simp) hb.inn hS
  have hcl := z18q ar ms.length (endS ms E)
  have hway := fun p hp => wg2 ms ar p hm hr hb hp
  have hend : endS ms E = if 0 ≤ findM ms E then [findM ms E] else [] := rfl
  generalize endS ms E = S at *
  generalize findM ms E = z at *
  generalize toL ar ms.length S = c at *
  generalize hV : (if 0 ≤ idxI c (fun x => x == false) then (⟨2, 1, tw ar (idxI c (fun x => x == false)).toNat, 0⟩ : Vd) else if 0 ≤ idxI ms (fun m => overB m E) then ⟨2, 2, tw ar (idxI ms (fun m => overB m E)).toNat, 0⟩ else if 0 < D.length then ⟨2, 3, [], D.getD 0 0⟩ else ⟨1, 0, [], 0⟩) = V
  by_cases hz : 0 ≤ z
  · rw [if_pos hz] at hend
    subst hend
    simp only [ints, List.map_cons, List.map_nil] at hto
    refine w31 ?_
    simp (maxSteps := 2000000) (disch := first | omega | (simp only [lenS]; try omega)) only [wdr, go_sem, reduceAdd, reduceEqDiff, reduceLeDiff, reduceSub]
    simp (maxSteps := 2000000) (disch := first | omega | (simp only [lenS]; try omega)) only [go_sem, reduceAdd, reduceEqDiff, reduceLeDiff, reduceSub, he, fd, hz, hto]
    refine W_for c.length (fun k s => s = ⟨[.any, .any, .ptr 0 0, .ptr 1 0, .ptr 2 0, .ref 3 1 0 E.length, .any, .any, .any, .any, .any, .any, .any, .any, .ref 4 1 0 c.length, I c.length, I k, .any, .any, .any, .any, .any, .any, .any, .any], [.box wg8 [I f.net.pl, trs f.net.tr, I f.src, I f.dst], .box wgb [rows ms, .sl true 3 (ar.map encA)], .box wgf [I 0, I 0, .nil true 1, I 0], .row t_int true 1 (E.map I), .row wg6 true 1 (c.map PV.bool)]⟩ ∧ (c.take k).any (fun x => x == false) = false) ?_ ?_ ?_
    · simp (maxSteps := 2000000) (disch := first | omega | (simp only [lenS]; try omega)) only [go_sem, reduceAdd, reduceEqDiff, reduceLeDiff, reduceSub]
      simp
    · rintro k s hk ⟨rfl, h0⟩
      have e1 := z36 (p := fun x : Bool => x == false) hk h0
      have e2 := fun h => zho (p := fun x : Bool => x == false) hk h0 h
      have e3 : c[k]? = some c[k] := List.getElem?_eq_getElem hk
      generalize c[k] = b at *
      cases b with
      | true =>
        simp (maxSteps := 2000000) (disch := first | omega | (simp only [lenS]; try omega)) only [go_sem, reduceAdd, reduceEqDiff, reduceLeDiff, reduceSub, e3]
        exact ⟨rfl, e1 rfl⟩
      | false =>
        have hw := hway k (by omega)
        simp (maxSteps := 2000000) (disch := first | omega | (simp only [lenS]; try omega)) only [go_sem, reduceAdd, reduceEqDiff, reduceLeDiff, reduceSub, e3, hw]
        rw [← hV, e2 rfl, if_pos (by omega), Int.toNat_natCast]; rfl
    · rintro s ⟨rfl, h0⟩
      rw [List.take_length] at h0
      have n1 := zhn h0
      simp (maxSteps := 2000000) (disch := first | omega | (simp only [lenS]; try omega)) only [go_sem, reduceAdd, reduceEqDiff, reduceLeDiff, reduceSub]
      refine W_for ms.length (fun k s => s = ⟨[.any, .any, .ptr 0 0, .ptr 1 0, .ptr 2 0, .ref 3 1 0 E.length, .any, .any, .any, .any, .any, .any, .any, .any, .any, .any, .any, .any, .any, rows ms, I ms.length, I k, .any, .any, .any], [.box wg8 [I f.net.pl, trs f.net.tr, I f.src, I f.dst], .box wgb [rows ms, .sl true 3 (ar.map encA)], .box wgf [I 0, I 0, .nil true 1, I 0], .row t_int true 1 (E.map I)]⟩ ∧ (ms.take k).any (fun m => overB m E) = false) ?_ ?_ ?_
      · simp (maxSteps := 2000000) (disch := first | omega | (simp only [lenS]; try omega)) only [go_sem, reduceAdd, reduceEqDiff, reduceLeDiff, reduceSub]
        simp
      · rintro k s hk ⟨rfl, h0⟩
        have e1 := z36 (p := fun m => overB m E) hk h0
        have e2 := fun h => zho (p := fun m => overB m E) hk h0 h
        have e3 : ms[k]? = some ms[k] := List.getElem?_eq_getElem hk
        have e4 := hxs _ (List.getElem_mem hk)
        have c1 := wfi ms[k] E (by omega) (by omega)
        have c2 := wfo ms[k] E (by omega)
        have hw := hway k hk
        unfold overB at e1 e2
        generalize ms[k] = x at *
        generalize zaa x E = q1 at *
        generalize decide (x = E) = q2 at *
        cases q1 <;> cases q2
        · simp (maxSteps := 2000000) (disch := first | omega | (simp only [lenS]; try omega)) only [go_sem, reduceAdd, reduceEqDiff, reduceLeDiff, reduceSub, e3, c1, c2]
          exact ⟨rfl, e1 rfl⟩
        · simp (maxSteps := 2000000) (disch := first | omega | (simp only [lenS]; try omega)) only [go_sem, reduceAdd, reduceEqDiff, reduceLeDiff, reduceSub, e3, c1, c2]
          exact ⟨rfl, e1 rfl⟩
        · simp (maxSteps := 2000000) (disch := first | omega | (simp only [lenS]; try omega)) only [go_sem, reduceAdd, reduceEqDiff, reduceLeDiff, reduceSub, e3, c1, c2, hw]
          rw [← hV, n1, if_neg (by decide)]
          unfold overB
          rw [e2 rfl, if_pos (by omega), Int.toNat_natCast]; rfl
        · simp (maxSteps := 2000000) (disch := first | omega | (simp only [lenS]; try omega)) only [go_sem, reduceAdd, reduceEqDiff, reduceLeDiff, reduceSub, e3, c1, c2]
          exact ⟨rfl, e1 rfl⟩
      · rintro s ⟨rfl, h0⟩
        rw [List.take_length] at h0
        have n2 := zhn h0
        cases D with
        | nil =>
          simp (maxSteps := 2000000) (disch := first | omega | (simp only [lenS]; try omega)) only [go_sem, reduceAdd, reduceEqDiff, reduceLeDiff, reduceSub, hdd]
          rw [← hV, n1, n2]; rfl
        | cons d D =>
          simp (maxSteps := 2000000) (disch := first | omega | (simp only [lenS]; try omega)) only [go_sem, reduceAdd, reduceEqDiff, reduceLeDiff, reduceSub, hdd, Int.toNat_zero, List.getElem_cons_zero]
          rw [← hV, n1, n2]; rfl
  · rw [if_neg hz] at hend
    subst hend
    simp only [ints, List.map_nil] at hto
    refine w31 ?_
    simp (maxSteps := 2000000) (disch := first | omega | (simp only [lenS]; try omega)) only [wdr, go_sem, reduceAdd, reduceEqDiff, reduceLeDiff, reduceSub]
    simp (maxSteps := 2000000) (disch := first | omega | (simp only [lenS]; try omega)) only [go_sem, reduceAdd, reduceEqDiff, reduceLeDiff, reduceSub, he, fd, hz, hto]
    refine W_for c.length (fun k s => s = ⟨[.any, .any, .ptr 0 0, .ptr 1 0, .ptr 2 0, .ref 3 1 0 E.length, .any, .any, .any, .any, .any, .any, .any, .any, .ref 4 1 0 c.length, I c.length, I k, .any, .any, .any, .any, .any, .any, .any, .any], [.box wg8 [I f.net.pl, trs f.net.tr, I f.src, I f.dst], .box wgb [rows ms, .sl true 3 (ar.map encA)], .box wgf [I 0, I 0, .nil true 1, I 0], .row t_int true 1 (E.map I), .row wg6 true 1 (c.map PV.bool)]⟩ ∧ (c.take k).any (fun x => x == false) = false) ?_ ?_ ?_
    · simp (maxSteps := 2000000) (disch := first | omega | (simp only [lenS]; try omega)) only [go_sem, reduceAdd, reduceEqDiff, reduceLeDiff, reduceSub]
      simp
    · rintro k s hk ⟨rfl, h0⟩
      have e1 := z36 (p := fun x : Bool => x == false) hk h0
      have e2 := fun h => zho (p := fun x : Bool => x == false) hk h0 h
      have e3 : c[k]? = some c[k] := List.getElem?_eq_getElem hk
      generalize c[k] = b at *
      cases b with
      | true =>
        simp (maxSteps := 2000000) (disch := first | omega | (simp only [lenS]; try omega)) only [go_sem, reduceAdd, reduceEqDiff, reduceLeDiff, reduceSub, e3]
        exact ⟨rfl, e1 rfl⟩
      | false =>
        have hw := hway k (by omega)
        simp (maxSteps := 2000000) (disch := first | omega | (simp only [lenS]; try omega)) only [go_sem, reduceAdd, reduceEqDiff, reduceLeDiff, reduceSub, e3, hw]
        rw [← hV, e2 rfl, if_pos (by omega), Int.toNat_natCast]; rfl
    · rintro s ⟨rfl, h0⟩
      rw [List.take_length] at h0
      have n1 := zhn h0
      simp (maxSteps := 2000000) (disch := first | omega | (simp only [lenS]; try omega)) only [go_sem, reduceAdd, reduceEqDiff, reduceLeDiff, reduceSub]
      refine W_for ms.length (fun k s => s = ⟨[.any, .any, .ptr 0 0, .ptr 1 0, .ptr 2 0, .ref 3 1 0 E.length, .any, .any, .any, .any, .any, .any, .any, .any, .any, .any, .any, .any, .any, rows ms, I ms.length, I k, .any, .any, .any], [.box wg8 [I f.net.pl, trs f.net.tr, I f.src, I f.dst], .box wgb [rows ms, .sl true 3 (ar.map encA)], .box wgf [I 0, I 0, .nil true 1, I 0], .row t_int true 1 (E.map I)]⟩ ∧ (ms.take k).any (fun m => overB m E) = false) ?_ ?_ ?_
      · simp (maxSteps := 2000000) (disch := first | omega | (simp only [lenS]; try omega)) only [go_sem, reduceAdd, reduceEqDiff, reduceLeDiff, reduceSub]
        simp
      · rintro k s hk ⟨rfl, h0⟩
        have e1 := z36 (p := fun m => overB m E) hk h0
        have e2 := fun h => zho (p := fun m => overB m E) hk h0 h
        have e3 : ms[k]? = some ms[k] := List.getElem?_eq_getElem hk
        have e4 := hxs _ (List.getElem_mem hk)
        have c1 := wfi ms[k] E (by omega) (by omega)
        have c2 := wfo ms[k] E (by omega)
        have hw := hway k hk
        unfold overB at e1 e2
        generalize ms[k] = x at *
        generalize zaa x E = q1 at *
        generalize decide (x = E) = q2 at *
        cases q1 <;> cases q2
        · simp (maxSteps := 2000000) (disch := first | omega | (simp only [lenS]; try omega)) only [go_sem, reduceAdd, reduceEqDiff, reduceLeDiff, reduceSub, e3, c1, c2]
          exact ⟨rfl, e1 rfl⟩
        · simp (maxSteps := 2000000) (disch := first | omega | (simp only [lenS]; try omega)) only [go_sem, reduceAdd, reduceEqDiff, reduceLeDiff, reduceSub, e3, c1, c2]
          exact ⟨rfl, e1 rfl⟩
        · simp (maxSteps := 2000000) (disch := first | omega | (simp only [lenS]; try omega)) only [go_sem, reduceAdd, reduceEqDiff, reduceLeDiff, reduceSub, e3, c1, c2, hw]
          rw [← hV, n1, if_neg (by decide)]
          unfold overB
          rw [e2 rfl, if_pos (by omega), Int.toNat_natCast]; rfl
        · simp (maxSteps := 2000000) (disch := first | omega | (simp only [lenS]; try omega)) only [go_sem, reduceAdd, reduceEqDiff, reduceLeDiff, reduceSub, e3, c1, c2]
          exact ⟨rfl, e1 rfl⟩
      · rintro s ⟨rfl, h0⟩
        rw [List.take_length] at h0
        have n2 := zhn h0
        cases D with
        | nil =>
          simp (maxSteps := 2000000) (disch := first | omega | (simp only [lenS]; try omega)) only [go_sem, reduceAdd, reduceEqDiff, reduceLeDiff, reduceSub, hdd]
          rw [← hV, n1, n2]; rfl
        | cons d D =>
          simp (maxSteps := 2000000) (disch := first | omega | (simp only [lenS]; try omega)) only [go_sem, reduceAdd, reduceEqDiff, reduceLeDiff, reduceSub, hdd, Int.toNat_zero, List.getElem_cons_zero]
          rw [← hV, n1, n2]; rfl
theorem w69 {f : Fl} {b : Int} (hg : zg7 f = true) (hb : inB 1 400 b = true) : ExOk f.net (oneM f.net.pl.toNat f.src) b (exAll f.net (oneM f.net.pl.toNat f.src) b) ∧ (exAll f.net (oneM f.net.pl.toNat f.src) b).sp.ms.length ≤ 400 ∧ (exAll f.net (oneM f.net.pl.toNat f.src) b).sp.ar.length ≤ 20000 ∧ Bfs (exAll f.net (oneM f.net.pl.toNat f.src) b).sp.ar (exAll f.net (oneM f.net.pl.toNat f.src) b).sp.ms.length ∧ 0 < (exAll f.net (oneM f.net.pl.toNat f.src) b).sp.ms.length ∧ ∀ x ∈ (exAll f.net (oneM f.net.pl.toNat f.src) b).sp.ms, x.length = f.net.pl.toNat := by
  have h1 := zt6 hg
  simp only [inB, Bool.and_eq_true, decide_eq_true_eq] at hb
  have f1 := (zbq h1 hb.1).1
  have hl := f1.lenb
  refine ⟨f1, by omega, zbn (zgm (zov h1).1).2.2.1 hb.2, zbo h1 hb.1, ?_, fun x hx => ?_⟩
  · have := f1.first
    rcases Nat.eq_zero_or_pos (exAll f.net (oneM f.net.pl.toNat f.src) b).sp.ms.length with h | h
    · rw [List.length_eq_zero_iff.1 h] at this; simp at this
    · exact h
  · have := zge (zov (f1.good x hx)).2
    omega
theorem wf5 (f : Fl) (b : Int) (hg : zg7 f = true) (hb : inB 1 400 b = true) (hf : smN f.net) : C w8g [encF f, I b] [] = some (.tup [vdPV (sndV f b), .bool true], []) := by
  have ha := wg3 f b hf
  rw [hg, hb] at ha
  have he := wg5 f hg
  have hx := wfz f.net (oneM f.net.pl.toNat f.src) b (zt6 hg) (by simp only [inB, Bool.and_eq_true, decide_eq_true_eq] at hb; omega)
  obtain ⟨f1, f2, f3, f4, f5, f6⟩ := w69 hg hb
  unfold sndV
  have hcd := zbp f.net (oneM f.net.pl.toNat f.src) b
  have hck := wg4 f (exAll f.net (oneM f.net.pl.toNat f.src) b).sp.ms (exAll f.net (oneM f.net.pl.toNat f.src) b).sp.ar hg (by omega) (by omega) f4 f5 f6
  have hwl := z8m (nt := f.net.tr.length) (E := oneM f.net.pl.toNat f.dst) f4
  have hcw := z8n f.net.tr.length (exAll f.net (oneM f.net.pl.toNat f.src) b).sp.ms (exAll f.net (oneM f.net.pl.toNat f.src) b).sp.ar (oneM f.net.pl.toNat f.dst)
  generalize chkV f.net.tr.length (exAll f.net (oneM f.net.pl.toNat f.src) b).sp.ms (exAll f.net (oneM f.net.pl.toNat f.src) b).sp.ar (oneM f.net.pl.toNat f.dst) = V at *
  generalize exAll f.net (oneM f.net.pl.toNat f.src) b = R at *
  have hEl : (oneM f.net.pl.toNat f.src).length = f.net.pl.toNat := by simp [oneM]
  generalize oneM f.net.pl.toNat f.src = E0 at *
  generalize oneM f.net.pl.toNat f.dst = E at *
  by_cases hc : R.code = 0
  · rw [if_pos hc]
    unfold vdPV at hck
    by_cases hk : V.kind = 1 ∨ V.kind = 2
    · rw [if_pos hk] at hck
      have e1 : vdPV V = .agg [I V.ok, I V.kind, .un t_int true 1 (V.way.map I), I V.dead] := by unfold vdPV; rw [if_pos hk]
      by_cases hl : V.way.length ≤ 60
      · rw [if_pos hl, e1]
        by_cases har : R.sp.ar = []
        · simp only [exPV, w67, arcPV, hc, har, if_true] at hx
          simp only [har, List.map_nil] at hck
          refine w23 ?_
          simp (maxSteps := 2000000) (disch := first | omega | (simp only [lenS]; try omega)) only [wct, go_sem, reduceAdd, reduceEqDiff, reduceLeDiff, reduceSub]
          simp (maxSteps := 2000000) (disch := first | omega | (simp only [lenS]; try omega)) only [go_sem, reduceAdd, reduceEqDiff, reduceLeDiff, reduceSub, ha, he, hx, hck]
          first | done | rfl
        · simp only [exPV, w67, arcPV, hc, har, if_true, if_false] at hx
          refine w23 ?_
          simp (maxSteps := 2000000) (disch := first | omega | (simp only [lenS]; try omega)) only [wct, go_sem, reduceAdd, reduceEqDiff, reduceLeDiff, reduceSub]
          simp (maxSteps := 2000000) (disch := first | omega | (simp only [lenS]; try omega)) only [go_sem, reduceAdd, reduceEqDiff, reduceLeDiff, reduceSub, ha, he, hx, hck]
          first | done | rfl
      · rw [if_neg hl]
        by_cases har : R.sp.ar = []
        · simp only [exPV, w67, arcPV, hc, har, if_true] at hx
          simp only [har, List.map_nil] at hck
          refine w23 ?_
          simp (maxSteps := 2000000) (disch := first | omega | (simp only [lenS]; try omega)) only [wct, go_sem, reduceAdd, reduceEqDiff, reduceLeDiff, reduceSub]
          simp (maxSteps := 2000000) (disch := first | omega | (simp only [lenS]; try omega)) only [go_sem, reduceAdd, reduceEqDiff, reduceLeDiff, reduceSub, ha, he, hx, hck]
          first | done | rfl
        · simp only [exPV, w67, arcPV, hc, har, if_true, if_false] at hx
          refine w23 ?_
          simp (maxSteps := 2000000) (disch := first | omega | (simp only [lenS]; try omega)) only [wct, go_sem, reduceAdd, reduceEqDiff, reduceLeDiff, reduceSub]
          simp (maxSteps := 2000000) (disch := first | omega | (simp only [lenS]; try omega)) only [go_sem, reduceAdd, reduceEqDiff, reduceLeDiff, reduceSub, ha, he, hx, hck]
          first | done | rfl
    · rw [if_neg hk] at hck
      have e1 : vdPV V = .agg [I V.ok, I V.kind, .nil true 1, I V.dead] := by unfold vdPV; rw [if_neg hk]
      rw [hcw hk, if_pos (by simp), e1]
      by_cases har : R.sp.ar = []
      · simp only [exPV, w67, arcPV, hc, har, if_true] at hx
        simp only [har, List.map_nil] at hck
        refine w23 ?_
        simp (maxSteps := 2000000) (disch := first | omega | (simp only [lenS]; try omega)) only [wct, go_sem, reduceAdd, reduceEqDiff, reduceLeDiff, reduceSub]
        simp (maxSteps := 2000000) (disch := first | omega | (simp only [lenS]; try omega)) only [go_sem, reduceAdd, reduceEqDiff, reduceLeDiff, reduceSub, ha, he, hx, hck]
      · simp only [exPV, w67, arcPV, hc, har, if_true, if_false] at hx
        refine w23 ?_
        simp (maxSteps := 2000000) (disch := first | omega | (simp only [lenS]; try omega)) only [wct, go_sem, reduceAdd, reduceEqDiff, reduceLeDiff, reduceSub]
        simp (maxSteps := 2000000) (disch := first | omega | (simp only [lenS]; try omega)) only [go_sem, reduceAdd, reduceEqDiff, reduceLeDiff, reduceSub, ha, he, hx, hck]
  · have hc1 : ¬ R.code = 1 := by omega
    rw [if_neg hc]
    simp only [exPV, w67, hc, if_false] at hx
    refine w23 ?_
    simp (maxSteps := 2000000) (disch := first | omega | (simp only [lenS]; try omega)) only [wct, go_sem, reduceAdd, reduceEqDiff, reduceLeDiff, reduceSub]
    simp (maxSteps := 2000000) (disch := first | omega | (simp only [lenS]; try omega)) only [go_sem, reduceAdd, reduceEqDiff, reduceLeDiff, reduceSub, ha, he, hx, hc1]
    first | done | rfl
theorem wfa (f : Fl) (b : Int) (hg : zg7 f = true) (hb : inB 1 400 b = true) (hf : smN f.net) : C w8l [encF f, I b] [] = some (.tup [.bool (safeV f b), .bool (decide ((exAll f.net (oneM f.net.pl.toNat f.src) b).code = 0))], []) := by
  have ha := wg3 f b hf
  rw [hg, hb] at ha
  have he := wg5 f hg
  have hx := wfz f.net (oneM f.net.pl.toNat f.src) b (zt6 hg) (by simp only [inB, Bool.and_eq_true, decide_eq_true_eq] at hb; omega)
  obtain ⟨f1, f2, f3, f4, f5, f6⟩ := w69 hg hb
  unfold safeV
  have hcd := zbp f.net (oneM f.net.pl.toNat f.src) b
  obtain ⟨g1, _⟩ := zga hg
  have hn := zgm g1
  generalize exAll f.net (oneM f.net.pl.toNat f.src) b = R at *
  have hEl : (oneM f.net.pl.toNat f.src).length = f.net.pl.toNat := by simp [oneM]
  generalize oneM f.net.pl.toNat f.src = E0 at *
  generalize oneM f.net.pl.toNat f.dst = E at *
  by_cases hc : R.code = 0
  · simp only [hc, decide_true, Bool.true_and]
    have e0 : (R.sp.ms.all fun m => m.all (inB 0 1)) = !(R.sp.ms.any fun m => !m.all (inB 0 1)) := by rw [List.any_eq_not_all_not]; simp
    rw [e0]
    by_cases har : R.sp.ar = []
    · simp only [exPV, w67, arcPV, hc, har, if_true] at hx
      refine w28 ?_
      simp (maxSteps := 2000000) (disch := first | omega | (simp only [lenS]; try omega)) only [wcy, go_sem, reduceAdd, reduceEqDiff, reduceLeDiff, reduceSub]
      simp (maxSteps := 2000000) (disch := first | omega | (simp only [lenS]; try omega)) only [go_sem, reduceAdd, reduceEqDiff, reduceLeDiff, reduceSub, ha, he, hx]
      refine W_for R.sp.ms.length (fun k s => s = ⟨[.any, .any, .any, .any, .any, .any, .any, .any, .any, .any, .any, .ref 0 1 0 R.sp.ms.length, I R.sp.ms.length, I k, .any, .any], [.row wgj false 1 (R.sp.ms.map ints)]⟩ ∧ (R.sp.ms.take k).any (fun m => !m.all (inB 0 1)) = false) ?_ ?_ ?_
      · simp (maxSteps := 2000000) (disch := first | omega | (simp only [lenS]; try omega)) only [go_sem, reduceAdd, reduceEqDiff, reduceLeDiff, reduceSub]
        simp
      · rintro k s hk ⟨rfl, h0⟩
        have e1 := z36 (p := fun m => !m.all (inB 0 1)) hk h0
        have e2 : (!(R.sp.ms[k].all (inB 0 1))) = true → R.sp.ms.any (fun m => !m.all (inB 0 1)) = true := fun e => List.any_eq_true.2 ⟨_, List.getElem_mem hk, e⟩
        have e3 : R.sp.ms[k]? = some R.sp.ms[k] := List.getElem?_eq_getElem hk
        have e4 := f6 _ (List.getElem_mem hk)
        have c1 := wfh R.sp.ms[k] 0 1 (by omega)
        generalize R.sp.ms[k] = x at *
        generalize x.all (inB 0 1) = q at *
        cases q with
        | true =>
          simp (maxSteps := 2000000) (disch := first | omega | (simp only [lenS]; try omega)) only [go_sem, reduceAdd, reduceEqDiff, reduceLeDiff, reduceSub, e3, c1]
          exact ⟨rfl, e1 rfl⟩
        | false =>
          simp (maxSteps := 2000000) (disch := first | omega | (simp only [lenS]; try omega)) only [go_sem, reduceAdd, reduceEqDiff, reduceLeDiff, reduceSub, e3, c1]
          rw [e2 rfl]; rfl
      · rintro s ⟨rfl, h0⟩
        rw [List.take_length] at h0
        simp (maxSteps := 2000000) (disch := first | omega | (simp only [lenS]; try omega)) only [go_sem, reduceAdd, reduceEqDiff, reduceLeDiff, reduceSub]
        rw [h0]; rfl
    · simp only [exPV, w67, arcPV, hc, har, if_true, if_false] at hx
      refine w28 ?_
      simp (maxSteps := 2000000) (disch := first | omega | (simp only [lenS]; try omega)) only [wcy, go_sem, reduceAdd, reduceEqDiff, reduceLeDiff, reduceSub]
      simp (maxSteps := 2000000) (disch := first | omega | (simp only [lenS]; try omega)) only [go_sem, reduceAdd, reduceEqDiff, reduceLeDiff, reduceSub, ha, he, hx]
      refine W_for R.sp.ms.length (fun k s => s = ⟨[.any, .any, .any, .any, .any, .any, .any, .any, .any, .any, .any, .ref 0 1 0 R.sp.ms.length, I R.sp.ms.length, I k, .any, .any], [.row wgj false 1 (R.sp.ms.map ints)]⟩ ∧ (R.sp.ms.take k).any (fun m => !m.all (inB 0 1)) = false) ?_ ?_ ?_
      · simp (maxSteps := 2000000) (disch := first | omega | (simp only [lenS]; try omega)) only [go_sem, reduceAdd, reduceEqDiff, reduceLeDiff, reduceSub]
        simp
      · rintro k s hk ⟨rfl, h0⟩
        have e1 := z36 (p := fun m => !m.all (inB 0 1)) hk h0
        have e2 : (!(R.sp.ms[k].all (inB 0 1))) = true → R.sp.ms.any (fun m => !m.all (inB 0 1)) = true := fun e => List.any_eq_true.2 ⟨_, List.getElem_mem hk, e⟩
        have e3 : R.sp.ms[k]? = some R.sp.ms[k] := List.getElem?_eq_getElem hk
        have e4 := f6 _ (List.getElem_mem hk)
        have c1 := wfh R.sp.ms[k] 0 1 (by omega)
        generalize R.sp.ms[k] = x at *
        generalize x.all (inB 0 1) = q at *
        cases q with
        | true =>
          simp (maxSteps := 2000000) (disch := first | omega | (simp only [lenS]; try omega)) only [go_sem, reduceAdd, reduceEqDiff, reduceLeDiff, reduceSub, e3, c1]
          exact ⟨rfl, e1 rfl⟩
        | false =>
          simp (maxSteps := 2000000) (disch := first | omega | (simp only [lenS]; try omega)) only [go_sem, reduceAdd, reduceEqDiff, reduceLeDiff, reduceSub, e3, c1]
          rw [e2 rfl]; rfl
      · rintro s ⟨rfl, h0⟩
        rw [List.take_length] at h0
        simp (maxSteps := 2000000) (disch := first | omega | (simp only [lenS]; try omega)) only [go_sem, reduceAdd, reduceEqDiff, reduceLeDiff, reduceSub]
        rw [h0]; rfl
  · have hc1 : ¬ R.code = 1 := by omega
    simp only [exPV, w67, hc, if_false, decide_false, Bool.false_and] at hx ⊢
    refine w28 ?_
    simp (maxSteps := 2000000) (disch := first | omega | (simp only [lenS]; try omega)) only [wcy, go_sem, reduceAdd, reduceEqDiff, reduceLeDiff, reduceSub]
    simp (maxSteps := 2000000) (disch := first | omega | (simp only [lenS]; try omega)) only [go_sem, reduceAdd, reduceEqDiff, reduceLeDiff, reduceSub, ha, he, hx, hc1]
    first | done | rfl
theorem wfc (s : Spc) (b : Int) (hg : goodS s = true) (hb : inB 1 400 b = true) : C w8n [encS s, I b] [] = some (.tup [I (admC (flS s) b), vdPV (sndV (flS s) b)], []) := by
  have hk := zgo hg
  have hgf : zg7 (flS s) = true := by simp only [goodS, Bool.and_eq_true] at hg; exact hg.2
  have hl := wfd s hk
  have h1 : C w8g [.agg [I (s.conds + s.tasks.length), .sl false 3 ((trS s).map encT), I 0, I 1], I b] [] = some (.tup [vdPV (sndV (flS s) b), .bool true], []) := wf5 (flS s) b hgf hb (ze7 hk)
  have h2 : C w8l [.agg [I (s.conds + s.tasks.length), .sl false 3 ((trS s).map encT), I 0, I 1], I b] [] = some (.tup [.bool (safeV (flS s) b), .bool (decide ((exAll (flS s).net (oneM (flS s).net.pl.toNat (flS s).src) b).code = 0))], []) := wfa (flS s) b hgf hb (ze7 hk)
  unfold admC
  have hw : (sndV (flS s) b).way.length ≤ 60 := by
    unfold sndV
    split
    · split
      · assumption
      · simp
    · simp
  generalize sndV (flS s) b = V at *
  generalize safeV (flS s) b = q at *
  generalize decide ((exAll (flS s).net (oneM (flS s).net.pl.toNat (flS s).src) b).code = 0) = q2 at *
  unfold vdPV at h1 ⊢
  have htl : (trS s).length ≤ 2^20 := by have := zgm (zga hgf).1; have e : (flS s).net.tr = trS s := rfl; rw [e] at this; omega
  obtain ⟨vo, vk, vw, vd⟩ := V
  simp only at h1 hw ⊢
  by_cases hk : vk = 1 ∨ vk = 2
  · simp only [hk, if_true] at h1 ⊢
    refine w2a ?_
    simp (maxSteps := 2000000) (disch := first | omega | (simp only [lenS]; try omega)) only [wd0, go_sem, reduceAdd, reduceEqDiff, reduceLeDiff, reduceSub]
    by_cases ho : vo = 1
    · subst ho
      cases q with
      | true =>
        simp (maxSteps := 2000000) (disch := first | omega | (simp only [lenS]; try omega)) only [go_sem, reduceAdd, reduceEqDiff, reduceLeDiff, reduceSub, hl, h1, h2]
        first | done | rfl
      | false =>
        simp (maxSteps := 2000000) (disch := first | omega | (simp only [lenS]; try omega)) only [go_sem, reduceAdd, reduceEqDiff, reduceLeDiff, reduceSub, hl, h1, h2]
        first | done | rfl
    · simp (maxSteps := 2000000) (disch := first | omega | (simp only [lenS]; try omega)) only [go_sem, reduceAdd, reduceEqDiff, reduceLeDiff, reduceSub, hl, h1, h2, ho]
      first | done | rfl
  · simp only [hk, if_false] at h1 ⊢
    refine w2a ?_
    simp (maxSteps := 2000000) (disch := first | omega | (simp only [lenS]; try omega)) only [wd0, go_sem, reduceAdd, reduceEqDiff, reduceLeDiff, reduceSub]
    by_cases ho : vo = 1
    · subst ho
      cases q with
      | true =>
        simp (maxSteps := 2000000) (disch := first | omega | (simp only [lenS]; try omega)) only [go_sem, reduceAdd, reduceEqDiff, reduceLeDiff, reduceSub, hl, h1, h2]
        first | done | rfl
      | false =>
        simp (maxSteps := 2000000) (disch := first | omega | (simp only [lenS]; try omega)) only [go_sem, reduceAdd, reduceEqDiff, reduceLeDiff, reduceSub, hl, h1, h2]
        first | done | rfl
    · simp (maxSteps := 2000000) (disch := first | omega | (simp only [lenS]; try omega)) only [go_sem, reduceAdd, reduceEqDiff, reduceLeDiff, reduceSub, hl, h1, h2, ho]
      first | done | rfl
theorem wf4 (s : Spc) (b : Int) (hs : smSpc s) : C w8f [encS s, I b] [] = some (.tup [if goodS s && inB 1 400 b then I (admC (flS s) b) else I 0, if goodS s && inB 1 400 b then vdPV (sndV (flS s) b) else vdPV ⟨0, 0, [], 0⟩, .bool (goodS s && inB 1 400 b)], []) := by
  have h0 := wf9 s hs
  cases hg : goodS s with
  | false =>
    rw [hg] at h0
    refine w22 ?_
    simp (maxSteps := 2000000) (disch := first | omega | (simp only [lenS]; try omega)) only [wcs, go_sem, reduceAdd, reduceEqDiff, reduceLeDiff, reduceSub]
    simp (maxSteps := 2000000) (disch := first | omega | (simp only [lenS]; try omega)) only [go_sem, reduceAdd, reduceEqDiff, reduceLeDiff, reduceSub, h0]
    first | done | rfl
  | true =>
    rw [hg] at h0
    cases hb : inB 1 400 b with
    | false =>
      refine w22 ?_
      simp (maxSteps := 2000000) (disch := first | omega | (simp only [lenS]; try omega)) only [wcs, go_sem, reduceAdd, reduceEqDiff, reduceLeDiff, reduceSub]
      simp (maxSteps := 2000000) (disch := first | omega | (simp only [lenS]; try omega)) only [go_sem, reduceAdd, reduceEqDiff, reduceLeDiff, reduceSub, h0, wfk, hb]
      first | done | rfl
    | true =>
      have h1 := wfc s b hg hb
      have hw : (sndV (flS s) b).way.length ≤ 60 := by
        unfold sndV
        split
        · split
          · assumption
          · simp
        · simp
      generalize sndV (flS s) b = V at *
      generalize admC (flS s) b = q at *
      unfold vdPV at h1 ⊢
      obtain ⟨vo, vk, vw, vd⟩ := V
      simp only at h1 hw ⊢
      by_cases hk : vk = 1 ∨ vk = 2
      · simp only [hk, if_true] at h1 ⊢
        refine w22 ?_
        simp (maxSteps := 2000000) (disch := first | omega | (simp only [lenS]; try omega)) only [wcs, go_sem, reduceAdd, reduceEqDiff, reduceLeDiff, reduceSub]
        simp (maxSteps := 2000000) (disch := first | omega | (simp only [lenS]; try omega)) only [go_sem, reduceAdd, reduceEqDiff, reduceLeDiff, reduceSub, h0, wfk, hb, h1]
        first | done | rfl
      · simp only [hk, if_false] at h1 ⊢
        refine w22 ?_
        simp (maxSteps := 2000000) (disch := first | omega | (simp only [lenS]; try omega)) only [wcs, go_sem, reduceAdd, reduceEqDiff, reduceLeDiff, reduceSub]
        simp (maxSteps := 2000000) (disch := first | omega | (simp only [lenS]; try omega)) only [go_sem, reduceAdd, reduceEqDiff, reduceLeDiff, reduceSub, h0, wfk, hb, h1]
        first | done | rfl
theorem wan (n lo hi : Int) : C w7g [I n, I lo, I hi] [] = some (.bool (inB lo hi n), []) := by
  refine w14 ?_
  simp (maxSteps := 2000000) (disch := first | omega | (simp only [lenS]; try omega)) only [wbu, go_sem, reduceAdd, reduceEqDiff, reduceLeDiff, reduceSub]
  unfold inB; grind
theorem wa6 (l : List Int) (hl : l.length < 2^62) : C w70 [ints l] [] = some (.bool (incr l), []) := by
  refine w0o ?_
  simp (maxSteps := 2000000) (disch := first | omega | (simp only [lenS]; try omega)) only [wbe, go_sem, reduceAdd, reduceEqDiff, reduceLeDiff, reduceSub]
  refine W_for (l.length - 1) (fun k s => s = ⟨[ints l, .any, I (k + 1 : Int), .any, .any], []⟩ ∧ (l.take (k + 1)).Pairwise (· < ·)) ?_ ?_ ?_
  · simp (maxSteps := 2000000) (disch := first | omega | (simp only [lenS]; try omega)) only [go_sem, reduceAdd, reduceEqDiff, reduceLeDiff, reduceSub]
    exact ⟨rfl, zjt⟩
  · rintro k s hk ⟨rfl, hp⟩
    simp (maxSteps := 2000000) (disch := first | omega | (simp only [lenS]; try omega)) only [go_sem, reduceAdd, reduceEqDiff, reduceLeDiff, reduceSub]
    have e1 : ((k : Int) + 1).toNat = k + 1 := by omega
    have e2 : ((k : Int) + 1 - 1).toNat = k := by omega
    simp only [e1, e2]
    refine ⟨fun h => by rw [zjs (k := k) (by omega) (by omega)], fun h => ⟨rfl, zjv (by omega) hp h⟩⟩
  · rintro s ⟨rfl, hp⟩
    simp (maxSteps := 2000000) (disch := first | omega | (simp only [lenS]; try omega)) only [go_sem, reduceAdd, reduceEqDiff, reduceLeDiff, reduceSub]
    rw [z18d (by omega)] at hp
    rw [show incr l = true by simpa [incr] using hp]
theorem w9v (l : List Int) (lo hi : Int) (hl : l.length < 2^62) : C w6p [ints l, I lo, I hi] [] = some (.bool (l.all (inB lo hi)), []) := by
  refine w0d ?_
  simp (maxSteps := 2000000) (disch := first | omega | (simp only [lenS]; try omega)) only [wb3, go_sem, reduceAdd, reduceEqDiff, reduceLeDiff, reduceSub]
  refine W_for l.length (fun k s => s = ⟨[.any, I lo, I hi, .any, .any, ints l, I l.length, I k, .any, .any], []⟩ ∧ (l.take k).all (inB lo hi) = true) ?_ ?_ ?_
  · simp (maxSteps := 2000000) (disch := first | omega | (simp only [lenS]; try omega)) only [go_sem, reduceAdd, reduceEqDiff, reduceLeDiff, reduceSub]
    rfl
  · rintro k s hk ⟨rfl, hall⟩
    simp (maxSteps := 2000000) (disch := first | omega | (simp only [lenS]; try omega)) only [go_sem, reduceAdd, reduceEqDiff, reduceLeDiff, reduceSub, wan]
    exact ⟨fun h => ⟨rfl, z2s hk hall h⟩, fun h => by rw [z2r hk h]⟩
  · rintro s ⟨rfl, hall⟩
    simp (maxSteps := 2000000) (disch := first | omega | (simp only [lenS]; try omega)) only [go_sem, reduceAdd, reduceEqDiff, reduceLeDiff, reduceSub]
    rw [List.take_length] at hall
    rw [hall]
theorem w9w (s : Spc) (l : List Int) (f : Int) (hl : l.length < 2^62) (hc : 2 ≤ s.conds ∧ s.conds ≤ 8) : C w6q [encS s, ints l, I f] [] = some (.bool (incr l && l.all (inB f (s.conds - 1))), []) := by
  refine w0e ?_
  simp (maxSteps := 2000000) (disch := first | omega | (simp only [lenS]; try omega)) only [wb4, go_sem, reduceAdd, reduceEqDiff, reduceLeDiff, reduceSub]
  simp (maxSteps := 2000000) (disch := first | omega | (simp only [lenS]; try omega)) only [go_sem, reduceAdd, reduceEqDiff, reduceLeDiff, reduceSub, wa6 l hl, w9v l _ _ hl]
  grind
theorem wf2 (l : List Int) (x : Int) (hl : l.length < 2^62) : C w8d [ints l, I x] [] = some (I (idxI l (fun y => y == x)), []) := by
  refine w20 ?_
  simp (maxSteps := 2000000) (disch := first | omega | (simp only [lenS]; try omega)) only [wcq, go_sem, reduceAdd, reduceEqDiff, reduceLeDiff, reduceSub]
  refine W_for l.length (fun k s => s = ⟨[ints l, I x, .any, .any, I l.length, I k, .any, .any], []⟩ ∧ (l.take k).any (fun y => y == x) = false) ?_ ?_ ?_
  · simp (maxSteps := 2000000) (disch := first | omega | (simp only [lenS]; try omega)) only [go_sem, reduceAdd, reduceEqDiff, reduceLeDiff, reduceSub]
    rfl
  · rintro k s hk ⟨rfl, hall⟩
    simp (maxSteps := 2000000) (disch := first | omega | (simp only [lenS]; try omega)) only [go_sem, reduceAdd, reduceEqDiff, reduceLeDiff, reduceSub]
    refine ⟨fun h => ?_, fun h => ⟨rfl, z36 hk hall (by simpa using fun e => h e.symm)⟩⟩
    rw [zho hk hall (by simpa using h.symm)]
  · rintro s ⟨rfl, hall⟩
    simp (maxSteps := 2000000) (disch := first | omega | (simp only [lenS]; try omega)) only [go_sem, reduceAdd, reduceEqDiff, reduceLeDiff, reduceSub]
    rw [List.take_length] at hall
    rw [zhn hall]
theorem wet (l : List Int) (x : Int) (hl : l.length < 2^62) : C w86 [ints l, I x] [] = some (.bool (hasB l x), []) := by
  refine w1t ?_
  simp (maxSteps := 2000000) (disch := first | omega | (simp only [lenS]; try omega)) only [wcj, go_sem, reduceAdd, reduceEqDiff, reduceLeDiff, reduceSub]
  simp (maxSteps := 2000000) (disch := first | omega | (simp only [lenS]; try omega)) only [go_sem, reduceAdd, reduceEqDiff, reduceLeDiff, reduceSub, wf2 l x hl]
  have := zhl l (fun y => y == x)
  rw [zh9, this]
  exact ⟨fun h => by simp [h], fun h => by rw [decide_eq_false (by omega)]⟩
theorem wab (s : Spc) (k : Nat) (hk : k < s.tasks.length) (hl : s.tasks.length ≤ 6) (hc : 2 ≤ s.conds ∧ s.conds ≤ 8) (ht : smTk s.tasks[k]) : C w75 [encS s, I k] [] = some (.bool (goodK s k s.tasks[k]), []) := by
  obtain ⟨a, b, c, d⟩ := ht
  refine w0t ?_
  simp (maxSteps := 2000000) (disch := first | omega | (simp only [lenS]; try omega)) only [wbj, go_sem, reduceAdd, reduceEqDiff, reduceLeDiff, reduceSub]
  unfold goodK
  generalize hT : s.tasks[k] = t at *
  simp (maxSteps := 2000000) (disch := first | omega | (simp only [lenS]; try omega)) only [go_sem, reduceAdd, reduceEqDiff, reduceLeDiff, reduceSub, hT, wan, w9w s _ _ _ hc, wa6, w9v, wet]
  generalize t.inn.all (inB 0 (s.conds - 1)) = q1
  generalize t.out.all (inB 0 (s.conds - 1)) = q2
  generalize t.cut.all (inB 2 (s.conds - 1)) = q3
  generalize t.stop.all (inB 0 ((s.tasks.length : Int) - 1)) = q4
  (repeat' (first | apply And.intro | intro _)) <;> simp_all
theorem wac (s : Spc) (h : zsv s = true) : C w76 [encS s] [] = some (.un wg9 true 3 ((mvS s).map encM), []) := by
  obtain ⟨hc, hn, hg⟩ := zsw h
  have shl1 : IntKind.i64.wrap (1 * 2 ^ min 1 64) = 2 := by decide
  have shl2 : IntKind.i64.wrap (1 * 2 ^ min 2 64) = 4 := by decide
  have shl3 : IntKind.i64.wrap (1 * 2 ^ min 3 64) = 8 := by decide
  refine w0u ?_
  simp (maxSteps := 2000000) (disch := first | omega | (simp only [lenS]; try omega)) only [wbk, go_sem, reduceAdd, reduceEqDiff, reduceLeDiff, reduceSub]
  refine W_for s.tasks.length (fun k st => st = ⟨[.any, .any, .any, .ref 0 3 0 (mvU s k).length, .any, .any, .any, .any, .any, tks s.tasks, I s.tasks.length, I k, .any, .any, .any, .any, .any, .any, .any, .any, .any], [.row wg9 true 3 ((mvU s k).map encM)]⟩) ?_ ?_ ?_
  · simp (maxSteps := 2000000) (disch := first | omega | (simp only [lenS]; try omega)) only [go_sem, reduceAdd, reduceEqDiff, reduceLeDiff, reduceSub]
    rfl
  · rintro k st hk rfl
    have hK := hg k hk
    have hl := zqt h k (by omega)
    have hbl := z50 hK
    have hel := zbe hK
    have hU := zqv s k
    have hB : (z4y (tkN s k)).length = if (tkN s k).join = 2 then (tkN s k).inn.length else 1 := by unfold z4y; split <;> simp
    have hE : (endL (tkN s k)).length = if (tkN s k).split = 2 then (tkN s k).out.length else if (tkN s k).split = 3 then 2 ^ (tkN s k).out.length - 1 else 1 := by unfold endL; (repeat' split) <;> simp
    have hF : endF (tkN s k) = if (tkN s k).split = 2 then 0 else if (tkN s k).split = 3 then 1 else 0 := rfl
    unfold mvK at hU
    have heq := z18o hk
    rw [hU]
    simp (maxSteps := 2000000) (disch := first | omega | (simp only [lenS]; try omega)) only [go_sem, reduceAdd, reduceEqDiff, reduceLeDiff, reduceSub]
    rw [← heq]
    generalize tkN s k = t at *
    obtain ⟨hj, hs, h1, h2, -, -, -, -, -, -⟩ := zgb hK
    have hp := zxi h2.1 h2.2
    generalize mvU s k = U at *
    generalize hN : (z4y t).length = nb at *
    generalize hM : (endL t).length = ne at *
    refine W_for (nb - 1) (fun j st => st = ⟨[.any, .any, .any, .ref 0 3 0 (U.length + (j + 1)), I k, .ptr 1 0, I (j + 1 : Int), .any, .any, tks s.tasks, I s.tasks.length, I k, .any, .any, .any, .any, .any, .any, .any, .any, .any], [.row wg9 true 3 ((U ++ mvB k (j + 1)).map encM), .box wgd [I t.join, I t.split, ints t.inn, ints t.out, ints t.cut, ints t.stop, I t.role]]⟩) ?_ ?_ ?_
    · simp (maxSteps := 2000000) (disch := first | omega | (simp only [lenS]; try omega)) only [go_sem, reduceAdd, reduceEqDiff, reduceLeDiff, reduceSub]
      simp [mvB]
    · rintro j st hjj rfl
      have hj2 : t.join = 2 := by
        rcases hj with hj | hj
        · simp [hj] at hB; omega
        · exact hj
      simp [hj2] at hB
      have := zqk k (j + 1)
      simp (maxSteps := 2000000) (disch := first | omega | (simp only [lenS]; try omega)) only [go_sem, reduceAdd, reduceEqDiff, reduceLeDiff, reduceSub, hj2, this]
      rw [zql k (j + 1)]
      simp
      omega
    · rintro st rfl
      have e1 : nb - 1 + 1 = nb := by omega
      rw [e1]
      have e2 : ((nb - 1 : Nat) : Int) + 1 = nb := by omega
      rw [e2]
      have e3 := zqk k nb
      have hj3 : t.join = 2 → nb = t.inn.length := fun e => by simpa [e] using hB
      have e4 : (U ++ mvB k nb).length = U.length + nb := by simp [e3]
      generalize hV : U ++ mvB k nb = V at *
      rw [← List.append_assoc, hV, ← e4]
      have hVl : V.length ≤ 100 := by omega
      clear hB hV hN hM hU
      rcases hs with hs | hs | hs
      · have hne : ne = 1 := by simpa [hs] using hE
        have hF0 : endF t = 0 := by simpa [hs] using hF
        subst hne
        rcases hj with hj | hj
        · simp (maxSteps := 2000000) (disch := first | omega | (simp only [lenS]; try omega)) only [go_sem, reduceAdd, reduceEqDiff, reduceLeDiff, reduceSub, hj, hs]
          simp [hF0, mvE]
        · have := hj3 hj
          simp (maxSteps := 2000000) (disch := first | omega | (simp only [lenS]; try omega)) only [go_sem, reduceAdd, reduceEqDiff, reduceLeDiff, reduceSub, hj, hs]
          simp [hF0, mvE]
      · have hne : ne = t.out.length := by simpa [hs] using hE
        have hF0 : endF t = 0 := by simpa [hs] using hF
        rcases hj with hj | hj
        · simp (maxSteps := 2000000) (disch := first | omega | (simp only [lenS]; try omega)) only [go_sem, reduceAdd, reduceEqDiff, reduceLeDiff, reduceSub, hj, hs]
          refine W_for ne (fun i st => st = ⟨[.any, .any, .any, .ref 0 3 0 (V.length + i), I k, .any, .any, .any, .any, tks s.tasks, I s.tasks.length, I k, .any, .any, .any, .any, .any, .any, I ne, I i, .any], [.row wg9 true 3 ((V ++ mvE k 0 i).map encM)]⟩) ?_ ?_ ?_
          · simp (maxSteps := 2000000) (disch := first | omega | (simp only [lenS]; try omega)) only [go_sem, reduceAdd, reduceEqDiff, reduceLeDiff, reduceSub]
            simp [mvE, hne]
          · rintro i st hi rfl
            have := zqm k 0 i
            simp (maxSteps := 2000000) (disch := first | omega | (simp only [lenS]; try omega)) only [go_sem, reduceAdd, reduceEqDiff, reduceLeDiff, reduceSub, this]
            rw [zqn]
            simp
            omega
          · rintro st rfl
            have := zqm k 0 ne
            simp (maxSteps := 2000000) (disch := first | omega | (simp only [lenS]; try omega)) only [go_sem, reduceAdd, reduceEqDiff, reduceLeDiff, reduceSub, this]
            simp [hF0, this]
        · have := hj3 hj
          simp (maxSteps := 2000000) (disch := first | omega | (simp only [lenS]; try omega)) only [go_sem, reduceAdd, reduceEqDiff, reduceLeDiff, reduceSub, hj, hs]
          refine W_for ne (fun i st => st = ⟨[.any, .any, .any, .ref 0 3 0 (V.length + i), I k, .any, .any, .any, .any, tks s.tasks, I s.tasks.length, I k, .any, .any, .any, .any, .any, .any, I ne, I i, .any], [.row wg9 true 3 ((V ++ mvE k 0 i).map encM)]⟩) ?_ ?_ ?_
          · simp (maxSteps := 2000000) (disch := first | omega | (simp only [lenS]; try omega)) only [go_sem, reduceAdd, reduceEqDiff, reduceLeDiff, reduceSub]
            simp [mvE, hne]
          · rintro i st hi rfl
            have := zqm k 0 i
            simp (maxSteps := 2000000) (disch := first | omega | (simp only [lenS]; try omega)) only [go_sem, reduceAdd, reduceEqDiff, reduceLeDiff, reduceSub, this]
            rw [zqn]
            simp
            omega
          · rintro st rfl
            have := zqm k 0 ne
            simp (maxSteps := 2000000) (disch := first | omega | (simp only [lenS]; try omega)) only [go_sem, reduceAdd, reduceEqDiff, reduceLeDiff, reduceSub, this]
            simp [hF0, this]
      · have hne : ne = 2 ^ t.out.length - 1 := by simpa [hs] using hE
        have hF0 : endF t = 1 := by simpa [hs] using hF
        rcases hj with hj | hj
        · simp (maxSteps := 2000000) (disch := first | omega | (simp only [lenS]; try omega)) only [go_sem, reduceAdd, reduceEqDiff, reduceLeDiff, reduceSub, hj, hs]
          refine W_for ne (fun i st => st = ⟨[.any, .any, .any, .ref 0 3 0 (V.length + i), I k, .ptr 1 0, .any, .any, I (i + 1 : Int), tks s.tasks, I s.tasks.length, I k, .any, .any, .any, .any, .any, .any, .any, .any, .any], [.row wg9 true 3 ((V ++ mvE k 1 i).map encM), .box wgd [I t.join, I t.split, ints t.inn, ints t.out, ints t.cut, ints t.stop, I t.role]]⟩) ?_ ?_ ?_
          · simp (maxSteps := 2000000) (disch := first | omega | (simp only [lenS]; try omega)) only [go_sem, reduceAdd, reduceEqDiff, reduceLeDiff, reduceSub]
            simp [mvE, hj, hs]
          · rintro i st hi rfl
            have e := zqm k 1 i
            have e5 : t.out.length = 1 ∨ t.out.length = 2 ∨ t.out.length = 3 := by omega
            rcases e5 with e5 | e5 | e5
            all_goals
              simp only [e5] at hne
              simp (maxSteps := 2000000) (disch := first | omega | (simp only [lenS]; try omega)) only [go_sem, reduceAdd, reduceEqDiff, reduceLeDiff, reduceSub, e, e5, shl1, shl2, shl3]
              rw [zqn]
              simp
              omega
          · rintro st rfl
            have e := zqm k 1 ne
            have e5 : t.out.length = 1 ∨ t.out.length = 2 ∨ t.out.length = 3 := by omega
            rcases e5 with e5 | e5 | e5
            all_goals
              simp only [e5] at hne
              simp (maxSteps := 2000000) (disch := first | omega | (simp only [lenS]; try omega)) only [go_sem, reduceAdd, reduceEqDiff, reduceLeDiff, reduceSub, e, e5, shl1, shl2, shl3]
              simp [hF0, e]
        · have := hj3 hj
          simp (maxSteps := 2000000) (disch := first | omega | (simp only [lenS]; try omega)) only [go_sem, reduceAdd, reduceEqDiff, reduceLeDiff, reduceSub, hj, hs]
          refine W_for ne (fun i st => st = ⟨[.any, .any, .any, .ref 0 3 0 (V.length + i), I k, .ptr 1 0, .any, .any, I (i + 1 : Int), tks s.tasks, I s.tasks.length, I k, .any, .any, .any, .any, .any, .any, .any, .any, .any], [.row wg9 true 3 ((V ++ mvE k 1 i).map encM), .box wgd [I t.join, I t.split, ints t.inn, ints t.out, ints t.cut, ints t.stop, I t.role]]⟩) ?_ ?_ ?_
          · simp (maxSteps := 2000000) (disch := first | omega | (simp only [lenS]; try omega)) only [go_sem, reduceAdd, reduceEqDiff, reduceLeDiff, reduceSub]
            simp [mvE, hj, hs]
          · rintro i st hi rfl
            have e := zqm k 1 i
            have e5 : t.out.length = 1 ∨ t.out.length = 2 ∨ t.out.length = 3 := by omega
            rcases e5 with e5 | e5 | e5
            all_goals
              simp only [e5] at hne
              simp (maxSteps := 2000000) (disch := first | omega | (simp only [lenS]; try omega)) only [go_sem, reduceAdd, reduceEqDiff, reduceLeDiff, reduceSub, e, e5, shl1, shl2, shl3]
              rw [zqn]
              simp
              omega
          · rintro st rfl
            have e := zqm k 1 ne
            have e5 : t.out.length = 1 ∨ t.out.length = 2 ∨ t.out.length = 3 := by omega
            rcases e5 with e5 | e5 | e5
            all_goals
              simp only [e5] at hne
              simp (maxSteps := 2000000) (disch := first | omega | (simp only [lenS]; try omega)) only [go_sem, reduceAdd, reduceEqDiff, reduceLeDiff, reduceSub, e, e5, shl1, shl2, shl3]
              simp [hF0, e]
  · rintro st rfl
    simp (maxSteps := 2000000) (disch := first | omega | (simp only [lenS]; try omega)) only [go_sem, reduceAdd, reduceEqDiff, reduceLeDiff, reduceSub]
    rfl
theorem wai (l : List Int) (h : ∀ p ∈ l, 0 ≤ p ∧ p < 30) (hi : incr l = true) (hl : l.length < 2^30) : C w7b [I (maskN l)] [] = some (.un t_int true 1 (l.map I), []) := by
  have hp : l.Pairwise (· < ·) := by simpa [incr] using hi
  have h0 : ∀ p ∈ l, 0 ≤ p := fun p hp => (h p hp).1
  have hm : maskN l < 2 ^ 30 := zoz (q := 30) h
  refine w0z ?_
  simp (maxSteps := 2000000) (disch := first | omega | (simp only [lenS]; try omega)) only [wbp, go_sem, reduceAdd, reduceEqDiff, reduceLeDiff, reduceSub]
  refine z1a (fun j s => ∃ k : Nat, j + k = 40 ∧ k ≤ 31 ∧ s = ⟨[I (maskN l), .any, .ref 0 1 0 (below l k).length, I k, .any, .any], [.row t_int true 1 ((below l k).map I)]⟩) 40 ?_ ?_
  · refine ⟨0, rfl, by omega, ?_⟩
    rw [z59 h0]
    simp (maxSteps := 2000000) (disch := first | omega | (simp only [lenS]; try omega)) only [go_sem, reduceAdd, reduceEqDiff, reduceLeDiff, reduceSub]
    rfl
  · rintro j s ⟨k, hj, hk, rfl⟩
    have hbl := z57 l k
    have e1 : ((maskN l : Nat) : Int) / 2 ^ min k 64 = ((maskN l / 2 ^ k : Nat) : Int) := by
      rw [show min k 64 = k by omega]; simp
    have e2 : maskN l / 2 ^ k < 2 ^ 62 := Nat.lt_of_le_of_lt (Nat.div_le_self _ _) (by omega)
    have e3 := z2x (a := maskN l / 2 ^ k) (b := 1) e2 (by decide)
    rw [Nat.and_one_is_mod] at e3
    simp (maxSteps := 2000000) (disch := first | omega | (simp only [lenS]; try omega)) only [go_sem, reduceAdd, reduceEqDiff, reduceLeDiff, reduceSub, e1]
    have eb := zp3 h0 k
    have hone : ((1 : Nat) : Int) = 1 := rfl
    rw [hone] at e3
    refine ⟨fun hne => ?_, fun hz => ?_⟩
    · have hk30 : k < 30 := by
        rcases Nat.lt_or_ge k 30 with h5 | h5
        · exact h5
        · exact (hne (by rw [Nat.div_eq_of_lt (Nat.lt_of_lt_of_le hm (Nat.pow_le_pow_right (by decide) h5))]; rfl)).elim
      refine ⟨fun h1 => ⟨j - 1, by omega, k + 1, by omega, by omega, ?_⟩, fun h1 => ⟨j - 1, by omega, k + 1, by omega, by omega, ?_⟩⟩
      · have hm1 : maskN l / 2 ^ k % 2 = 1 := by rw [e3] at h1; omega
        rw [decide_eq_true hm1] at eb
        rw [z58 hp, if_pos (by simpa [hasB] using eb), List.map_append]
        simp
      · have hm1 : ¬ maskN l / 2 ^ k % 2 = 1 := by rw [e3] at h1; omega
        rw [decide_eq_false hm1] at eb
        rw [z58 hp, if_neg (by simpa [hasB] using eb), List.append_nil]
        rfl
    · rw [z56 (zp4 h0 k (by exact_mod_cast hz))]
theorem wah (s : Spc) (k : Nat) (hk : k < s.tasks.length) (hc : 2 ≤ s.conds ∧ s.conds ≤ 8) (ht : smTk s.tasks[k]) (h1 : s.tasks[k].cut.length ≤ 16) (h0 : s.tasks[k].stop.length ≤ 16) (h2 : ∀ x ∈ s.tasks[k].stop, 0 ≤ x ∧ x < 16) : C w7a [encS s, I k] [] = some (.un t_int true 1 ((regL s s.tasks[k]).map I), []) := by
  obtain ⟨a, b, c, d⟩ := ht
  refine w0y ?_
  simp (maxSteps := 2000000) (disch := first | omega | (simp only [lenS]; try omega)) only [wbo, go_sem, reduceAdd, reduceEqDiff, reduceLeDiff, reduceSub]
  simp (maxSteps := 2000000) (disch := first | omega | (simp only [lenS]; try omega)) only [go_sem, reduceAdd, reduceEqDiff, reduceLeDiff, reduceSub, weo]
  generalize hT : s.tasks[k] = t at *
  refine W_for t.stop.length (fun i st => st = ⟨[.any, .any, .ptr 0 0, .any, .ref 1 1 0 (t.cut.length + i), .any, ints t.stop, I t.stop.length, I i, .any], [.box wgc [I s.conds, tks s.tasks], .row t_int true 1 ((t.cut ++ (t.stop.take i).map (s.conds + ·)).map I)]⟩) ?_ ?_ ?_
  · simp (maxSteps := 2000000) (disch := first | omega | (simp only [lenS]; try omega)) only [go_sem, reduceAdd, reduceEqDiff, reduceLeDiff, reduceSub]
    simp
  · rintro i st hi rfl
    have h3 := h2 _ (List.getElem_mem hi)
    have e := zzx (s := s) hi
    simp (maxSteps := 2000000) (disch := first | omega | (simp only [lenS]; try omega)) only [go_sem, reduceAdd, reduceEqDiff, reduceLeDiff, reduceSub]
    rw [e, List.map_append]
    simp
    omega
  · rintro st rfl
    simp (maxSteps := 2000000) (disch := first | omega | (simp only [lenS]; try omega)) only [go_sem, reduceAdd, reduceEqDiff, reduceLeDiff, reduceSub]
    simp [regL]
theorem wam (s : Spc) (m : Mv) (h : zsv s = true) (hm : isMv s m) : C w7f [encS s, encM m] [] = some (.agg [.un t_int true 1 ((trM s m).inn.map I), .un t_int true 1 ((trM s m).out.map I), if m.begin_ then .nil true 1 else .un t_int true 1 ((trM s m).rst.map I)], []) := by
  obtain ⟨hc, hn, hg⟩ := zsw h
  obtain ⟨k, hk, e1, hb, he⟩ := hm
  have hK := hg k hk
  have hsm := zsx h hk
  have heq := z18o hk
  obtain ⟨c1, c2, c3, c4⟩ := hsm
  have hreg := wah s k hk hc c1 c2 c3 c4
  rw [← heq] at c1 c2 c3 c4 hreg
  obtain ⟨b1, b2, b3, b4⟩ := c1
  obtain ⟨mt, mb, mp⟩ := m
  simp only at e1 hb he
  subst e1
  have eT : tkN s ((k : Int)).toNat = tkN s k := by simp
  refine w13 ?_
  simp (maxSteps := 2000000) (disch := first | omega | (simp only [lenS]; try omega)) only [wbt, go_sem, reduceAdd, reduceEqDiff, reduceLeDiff, reduceSub]
  simp only [trM, eT]
  have hb2 : (z4y (tkN s k)).length = if (tkN s k).join = 2 then (tkN s k).inn.length else 1 := by unfold z4y; split <;> simp
  have hE : (endL (tkN s k)).length = if (tkN s k).split = 2 then (tkN s k).out.length else if (tkN s k).split = 3 then 2 ^ (tkN s k).out.length - 1 else 1 := by unfold endL; (repeat' split) <;> simp
  have hF : endF (tkN s k) = if (tkN s k).split = 2 then 0 else if (tkN s k).split = 3 then 1 else 0 := rfl
  simp only [← heq]
  generalize tkN s k = t at *
  obtain ⟨hj, hs, h1, h2, -, -, -, -, -, -⟩ := zgb hK
  cases mb with
  | true =>
    obtain ⟨hp0, hp1⟩ := hb rfl
    rcases hj with hj | hj
    · simp (maxSteps := 2000000) (disch := first | omega | (simp only [lenS]; try omega)) only [go_sem, reduceAdd, reduceEqDiff, reduceLeDiff, reduceSub, hj, weo]
      exact fun h => absurd h (by decide)
    · simp only [hj, if_true] at hb2
      have := at_eq (m := t.inn) (p := mp) (by omega)
      simp (maxSteps := 2000000) (disch := first | omega | (simp only [lenS]; try omega)) only [go_sem, reduceAdd, reduceEqDiff, reduceLeDiff, reduceSub, hj, this]
  | false =>
    obtain ⟨hp0, hp1⟩ := he rfl
    rcases hs with hs | hs | hs
    · simp (maxSteps := 2000000) (disch := first | omega | (simp only [lenS]; try omega)) only [go_sem, reduceAdd, reduceEqDiff, reduceLeDiff, reduceSub, hs, weo, hreg]
    · simp only [hs, if_true] at hE hF
      have := at_eq (m := t.out) (p := mp) (by omega)
      simp (maxSteps := 2000000) (disch := first | omega | (simp only [lenS]; try omega)) only [go_sem, reduceAdd, reduceEqDiff, reduceLeDiff, reduceSub, hs, weo, hreg, this]
    · simp [hs] at hE hF
      have hpp := zxi h2.1 h2.2
      have hS := z13p mp.toNat (by omega)
      obtain ⟨d1, d2, d3, d4, d5⟩ := hS
      have d6 := d5 t.out.length h2.1 h2.2 (by omega)
      have hset := wai (setB mp.toNat) (fun p hp => by have := d3 p hp; omega) d2 (by omega)
      rw [d1, show ((mp.toNat : Nat) : Int) = mp by omega] at hset
      simp (maxSteps := 2000000) (disch := first | omega | (simp only [lenS]; try omega)) only [go_sem, reduceAdd, reduceEqDiff, reduceLeDiff, reduceSub, hs, weo, hset]
      refine W_for (setB mp.toNat).length (fun i st => st = ⟨[.any, .any, .ptr 0 0, .ptr 1 0, .ptr 2 0, .ptr 3 0, .ref 4 1 0 1, .ref 5 1 0 i, .any, .any, .any, .any, .any, .any, .ref 6 1 0 (setB mp.toNat).length, I (setB mp.toNat).length, I i, .any], [.box wgc [I s.conds, tks s.tasks], .box wg9 [I k, .bool false, I mp], .box wge [.nil true 1, .nil true 1, .nil true 1], .box wgd [I t.join, I t.split, ints t.inn, ints t.out, ints t.cut, ints t.stop, I t.role], .row t_int true 1 [I (s.conds + k)], .row t_int true 1 (((setB mp.toNat).take i).map fun p => I (at_ t.out p)), .row t_int true 1 ((setB mp.toNat).map I)]⟩) ?_ ?_ ?_
      · simp (maxSteps := 2000000) (disch := first | omega | (simp only [lenS]; try omega)) only [go_sem, reduceAdd, reduceEqDiff, reduceLeDiff, reduceSub]
        simp [hs]
      · rintro i st hi rfl
        have h6 := d6 _ (List.getElem_mem hi)
        have h7 := d3 _ (List.getElem_mem hi)
        have e := at_eq (m := t.out) (p := (setB mp.toNat)[i]) (by omega)
        simp (maxSteps := 2000000) (disch := first | omega | (simp only [lenS]; try omega)) only [go_sem, reduceAdd, reduceEqDiff, reduceLeDiff, reduceSub]
        rw [List.take_succ_eq_append_getElem hi, List.map_append]
        simp [e]
      · rintro st rfl
        simp (maxSteps := 2000000) (disch := first | omega | (simp only [lenS]; try omega)) only [go_sem, reduceAdd, reduceEqDiff, reduceLeDiff, reduceSub, hreg]
        simp [someL]
theorem wak (s : Spc) (h : zsv s = true) : C w7d [encS s] [] = some (.agg [I (s.conds + s.tasks.length), .un wge false 3 ((trS s).map encT), I 0, I 1], []) := by
  obtain ⟨hc, hn, hg⟩ := zsw h
  have hml := zqt h s.tasks.length (by omega)
  have hmv := wac s h
  have hU : (mvS s).map (trM s) = trS s := trM_U s s.tasks.length
  rw [← hU]
  have hall : ∀ m ∈ mvS s, isMv s m := fun m hm => zqr hm
  have hL : (mvS s).length ≤ 60 ∧ 2 ≤ (mvS s).length := by unfold mvS; omega
  generalize mvS s = M at *
  refine w11 ?_
  simp (maxSteps := 2000000) (disch := first | omega | (simp only [lenS]; try omega)) only [wbr, go_sem, reduceAdd, reduceEqDiff, reduceLeDiff, reduceSub]
  simp (maxSteps := 2000000) (disch := first | omega | (simp only [lenS]; try omega)) only [go_sem, reduceAdd, reduceEqDiff, reduceLeDiff, reduceSub, hmv]
  refine W_for M.length (fun i st => st = ⟨[.any, .ptr 0 0, .ptr 1 0, .ptr 2 0, .any, .ref 3 3 0 M.length, I M.length, I i, .any], [.box wgc [I s.conds, tks s.tasks], .box wg8 [I 0, .nil false 3, I 0, I 0], .box wga [I (s.conds + s.tasks.length), cellT 4 ((M.take i).map (trM s))], .row wg9 true 3 (M.map encM)] ++ blkT wge ((M.take i).map (trM s))⟩) ?_ ?_ ?_
  · simp (maxSteps := 2000000) (disch := first | omega | (simp only [lenS]; try omega)) only [go_sem, reduceAdd, reduceEqDiff, reduceLeDiff, reduceSub]
    simp [cellT, blkT]
  · rintro i st hi rfl
    have hm := hall _ (List.getElem_mem hi)
    have ht := wam s M[i] h hm
    have hlen : ((M.take i).map (trM s)).length = i := by simp; omega
    have hne : (M.take (i + 1)).map (trM s) ≠ [] := by intro e; have := congrArg List.length e; rw [List.length_map, List.length_take, List.length_nil] at this; omega
    have hsn : (M.take (i + 1)).map (trM s) = (M.take i).map (trM s) ++ [trM s M[i]] := by rw [List.take_succ_eq_append_getElem hi, List.map_append]; rfl
    rw [z7s hne, z6d hne, hsn]
    generalize (M.take i).map (trM s) = L at *
    cases hb : M[i].begin_ with
    | true =>
      have hr : (trM s M[i]).rst = [] := by simp only [trM, hb, if_true]; split <;> rfl
      rw [hb, if_pos rfl] at ht
      by_cases hL0 : L = []
      · subst hL0
        simp only [z7t, z6e]
        simp (maxSteps := 2000000) (disch := first | omega | (simp only [lenS]; try omega)) only [go_sem, reduceAdd, reduceEqDiff, reduceLeDiff, reduceSub, ht]
        simp [hr, hb]
      · rw [z7s hL0, z6d hL0]
        simp (maxSteps := 2000000) (disch := first | omega | (simp only [lenS]; try omega)) only [go_sem, reduceAdd, reduceEqDiff, reduceLeDiff, reduceSub, ht]
        simp [hr, hb]
    | false =>
      rw [hb, if_neg (by simp)] at ht
      by_cases hL0 : L = []
      · subst hL0
        simp only [z7t, z6e]
        simp (maxSteps := 2000000) (disch := first | omega | (simp only [lenS]; try omega)) only [go_sem, reduceAdd, reduceEqDiff, reduceLeDiff, reduceSub, ht]
        simp [hb]
      · rw [z7s hL0, z6d hL0]
        simp (maxSteps := 2000000) (disch := first | omega | (simp only [lenS]; try omega)) only [go_sem, reduceAdd, reduceEqDiff, reduceLeDiff, reduceSub, ht]
        simp [hb]
  · rintro st rfl
    have hne : (M.take M.length).map (trM s) ≠ [] := by intro e; have := congrArg List.length e; rw [List.length_map, List.length_take, List.length_nil] at this; omega
    rw [z7s hne, z6d hne, List.take_length]
    simp (maxSteps := 2000000) (disch := first | omega | (simp only [lenS]; try omega)) only [go_sem, reduceAdd, reduceEqDiff, reduceLeDiff, reduceSub]
theorem w9x (n : Net) (l : List Int) (h : 1 ≤ n.pl ∧ n.pl ≤ 16) (hl : l.length < 2^62) : C w6r [encN n, ints l] [] = some (.bool (zx2 n.pl l), []) := by
  refine w0f ?_
  simp (maxSteps := 2000000) (disch := first | omega | (simp only [lenS]; try omega)) only [wb5, go_sem, reduceAdd, reduceEqDiff, reduceLeDiff, reduceSub]
  simp (maxSteps := 2000000) (disch := first | omega | (simp only [lenS]; try omega)) only [go_sem, reduceAdd, reduceEqDiff, reduceLeDiff, reduceSub, wa6 l hl, w9v l _ _ hl]
  unfold zx2; grind
theorem w9i (n : Net) (t : Tr) (h : 1 ≤ n.pl ∧ n.pl ≤ 16) (ht : smT t) : C w6f [encT t, .pv (encN n) 0] [] = some (.bool (!goodT n.pl t), []) := by
  obtain ⟨h1, h2, h3⟩ := ht
  refine w03 ?_
  simp (maxSteps := 2000000) (disch := first | omega | (simp only [lenS]; try omega)) only [war, go_sem, reduceAdd, reduceEqDiff, reduceLeDiff, reduceSub]
  simp (maxSteps := 2000000) (disch := first | omega | (simp only [lenS]; try omega)) only [go_sem, reduceAdd, reduceEqDiff, reduceLeDiff, reduceSub, w9x n _ h]
  refine ⟨fun h6 => by rw [zgu (by omega)]; rfl, fun h6 => ⟨fun h7 => ⟨fun h8 => ⟨fun h9 => by rw [zgp (by omega) h7 h8 h9]; rfl, fun h9 => by simp [goodT, h9]⟩, fun h8 => by simp [goodT, h8]⟩, fun h7 => by simp [goodT, h7]⟩⟩
theorem wew (l : List Tr) (g : FuncId) (caps : List PV) (hc : refsL caps = []) (hcv : ∀ m h, z19r [] m h caps = some caps) (p : Tr → Bool) (hp : ∀ x ∈ l, C g (encT x :: caps) [] = some (.bool (p x), [])) (hl : l.length < 2^62) :
    C w89 [trs l, .clo g caps] [] = some (I (idxI l p), []) := by
  refine w1w ?_
  simp (maxSteps := 2000000) (disch := first | omega | (simp only [lenS]; try omega)) only [wcm, go_sem, reduceAdd, reduceEqDiff, reduceLeDiff, reduceSub]
  refine W_for l.length (fun k s => s = ⟨[trs l, .clo g caps, .any, .any, I l.length, I k, .any, .any], []⟩ ∧ (l.take k).any p = false) ?_ ?_ ?_
  · simp (maxSteps := 2000000) (disch := first | omega | (simp only [lenS]; try omega)) only [go_sem, reduceAdd, reduceEqDiff, reduceLeDiff, reduceSub, hc]
    rfl
  · rintro k s hk ⟨rfl, hall⟩
    simp (maxSteps := 2000000) (disch := first | omega | (simp only [lenS]; try omega)) only [go_sem, reduceAdd, reduceEqDiff, reduceLeDiff, reduceSub, hc, hcv, hp _ (List.getElem_mem hk)]
    exact ⟨fun h => by rw [zho hk hall h], fun h => ⟨rfl, z36 hk hall h⟩⟩
  · rintro s ⟨rfl, hall⟩
    simp (maxSteps := 2000000) (disch := first | omega | (simp only [lenS]; try omega)) only [go_sem, reduceAdd, reduceEqDiff, reduceLeDiff, reduceSub]
    rw [List.take_length] at hall
    rw [zhn hall]
theorem weq (l : List Tr) (g : FuncId) (caps : List PV) (hc : refsL caps = []) (hcv : ∀ m h, z19r [] m h caps = some caps) (p : Tr → Bool) (hp : ∀ x ∈ l, C g (encT x :: caps) [] = some (.bool (p x), [])) (hl : l.length < 2^62) :
    C w83 [trs l, .clo g caps] [] = some (.bool (l.any p), []) := by
  refine w1q ?_
  simp (maxSteps := 2000000) (disch := first | omega | (simp only [lenS]; try omega)) only [wcg, go_sem, reduceAdd, reduceEqDiff, reduceLeDiff, reduceSub]
  simp (maxSteps := 2000000) (disch := first | omega | (simp only [lenS]; try omega)) only [go_sem, reduceAdd, reduceEqDiff, reduceLeDiff, reduceSub, hc, hcv, wew l g caps hc hcv p hp hl]
  have := zhl l p
  grind
theorem w9j (n : Net) (hn : smN n) : C w6e [encN n] [] = some (.bool (goodN n), []) := by
  have h0 := hn.1
  refine w02 ?_
  simp (maxSteps := 2000000) (disch := first | omega | (simp only [lenS]; try omega)) only [waq, go_sem, reduceAdd, reduceEqDiff, reduceLeDiff, reduceSub]
  simp (maxSteps := 2000000) (disch := first | omega | (simp only [lenS]; try omega)) only [go_sem, reduceAdd, reduceEqDiff, reduceLeDiff, reduceSub, wan]
  refine ⟨fun h => ⟨fun h2 => ?_, fun h2 => ?_⟩, fun h => by simp [goodN, h]⟩
  · have hb : 1 ≤ n.pl ∧ n.pl ≤ 16 := by simpa [inB] using h
    have h3 := weq n.tr w6f [.pv (encN n) 0] rfl (fun _ _ => rfl) (fun t => !goodT n.pl t) (fun x hx => w9i n x hb (hn.2 x hx)) (by omega)
    simp (maxSteps := 2000000) (disch := first | omega | (simp only [lenS]; try omega)) only [go_sem, reduceAdd, reduceEqDiff, reduceLeDiff, reduceSub, h3]
    have : (n.tr.any fun t => !goodT n.pl t) = !n.tr.all (goodT n.pl) := by rw [List.any_eq_not_all_not]; simp
    have h4 : n.tr.length ≤ 24 := by omega
    simp only [this]
    simp [goodN, h, h4]
  · have : ¬ n.tr.length ≤ 24 := by omega
    simp [goodN, this]
theorem wae (x : Int) (P : List Bool) (h : 0 ≤ x ∧ x.toNat < P.length) : C w79 [I x, .pv (.agg [bls P]) 0] [] = some (.bool (P.getD x.toNat false), []) := by
  obtain ⟨h1, h2⟩ := h
  refine w0x ?_
  simp (maxSteps := 2000000) (disch := first | omega | (simp only [lenS]; try omega)) only [wbn, go_sem, reduceAdd, reduceEqDiff, reduceLeDiff, reduceSub]
  rw [zfv h2]
  grind
theorem wex (l : List Int) (g : FuncId) (caps : List PV) (hc : refsL caps = []) (hcv : ∀ m h, z19r [] m h caps = some caps) (p : Int → Bool) (hp : ∀ x ∈ l, C g (I x :: caps) [] = some (.bool (p x), [])) (hl : l.length < 2^62) :
    C w8a [ints l, .clo g caps] [] = some (I (idxI l p), []) := by
  refine w1x ?_
  simp (maxSteps := 2000000) (disch := first | omega | (simp only [lenS]; try omega)) only [wcn, go_sem, reduceAdd, reduceEqDiff, reduceLeDiff, reduceSub]
  refine W_for l.length (fun k s => s = ⟨[ints l, .clo g caps, .any, .any, I l.length, I k, .any, .any], []⟩ ∧ (l.take k).any p = false) ?_ ?_ ?_
  · simp (maxSteps := 2000000) (disch := first | omega | (simp only [lenS]; try omega)) only [go_sem, reduceAdd, reduceEqDiff, reduceLeDiff, reduceSub, hc]
    rfl
  · rintro k s hk ⟨rfl, hall⟩
    simp (maxSteps := 2000000) (disch := first | omega | (simp only [lenS]; try omega)) only [go_sem, reduceAdd, reduceEqDiff, reduceLeDiff, reduceSub, hc, hcv, hp _ (List.getElem_mem hk)]
    exact ⟨fun h => by rw [zho hk hall h], fun h => ⟨rfl, z36 hk hall h⟩⟩
  · rintro s ⟨rfl, hall⟩
    simp (maxSteps := 2000000) (disch := first | omega | (simp only [lenS]; try omega)) only [go_sem, reduceAdd, reduceEqDiff, reduceLeDiff, reduceSub]
    rw [List.take_length] at hall
    rw [zhn hall]
theorem wer (l : List Int) (g : FuncId) (caps : List PV) (hc : refsL caps = []) (hcv : ∀ m h, z19r [] m h caps = some caps) (p : Int → Bool) (hp : ∀ x ∈ l, C g (I x :: caps) [] = some (.bool (p x), [])) (hl : l.length < 2^62) :
    C w84 [ints l, .clo g caps] [] = some (.bool (l.any p), []) := by
  refine w1r ?_
  simp (maxSteps := 2000000) (disch := first | omega | (simp only [lenS]; try omega)) only [wch, go_sem, reduceAdd, reduceEqDiff, reduceLeDiff, reduceSub]
  simp (maxSteps := 2000000) (disch := first | omega | (simp only [lenS]; try omega)) only [go_sem, reduceAdd, reduceEqDiff, reduceLeDiff, reduceSub, hc, hcv, wex l g caps hc hcv p hp hl]
  have := zhl l p
  grind
end Go.Proofs.YtkkifebmicbbaaaGreat.Pi
