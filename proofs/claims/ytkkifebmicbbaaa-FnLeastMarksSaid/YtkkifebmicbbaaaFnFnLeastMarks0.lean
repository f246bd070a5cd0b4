/- The functions that the law reaches: what they answer. Conditions: those that each theorem names. -/
import Derived.Test.YtkkifebmicbbaaaIrFnLeastMarks
import Derived.Test.YtkkifebmicbbaaaPlFnLeastMarks
namespace Go.Proofs.Ytkkifebmicbbaaa.Pi
open Go
set_option linter.all false
open Nat (reduceAdd reduceEqDiff reduceLeDiff reduceSub)
set_option maxHeartbeats 4000000
set_option maxRecDepth 20000
/-- Lengths, all at once. -/
theorem lenS : (∀ {α : Type} (a b : List α), (a ++ b).length = a.length + b.length) ∧ (∀ {α : Type} (n : Nat) (l : List α), (l.take n).length = min n l.length) ∧ (∀ {α : Type} (n : Nat) (x : α), (List.replicate n x).length = n) ∧ (∀ {α β : Type} (f : α → β) (l : List α), (l.map f).length = l.length) ∧ (∀ {α : Type} (l : List α) (n : Nat) (x : α), (l.set n x).length = l.length) ∧ (∀ {α : Type} (x : α) (l : List α), (x :: l).length = l.length + 1) ∧ (∀ {α : Type}, ([] : List α).length = 0) ∧ (∀ {α β γ : Type} (f : α → β → γ) (a : List α) (b : List β), (List.zipWith f a b).length = min a.length b.length) ∧ (∀ {α : Type} (n : Nat) (l : List α), (l.drop n).length = l.length - n) ∧ (∀ (n : Nat), (List.range n).length = n) :=
  ⟨fun _ _ => List.length_append, fun _ _ => List.length_take, fun _ _ => List.length_replicate, fun _ _ => List.length_map _, fun _ _ _ => List.length_set, fun _ _ => List.length_cons, List.length_nil, fun _ _ _ => List.length_zipWith, fun _ _ => List.length_drop, fun _ => List.length_range⟩
theorem w7c (a b : List Int) : C w3x [bys a, bys b] [] = some (.bool (decide (1048576 < (a.length : Int)) || decide (1048576 - (a.length : Int) < b.length)), []) := by
  refine w0d ?_
  simp (maxSteps := 2000000) (disch := first | omega | (simp only [lenS]; try omega)) only [w5z, go_sem, reduceAdd, reduceEqDiff, reduceLeDiff, reduceSub]
  refine ⟨fun h => by simp [h], fun h => ?_⟩
  simp (maxSteps := 2000000) (disch := first | omega | (simp only [lenS]; try omega)) only [go_sem, reduceAdd, reduceEqDiff, reduceLeDiff, reduceSub]
  grind
theorem w8i (bs : List Int) (at_ sd : Int) (h0 : 0 ≤ at_) (h1 : at_ < 2^62) (hl : bs.length < 2^62) (hb : ∀ x ∈ bs, 0 ≤ x ∧ x < 256) :
    Lw (C w51 [.ptr 0 0] [.box w8v [bys bs, I at_, .int .u64 sd]]) fun r => ∃ x sd', r = (I x, [.box w8v [bys bs, I (at_ + 1), .int .u64 sd']]) ∧ 0 ≤ x ∧ x < 256 := by
  refine w1j ?_
  simp (maxSteps := 2000000) (disch := first | omega | (simp only [lenS]; try omega)) only [w71, go_sem, reduceAdd, reduceEqDiff, reduceLeDiff, reduceSub]
  refine ⟨fun h => ?_, fun h => ?_⟩
  · have h2 : at_.toNat < bs.length := by omega
    have h3 := hb _ (List.getElem_mem h2)
    simp (maxSteps := 2000000) (disch := first | omega | (simp only [lenS]; try omega)) only [go_sem, reduceAdd, reduceEqDiff, reduceLeDiff, reduceSub]
    exact ⟨_, _, rfl, h3⟩
  · refine ⟨fun _ => ⟨_, _, rfl, by omega, by omega⟩, fun _ => ?_⟩
    generalize hw : IntKind.u64.wrap (IntKind.u64.wrap (IntKind.u64.wrap (sd * 6364136223846793005) + IntKind.u64.wrap 0) + 1442695040888963407) = w
    have hb := z1bb (IntKind.u64.wrap (IntKind.u64.wrap (sd * 6364136223846793005) + IntKind.u64.wrap 0) + 1442695040888963407)
    rw [hw] at hb
    have h3 := z2u (x := w / 2 ^ min (Int.toNat 40) 64) (Int.ediv_nonneg hb.1 (by decide)) (Int.lt_of_le_of_lt (Int.ediv_le_self _ hb.1) hb.2)
    rw [wrap_i64 (by omega) (by omega)]
    exact ⟨_, _, rfl, h3⟩
theorem w8k (n : Int) (bs : List Int) (at_ sd : Int) (h0 : 0 ≤ at_) (h1 : at_ < 2^61) (hl : bs.length < 2^62) (hb : ∀ x ∈ bs, 0 ≤ x ∧ x < 256) :
    Lw (C w53 [.ptr 0 0, I n] [.box w8v [bys bs, I at_, .int .u64 sd]]) fun r => ∃ x at' sd', r = (I x, [.box w8v [bys bs, I at', .int .u64 sd']]) ∧ at_ ≤ at' ∧ at' ≤ at_ + 2 ∧ 0 ≤ x ∧ (x = 0 ∨ x < n) := by
  refine w1l ?_
  simp (maxSteps := 2000000) (disch := first | omega | (simp only [lenS]; try omega)) only [w73, go_sem, reduceAdd, reduceEqDiff, reduceLeDiff, reduceSub]
  refine ⟨fun h => ⟨_, _, _, rfl, by omega, by omega, by omega, by omega⟩, fun h => ?_⟩
  obtain ⟨_, e1, x1, s1, rfl, h3, h4⟩ := w8i bs at_ sd h0 (by omega) hl hb
  obtain ⟨_, e2, x2, s2, rfl, h5, h6⟩ := w8i bs (at_ + 1) s1 (by omega) (by omega) hl hb
  simp (maxSteps := 2000000) (disch := first | omega | (simp only [lenS]; try omega)) only [go_sem, reduceAdd, reduceEqDiff, reduceLeDiff, reduceSub, e1, e2]
  refine ⟨fun _ => ⟨_, _, _, rfl, by omega, by omega, Int.tmod_nonneg _ (by omega), .inr (Int.tmod_lt_of_pos _ (by omega))⟩, fun _ => ⟨_, _, _, rfl, by omega, by omega, Int.tmod_nonneg _ (by omega), .inr (Int.tmod_lt_of_pos _ (by omega))⟩⟩
theorem w8g (l : List Int) (t : TypeId) (hne : 0 < l.length) (hln : l.length < 2^30) (bs : List Int) (at_ sd : Int) (h0 : 0 ≤ at_) (h1 : at_ < 2^61) (hl : bs.length < 2^62) (hb : ∀ x ∈ bs, 0 ≤ x ∧ x < 256) :
    Lw (C w4z [.ptr 0 0, .ref 1 1 0 l.length] [.box w8v [bys bs, I at_, .int .u64 sd], .row t true 1 (l.map I)]) fun r => ∃ x at' sd', r = (I x, [.box w8v [bys bs, I at', .int .u64 sd'], .row t true 1 (l.map I)]) ∧ at_ ≤ at' ∧ at' ≤ at_ + 2 ∧ x ∈ l := by
  refine w1h ?_
  simp (maxSteps := 2000000) (disch := first | omega | (simp only [lenS]; try omega)) only [w6z, go_sem, reduceAdd, reduceEqDiff, reduceLeDiff, reduceSub]
  obtain ⟨_, e1, x1, a1, s1, rfl, h3, h4, h5, h6⟩ := w8k l.length bs at_ sd h0 h1 hl hb
  have h7 : x1.toNat < l.length := by omega
  simp (maxSteps := 2000000) (disch := first | omega | (simp only [lenS]; try omega)) only [go_sem, reduceAdd, reduceEqDiff, reduceLeDiff, reduceSub, e1]
  exact ⟨_, _, _, rfl, h3, h4, List.getElem_mem h7⟩
theorem w8j (n : Int) (bs : List Int) (at_ sd : Int) (h0 : 0 ≤ at_) (h1 : at_ < 2^61) (hl : bs.length < 2^62) (hb : ∀ x ∈ bs, 0 ≤ x ∧ x < 256) :
    Lw (C w52 [.ptr 0 0, I n] [.box w8v [bys bs, I at_, .int .u64 sd]]) fun r => ∃ x at' sd', r = (.bool x, [.box w8v [bys bs, I at', .int .u64 sd']]) ∧ at_ ≤ at' ∧ at' ≤ at_ + 2 := by
  refine w1k ?_
  simp (maxSteps := 2000000) (disch := first | omega | (simp only [lenS]; try omega)) only [w72, go_sem, reduceAdd, reduceEqDiff, reduceLeDiff, reduceSub]
  obtain ⟨_, e1, x1, a1, s1, rfl, h3, h4, h5⟩ := w8k n bs at_ sd h0 h1 hl hb
  simp (maxSteps := 2000000) (disch := first | omega | (simp only [lenS]; try omega)) only [go_sem, reduceAdd, reduceEqDiff, reduceLeDiff, reduceSub, e1]
  exact ⟨fun _ => ⟨_, _, _, rfl, h3, h4⟩, fun _ => ⟨_, _, _, rfl, h3, h4⟩⟩
theorem w8h (n : Int) (hn : n ≤ 100) (bs : List Int) (at_ sd : Int) (h0 : 0 ≤ at_) (h1 : at_ < 2^60) (hl : bs.length < 2^62) (hb : ∀ x ∈ bs, 0 ≤ x ∧ x < 256) :
    Lw (C w50 [.ptr 0 0, I n] [.box w8v [bys bs, I at_, .int .u64 sd]]) fun r => ∃ (l : List Int) (at' sd' : Int), r = (.un t_int true 1 (l.map I), [.box w8v [bys bs, I at', .int .u64 sd']]) ∧ at_ ≤ at' ∧ at' ≤ at_ + 1000 ∧ l.length ≤ 101 ∧ ∀ x ∈ l, 0 ≤ x ∧ x ≤ 51 := by
  refine w1i ?_
  simp (maxSteps := 2000000) (disch := first | omega | (simp only [lenS]; try omega)) only [w70, go_sem, reduceAdd, reduceEqDiff, reduceLeDiff, reduceSub]
  refine W_for n.toNat (fun k s => ∃ (l : List Int) (at' sd' : Int), s = ⟨[.ptr 0 0, I n, .any, .ref 1 1 0 k, I k, .any, .any, .any, .any], [.box w8v [bys bs, I at', .int .u64 sd'], .row t_int true 1 (l.map I)]⟩ ∧ l.length = k ∧ at_ ≤ at' ∧ at' ≤ at_ + 6 * k ∧ ∀ x ∈ l, 0 ≤ x ∧ x ≤ 51) ?_ ?_ ?_
  · refine ⟨[], at_, sd, ?_, rfl, by omega, by omega, by simp⟩
    simp (maxSteps := 2000000) (disch := first | omega | (simp only [lenS]; try omega)) only [go_sem, reduceAdd, reduceEqDiff, reduceLeDiff, reduceSub]
    rfl
  · rintro k s hk ⟨l, a, sd, rfl, rfl, h2, h3, h4⟩
    obtain ⟨_, e1, x1, a1, s1, rfl, h5, h6, h7, h8⟩ := w8k 3 bs a sd (by omega) (by omega) hl hb
    obtain ⟨_, e2, x2, a2, s2, rfl, h9, h10⟩ := w8j 12 bs a1 s1 (by omega) (by omega) hl hb
    obtain ⟨_, e3, x3, a3, s3, rfl, h11, h12, h13⟩ := w8g [49, 50, 51] t_int (by decide) (by decide) bs a2 s2 (by omega) (by omega) hl hb
    simp only [go_sem, Nat.reduceAdd] at e3
    simp (maxSteps := 2000000) (disch := first | omega | (simp only [lenS]; try omega)) only [go_sem, reduceAdd, reduceEqDiff, reduceLeDiff, reduceSub, e1, e2, e3]
    simp only [List.mem_cons, List.not_mem_nil, or_false] at h13
    refine ⟨fun _ => ⟨l ++ [x3], a3, s3, by rw [List.map_append]; rfl, by simp, by omega, by omega, ?_⟩, fun _ => ⟨l ++ [x1], a2, s2, by rw [List.map_append]; rfl, by simp, by omega, by omega, ?_⟩⟩
    · intro x hx
      rcases List.mem_append.1 hx with hx | hx
      · exact h4 x hx
      · simp only [List.mem_cons, List.not_mem_nil, or_false] at hx; omega
    · intro x hx
      rcases List.mem_append.1 hx with hx | hx
      · exact h4 x hx
      · simp only [List.mem_cons, List.not_mem_nil, or_false] at hx; omega
  · rintro s ⟨l, a, sd, rfl, hlen, h2, h3, h4⟩
    obtain ⟨_, e1, x1, a1, s1, rfl, h5, h6⟩ := w8j 40 bs a sd (by omega) (by omega) hl hb
    simp (maxSteps := 2000000) (disch := first | omega | (simp only [lenS]; try omega)) only [go_sem, reduceAdd, reduceEqDiff, reduceLeDiff, reduceSub, e1]
    refine ⟨fun _ => ⟨l ++ [0], a1, s1, by rw [List.map_append]; rfl, by omega, by omega, by simp; omega, ?_⟩, fun _ => ⟨l, a1, s1, rfl, by omega, by omega, by omega, h4⟩⟩
    intro x hx
    rcases List.mem_append.1 hx with hx | hx
    · exact h4 x hx
    · simp only [List.mem_cons, List.not_mem_nil, or_false] at hx; omega
theorem w8a (bs : List Int) (hl : bs.length < 2^62) (hb : ∀ x ∈ bs, 0 ≤ x ∧ x < 256) :
    Lw (C w4t [bys bs] []) fun r => ∃ (p : Int) (l : List (List Int)), r = (.tup [I p, .un w8t false 1 (l.map ints)], []) ∧ 0 ≤ p ∧ p ≤ 4 ∧ l.length ≤ 8 ∧ ∀ x ∈ l, x.length ≤ 101 := by
  obtain ⟨_, e1, p, a1, s1, rfl, h3, h4, h5⟩ := w8g [1, 2, 2, 3, 4] t_int (by decide) (by decide) bs 0 0 (by omega) (by omega) hl hb
  obtain ⟨_, e2, x2, a2, s2, rfl, g3, g4, g5, g6⟩ := w8k 7 bs a1 s1 (by omega) (by omega) hl hb
  have hp : 1 ≤ p ∧ p ≤ 4 := by simp only [List.mem_cons, List.not_mem_nil, or_false] at h5; omega
  clear h5
  simp only [go_sem, Nat.reduceAdd] at e1
  refine w1f ?_
  simp (maxSteps := 2000000) (disch := first | omega | (simp only [lenS]; try omega)) only [w6t, go_sem, reduceAdd, reduceEqDiff, reduceLeDiff, reduceSub]
  simp (maxSteps := 2000000) (disch := first | omega | (simp only [lenS]; try omega)) only [go_sem, reduceAdd, reduceEqDiff, reduceLeDiff, reduceSub, e1, e2]
  refine z1a (fun k s => ∃ (l : List (List Int)) (a sd : Int), l.length + k ≤ 7 ∧ (∀ x ∈ l, x.length ≤ 101) ∧ (a1 ≤ a ∧ a ≤ a1 + 10000 - 1000 * k) ∧ s = ⟨[.any, .any, .any, .ptr 0 0, I p, .ref 1 1 0 l.length, I k, .any, .any], [.box w8v [bys bs, I a, .int .u64 sd], .row w8t false 1 (l.map ints)]⟩) x2.toNat ?_ ?_
  · simp (maxSteps := 2000000) (disch := first | omega | (simp only [lenS]; try omega)) only [go_sem, reduceAdd, reduceEqDiff, reduceLeDiff, reduceSub]
    exact ⟨[], a2, s2, by simp; omega, by simp, by omega, by rw [Int.toNat_of_nonneg (by omega)]; rfl⟩
  · rintro k s ⟨l, a, sd, k1, k2, k3, rfl⟩
    rcases Nat.eq_zero_or_pos k with rfl | hk
    · obtain ⟨_, e3, x3, a3, s3, rfl, f3, f4⟩ := w8j 3 bs a sd (by omega) (by omega) hl hb
      cases l with
      | nil =>
        simp (maxSteps := 2000000) (disch := first | omega | (simp only [lenS]; try omega)) only [go_sem, reduceAdd, reduceEqDiff, reduceLeDiff, reduceSub]
        exact ⟨p, [], rfl, by omega, by omega, by simp, by simp⟩
      | cons m l =>
        cases x3 with
        | false =>
          simp (maxSteps := 2000000) (disch := first | omega | (simp only [lenS]; try omega)) only [go_sem, reduceAdd, reduceEqDiff, reduceLeDiff, reduceSub, e3]
          exact ⟨p, m :: l, rfl, by omega, by omega, by simp at k1; simp; omega, k2⟩
        | true =>
          have k1' : l.length + 1 ≤ 7 := by simpa using k1
          simp (maxSteps := 2000000) (disch := first | omega | (simp only [lenS]; try omega)) only [go_sem, reduceAdd, reduceEqDiff, reduceLeDiff, reduceSub, e3, Int.toNat_zero, List.getElem_cons_zero]
          refine ⟨p, m :: l ++ [m], by simp, by omega, by omega, by simp at k1; simp; omega, fun x hx => ?_⟩
          rw [List.mem_append, List.mem_singleton] at hx
          rcases hx with hx | rfl
          · exact k2 x hx
          · exact k2 _ (by simp)
    · obtain ⟨_, e3, m, a3, s3, rfl, f3, f4, f5, f6⟩ := w8h p (by omega) bs a sd (by omega) (by omega) hl hb
      obtain ⟨j, hj⟩ : ∃ j : Nat, (k : Int) - 1 = j := ⟨k - 1, by omega⟩
      simp (maxSteps := 2000000) (disch := first | omega | (simp only [lenS]; try omega)) only [go_sem, reduceAdd, reduceEqDiff, reduceLeDiff, reduceSub, e3, hj]
      refine ⟨j, by omega, l ++ [m], a3, s3, by simp; omega, fun x hx => ?_, by omega, by simp⟩
      rw [List.mem_append, List.mem_singleton] at hx
      rcases hx with hx | rfl
      · exact k2 x hx
      · exact f5
theorem w5l (n lo hi : Int) : C w3v [I n, I lo, I hi] [] = some (.bool (inB lo hi n), []) := by
  refine w0b ?_
  simp (maxSteps := 2000000) (disch := first | omega | (simp only [lenS]; try omega)) only [w5x, go_sem, reduceAdd, reduceEqDiff, reduceLeDiff, reduceSub]
  unfold inB; grind
theorem w5g (l : List Int) (lo hi : Int) (hl : l.length < 2^62) : C w3q [ints l, I lo, I hi] [] = some (.bool (l.all (inB lo hi)), []) := by
  refine w06 ?_
  simp (maxSteps := 2000000) (disch := first | omega | (simp only [lenS]; try omega)) only [w5s, go_sem, reduceAdd, reduceEqDiff, reduceLeDiff, reduceSub]
  refine W_for l.length (fun k s => s = ⟨[.any, I lo, I hi, .any, .any, ints l, I l.length, I k, .any, .any], []⟩ ∧ (l.take k).all (inB lo hi) = true) ?_ ?_ ?_
  · simp (maxSteps := 2000000) (disch := first | omega | (simp only [lenS]; try omega)) only [go_sem, reduceAdd, reduceEqDiff, reduceLeDiff, reduceSub]
    rfl
  · rintro k s hk ⟨rfl, hall⟩
    simp (maxSteps := 2000000) (disch := first | omega | (simp only [lenS]; try omega)) only [go_sem, reduceAdd, reduceEqDiff, reduceLeDiff, reduceSub, w5l]
    exact ⟨fun h => ⟨rfl, z2s hk hall h⟩, fun h => by rw [z2r hk h]⟩
  · rintro s ⟨rfl, hall⟩
    simp (maxSteps := 2000000) (disch := first | omega | (simp only [lenS]; try omega)) only [go_sem, reduceAdd, reduceEqDiff, reduceLeDiff, reduceSub]
    rw [List.take_length] at hall
    rw [hall]
theorem w5e (p : Int) (m : List Int) (hl : m.length < 2^62) : C w3o [I p, ints m] [] = some (.bool (goodM p m), []) := by
  refine w04 ?_
  simp (maxSteps := 2000000) (disch := first | omega | (simp only [lenS]; try omega)) only [w5q, go_sem, reduceAdd, reduceEqDiff, reduceLeDiff, reduceSub]
  simp (maxSteps := 2000000) (disch := first | omega | (simp only [lenS]; try omega)) only [go_sem, reduceAdd, reduceEqDiff, reduceLeDiff, reduceSub, w5l, w5g m _ _ hl]
  unfold goodM; grind
theorem w5h (p : Int) (m : List Int) (hl : m.length < 2^62) : C w3s [ints m, .pv (.agg [I p]) 0] [] = some (.bool (!goodM p m), []) := by
  refine w08 ?_
  simp (maxSteps := 2000000) (disch := first | omega | (simp only [lenS]; try omega)) only [w5u, go_sem, reduceAdd, reduceEqDiff, reduceLeDiff, reduceSub]
  simp (maxSteps := 2000000) (disch := first | omega | (simp only [lenS]; try omega)) only [go_sem, reduceAdd, reduceEqDiff, reduceLeDiff, reduceSub, w5e p m hl]
  grind
theorem w7q (l : List (List Int)) (g : FuncId) (caps : List PV) (hc : refsL caps = []) (hcv : ∀ m h, z1bj [] m h caps = some caps) (p : List Int → Bool) (hp : ∀ x ∈ l, C g (ints x :: caps) [] = some (.bool (p x), [])) (hl : l.length < 2^62) :
    C w49 [rows l, .clo g caps] [] = some (I (idxI l p), []) := by
  refine w0l ?_
  simp (maxSteps := 2000000) (disch := first | omega | (simp only [lenS]; try omega)) only [w69, go_sem, reduceAdd, reduceEqDiff, reduceLeDiff, reduceSub]
  refine W_for l.length (fun k s => s = ⟨[rows l, .clo g caps, .any, .any, I l.length, I k, .any, .any], []⟩ ∧ (l.take k).any p = false) ?_ ?_ ?_
  · simp (maxSteps := 2000000) (disch := first | omega | (simp only [lenS]; try omega)) only [go_sem, reduceAdd, reduceEqDiff, reduceLeDiff, reduceSub, hc]
    rfl
  · rintro k s hk ⟨rfl, hall⟩
    simp (maxSteps := 2000000) (disch := first | omega | (simp only [lenS]; try omega)) only [go_sem, reduceAdd, reduceEqDiff, reduceLeDiff, reduceSub, hc, hcv, hp _ (List.getElem_mem hk)]
    exact ⟨fun h => by rw [zid hk hall h], fun h => ⟨rfl, z37 hk hall h⟩⟩
  · rintro s ⟨rfl, hall⟩
    simp (maxSteps := 2000000) (disch := first | omega | (simp only [lenS]; try omega)) only [go_sem, reduceAdd, reduceEqDiff, reduceLeDiff, reduceSub]
    rw [List.take_length] at hall
    rw [zic hall]
theorem w7o (l : List (List Int)) (g : FuncId) (caps : List PV) (hc : refsL caps = []) (hcv : ∀ m h, z1bj [] m h caps = some caps) (p : List Int → Bool) (hp : ∀ x ∈ l, C g (ints x :: caps) [] = some (.bool (p x), [])) (hl : l.length < 2^62) :
    C w47 [rows l, .clo g caps] [] = some (.bool (l.any p), []) := by
  refine w0j ?_
  simp (maxSteps := 2000000) (disch := first | omega | (simp only [lenS]; try omega)) only [w67, go_sem, reduceAdd, reduceEqDiff, reduceLeDiff, reduceSub]
  simp (maxSteps := 2000000) (disch := first | omega | (simp only [lenS]; try omega)) only [go_sem, reduceAdd, reduceEqDiff, reduceLeDiff, reduceSub, hc, hcv, w7q l g caps hc hcv p hp hl]
  have := zia l p
  grind
theorem w5i (p : Int) (l : List (List Int)) (hl : l.length < 2^62) (hm : ∀ m ∈ l, m.length < 2^62) : C w3r [I p, rows l] [] = some (.bool (l.all (goodM p)), []) := by
  refine w07 ?_
  simp (maxSteps := 2000000) (disch := first | omega | (simp only [lenS]; try omega)) only [w5t, go_sem, reduceAdd, reduceEqDiff, reduceLeDiff, reduceSub]
  have h := w7o l w3s [.pv (.agg [I p]) 0] rfl (fun _ _ => rfl) (fun m => !goodM p m) (fun x hx => w5h p x (hm x hx)) hl
  simp (maxSteps := 2000000) (disch := first | omega | (simp only [lenS]; try omega)) only [go_sem, reduceAdd, reduceEqDiff, reduceLeDiff, reduceSub, h]
  have : (l.any fun m => !goodM p m) = !l.all (goodM p) := by rw [List.any_eq_not_all_not]; simp
  rw [this]; grind
theorem w7f : ∀ k : Fin 256, (⟨#[0, 1, 2, 2, 3, 3, 3, 3, 4, 4, 4, 4, 4, 4, 4, 4, 5, 5, 5, 5, 5, 5, 5, 5, 5, 5, 5, 5, 5, 5, 5, 5, 6, 6, 6, 6, 6, 6, 6, 6, 6, 6, 6, 6, 6, 6, 6, 6, 6, 6, 6, 6, 6, 6, 6, 6, 6, 6, 6, 6, 6, 6, 6, 6, 7, 7, 7, 7, 7, 7, 7, 7, 7, 7, 7, 7, 7, 7, 7, 7, 7, 7, 7, 7, 7, 7, 7, 7, 7, 7, 7, 7, 7, 7, 7, 7, 7, 7, 7, 7, 7, 7, 7, 7, 7, 7, 7, 7, 7, 7, 7, 7, 7, 7, 7, 7, 7, 7, 7, 7, 7, 7, 7, 7, 7, 7, 7, 7, 8, 8, 8, 8, 8, 8, 8, 8, 8, 8, 8, 8, 8, 8, 8, 8, 8, 8, 8, 8, 8, 8, 8, 8, 8, 8, 8, 8, 8, 8, 8, 8, 8, 8, 8, 8, 8, 8, 8, 8, 8, 8, 8, 8, 8, 8, 8, 8, 8, 8, 8, 8, 8, 8, 8, 8, 8, 8, 8, 8, 8, 8, 8, 8, 8, 8, 8, 8, 8, 8, 8, 8, 8, 8, 8, 8, 8, 8, 8, 8, 8, 8, 8, 8, 8, 8, 8, 8, 8, 8, 8, 8, 8, 8, 8, 8, 8, 8, 8, 8, 8, 8, 8, 8, 8, 8, 8, 8, 8, 8, 8, 8, 8, 8, 8, 8, 8, 8, 8, 8, 8, 8, 8, 8, 8, 8, 8, 8]⟩ : ByteArray)[k.val]? = some (UInt8.ofNat (Sort.bitsLen k.val)) := by decide +kernel
theorem w7g : ∀ k : Fin 256, (UInt8.ofNat (Sort.bitsLen k.val)).toNat = Sort.bitsLen k.val ∧ Sort.bitsLen k.val ≤ 8 := by decide +kernel
theorem w7h (n : Nat) (hn : n < 65536) : C w42 [.int .u64 n] [] = some (I (Sort.bitsLen n), []) := by
  refine w0h ?_
  simp (maxSteps := 2000000) (disch := first | omega | (simp only [lenS]; try omega)) only [w64, go_sem, reduceAdd, reduceEqDiff, reduceLeDiff, reduceSub]
  by_cases h : (256 : Int) ≤ n
  · have e1 := w7f ⟨n / 256, by omega⟩
    have e2 := w7g ⟨n / 256, by omega⟩
    have e3 := z6c (n := n) (by omega)
    simp only at e1 e2
    have hd : (n : Int) / 2 ^ min (Int.toNat 8) 64 = ((n / 256 : Nat) : Int) := by show (n : Int) / 256 = _; omega
    have e4 : (IntKind.u8.wrap ((n / 256 : Nat) : Int)).toNat = n / 256 := by rw [IntKind.wrap_u8]; omega
    have h2 : ¬ (n : Int) < 256 := by omega
    rw [e3]
    generalize Sort.bitsLen (n / 256) = z at *
    simp (maxSteps := 2000000) (disch := first | omega | (simp only [lenS]; try omega)) only [go_sem, reduceAdd, reduceEqDiff, reduceLeDiff, reduceSub, h, h2, e1, hd, e4, e2.1, false_implies, and_true]
    rw [show ((8 + z : Nat) : Int) = 0 + 8 + (z : Int) by omega]
  · have e1 := w7f ⟨n, by omega⟩
    have e2 := w7g ⟨n, by omega⟩
    simp only at e1 e2
    have e4 : (IntKind.u8.wrap (n : Int)).toNat = n := by rw [IntKind.wrap_u8]; omega
    have h2 : (n : Int) < 256 := by omega
    generalize Sort.bitsLen n = z at *
    simp (maxSteps := 2000000) (disch := first | omega | (simp only [lenS]; try omega)) only [go_sem, reduceAdd, reduceEqDiff, reduceLeDiff, reduceSub, h, h2, e1, e4, e2.1, false_implies, true_and, forall_const]
    rw [show (0 : Int) + (z : Int) = z by omega]
theorem w7i (n : Nat) (hn : n < 65536) : C w40 [.int .u64 n] [] = some (I (Sort.bitsLen n), []) := by
  have h := w7h n hn
  refine w0g ?_
  simp (maxSteps := 2000000) (disch := first | omega | (simp only [lenS]; try omega)) only [w62, go_sem, reduceAdd, reduceEqDiff, reduceLeDiff, reduceSub]
  simp (maxSteps := 2000000) (disch := first | omega | (simp only [lenS]; try omega)) only [go_sem, reduceAdd, reduceEqDiff, reduceLeDiff, reduceSub, h]
theorem w7v {α : Type} [Inhabited α] (g : α → List Int) (cm : α → α → Int) (H : ∀ x y, C w46 [ints (g x), ints (g y)] [] = some (I (cm x y), [])) (t : TypeId) (d : Array α) (a b : Nat) (hab : a ≤ b) (hb : b ≤ d.size) (hs : d.size < 2^40) :
    C w4e [.ref 0 1 0 d.size, I a, I b, .clo w46 []] (.row t false 1 (d.toList.map fun x => ints (g x)) :: []) = some (.tup [], .row t false 1 ((Sort.insertionSort (ltC cm) d a b).toList.map fun x => ints (g x)) :: []) := by
  unfold Sort.insertionSort
  refine w0n ?_
  simp (maxSteps := 2000000) (disch := first | omega | (simp only [lenS]; try omega)) only [w6e, go_sem, reduceAdd, reduceEqDiff, reduceLeDiff, reduceSub]
  refine z1a (fun k s => ∃ (i : Nat) (D : Array α), a < i ∧ k = b + 1 - i ∧ i ≤ b + 1 ∧ D.size = d.size ∧ Sort.insOuter (ltC cm) a b i D = Sort.insOuter (ltC cm) a b (a + 1) d ∧ s = ⟨[.ref 0 1 0 d.size, I a, I b, .clo w46 [], I i, .any, .any, .any], .row t false 1 (D.toList.map fun x => ints (g x)) :: []⟩) (b - a) ?_ ?_
  · simp (maxSteps := 2000000) (disch := first | omega | (simp only [lenS]; try omega)) only [go_sem, reduceAdd, reduceEqDiff, reduceLeDiff, reduceSub]
    exact ⟨a + 1, d, by omega, by omega, by omega, rfl, rfl, by simp⟩
  · rintro k s ⟨i, D, h1, rfl, h2, h3, h4, rfl⟩
    simp (maxSteps := 2000000) (disch := first | omega | (simp only [lenS]; try omega)) only [go_sem, reduceAdd, reduceEqDiff, reduceLeDiff, reduceSub]
    refine ⟨fun hi => ?_, fun hi => ?_⟩
    · refine z1a (fun k s => ∃ (E : Array α), a ≤ k ∧ k ≤ i ∧ E.size = d.size ∧ Sort.insInner (ltC cm) a k E = Sort.insInner (ltC cm) a i D ∧ s = ⟨[.ref 0 1 0 d.size, I a, I b, .clo w46 [], I i, I k, .any, .any], .row t false 1 (E.toList.map fun x => ints (g x)) :: []⟩) i ?_ ?_
      · simp (maxSteps := 2000000) (disch := first | omega | (simp only [lenS]; try omega)) only [go_sem, reduceAdd, reduceEqDiff, reduceLeDiff, reduceSub]
        exact ⟨D, by omega, h3, rfl, rfl⟩
      · rintro k s ⟨E, k1, k2, k3, k4, rfl⟩
        have e0 := zko (ltC cm) (a := a) (j := k) E
        have e1 := zkp (ltC cm) (a := a) (j := k) E
        have e2 := z149 E (i := k) (by omega)
        have e3 := z149 E (i := k - 1) (by omega)
        have e4 := z14d (fun x => ints (g x)) E k (k - 1)
        have e5 : ((k : Int) - 1).toNat = k - 1 := by omega
        have e6 : (E.toList.map fun x => ints (g x)).length = d.size := by simp [k3]
        have e7 : E.toList.length = d.size := by simp [k3]
        simp only [ltC] at e0 e1
        generalize E[k]! = x at *
        generalize E[k - 1]! = y at *
        have hout := zku (ltC cm) (a := a) D (show i < b by omega)
        by_cases hak : (a : Int) < k
        · by_cases hlt : cm x y < 0
          · simp (maxSteps := 2000000) (disch := first | omega | (simp only [lenS]; try omega)) only [go_sem, reduceAdd, reduceEqDiff, reduceLeDiff, reduceSub, H, e2, e3, e5, e7, hlt, List.getElem?_set_ne, List.getElem_set_ne, List.getElem_map]
            refine ⟨k - 1, by omega, Sort.swp E k (k - 1), by omega, by omega, ?_, ?_, ?_⟩
            · rw [Sort.size_swp]; exact k3
            · rw [← k4, e1 (by omega) (by simp [hlt])]
            · rw [e4, show ((k : Int) - 1) = ((k - 1 : Nat) : Int) by omega]
          · simp (maxSteps := 2000000) (disch := first | omega | (simp only [lenS]; try omega)) only [go_sem, reduceAdd, reduceEqDiff, reduceLeDiff, reduceSub, H, e2, e3, e5, e7, hlt, List.getElem?_set_ne, List.getElem_set_ne, List.getElem_map]
            refine ⟨b + 1 - (i + 1), by omega, i + 1, E, by omega, rfl, by omega, k3, ?_, ?_⟩
            · rw [← h4, hout, ← k4, e0 (.inr (by simp [hlt]))]
            · rfl
        · simp (maxSteps := 2000000) (disch := first | omega | (simp only [lenS]; try omega)) only [go_sem, reduceAdd, reduceEqDiff, reduceLeDiff, reduceSub]
          refine ⟨b + 1 - (i + 1), by omega, i + 1, E, by omega, rfl, by omega, k3, ?_, ?_⟩
          · rw [← h4, hout, ← k4, e0 (.inl (by omega))]
          · rfl
    · rw [← h4, zkt _ _ (by omega)]
theorem w85 {α : Type} [Inhabited α] (g : α → List Int) (cm : α → α → Int) (H : ∀ x y, C w46 [ints (g x), ints (g y)] [] = some (I (cm x y), [])) (t : TypeId) (d : Array α) (lo hi f : Nat) (hlo : lo ≤ d.size) (hb : f + hi ≤ d.size) (hs : d.size < 2^40) :
    C w4o [.ref 0 1 0 d.size, I lo, I hi, I f, .clo w46 []] (.row t false 1 (d.toList.map fun x => ints (g x)) :: []) = some (.tup [], .row t false 1 ((Sort.siftDown (ltC cm) hi f lo d).toList.map fun x => ints (g x)) :: []) := by
  refine w0s ?_
  simp (maxSteps := 2000000) (disch := first | omega | (simp only [lenS]; try omega)) only [w6o, go_sem, reduceAdd, reduceEqDiff, reduceLeDiff, reduceSub]
  refine z1a (fun k s => ∃ (r : Nat) (E : Array α), k = hi - r ∧ r ≤ d.size ∧ E.size = d.size ∧ Sort.siftDown (ltC cm) hi f r E = Sort.siftDown (ltC cm) hi f lo d ∧ s = ⟨[.ref 0 1 0 d.size, .any, I hi, I f, .clo w46 [], I r, .any, .any, .any, .any], .row t false 1 (E.toList.map fun x => ints (g x)) :: []⟩) (hi - lo) ?_ ?_
  · simp (maxSteps := 2000000) (disch := first | omega | (simp only [lenS]; try omega)) only [go_sem, reduceAdd, reduceEqDiff, reduceLeDiff, reduceSub]
    exact ⟨lo, d, rfl, by omega, rfl, rfl, rfl⟩
  · rintro k s ⟨r, E, rfl, k1, k3, k4, rfl⟩
    have e7 : E.toList.length = d.size := by simp [k3]
    obtain ⟨c1, hc1⟩ : ∃ c : Nat, 2 * (r : Int) + 1 = c := ⟨2 * r + 1, by omega⟩
    obtain ⟨c2, hc2⟩ : ∃ c : Nat, (c1 : Int) + 1 = c := ⟨2 * r + 2, by omega⟩
    by_cases h1 : (c1 : Int) < hi
    · obtain ⟨p1, hp1⟩ : ∃ p : Nat, (f : Int) + (c1 : Int) = p := ⟨f + c1, by omega⟩
      have z1 : f + (2 * r + 1) = p1 := by omega
      have e2 := z149 E (i := p1) (by omega)
      by_cases h2 : (c2 : Int) < hi
      · obtain ⟨p2, hp2⟩ : ∃ p : Nat, (f : Int) + (c2 : Int) = p := ⟨f + c2, by omega⟩
        have hp3 : (p1 : Int) + 1 = p2 := by omega
        have z2 : f + (2 * r + 2) = p2 := by omega
        have e3 := z149 E (i := p2) (by omega)
        by_cases hlt : cm E[p1]! E[p2]! < 0
        · have hcc : (c2 = 2 * r + 2 ∧ 2 * r + 2 < hi ∧ ltC cm E[f + (2 * r + 1)]! E[f + (2 * r + 2)]! = true) ∨ (c2 = 2 * r + 1 ∧ ¬ (2 * r + 2 < hi ∧ ltC cm E[f + (2 * r + 1)]! E[f + (2 * r + 2)]! = true)) := .inl ⟨by omega, by omega, by rw [z1, z2]; simpa [ltC] using hlt⟩
          generalize E[p1]! = a1 at *
          have hq := hp2
          generalize c2 = c at *
          generalize p2 = q at *
          obtain ⟨p, hp⟩ : ∃ p : Nat, (f : Int) + (r : Int) = p := ⟨f + r, by omega⟩
          have hs0 := z168 (ltC cm) (f := f) (c := c) E (show 2 * r + 1 < hi by omega) hcc
          have hs1 := z166 (ltC cm) (f := f) (c := c) E (show 2 * r + 1 < hi by omega) hcc
          have hcl : r < c ∧ c < hi := by rcases hcc with ⟨h, _⟩ | ⟨h, _⟩ <;> omega
          clear hcc
          rw [show f + c = q by omega, show f + r = p by omega] at hs0 hs1
          have w3 := z149 E (i := p) (by omega)
          have w4 := z14d (fun x => ints (g x)) E p q
          simp only [ltC] at hs0 hs1
          generalize E[q]! = y at *
          generalize E[p]! = x at *
          by_cases hs2 : cm x y < 0
          simp (maxSteps := 2000000) (disch := first | omega | (simp only [lenS]; try omega)) only [go_sem, reduceAdd, reduceEqDiff, reduceLeDiff, reduceSub, H, e2, e3, w3, e7, hc1, hc2, hp1, hp2, hp3, hp, hlt, hs2, List.getElem?_set_ne, List.getElem_set_ne, List.getElem_map]
          rotate_left
          simp (maxSteps := 2000000) (disch := first | omega | (simp only [lenS]; try omega)) only [go_sem, reduceAdd, reduceEqDiff, reduceLeDiff, reduceSub, H, e2, e3, w3, e7, hc1, hc2, hp1, hp2, hp3, hp, hlt, hs2, List.getElem?_set_ne, List.getElem_set_ne, List.getElem_map]
          rotate_left
          · refine ⟨hi - c, by omega, c, Sort.swp E p q, rfl, by omega, ?_, ?_, ?_⟩
            · rw [Sort.size_swp]; exact k3
            · rw [← k4, hs1 (by simp [hs2])]
            · rw [w4]
          · rw [← k4, hs0 (by simp [hs2])]
        · have hcc : (c1 = 2 * r + 2 ∧ 2 * r + 2 < hi ∧ ltC cm E[f + (2 * r + 1)]! E[f + (2 * r + 2)]! = true) ∨ (c1 = 2 * r + 1 ∧ ¬ (2 * r + 2 < hi ∧ ltC cm E[f + (2 * r + 1)]! E[f + (2 * r + 2)]! = true)) := .inr ⟨by omega, by rw [z1, z2]; simpa [ltC] using fun _ => hlt⟩
          generalize E[p2]! = a2 at *
          have hq := hp1
          generalize c1 = c at *
          generalize p1 = q at *
          obtain ⟨p, hp⟩ : ∃ p : Nat, (f : Int) + (r : Int) = p := ⟨f + r, by omega⟩
          have hs0 := z168 (ltC cm) (f := f) (c := c) E (show 2 * r + 1 < hi by omega) hcc
          have hs1 := z166 (ltC cm) (f := f) (c := c) E (show 2 * r + 1 < hi by omega) hcc
          have hcl : r < c ∧ c < hi := by rcases hcc with ⟨h, _⟩ | ⟨h, _⟩ <;> omega
          clear hcc
          rw [show f + c = q by omega, show f + r = p by omega] at hs0 hs1
          have w3 := z149 E (i := p) (by omega)
          have w4 := z14d (fun x => ints (g x)) E p q
          simp only [ltC] at hs0 hs1
          generalize E[q]! = y at *
          generalize E[p]! = x at *
          by_cases hs2 : cm x y < 0
          simp (maxSteps := 2000000) (disch := first | omega | (simp only [lenS]; try omega)) only [go_sem, reduceAdd, reduceEqDiff, reduceLeDiff, reduceSub, H, e2, e3, w3, e7, hc1, hc2, hp1, hp2, hp3, hp, hlt, hs2, List.getElem?_set_ne, List.getElem_set_ne, List.getElem_map]
          rotate_left
          simp (maxSteps := 2000000) (disch := first | omega | (simp only [lenS]; try omega)) only [go_sem, reduceAdd, reduceEqDiff, reduceLeDiff, reduceSub, H, e2, e3, w3, e7, hc1, hc2, hp1, hp2, hp3, hp, hlt, hs2, List.getElem?_set_ne, List.getElem_set_ne, List.getElem_map]
          rotate_left
          · refine ⟨hi - c, by omega, c, Sort.swp E p q, rfl, by omega, ?_, ?_, ?_⟩
            · rw [Sort.size_swp]; exact k3
            · rw [← k4, hs1 (by simp [hs2])]
            · rw [w4]
          · rw [← k4, hs0 (by simp [hs2])]
      · have hcc : (c1 = 2 * r + 2 ∧ 2 * r + 2 < hi ∧ ltC cm E[f + (2 * r + 1)]! E[f + (2 * r + 2)]! = true) ∨ (c1 = 2 * r + 1 ∧ ¬ (2 * r + 2 < hi ∧ ltC cm E[f + (2 * r + 1)]! E[f + (2 * r + 2)]! = true)) := .inr ⟨by omega, by omega⟩
        have hq := hp1
        generalize c1 = c at *
        generalize p1 = q at *
        obtain ⟨p, hp⟩ : ∃ p : Nat, (f : Int) + (r : Int) = p := ⟨f + r, by omega⟩
        have hs0 := z168 (ltC cm) (f := f) (c := c) E (show 2 * r + 1 < hi by omega) hcc
        have hs1 := z166 (ltC cm) (f := f) (c := c) E (show 2 * r + 1 < hi by omega) hcc
        have hcl : r < c ∧ c < hi := by rcases hcc with ⟨h, _⟩ | ⟨h, _⟩ <;> omega
        clear hcc
        rw [show f + c = q by omega, show f + r = p by omega] at hs0 hs1
        have w3 := z149 E (i := p) (by omega)
        have w4 := z14d (fun x => ints (g x)) E p q
        simp only [ltC] at hs0 hs1
        generalize E[q]! = y at *
        generalize E[p]! = x at *
        by_cases hs2 : cm x y < 0
        simp (maxSteps := 2000000) (disch := first | omega | (simp only [lenS]; try omega)) only [go_sem, reduceAdd, reduceEqDiff, reduceLeDiff, reduceSub, H, e2, w3, e7, hc1, hc2, hp1, hp, hs2, List.getElem?_set_ne, List.getElem_set_ne, List.getElem_map]
        rotate_left
        simp (maxSteps := 2000000) (disch := first | omega | (simp only [lenS]; try omega)) only [go_sem, reduceAdd, reduceEqDiff, reduceLeDiff, reduceSub, H, e2, w3, e7, hc1, hc2, hp1, hp, hs2, List.getElem?_set_ne, List.getElem_set_ne, List.getElem_map]
        rotate_left
        · refine ⟨hi - c, by omega, c, Sort.swp E p q, rfl, by omega, ?_, ?_, ?_⟩
          · rw [Sort.size_swp]; exact k3
          · rw [← k4, hs1 (by simp [hs2])]
          · rw [w4]
        · rw [← k4, hs0 (by simp [hs2])]
    · simp (maxSteps := 2000000) (disch := first | omega | (simp only [lenS]; try omega)) only [go_sem, reduceAdd, reduceEqDiff, reduceLeDiff, reduceSub, hc1]
      rw [← k4, z165 _ _ (by omega)]
theorem w7u {α : Type} [Inhabited α] (g : α → List Int) (cm : α → α → Int) (H : ∀ x y, C w46 [ints (g x), ints (g y)] [] = some (I (cm x y), [])) (t : TypeId) (d : Array α) (a b : Nat) (hab : a ≤ b) (hb : b ≤ d.size) (hs : d.size < 2^40) :
    C w4d [.ref 0 1 0 d.size, I a, I b, .clo w46 []] (.row t false 1 (d.toList.map fun x => ints (g x)) :: []) = some (.tup [], .row t false 1 ((Sort.heapSort (ltC cm) d a b).toList.map fun x => ints (g x)) :: []) := by
  obtain ⟨n, hn⟩ : ∃ n : Nat, (b : Int) - (a : Int) = n := ⟨b - a, by omega⟩
  obtain ⟨K, hK⟩ : ∃ K : Nat, ((n : Int) - 1).tdiv 2 = (K : Int) - 1 ∧ K = (b - a - 1) / 2 + 1 ∧ K ≤ n + 1 := by
    rcases Nat.eq_zero_or_pos n with h | h
    · subst h; exact ⟨1, by decide, by omega, by omega⟩
    · obtain ⟨q, rfl⟩ : ∃ q, n = q + 1 := ⟨n - 1, by omega⟩
      have : (((q + 1 : Nat) : Int) - 1).tdiv 2 = ((q / 2 : Nat) : Int) := by
        rw [show (((q + 1 : Nat) : Int) - 1) = (q : Int) by omega]
        exact (Int.ofNat_tdiv q 2).symm
      refine ⟨q / 2 + 1, by rw [this]; omega, by omega, by omega⟩
  unfold Sort.heapSort
  rw [← hK.2.1, show b - a = n by omega]
  have hK1 := hK.1
  have hK2 := hK.2.2
  refine w0m ?_
  simp (maxSteps := 2000000) (disch := first | omega | (simp only [lenS]; try omega)) only [w6d, go_sem, reduceAdd, reduceEqDiff, reduceLeDiff, reduceSub]
  simp (maxSteps := 2000000) (disch := first | omega | (simp only [lenS]; try omega)) only [go_sem, reduceAdd, reduceEqDiff, reduceLeDiff, reduceSub, hn, hK1]
  refine z1a (fun k s => ∃ (E : Array α), k ≤ K ∧ E.size = d.size ∧ Sort.heapBuild (ltC cm) n a k E = Sort.heapBuild (ltC cm) n a K d ∧ s = ⟨[.ref 0 1 0 d.size, .any, .any, .clo w46 [], I a, I 0, I n, I ((k : Int) - 1), .any, .any, .any], .row t false 1 (E.toList.map fun x => ints (g x)) :: []⟩) K ?_ ?_
  · simp (maxSteps := 2000000) (disch := first | omega | (simp only [lenS]; try omega)) only [go_sem, reduceAdd, reduceEqDiff, reduceLeDiff, reduceSub]
    exact ⟨d, rfl, rfl, rfl⟩
  · rintro k s ⟨E, k1, k3, k4, rfl⟩
    rcases Nat.eq_zero_or_pos k with rfl | hk
    · simp (maxSteps := 2000000) (disch := first | omega | (simp only [lenS]; try omega)) only [go_sem, reduceAdd, reduceEqDiff, reduceLeDiff, reduceSub]
      rw [← show E = _ from k4]
      refine z1a (fun k s => ∃ (G : Array α), k ≤ n ∧ G.size = d.size ∧ Sort.heapPop (ltC cm) a k G = Sort.heapPop (ltC cm) a n E ∧ s = ⟨[.ref 0 1 0 d.size, .any, .any, .clo w46 [], I a, I 0, .any, .any, I ((k : Int) - 1), .any, .any], .row t false 1 (G.toList.map fun x => ints (g x)) :: []⟩) n ?_ ?_
      · simp (maxSteps := 2000000) (disch := first | omega | (simp only [lenS]; try omega)) only [go_sem, reduceAdd, reduceEqDiff, reduceLeDiff, reduceSub]
        exact ⟨E, k3, rfl, rfl⟩
      · rintro k s ⟨G, g1, g3, g4, rfl⟩
        rcases Nat.eq_zero_or_pos k with rfl | hk
        · simp (maxSteps := 2000000) (disch := first | omega | (simp only [lenS]; try omega)) only [go_sem, reduceAdd, reduceEqDiff, reduceLeDiff, reduceSub]
          rw [← g4]; rfl
        · obtain ⟨j, hj⟩ : ∃ j : Nat, (k : Int) - 1 = j := ⟨k - 1, by omega⟩
          obtain ⟨q, hq⟩ : ∃ q : Nat, (a : Int) + (j : Int) = q := ⟨a + j, by omega⟩
          obtain rfl : k = j + 1 := by omega
          have h1 := w85 g cm H t (Sort.swp G a q) 0 j a (by omega) (by rw [Sort.size_swp]; omega) (by rw [Sort.size_swp]; omega)
          rw [Sort.size_swp, g3, z14d, show ((0 : Nat) : Int) = 0 from rfl] at h1
          have e7 : G.toList.length = d.size := by simp [g3]
          have w2 := z149 G (i := a) (by omega)
          have w3 := z149 G (i := q) (by omega)
          have e5 := z14c (fun x => ints (g x)) G (i := a) (j := q) G[q]! (by omega) (by omega)
          have e6 : Sort.heapPop (ltC cm) a (j + 1) G = Sort.heapPop (ltC cm) a j (Sort.siftDown (ltC cm) j a 0 (Sort.swp G a q)) := by rw [Sort.heapPop, show a + j = q by omega]
          have e8 : (Sort.siftDown (ltC cm) j a 0 (Sort.swp G a q)).size = d.size := by rw [z167 _ _ _ _ _ _ (Nat.le_refl _), Sort.size_swp, g3]
          generalize Sort.siftDown (ltC cm) j a 0 (Sort.swp G a q) = Z at *
          generalize (if a = q then G[q]! else G[q]!) = z at *
          generalize G[q]! = y at *
          generalize G[a]! = x at *
          simp (maxSteps := 2000000) (disch := first | omega | (simp only [lenS]; try omega)) only [go_sem, reduceAdd, reduceEqDiff, reduceLeDiff, reduceSub, hj, hq, w2, w3, e5, e7, h1]
          exact ⟨j, by omega, Z, by omega, e8, by rw [← e6, g4], rfl⟩
    · obtain ⟨j, hj⟩ : ∃ j : Nat, (k : Int) - 1 = j := ⟨k - 1, by omega⟩
      have h1 := w85 g cm H t E j n a (by omega) (by omega) (by omega)
      rw [k3] at h1
      obtain rfl : k = j + 1 := by omega
      simp (maxSteps := 2000000) (disch := first | omega | (simp only [lenS]; try omega)) only [go_sem, reduceAdd, reduceEqDiff, reduceLeDiff, reduceSub, hj, h1]
      refine ⟨j, by omega, Sort.siftDown (ltC cm) n a j E, by omega, ?_, k4, rfl⟩
      rw [z167 _ _ _ _ _ _ (Nat.le_refl _), k3]
theorem w7y (n : Nat) (hn : n < 65536) : C w4h [I n] [] = some (.int .u64 ((2 ^ Sort.bitsLen n : Nat) : Int), []) := by
  have h := w7i n hn
  have h1 := (Sort.bitsLen_le_iff n 16).2 (by omega)
  have h3 : (2 : Nat) ^ Sort.bitsLen n ≤ 2 ^ 16 := Nat.pow_le_pow_right (by decide) h1
  have h2 : IntKind.u64.wrap (1 * (2 : Int) ^ min (Sort.bitsLen n) 64) = ((2 ^ Sort.bitsLen n : Nat) : Int) := by
    rw [Nat.min_eq_left (by omega), Int.one_mul, IntKind.wrap_u64, show (2 : Int) ^ Sort.bitsLen n = ((2 ^ Sort.bitsLen n : Nat) : Int) by simp]
    generalize (2 : Nat) ^ Sort.bitsLen n = w at *
    omega
  have h0 : IntKind.u64.wrap (n : Int) = n := by rw [IntKind.wrap_u64]; omega
  refine w0o ?_
  simp (maxSteps := 2000000) (disch := first | omega | (simp only [lenS]; try omega)) only [w6h, go_sem, reduceAdd, reduceEqDiff, reduceLeDiff, reduceSub]
  generalize Sort.bitsLen n = z at *
  simp (maxSteps := 2000000) (disch := first | omega | (simp only [lenS]; try omega)) only [go_sem, reduceAdd, reduceEqDiff, reduceLeDiff, reduceSub, h0, h, h2]
theorem w86 (x : Int) (hx : 0 ≤ x ∧ x < 18446744073709551616) : Lw (C w4p [.ptr 0 0] [.box w8u [.int .u64 x]]) fun r => ∃ y : Int, r = (.int .u64 y, [.box w8u [.int .u64 y]]) ∧ 0 ≤ y ∧ y < 18446744073709551616 := by
  refine w1c ?_
  simp (maxSteps := 2000000) (disch := first | omega | (simp only [lenS]; try omega)) only [w6p, go_sem, reduceAdd, reduceEqDiff, reduceLeDiff, reduceSub]
  have h1 := z1cm hx (z1bb (x * 2 ^ min (Int.toNat 13) 64))
  have h2 := z1cm h1 (z15z (min (Int.toNat 7) 64) h1)
  exact ⟨_, rfl, z1cm h2 (z1bb _)⟩
theorem w7s {α : Type} [Inhabited α] (g : α → List Int) (cm : α → α → Int) (H : ∀ x y, C w46 [ints (g x), ints (g y)] [] = some (I (cm x y), [])) (t : TypeId) (d : Array α) (a b : Nat) (hab : a < b) (hb : b ≤ d.size) (hs : d.size < 65536) :
    Lw (C w4b [.ref 0 1 0 d.size, I a, I b, .clo w46 []] (.row t false 1 (d.toList.map fun x => ints (g x)) :: [])) fun r => ∃ E : Array α, r = (.tup [], .row t false 1 (E.toList.map fun x => ints (g x)) :: []) ∧ Sort.PermIn a b d E := by
  obtain ⟨n, hn⟩ : ∃ n : Nat, (b : Int) - (a : Int) = n := ⟨b - a, by omega⟩
  obtain ⟨q, hq, hq2⟩ : ∃ q : Nat, (n : Int).tdiv 4 = q ∧ q = n / 4 := ⟨n / 4, (Int.ofNat_tdiv n 4).symm, rfl⟩
  have hp := w7y n (by omega)
  have hp1 := Sort.lt_two_pow_bitsLen n
  have hp2 := fun h => Sort.two_pow_bitsLen_le (n := n) h
  obtain ⟨i, hi⟩ : ∃ i : Nat, (a : Int) + (q : Int) * 2 = i := ⟨a + q * 2, by omega⟩
  refine w15 ?_
  simp (maxSteps := 2000000) (disch := first | omega | (simp only [lenS]; try omega)) only [w6b, go_sem, reduceAdd, reduceEqDiff, reduceLeDiff, reduceSub]
  by_cases h8 : (8 : Int) ≤ n
  · have hp3 := hp2 (by omega)
    clear hp2
    generalize 2 ^ Sort.bitsLen n = p at *
    obtain ⟨m, hm⟩ : ∃ m : Nat, (p : Int) - 1 = m := ⟨p - 1, by omega⟩
    have e0 : IntKind.u64.wrap (n : Int) = n := by rw [IntKind.wrap_u64]; omega
    simp (maxSteps := 2000000) (disch := first | omega | (simp only [lenS]; try omega)) only [go_sem, reduceAdd, reduceEqDiff, reduceLeDiff, reduceSub, hn, hq, hi, h8, Int.not_lt.2 h8, hp, e0, false_implies, and_true]
    refine z1a (fun k s => ∃ (j : Nat) (E : Array α) (x : Int), i ≤ j + 1 ∧ j ≤ i + 2 ∧ k = i + 2 - j ∧ (0 ≤ x ∧ x < 18446744073709551616) ∧ Sort.PermIn a b d E ∧ s = ⟨[.ref 0 1 0 d.size, I a, .any, I n, .ptr 1 0, .int .u64 p, I j, .any, .any, .any, .any], .row t false 1 (E.toList.map fun x => ints (g x)) :: [.box w8u [.int .u64 x]]⟩) 3 ?_ ?_
    · simp (maxSteps := 2000000) (disch := first | omega | (simp only [lenS]; try omega)) only [go_sem, reduceAdd, reduceEqDiff, reduceLeDiff, reduceSub]
      exact ⟨i - 1, d, n, by omega, by omega, by omega, by omega, Sort.permIn_refl d a b, by rw [show ((i - 1 : Nat) : Int) = (i : Int) - 1 by omega]⟩
    · rintro k s ⟨j, E, x, h1, h2, rfl, h3, h4, rfl⟩
      have k3 := zxz h4
      have e7 : E.toList.length = d.size := by simp [k3]
      by_cases hj : (j : Int) ≤ (i : Int) + 1
      · obtain ⟨_, e1, y, rfl, y1, y2⟩ := w86 x h3
        have ha := z30 (x := y) (y := m) (by omega) (by omega)
        have e5 : IntKind.u64.wrap ((p : Int) - 1) = m := by rw [IntKind.wrap_u64]; omega
        have e6 : IntKind.i64.wrap (bits .and .u64 y m) = bits .and .u64 y m := by rw [IntKind.wrap_i64]; omega
        obtain ⟨o, ho⟩ : ∃ o : Nat, bits .and .u64 y m = o := ⟨(bits .and .u64 y m).toNat, by omega⟩
        rw [ho] at ha e6
        obtain ⟨u, hu⟩ : ∃ u : Nat, (a : Int) + (o : Int) = u := ⟨a + o, by omega⟩
        have w2 := z149 E (i := j) (by omega)
        by_cases hon : (n : Int) ≤ o
        · obtain ⟨o2, ho2⟩ : ∃ o2 : Nat, (o : Int) - n = o2 := ⟨o - n, by omega⟩
          obtain ⟨v, hv⟩ : ∃ v : Nat, (a : Int) + (o2 : Int) = v := ⟨a + o2, by omega⟩
          have w3 := z149 E (i := v) (by omega)
          have w4 := z14d (fun x => ints (g x)) E j v
          have w5 := Sort.permIn_trans d E (Sort.swp E j v) a b h4 (Sort.swp_permIn E a b j v (by omega) (by omega) (by omega) (by omega) (by omega))
          have w6 := z14c (fun x => ints (g x)) E (i := j) (j := v) E[v]! (by omega) (by omega)
          generalize (if j = v then E[v]! else E[v]!) = z at *
          generalize E[j]! = x at *
          generalize E[v]! = w at *
          simp (maxSteps := 2000000) (disch := first | omega | (simp only [lenS]; try omega)) only [go_sem, reduceAdd, reduceEqDiff, reduceLeDiff, reduceSub, hq, hi, e1, e5, ho, e6, hon, Int.not_lt.2 hon, ho2, hv, w2, w3, w6, e7, false_implies, and_true]
          exact ⟨i + 2 - (j + 1), by omega, j + 1, Sort.swp E j v, y, by omega, by omega, rfl, ⟨y1, y2⟩, w5, by rw [w4]; rfl⟩
        · obtain ⟨v, hv⟩ : ∃ v : Nat, (a : Int) + (o : Int) = v := ⟨a + o, by omega⟩
          have w3 := z149 E (i := v) (by omega)
          have w4 := z14d (fun x => ints (g x)) E j v
          have w5 := Sort.permIn_trans d E (Sort.swp E j v) a b h4 (Sort.swp_permIn E a b j v (by omega) (by omega) (by omega) (by omega) (by omega))
          have w6 := z14c (fun x => ints (g x)) E (i := j) (j := v) E[v]! (by omega) (by omega)
          generalize (if j = v then E[v]! else E[v]!) = z at *
          generalize E[j]! = x at *
          generalize E[v]! = w at *
          simp (maxSteps := 2000000) (disch := first | omega | (simp only [lenS]; try omega)) only [go_sem, reduceAdd, reduceEqDiff, reduceLeDiff, reduceSub, hq, hi, e1, e5, ho, e6, hon, Int.not_le.1 hon, hv, w2, w3, w6, e7, false_implies, true_and, forall_const]
          exact ⟨i + 2 - (j + 1), by omega, j + 1, Sort.swp E j v, y, by omega, by omega, rfl, ⟨y1, y2⟩, w5, by rw [w4]; rfl⟩
      · simp (maxSteps := 2000000) (disch := first | omega | (simp only [lenS]; try omega)) only [go_sem, reduceAdd, reduceEqDiff, reduceLeDiff, reduceSub, hq, hi]
        exact ⟨E, rfl, h4⟩
  · simp (maxSteps := 2000000) (disch := first | omega | (simp only [lenS]; try omega)) only [go_sem, reduceAdd, reduceEqDiff, reduceLeDiff, reduceSub, hn, hq, hi, h8, Int.not_le.1 h8, false_implies, true_and, forall_const]
    exact ⟨d, rfl, Sort.permIn_refl d a b⟩
theorem w7z {α : Type} [Inhabited α] (g : α → List Int) (cm : α → α → Int) (H : ∀ x y, C w46 [ints (g x), ints (g y)] [] = some (I (cm x y), [])) (t : TypeId) (d : Array α) (a b : Nat) (k : Int) (ha : a < d.size) (hb : b < d.size) (hk : 0 ≤ k ∧ k < 2^40) (hs : d.size < 2^40) :
    Lw (C w4i [.ref 0 1 0 d.size, I a, I b, .ptr 1 0, .clo w46 []] (.row t false 1 (d.toList.map fun x => ints (g x)) :: .box t_int [I k] :: [])) fun r => ∃ (x y : Nat) (k' : Int), r = (.tup [I x, I y], .row t false 1 (d.toList.map fun x => ints (g x)) :: .box t_int [I k'] :: []) ∧ ((x = a ∧ y = b) ∨ (x = b ∧ y = a)) ∧ k ≤ k' ∧ k' ≤ k + 1 := by
  have e7 : d.toList.length = d.size := by simp
  refine w19 ?_
  simp (maxSteps := 2000000) (disch := first | omega | (simp only [lenS]; try omega)) only [w6i, go_sem, reduceAdd, reduceEqDiff, reduceLeDiff, reduceSub]
  simp (maxSteps := 2000000) (disch := first | omega | (simp only [lenS]; try omega)) only [go_sem, reduceAdd, reduceEqDiff, reduceLeDiff, reduceSub, H, e7]
  exact ⟨fun _ => ⟨b, a, k + 1, rfl, by omega⟩, fun _ => ⟨a, b, k, rfl, by omega⟩⟩
theorem w7x {α : Type} [Inhabited α] (g : α → List Int) (cm : α → α → Int) (H : ∀ x y, C w46 [ints (g x), ints (g y)] [] = some (I (cm x y), [])) (t : TypeId) (d : Array α) (a b c : Nat) (k : Int) (ha : a < d.size) (hb : b < d.size) (hc : c < d.size) (hk : 0 ≤ k ∧ k < 2^39) (hs : d.size < 2^40) :
    Lw (C w4g [.ref 0 1 0 d.size, I a, I b, I c, .ptr 1 0, .clo w46 []] (.row t false 1 (d.toList.map fun x => ints (g x)) :: .box t_int [I k] :: [])) fun r => ∃ (x : Nat) (k' : Int), r = (I x, .row t false 1 (d.toList.map fun x => ints (g x)) :: .box t_int [I k'] :: []) ∧ (x = a ∨ x = b ∨ x = c) ∧ k ≤ k' ∧ k' ≤ k + 3 := by
  obtain ⟨_, e1, x1, y1, k1, rfl, h1, h2, h3⟩ := w7z g cm H t d a b k ha hb (by omega) hs
  obtain ⟨_, e2, x2, y2, k2, rfl, g1, g2, g3⟩ := w7z g cm H t d y1 c k1 (by omega) hc (by omega) hs
  obtain ⟨_, e3, x3, y3, k3, rfl, f1, f2, f3⟩ := w7z g cm H t d x1 x2 k2 (by omega) (by omega) (by omega) hs
  refine w18 ?_
  simp (maxSteps := 2000000) (disch := first | omega | (simp only [lenS]; try omega)) only [w6g, go_sem, reduceAdd, reduceEqDiff, reduceLeDiff, reduceSub]
  simp (maxSteps := 2000000) (disch := first | omega | (simp only [lenS]; try omega)) only [go_sem, reduceAdd, reduceEqDiff, reduceLeDiff, reduceSub, e1, e2, e3]
  exact ⟨y3, k3, rfl, by omega⟩
theorem w7w {α : Type} [Inhabited α] (g : α → List Int) (cm : α → α → Int) (H : ∀ x y, C w46 [ints (g x), ints (g y)] [] = some (I (cm x y), [])) (t : TypeId) (d : Array α) (a : Nat) (k : Int) (ha : 0 < a ∧ a + 1 < d.size) (hk : 0 ≤ k ∧ k < 2^39) (hs : d.size < 2^40) :
    Lw (C w4f [.ref 0 1 0 d.size, I a, .ptr 1 0, .clo w46 []] (.row t false 1 (d.toList.map fun x => ints (g x)) :: .box t_int [I k] :: [])) fun r => ∃ (x : Nat) (k' : Int), r = (I x, .row t false 1 (d.toList.map fun x => ints (g x)) :: .box t_int [I k'] :: []) ∧ (a ≤ x + 1 ∧ x ≤ a + 1) ∧ k ≤ k' ∧ k' ≤ k + 3 := by
  obtain ⟨_, e1, x1, k1, rfl, h1, h2, h3⟩ := w7x g cm H t d (a - 1) a (a + 1) k (by omega) (by omega) (by omega) hk hs
  rw [show ((a - 1 : Nat) : Int) = (a : Int) - 1 by omega, show ((a + 1 : Nat) : Int) = (a : Int) + 1 by omega] at e1
  refine w17 ?_
  simp (maxSteps := 2000000) (disch := first | omega | (simp only [lenS]; try omega)) only [w6f, go_sem, reduceAdd, reduceEqDiff, reduceLeDiff, reduceSub]
  simp (maxSteps := 2000000) (disch := first | omega | (simp only [lenS]; try omega)) only [go_sem, reduceAdd, reduceEqDiff, reduceLeDiff, reduceSub, e1]
  exact ⟨x1, k1, rfl, by omega⟩
theorem w7t {α : Type} [Inhabited α] (g : α → List Int) (cm : α → α → Int) (H : ∀ x y, C w46 [ints (g x), ints (g y)] [] = some (I (cm x y), [])) (t : TypeId) (d : Array α) (a b : Nat) (hab : a < b) (hb : b ≤ d.size) (hs : d.size < 2^40) :
    Lw (C w4c [.ref 0 1 0 d.size, I a, I b, .clo w46 []] (.row t false 1 (d.toList.map fun x => ints (g x)) :: [])) fun r => ∃ (x : Nat) (h : Int), r = (.tup [I x, I h], .row t false 1 (d.toList.map fun x => ints (g x)) :: []) ∧ a ≤ x ∧ x < b ∧ 0 ≤ h ∧ h ≤ 2 := by
  obtain ⟨n, hn⟩ : ∃ n : Nat, (b : Int) - (a : Int) = n := ⟨b - a, by omega⟩
  obtain ⟨q, hq, hq2⟩ : ∃ q : Nat, (n : Int).tdiv 4 = q ∧ q = n / 4 := ⟨n / 4, (Int.ofNat_tdiv n 4).symm, rfl⟩
  obtain ⟨i, hi⟩ : ∃ i : Nat, (a : Int) + (q : Int) = i := ⟨a + q, by omega⟩
  obtain ⟨j, hj⟩ : ∃ j : Nat, (a : Int) + (q : Int) * 2 = j := ⟨a + q * 2, by omega⟩
  obtain ⟨k, hk⟩ : ∃ k : Nat, (a : Int) + (q : Int) * 3 = k := ⟨a + q * 3, by omega⟩
  refine w16 ?_
  simp (maxSteps := 2000000) (disch := first | omega | (simp only [lenS]; try omega)) only [w6c, go_sem, reduceAdd, reduceEqDiff, reduceLeDiff, reduceSub]
  by_cases h8 : (8 : Int) ≤ n
  · by_cases h50 : (50 : Int) ≤ n
    · obtain ⟨_, e1, x1, k1, rfl, h1, h2, h3⟩ := w7w g cm H t d i 0 (by omega) (by omega) hs
      obtain ⟨_, e2, x2, k2, rfl, g1, g2, g3⟩ := w7w g cm H t d j k1 (by omega) (by omega) hs
      obtain ⟨_, e3, x3, k3, rfl, f1, f2, f3⟩ := w7w g cm H t d k k2 (by omega) (by omega) hs
      obtain ⟨_, e4, x4, k4, rfl, d1, d2, d3⟩ := w7x g cm H t d x1 x2 x3 k3 (by omega) (by omega) (by omega) (by omega) hs
      have hlo : a ≤ x4 ∧ x4 < b := by omega
      simp (maxSteps := 2000000) (disch := first | omega | (simp only [lenS]; try omega)) only [go_sem, reduceAdd, reduceEqDiff, reduceLeDiff, reduceSub, hn, hq, hi, hj, hk, Int.mul_one, e1, e2, e3, e4, h8, h50, Int.not_lt.2 h8, Int.not_lt.2 h50]
      exact ⟨fun _ => ⟨x4, _, rfl, by omega⟩, fun _ => ⟨fun _ => ⟨x4, _, rfl, by omega⟩, fun _ => ⟨x4, _, rfl, by omega⟩⟩⟩
    · obtain ⟨_, e4, x4, k4, rfl, d1, d2, d3⟩ := w7x g cm H t d i j k 0 (by omega) (by omega) (by omega) (by omega) hs
      have hlo : a ≤ x4 ∧ x4 < b := by omega
      simp (maxSteps := 2000000) (disch := first | omega | (simp only [lenS]; try omega)) only [go_sem, reduceAdd, reduceEqDiff, reduceLeDiff, reduceSub, hn, hq, hi, hj, hk, Int.mul_one, e4, h8, h50, Int.not_lt.2 h8, Int.not_le.1 h50]
      exact ⟨fun _ => ⟨x4, _, rfl, by omega⟩, fun _ => ⟨x4, _, rfl, by omega⟩⟩
  · simp (maxSteps := 2000000) (disch := first | omega | (simp only [lenS]; try omega)) only [go_sem, reduceAdd, reduceEqDiff, reduceLeDiff, reduceSub, hn, hq, hi, hj, hk, Int.mul_one, h8, Int.not_le.1 h8]
    exact ⟨j, 1, rfl, by omega⟩
theorem w84 {α : Type} [Inhabited α] (g : α → List Int) (cm : α → α → Int) (H : ∀ x y, C w46 [ints (g x), ints (g y)] [] = some (I (cm x y), [])) (t : TypeId) (d : Array α) (a b : Nat) (hab : a < b) (hb : b ≤ d.size) (hs : d.size < 2^40) :
    Lw (C w4n [.ref 0 1 0 d.size, I a, I b, .clo w46 []] (.row t false 1 (d.toList.map fun x => ints (g x)) :: [])) fun r => ∃ E : Array α, r = (.tup [], .row t false 1 (E.toList.map fun x => ints (g x)) :: []) ∧ Sort.PermIn a b d E := by
  obtain ⟨n, hn⟩ : ∃ n : Nat, (b : Int) - 1 = n := ⟨b - 1, by omega⟩
  refine w1b ?_
  simp (maxSteps := 2000000) (disch := first | omega | (simp only [lenS]; try omega)) only [w6n, go_sem, reduceAdd, reduceEqDiff, reduceLeDiff, reduceSub]
  simp (maxSteps := 2000000) (disch := first | omega | (simp only [lenS]; try omega)) only [go_sem, reduceAdd, reduceEqDiff, reduceLeDiff, reduceSub, hn]
  refine z1a (fun k s => ∃ (i j : Nat) (E : Array α), a ≤ i ∧ j < b ∧ i ≤ b ∧ k = b - i ∧ Sort.PermIn a b d E ∧ s = ⟨[.ref 0 1 0 d.size, .any, .any, I i, I j, .any], .row t false 1 (E.toList.map fun x => ints (g x)) :: []⟩) (b - a) ?_ ?_
  · simp (maxSteps := 2000000) (disch := first | omega | (simp only [lenS]; try omega)) only [go_sem, reduceAdd, reduceEqDiff, reduceLeDiff, reduceSub]
    exact ⟨a, n, d, by omega, by omega, by omega, rfl, Sort.permIn_refl d a b, rfl⟩
  · rintro k s ⟨i, j, E, h1, h2, h3, rfl, h4, rfl⟩
    have k3 := zxz h4
    have e7 : E.toList.length = d.size := by simp [k3]
    by_cases hij : (i : Int) < j
    · obtain ⟨m, hm⟩ : ∃ m : Nat, (j : Int) - 1 = m := ⟨j - 1, by omega⟩
      have w2 := z149 E (i := i) (by omega)
      have w3 := z149 E (i := j) (by omega)
      have w4 := z14d (fun x => ints (g x)) E i j
      have w5 := Sort.permIn_trans d E (Sort.swp E i j) a b h4 (Sort.swp_permIn E a b i j h1 (by omega) (by omega) h2 (by omega))
      generalize E[i]! = x at *
      generalize E[j]! = y at *
      simp (maxSteps := 2000000) (disch := first | omega | (simp only [lenS]; try omega)) only [go_sem, reduceAdd, reduceEqDiff, reduceLeDiff, reduceSub, w2, w3, e7, hm, List.getElem?_set_ne, List.getElem_set_ne, List.getElem_map]
      exact ⟨b - (i + 1), by omega, i + 1, m, Sort.swp E i j, by omega, by omega, by omega, rfl, w5, by rw [w4]; rfl⟩
    · simp (maxSteps := 2000000) (disch := first | omega | (simp only [lenS]; try omega)) only [go_sem, reduceAdd, reduceEqDiff, reduceLeDiff, reduceSub]
      exact ⟨E, rfl, h4⟩
theorem w80 {α : Type} [Inhabited α] (g : α → List Int) (cm : α → α → Int) (H : ∀ x y, C w46 [ints (g x), ints (g y)] [] = some (I (cm x y), [])) (t : TypeId) (d : Array α) (a b : Nat) (hab : a < b) (hb : b ≤ d.size) (hs : d.size < 2^40) :
    C w4j [.ref 0 1 0 d.size, I a, I b, .clo w46 []] (.row t false 1 (d.toList.map fun x => ints (g x)) :: []) = some (.bool (Sort.partialInsertionSort (ltC cm) d a b).2, .row t false 1 ((Sort.partialInsertionSort (ltC cm) d a b).1.toList.map fun x => ints (g x)) :: []) := by
  unfold Sort.partialInsertionSort
  refine w0p ?_
  simp (maxSteps := 2000000) (disch := first | omega | (simp only [lenS]; try omega)) only [w6j, go_sem, reduceAdd, reduceEqDiff, reduceLeDiff, reduceSub]
  refine z1a (fun k s => ∃ (i : Nat) (D : Array α), k ≤ 5 ∧ a < i ∧ i ≤ b ∧ D.size = d.size ∧ Sort.partialIns (ltC cm) a b k i D = Sort.partialIns (ltC cm) a b 5 (a + 1) d ∧ s = ⟨[.ref 0 1 0 d.size, I a, I b, .clo w46 [], .any, I i, I (5 - (k : Int)), .any, .any, .any, .any, .any, .any, .any, .any, .any, .any, .any, .any], .row t false 1 (D.toList.map fun x => ints (g x)) :: []⟩) 5 ?_ ?_
  · simp (maxSteps := 2000000) (disch := first | omega | (simp only [lenS]; try omega)) only [go_sem, reduceAdd, reduceEqDiff, reduceLeDiff, reduceSub]
    exact ⟨a + 1, d, by omega, by omega, rfl, rfl, rfl⟩
  · rintro k s ⟨i, D, d0, d1, d2, d3, d4, rfl⟩
    have e7 : D.toList.length = d.size := by simp [d3]
    rcases Nat.eq_zero_or_pos k with rfl | hk
    · simp (maxSteps := 2000000) (disch := first | omega | (simp only [lenS]; try omega)) only [go_sem, reduceAdd, reduceEqDiff, reduceLeDiff, reduceSub]
      rw [← d4]; rfl
    · obtain ⟨u, rfl⟩ : ∃ u, k = u + 1 := ⟨k - 1, by omega⟩
      simp (maxSteps := 2000000) (disch := first | omega | (simp only [lenS]; try omega)) only [go_sem, reduceAdd, reduceEqDiff, reduceLeDiff, reduceSub]
      refine z1a (fun q s => ∃ m : Nat, i ≤ m ∧ m ≤ b ∧ q = b - m ∧ Sort.scanSorted (ltC cm) D b m = Sort.scanSorted (ltC cm) D b i ∧ s = ⟨[.ref 0 1 0 d.size, I a, I b, .clo w46 [], .any, I m, I (5 - ((u + 1 : Nat) : Int)), .any, .any, .any, .any, .any, .any, .any, .any, .any, .any, .any, .any], .row t false 1 (D.toList.map fun x => ints (g x)) :: []⟩) (b - i) ?_ ?_
      · simp (maxSteps := 2000000) (disch := first | omega | (simp only [lenS]; try omega)) only [go_sem, reduceAdd, reduceEqDiff, reduceLeDiff, reduceSub]
        exact ⟨i, by omega, d2, rfl, rfl, rfl⟩
      · rintro q s ⟨m, m1, m2, rfl, m4, rfl⟩
        have s0 := z14o (ltC cm) D (b := b) (i := m)
        have s1 := z14p (ltC cm) D (b := b) (i := m)
        simp only [ltC] at s0 s1
        obtain ⟨m', hm'⟩ : ∃ m' : Nat, (m : Int) - 1 = m' := ⟨m - 1, by omega⟩
        have hm1 : m - 1 = m' := by omega
        rw [hm1] at s0 s1
        by_cases hmb : (m : Int) < b
        · have w2 := z149 D (i := m) (by omega)
          have w3 := z149 D (i := m') (by omega)
          have w4 := z14d (fun x => ints (g x)) D m m'
          generalize D[m]! = x at *
          generalize D[m']! = y at *
          by_cases hlt : cm x y < 0
          · have hscan : m = Sort.scanSorted (ltC cm) D b i := by rw [← m4]; exact (s0 (.inr (by simp [hlt]))).symm
            clear s0 s1 m4
            by_cases h50 : (b : Int) - a < 50
            · have e5 : Sort.partialIns (ltC cm) a b 5 (a + 1) d = (D, false) := by rw [← d4, Sort.partialIns_succ, ← hscan, if_neg (by omega), if_pos (by omega)]
              simp (maxSteps := 2000000) (disch := first | omega | (simp only [lenS]; try omega)) only [go_sem, reduceAdd, reduceEqDiff, reduceLeDiff, reduceSub, H, w2, w3, e7, hm', hmb, hlt, h50, Int.not_le.2 h50, false_implies, and_true, true_and, forall_const]
              rw [e5]
            · by_cases hma : (2 : Int) ≤ (m : Int) - a
              · simp (maxSteps := 2000000) (disch := first | omega | (simp only [lenS]; try omega)) only [go_sem, reduceAdd, reduceEqDiff, reduceLeDiff, reduceSub, H, w2, w3, e7, hm', hmb, hlt, h50, Int.not_lt.1 h50, hma, Int.not_lt.2 hma, List.getElem?_set_ne, List.getElem_set_ne, List.getElem_map, false_implies, and_true, true_and, forall_const]
                refine z1a (fun q s => ∃ (G2 : Array α), q ≤ m' ∧ G2.size = d.size ∧ Sort.shiftDown (ltC cm) q G2 = Sort.shiftDown (ltC cm) m' (Sort.swp D m m') ∧ s = ⟨[.ref 0 1 0 d.size, I a, I b, .clo w46 [], .any, I m, I (5 - ((u + 1 : Nat) : Int)), I q, .any, .any, .any, .any, .any, .any, .any, .any, .any, .any, .any], .row t false 1 (G2.toList.map fun x => ints (g x)) :: []⟩) m' ?_ ?_
                · simp (maxSteps := 2000000) (disch := first | omega | (simp only [lenS]; try omega)) only [go_sem, reduceAdd, reduceEqDiff, reduceLeDiff, reduceSub]
                  first | exact ⟨Sort.swp D m m', by rw [Sort.size_swp]; exact d3, rfl, by rw [w4]⟩ | exact ⟨Sort.swp D m m', by omega, by rw [Sort.size_swp]; exact d3, rfl, by rw [w4]⟩
                · rintro q s ⟨G2, c1, k5, c2, rfl⟩
                  have z0 := z15l (ltC cm) G2 (j := q)
                  have z1 := z15m (ltC cm) G2 (j := q)
                  simp only [ltC] at z0 z1
                  have e9 : G2.toList.length = d.size := by simp [k5]
                  have hG : Sort.fixDown (ltC cm) a m (Sort.swp D m m') = Sort.shiftDown (ltC cm) m' (Sort.swp D m m') := by unfold Sort.fixDown; rw [if_pos (by omega), hm1]
                  by_cases hq : (1 : Int) ≤ q
                  · obtain ⟨q', hq'⟩ : ∃ q' : Nat, (q : Int) - 1 = q' := ⟨q - 1, by omega⟩
                    rw [show q - 1 = q' by omega] at z0 z1
                    have v2 := z149 G2 (i := q) (by omega)
                    have v3 := z149 G2 (i := q') (by omega)
                    have v4 := z14d (fun x => ints (g x)) G2 q q'
                    generalize G2[q]! = x2 at *
                    generalize G2[q']! = y2 at *
                    by_cases hl2 : cm x2 y2 < 0
                    · have z2 := z1 (by omega) (by simp [hl2])
                      simp (maxSteps := 2000000) (disch := first | omega | (simp only [lenS]; try omega)) only [go_sem, reduceAdd, reduceEqDiff, reduceLeDiff, reduceSub, H, v2, v3, e9, hq', hq, Int.not_lt.2 hq, hl2, List.getElem?_set_ne, List.getElem_set_ne, List.getElem_map]
                      exact ⟨q', by omega, Sort.swp G2 q q', by omega, by rw [Sort.size_swp]; exact k5, by rw [← c2, z2], by rw [v4]⟩
                    · have z2 := z0 (.inr (by simp [hl2]))
                      have hG2 : Sort.fixDown (ltC cm) a m (Sort.swp D m m') = G2 := by rw [hG, ← c2]; exact z2
                      by_cases hbm : (2 : Int) ≤ (b : Int) - (m : Int)
                      · have h2' : Sort.fixUp (ltC cm) b m G2 = Sort.shiftUp (ltC cm) b (m + 1) G2 := by unfold Sort.fixUp; rw [if_pos (by omega)]
                        simp (maxSteps := 2000000) (disch := first | omega | (simp only [lenS]; try omega)) only [go_sem, reduceAdd, reduceEqDiff, reduceLeDiff, reduceSub, H, v2, v3, e9, hq', hq, Int.not_lt.2 hq, hl2, hbm, Int.not_lt.2 hbm, false_implies, and_true, true_and, forall_const]
                        clear v2 v3 v4 z0 z1 z2 w2 w3 w4 hl2 hlt
                        refine z1a (fun q s => ∃ (w : Nat) (G3 : Array α), m < w ∧ w ≤ b ∧ q = b - w ∧ G3.size = d.size ∧ Sort.shiftUp (ltC cm) b w G3 = Sort.shiftUp (ltC cm) b (m + 1) G2 ∧ s = ⟨[.ref 0 1 0 d.size, I a, I b, .clo w46 [], .any, I m, I (5 - ((u + 1 : Nat) : Int)), .any, I w, .any, .any, .any, .any, .any, .any, .any, .any, .any, .any], .row t false 1 (G3.toList.map fun x => ints (g x)) :: []⟩) (b - (m + 1)) ?_ ?_
                        · simp (maxSteps := 2000000) (disch := first | omega | (simp only [lenS]; try omega)) only [go_sem, reduceAdd, reduceEqDiff, reduceLeDiff, reduceSub]
                          exact ⟨m + 1, G2, by omega, by omega, rfl, k5, rfl, rfl⟩
                        · rintro q s ⟨w, G3, c1, c2, rfl, c3, c4, rfl⟩
                          have z0 := z162 (ltC cm) G3 (b := b) (j := w)
                          have z1 := z163 (ltC cm) G3 (b := b) (j := w)
                          simp only [ltC] at z0 z1
                          have e8 : G3.toList.length = d.size := by simp [c3]
                          obtain ⟨w', hw'⟩ : ∃ w' : Nat, (w : Int) - 1 = w' := ⟨w - 1, by omega⟩
                          rw [show w - 1 = w' by omega] at z0 z1
                          by_cases hwb : (w : Int) < b
                          · have v2 := z149 G3 (i := w) (by omega)
                            have v3 := z149 G3 (i := w') (by omega)
                            have v4 := z14d (fun x => ints (g x)) G3 w w'
                            generalize G3[w]! = x3 at *
                            generalize G3[w']! = y3 at *
                            by_cases hl3 : cm x3 y3 < 0
                            · have z2 := z1 (by omega) (by simp [hl3])
                              simp (maxSteps := 2000000) (disch := first | omega | (simp only [lenS]; try omega)) only [go_sem, reduceAdd, reduceEqDiff, reduceLeDiff, reduceSub, H, v2, v3, e8, hw', hwb, hl3, List.getElem?_set_ne, List.getElem_set_ne, List.getElem_map]
                              exact ⟨b - (w + 1), by omega, w + 1, Sort.swp G3 w w', by omega, by omega, rfl, by rw [Sort.size_swp]; exact c3, by rw [← c4, z2], by rw [v4]; rfl⟩
                            · have z2 := z0 (.inr (by simp [hl3]))
                              simp (maxSteps := 2000000) (disch := first | omega | (simp only [lenS]; try omega)) only [go_sem, reduceAdd, reduceEqDiff, reduceLeDiff, reduceSub, H, v2, v3, e8, hw', hwb, hl3]
                              refine ⟨u, by omega, m, G3, by omega, by omega, by omega, c3, ?_, ?_⟩
                              · rw [← d4, Sort.partialIns_succ, ← hscan, if_neg (by omega), if_neg (by omega), hm1, hG2, h2', ← c4]
                                exact congrArg _ z2.symm
                              · rw [show (5 : Int) - ((u + 1 : Nat) : Int) + 1 = 5 - (u : Int) by omega]
                          · have z2 := z0 (.inl (by omega))
                            simp (maxSteps := 2000000) (disch := first | omega | (simp only [lenS]; try omega)) only [go_sem, reduceAdd, reduceEqDiff, reduceLeDiff, reduceSub, hwb]
                            refine ⟨u, by omega, m, G3, by omega, by omega, by omega, c3, ?_, ?_⟩
                            · rw [← d4, Sort.partialIns_succ, ← hscan, if_neg (by omega), if_neg (by omega), hm1, hG2, h2', ← c4]
                              exact congrArg _ z2.symm
                            · rw [show (5 : Int) - ((u + 1 : Nat) : Int) + 1 = 5 - (u : Int) by omega]
                      · have h2' : Sort.fixUp (ltC cm) b m G2 = G2 := by unfold Sort.fixUp; rw [if_neg (by omega)]
                        simp (maxSteps := 2000000) (disch := first | omega | (simp only [lenS]; try omega)) only [go_sem, reduceAdd, reduceEqDiff, reduceLeDiff, reduceSub, H, v2, v3, e9, hq', hq, Int.not_lt.2 hq, hl2, hbm, Int.not_le.1 hbm, false_implies, and_true, true_and, forall_const]
                        refine ⟨u, by omega, m, G2, by omega, by omega, by omega, k5, ?_, ?_⟩
                        · rw [← d4, Sort.partialIns_succ, ← hscan, if_neg (by omega), if_neg (by omega), hm1, hG2, h2']
                        · rw [show (5 : Int) - ((u + 1 : Nat) : Int) + 1 = 5 - (u : Int) by omega]
                  · have z2 := z0 (.inl (by omega))
                    have hG2 : Sort.fixDown (ltC cm) a m (Sort.swp D m m') = G2 := by rw [hG, ← c2]; exact z2
                    by_cases hbm : (2 : Int) ≤ (b : Int) - (m : Int)
                    · have h2' : Sort.fixUp (ltC cm) b m G2 = Sort.shiftUp (ltC cm) b (m + 1) G2 := by unfold Sort.fixUp; rw [if_pos (by omega)]
                      simp (maxSteps := 2000000) (disch := first | omega | (simp only [lenS]; try omega)) only [go_sem, reduceAdd, reduceEqDiff, reduceLeDiff, reduceSub, hq, Int.not_le.1 hq, hbm, Int.not_lt.2 hbm, false_implies, and_true, true_and, forall_const]
                      clear z0 z1 z2 w2 w3 w4 hlt
                      refine z1a (fun q s => ∃ (w : Nat) (G3 : Array α), m < w ∧ w ≤ b ∧ q = b - w ∧ G3.size = d.size ∧ Sort.shiftUp (ltC cm) b w G3 = Sort.shiftUp (ltC cm) b (m + 1) G2 ∧ s = ⟨[.ref 0 1 0 d.size, I a, I b, .clo w46 [], .any, I m, I (5 - ((u + 1 : Nat) : Int)), .any, I w, .any, .any, .any, .any, .any, .any, .any, .any, .any, .any], .row t false 1 (G3.toList.map fun x => ints (g x)) :: []⟩) (b - (m + 1)) ?_ ?_
                      · simp (maxSteps := 2000000) (disch := first | omega | (simp only [lenS]; try omega)) only [go_sem, reduceAdd, reduceEqDiff, reduceLeDiff, reduceSub]
                        exact ⟨m + 1, G2, by omega, by omega, rfl, k5, rfl, rfl⟩
                      · rintro q s ⟨w, G3, c1, c2, rfl, c3, c4, rfl⟩
                        have z0 := z162 (ltC cm) G3 (b := b) (j := w)
                        have z1 := z163 (ltC cm) G3 (b := b) (j := w)
                        simp only [ltC] at z0 z1
                        have e8 : G3.toList.length = d.size := by simp [c3]
                        obtain ⟨w', hw'⟩ : ∃ w' : Nat, (w : Int) - 1 = w' := ⟨w - 1, by omega⟩
                        rw [show w - 1 = w' by omega] at z0 z1
                        by_cases hwb : (w : Int) < b
                        · have v2 := z149 G3 (i := w) (by omega)
                          have v3 := z149 G3 (i := w') (by omega)
                          have v4 := z14d (fun x => ints (g x)) G3 w w'
                          generalize G3[w]! = x3 at *
                          generalize G3[w']! = y3 at *
                          by_cases hl3 : cm x3 y3 < 0
                          · have z2 := z1 (by omega) (by simp [hl3])
                            simp (maxSteps := 2000000) (disch := first | omega | (simp only [lenS]; try omega)) only [go_sem, reduceAdd, reduceEqDiff, reduceLeDiff, reduceSub, H, v2, v3, e8, hw', hwb, hl3, List.getElem?_set_ne, List.getElem_set_ne, List.getElem_map]
                            exact ⟨b - (w + 1), by omega, w + 1, Sort.swp G3 w w', by omega, by omega, rfl, by rw [Sort.size_swp]; exact c3, by rw [← c4, z2], by rw [v4]; rfl⟩
                          · have z2 := z0 (.inr (by simp [hl3]))
                            simp (maxSteps := 2000000) (disch := first | omega | (simp only [lenS]; try omega)) only [go_sem, reduceAdd, reduceEqDiff, reduceLeDiff, reduceSub, H, v2, v3, e8, hw', hwb, hl3]
                            refine ⟨u, by omega, m, G3, by omega, by omega, by omega, c3, ?_, ?_⟩
                            · rw [← d4, Sort.partialIns_succ, ← hscan, if_neg (by omega), if_neg (by omega), hm1, hG2, h2', ← c4]
                              exact congrArg _ z2.symm
                            · rw [show (5 : Int) - ((u + 1 : Nat) : Int) + 1 = 5 - (u : Int) by omega]
                        · have z2 := z0 (.inl (by omega))
                          simp (maxSteps := 2000000) (disch := first | omega | (simp only [lenS]; try omega)) only [go_sem, reduceAdd, reduceEqDiff, reduceLeDiff, reduceSub, hwb]
                          refine ⟨u, by omega, m, G3, by omega, by omega, by omega, c3, ?_, ?_⟩
                          · rw [← d4, Sort.partialIns_succ, ← hscan, if_neg (by omega), if_neg (by omega), hm1, hG2, h2', ← c4]
                            exact congrArg _ z2.symm
                          · rw [show (5 : Int) - ((u + 1 : Nat) : Int) + 1 = 5 - (u : Int) by omega]
                    · have h2' : Sort.fixUp (ltC cm) b m G2 = G2 := by unfold Sort.fixUp; rw [if_neg (by omega)]
                      simp (maxSteps := 2000000) (disch := first | omega | (simp only [lenS]; try omega)) only [go_sem, reduceAdd, reduceEqDiff, reduceLeDiff, reduceSub, hq, Int.not_le.1 hq, hbm, Int.not_le.1 hbm, false_implies, and_true, true_and, forall_const]
                      refine ⟨u, by omega, m, G2, by omega, by omega, by omega, k5, ?_, ?_⟩
                      · rw [← d4, Sort.partialIns_succ, ← hscan, if_neg (by omega), if_neg (by omega), hm1, hG2, h2']
                      · rw [show (5 : Int) - ((u + 1 : Nat) : Int) + 1 = 5 - (u : Int) by omega]
              · have hG0 : Sort.fixDown (ltC cm) a m (Sort.swp D m m') = Sort.swp D m m' := by unfold Sort.fixDown; rw [if_neg (by omega)]
                have k5' : (Sort.swp D m m').size = d.size := by rw [Sort.size_swp]; exact d3
                obtain ⟨G2, hGG⟩ : ∃ G2, Sort.swp D m m' = G2 := ⟨_, rfl⟩
                have hG2 : Sort.fixDown (ltC cm) a m (Sort.swp D m m') = G2 := by rw [hG0, hGG]
                have k5 : G2.size = d.size := by rw [← hGG]; exact k5'
                rw [hGG] at w4
                by_cases hbm : (2 : Int) ≤ (b : Int) - (m : Int)
                · have h2' : Sort.fixUp (ltC cm) b m G2 = Sort.shiftUp (ltC cm) b (m + 1) G2 := by unfold Sort.fixUp; rw [if_pos (by omega)]
                  simp (maxSteps := 2000000) (disch := first | omega | (simp only [lenS]; try omega)) only [go_sem, reduceAdd, reduceEqDiff, reduceLeDiff, reduceSub, H, w2, w3, e7, hm', hmb, hlt, h50, Int.not_lt.1 h50, hma, Int.not_le.1 hma, hbm, Int.not_lt.2 hbm, List.getElem?_set_ne, List.getElem_set_ne, List.getElem_map, false_implies, and_true, true_and, forall_const]
                  rw [← w4]
                  clear w2 w3 w4 hlt
                  refine z1a (fun q s => ∃ (w : Nat) (G3 : Array α), m < w ∧ w ≤ b ∧ q = b - w ∧ G3.size = d.size ∧ Sort.shiftUp (ltC cm) b w G3 = Sort.shiftUp (ltC cm) b (m + 1) G2 ∧ s = ⟨[.ref 0 1 0 d.size, I a, I b, .clo w46 [], .any, I m, I (5 - ((u + 1 : Nat) : Int)), .any, I w, .any, .any, .any, .any, .any, .any, .any, .any, .any, .any], .row t false 1 (G3.toList.map fun x => ints (g x)) :: []⟩) (b - (m + 1)) ?_ ?_
                  · simp (maxSteps := 2000000) (disch := first | omega | (simp only [lenS]; try omega)) only [go_sem, reduceAdd, reduceEqDiff, reduceLeDiff, reduceSub]
                    exact ⟨m + 1, G2, by omega, by omega, rfl, k5, rfl, rfl⟩
                  · rintro q s ⟨w, G3, c1, c2, rfl, c3, c4, rfl⟩
                    have z0 := z162 (ltC cm) G3 (b := b) (j := w)
                    have z1 := z163 (ltC cm) G3 (b := b) (j := w)
                    simp only [ltC] at z0 z1
                    have e8 : G3.toList.length = d.size := by simp [c3]
                    obtain ⟨w', hw'⟩ : ∃ w' : Nat, (w : Int) - 1 = w' := ⟨w - 1, by omega⟩
                    rw [show w - 1 = w' by omega] at z0 z1
                    by_cases hwb : (w : Int) < b
                    · have v2 := z149 G3 (i := w) (by omega)
                      have v3 := z149 G3 (i := w') (by omega)
                      have v4 := z14d (fun x => ints (g x)) G3 w w'
                      generalize G3[w]! = x3 at *
                      generalize G3[w']! = y3 at *
                      by_cases hl3 : cm x3 y3 < 0
                      · have z2 := z1 (by omega) (by simp [hl3])
                        simp (maxSteps := 2000000) (disch := first | omega | (simp only [lenS]; try omega)) only [go_sem, reduceAdd, reduceEqDiff, reduceLeDiff, reduceSub, H, v2, v3, e8, hw', hwb, hl3, List.getElem?_set_ne, List.getElem_set_ne, List.getElem_map]
                        exact ⟨b - (w + 1), by omega, w + 1, Sort.swp G3 w w', by omega, by omega, rfl, by rw [Sort.size_swp]; exact c3, by rw [← c4, z2], by rw [v4]; rfl⟩
                      · have z2 := z0 (.inr (by simp [hl3]))
                        simp (maxSteps := 2000000) (disch := first | omega | (simp only [lenS]; try omega)) only [go_sem, reduceAdd, reduceEqDiff, reduceLeDiff, reduceSub, H, v2, v3, e8, hw', hwb, hl3]
                        refine ⟨u, by omega, m, G3, by omega, by omega, by omega, c3, ?_, ?_⟩
                        · rw [← d4, Sort.partialIns_succ, ← hscan, if_neg (by omega), if_neg (by omega), hm1, hG2, h2', ← c4]
                          exact congrArg _ z2.symm
                        · rw [show (5 : Int) - ((u + 1 : Nat) : Int) + 1 = 5 - (u : Int) by omega]
                    · have z2 := z0 (.inl (by omega))
                      simp (maxSteps := 2000000) (disch := first | omega | (simp only [lenS]; try omega)) only [go_sem, reduceAdd, reduceEqDiff, reduceLeDiff, reduceSub, hwb]
                      refine ⟨u, by omega, m, G3, by omega, by omega, by omega, c3, ?_, ?_⟩
                      · rw [← d4, Sort.partialIns_succ, ← hscan, if_neg (by omega), if_neg (by omega), hm1, hG2, h2', ← c4]
                        exact congrArg _ z2.symm
                      · rw [show (5 : Int) - ((u + 1 : Nat) : Int) + 1 = 5 - (u : Int) by omega]
                · exfalso
                  omega
          · have s2 := s1 (by omega) (by simp [hlt])
            simp (maxSteps := 2000000) (disch := first | omega | (simp only [lenS]; try omega)) only [go_sem, reduceAdd, reduceEqDiff, reduceLeDiff, reduceSub, H, w2, w3, e7, hm', hmb, hlt]
            exact ⟨b - (m + 1), by omega, m + 1, by omega, by omega, rfl, by rw [← m4, s2], rfl⟩
        · have hscan : m = Sort.scanSorted (ltC cm) D b i := by rw [← m4]; exact (s0 (.inl (by omega))).symm
          have e5 : Sort.partialIns (ltC cm) a b 5 (a + 1) d = (D, true) := by rw [← d4, Sort.partialIns_succ, ← hscan, if_pos (by omega)]
          simp (maxSteps := 2000000) (disch := first | omega | (simp only [lenS]; try omega)) only [go_sem, reduceAdd, reduceEqDiff, reduceLeDiff, reduceSub, hmb]
          rw [e5]
theorem w82 {α : Type} [Inhabited α] (g : α → List Int) (cm : α → α → Int) (H : ∀ x y, C w46 [ints (g x), ints (g y)] [] = some (I (cm x y), [])) (t : TypeId) (d : Array α) (a b pv : Nat) (h1 : a ≤ pv) (h2 : pv < b) (hb : b ≤ d.size) (hs : d.size < 2^40) :
    C w4l [.ref 0 1 0 d.size, I a, I b, I pv, .clo w46 []] (.row t false 1 (d.toList.map fun x => ints (g x)) :: []) = some (I (Sort.partitionEqual (ltC cm) d a b pv).1, .row t false 1 ((Sort.partitionEqual (ltC cm) d a b pv).2.toList.map fun x => ints (g x)) :: []) := by
  obtain ⟨n, hn⟩ : ∃ n : Nat, (b : Int) - 1 = n := ⟨b - 1, by omega⟩
  have w2 := z149 d (i := a) (by omega)
  have w3 := z149 d (i := pv) (by omega)
  have w4 := z14d (fun x => ints (g x)) d a pv
  have w6 := z14c (fun x => ints (g x)) d (i := a) (j := pv) d[pv]! (by omega) (by omega)
  generalize (if a = pv then d[pv]! else d[pv]!) = z at *
  generalize d[a]! = x at *
  generalize d[pv]! = y at *
  unfold Sort.partitionEqual
  rw [show b - 1 = n by omega]
  refine w0r ?_
  simp (maxSteps := 2000000) (disch := first | omega | (simp only [lenS]; try omega)) only [w6l, go_sem, reduceAdd, reduceEqDiff, reduceLeDiff, reduceSub]
  have e7 : d.toList.length = d.size := by simp
  simp (maxSteps := 2000000) (disch := first | omega | (simp only [lenS]; try omega)) only [go_sem, reduceAdd, reduceEqDiff, reduceLeDiff, reduceSub, w2, w3, w6, e7, hn]
  rw [← w4]
  have k0 : (Sort.swp d a pv).size = d.size := Sort.size_swp _ _ _
  generalize Sort.swp d a pv = D at *
  clear w2 w3 w4 w6 x y z e7
  refine z1a (fun k s => ∃ (i j : Nat) (E : Array α), a < i ∧ i ≤ j + 2 ∧ j < b ∧ k = j + 1 - i ∧ E.size = d.size ∧ Sort.partEqLoop (ltC cm) a i j E = Sort.partEqLoop (ltC cm) a (a + 1) n D ∧ s = ⟨[.ref 0 1 0 d.size, I a, .any, .any, .clo w46 [], .any, I i, I j, .any, .any, .any], .row t false 1 (E.toList.map fun x => ints (g x)) :: []⟩) (n + 1 - (a + 1)) ?_ ?_
  · simp (maxSteps := 2000000) (disch := first | omega | (simp only [lenS]; try omega)) only [go_sem, reduceAdd, reduceEqDiff, reduceLeDiff, reduceSub]
    exact ⟨a + 1, n, D, by omega, by omega, by omega, rfl, k0, rfl, rfl⟩
  · rintro k s ⟨i, j, E, c1, c2, c3, rfl, c4, c5, rfl⟩
    have hq := Sort.partEqLoop_eq (ltC cm) a i j E
    rw [c5] at hq
    have e7 : E.toList.length = d.size := by simp [c4]
    have w1 := z149 E (i := a) (by omega)
    simp (maxSteps := 2000000) (disch := first | omega | (simp only [lenS]; try omega)) only [go_sem, reduceAdd, reduceEqDiff, reduceLeDiff, reduceSub]
    refine z1a (fun q s => ∃ u : Nat, i ≤ u ∧ u ≤ j + 2 ∧ q = j + 2 - u ∧ Sort.scanUp (fun x => !ltC cm E[a]! x) E j u = Sort.scanUp (fun x => !ltC cm E[a]! x) E j i ∧ s = ⟨[.ref 0 1 0 d.size, I a, .any, .any, .clo w46 [], .any, I u, I j, .any, .any, .any], .row t false 1 (E.toList.map fun x => ints (g x)) :: []⟩) (j + 2 - i) ?_ ?_
    · simp (maxSteps := 2000000) (disch := first | omega | (simp only [lenS]; try omega)) only [go_sem, reduceAdd, reduceEqDiff, reduceLeDiff, reduceSub]
      exact ⟨i, by omega, c2, rfl, rfl, rfl⟩
    · rintro q s ⟨u, u1, u2, rfl, u4, rfl⟩
      have s0 := z1bi (fun x => !ltC cm E[a]! x) E (i := u) (j := j)
      have s1 := up_go (fun x => !ltC cm E[a]! x) E (i := u) (j := j)
      by_cases huj : (u : Int) ≤ j
      · have w2 := z149 E (i := u) (by omega)
        by_cases hlt : cm E[a]! E[u]! < 0
        · have hup : Sort.scanUp (fun x => !ltC cm E[a]! x) E j i = u := by rw [← u4]; exact s0 (.inr (by simp [hlt]))
          rw [hup] at hq
          clear s0 s1 u4 hup
          generalize hA : E[a]! = A at *
          generalize E[u]! = x at *
          simp (maxSteps := 2000000) (disch := first | omega | (simp only [lenS]; try omega)) only [go_sem, reduceAdd, reduceEqDiff, reduceLeDiff, reduceSub, H, w1, w2, e7, huj, hlt]
          clear w2 hlt x
          refine z1a (fun q s => ∃ v : Nat, v ≤ j ∧ u ≤ v + 2 ∧ q = v ∧ Sort.scanDown (fun x => ltC cm A x) E u v = Sort.scanDown (fun x => ltC cm A x) E u j ∧ s = ⟨[.ref 0 1 0 d.size, I a, .any, .any, .clo w46 [], .any, I u, I v, .any, .any, .any], .row t false 1 (E.toList.map fun x => ints (g x)) :: []⟩) j ?_ ?_
          · simp (maxSteps := 2000000) (disch := first | omega | (simp only [lenS]; try omega)) only [go_sem, reduceAdd, reduceEqDiff, reduceLeDiff, reduceSub]
            exact ⟨j, by omega, u2, rfl, rfl, rfl⟩
          · rintro q s ⟨v, v1, v2, rfl, v4, rfl⟩
            have s0 := zbh (fun x => ltC cm A x) E (i := u) (j := q)
            have s1 := zbi (fun x => ltC cm A x) E (i := u) (j := q)
            by_cases huv : (u : Int) ≤ q
            · have w2 := z149 E (i := q) (by omega)
              obtain ⟨q', hq'⟩ : ∃ q' : Nat, (q : Int) - 1 = q' := ⟨q - 1, by omega⟩
              by_cases hl2 : cm A E[q]! < 0
              · have s2 := s1 (by omega) (by omega) (by simp [hl2])
                rw [show q - 1 = q' by omega] at s2
                generalize E[q]! = y at *
                simp (maxSteps := 2000000) (disch := first | omega | (simp only [lenS]; try omega)) only [go_sem, reduceAdd, reduceEqDiff, reduceLeDiff, reduceSub, H, w1, w2, e7, huv, hl2, hq']
                exact ⟨q', by omega, q', by omega, by omega, rfl, by rw [← v4, s2], rfl⟩
              · have hdn : Sort.scanDown (fun x => ltC cm A x) E u j = q := by rw [← v4]; exact s0 (.inr (by simp [hl2]))
                rw [hdn, if_neg (by omega), show q - 1 = q' by omega] at hq
                have w3 := z149 E (i := u) (by omega)
                have w4 := z14d (fun x => ints (g x)) E u q
                have w6 := z14c (fun x => ints (g x)) E (i := u) (j := q) E[q]! (by omega) (by omega)
                generalize (if u = q then E[q]! else E[q]!) = z at *
                generalize E[u]! = x at *
                generalize E[q]! = y at *
                simp (maxSteps := 2000000) (disch := first | omega | (simp only [lenS]; try omega)) only [go_sem, reduceAdd, reduceEqDiff, reduceLeDiff, reduceSub, H, w1, w2, w3, w6, e7, huv, hl2, hq']
                exact ⟨q' + 1 - (u + 1), by omega, u + 1, q', Sort.swp E u q, by omega, by omega, by omega, rfl, by rw [Sort.size_swp]; exact c4, hq.symm, by rw [w4]; rfl⟩
            · have hdn : Sort.scanDown (fun x => ltC cm A x) E u j = q := by rw [← v4]; exact s0 (.inl (by omega))
              rw [hdn, if_pos (by omega)] at hq
              simp (maxSteps := 2000000) (disch := first | omega | (simp only [lenS]; try omega)) only [go_sem, reduceAdd, reduceEqDiff, reduceLeDiff, reduceSub, huv]
              rw [hq]
        · have s2 := s1 (by omega) (by simp [hlt])
          generalize hA : E[a]! = A at *
          generalize E[u]! = x at *
          simp (maxSteps := 2000000) (disch := first | omega | (simp only [lenS]; try omega)) only [go_sem, reduceAdd, reduceEqDiff, reduceLeDiff, reduceSub, H, w1, w2, e7, huj, hlt]
          exact ⟨j + 2 - (u + 1), by omega, u + 1, by omega, by omega, rfl, by rw [← u4, s2], rfl⟩
      · have hup : Sort.scanUp (fun x => !ltC cm E[a]! x) E j i = u := by rw [← u4]; exact s0 (.inl (by omega))
        rw [hup] at hq
        clear s0 s1 u4 hup
        simp (maxSteps := 2000000) (disch := first | omega | (simp only [lenS]; try omega)) only [go_sem, reduceAdd, reduceEqDiff, reduceLeDiff, reduceSub, huj]
        generalize hA : E[a]! = A at *
        refine z1a (fun q s => ∃ v : Nat, v ≤ j ∧ q = v ∧ Sort.scanDown (fun x => ltC cm A x) E u v = Sort.scanDown (fun x => ltC cm A x) E u j ∧ s = ⟨[.ref 0 1 0 d.size, I a, .any, .any, .clo w46 [], .any, I u, I v, .any, .any, .any], .row t false 1 (E.toList.map fun x => ints (g x)) :: []⟩) j ?_ ?_
        · simp (maxSteps := 2000000) (disch := first | omega | (simp only [lenS]; try omega)) only [go_sem, reduceAdd, reduceEqDiff, reduceLeDiff, reduceSub]
          exact ⟨j, by omega, rfl, rfl, rfl⟩
        · rintro q s ⟨v, v1, rfl, v4, rfl⟩
          have s0 := zbh (fun x => ltC cm A x) E (i := u) (j := q)
          have huv : ¬ (u : Int) ≤ q := by omega
          have hdn : Sort.scanDown (fun x => ltC cm A x) E u j = q := by rw [← v4]; exact s0 (.inl (by omega))
          rw [hdn, if_pos (by omega)] at hq
          simp (maxSteps := 2000000) (disch := first | omega | (simp only [lenS]; try omega)) only [go_sem, reduceAdd, reduceEqDiff, reduceLeDiff, reduceSub, huv]
          rw [hq]
theorem w81 {α : Type} [Inhabited α] (g : α → List Int) (cm : α → α → Int) (H : ∀ x y, C w46 [ints (g x), ints (g y)] [] = some (I (cm x y), [])) (t : TypeId) (d : Array α) (a b pv : Nat) (h1 : a ≤ pv) (h2 : pv < b) (hb : b ≤ d.size) (hs : d.size < 2^40) :
    C w4k [.ref 0 1 0 d.size, I a, I b, I pv, .clo w46 []] (.row t false 1 (d.toList.map fun x => ints (g x)) :: []) = some (.tup [I (Sort.partition (ltC cm) d a b pv).1, .bool (Sort.partition (ltC cm) d a b pv).2.1], .row t false 1 ((Sort.partition (ltC cm) d a b pv).2.2.toList.map fun x => ints (g x)) :: []) := by
  obtain ⟨n, hn⟩ : ∃ n : Nat, (b : Int) - 1 = n := ⟨b - 1, by omega⟩
  have w2 := z149 d (i := a) (by omega)
  have w3 := z149 d (i := pv) (by omega)
  have w4 := z14d (fun x => ints (g x)) d a pv
  have w6 := z14c (fun x => ints (g x)) d (i := a) (j := pv) d[pv]! (by omega) (by omega)
  generalize (if a = pv then d[pv]! else d[pv]!) = z at *
  generalize d[a]! = x at *
  generalize d[pv]! = y at *
  refine w0q ?_
  simp (maxSteps := 2000000) (disch := first | omega | (simp only [lenS]; try omega)) only [w6k, go_sem, reduceAdd, reduceEqDiff, reduceLeDiff, reduceSub]
  have e7 : d.toList.length = d.size := by simp
  simp (maxSteps := 2000000) (disch := first | omega | (simp only [lenS]; try omega)) only [go_sem, reduceAdd, reduceEqDiff, reduceLeDiff, reduceSub, w2, w3, w6, e7, hn]
  rw [← w4]
  have hq : (Sort.partition (ltC cm) d a b pv) = (let d := Sort.swp d a pv
    let i := Sort.scanUp (fun x => ltC cm x d[a]!) d (b - 1) (a + 1)
    let j := Sort.scanDown (fun x => !ltC cm x d[a]!) d i (b - 1)
    if i > j then (j, true, Sort.swp d j a) else
      let r := Sort.partLoop (ltC cm) a (i + 1) (j - 1) (Sort.swp d i j)
      (r.1, false, Sort.swp r.2 r.1 a)) := rfl
  rw [show b - 1 = n by omega] at hq
  simp only [] at hq
  have c4 : (Sort.swp d a pv).size = d.size := Sort.size_swp _ _ _
  generalize hE : Sort.swp d a pv = E at *
  clear w2 w3 w4 w6 x y z e7
  have e7 : E.toList.length = d.size := by simp [c4]
  have w1 := z149 E (i := a) (by omega)
  obtain ⟨i, hi⟩ : ∃ i, a + 1 = i := ⟨_, rfl⟩
  have hi' : (a : Int) + 1 = i := by omega
  rw [hi] at hq
  rw [hi']
  have c1 : a < i := by omega
  have c2 : i ≤ n + 2 := by omega
  have c3 : n < b := by omega
  clear hi hi' hE
  generalize n = j at *
  refine z1a (fun q s => ∃ u : Nat, i ≤ u ∧ u ≤ j + 2 ∧ q = j + 2 - u ∧ Sort.scanUp (fun x => ltC cm x E[a]!) E j u = Sort.scanUp (fun x => ltC cm x E[a]!) E j i ∧ s = ⟨[.ref 0 1 0 d.size, I a, .any, .any, .clo w46 [], .any, .any, I u, I j, .any, .any, .any, .any, .any, .any], .row t false 1 (E.toList.map fun x => ints (g x)) :: []⟩) (j + 2 - i) ?_ ?_
  · simp (maxSteps := 2000000) (disch := first | omega | (simp only [lenS]; try omega)) only [go_sem, reduceAdd, reduceEqDiff, reduceLeDiff, reduceSub]
    exact ⟨i, by omega, c2, rfl, rfl, rfl⟩
  · rintro q s ⟨u, u1, u2, rfl, u4, rfl⟩
    have s0 := z1bi (fun x => ltC cm x E[a]!) E (i := u) (j := j)
    have s1 := up_go (fun x => ltC cm x E[a]!) E (i := u) (j := j)
    by_cases huj : (u : Int) ≤ j
    · have w2 := z149 E (i := u) (by omega)
      by_cases hlt : cm E[u]! E[a]! < 0
      · have s2 := s1 (by omega) (by simp [hlt])
        generalize hA : E[a]! = A at *
        generalize E[u]! = x at *
        simp (maxSteps := 2000000) (disch := first | omega | (simp only [lenS]; try omega)) only [go_sem, reduceAdd, reduceEqDiff, reduceLeDiff, reduceSub, H, w1, w2, e7, huj, hlt]
        exact ⟨j + 2 - (u + 1), by omega, u + 1, by omega, by omega, rfl, by rw [← u4, s2], rfl⟩
      · have hup : Sort.scanUp (fun x => ltC cm x E[a]!) E j i = u := by rw [← u4]; exact s0 (.inr (by simp [hlt]))
        rw [hup] at hq
        clear s0 s1 u4 hup
        generalize hA : E[a]! = A at *
        generalize E[u]! = x at *
        simp (maxSteps := 2000000) (disch := first | omega | (simp only [lenS]; try omega)) only [go_sem, reduceAdd, reduceEqDiff, reduceLeDiff, reduceSub, H, w1, w2, e7, huj, hlt]
        clear w2 hlt x
        refine z1a (fun q s => ∃ v : Nat, v ≤ j ∧ u ≤ v + 2 ∧ q = v ∧ Sort.scanDown (fun x => !ltC cm x A) E u v = Sort.scanDown (fun x => !ltC cm x A) E u j ∧ s = ⟨[.ref 0 1 0 d.size, I a, .any, .any, .clo w46 [], .any, .any, I u, I v, .any, .any, .any, .any, .any, .any], .row t false 1 (E.toList.map fun x => ints (g x)) :: []⟩) j ?_ ?_
        · simp (maxSteps := 2000000) (disch := first | omega | (simp only [lenS]; try omega)) only [go_sem, reduceAdd, reduceEqDiff, reduceLeDiff, reduceSub]
          exact ⟨j, by omega, u2, rfl, rfl, rfl⟩
        · rintro q s ⟨v, v1, v2, rfl, v4, rfl⟩
          have s0 := zbh (fun x => !ltC cm x A) E (i := u) (j := q)
          have s1 := zbi (fun x => !ltC cm x A) E (i := u) (j := q)
          by_cases huv : (u : Int) ≤ q
          · have w2 := z149 E (i := q) (by omega)
            obtain ⟨q', hq'⟩ : ∃ q' : Nat, (q : Int) - 1 = q' := ⟨q - 1, by omega⟩
            by_cases hl2 : cm E[q]! A < 0
            · have hdn : Sort.scanDown (fun x => !ltC cm x A) E u j = q := by rw [← v4]; exact s0 (.inr (by simp [hl2]))
              rw [hdn, if_neg (by omega), show q - 1 = q' by omega] at hq
              have w3 := z149 E (i := u) (by omega)
              have w4 := z14d (fun x => ints (g x)) E u q
              have w6 := z14c (fun x => ints (g x)) E (i := u) (j := q) E[q]! (by omega) (by omega)
              generalize (if u = q then E[q]! else E[q]!) = z at *
              generalize E[u]! = x at *
              generalize E[q]! = y at *
              simp (maxSteps := 2000000) (disch := first | omega | (simp only [lenS]; try omega)) only [go_sem, reduceAdd, reduceEqDiff, reduceLeDiff, reduceSub, H, w1, w2, w3, w6, e7, huv, hl2, hq']
              obtain ⟨I0, hI0⟩ : ∃ I0, u + 1 = I0 := ⟨_, rfl⟩
              obtain ⟨J0, hJ0⟩ : ∃ J0, q' = J0 := ⟨_, rfl⟩
              obtain ⟨E0, hE0⟩ : ∃ E0, Sort.swp E u q = E0 := ⟨_, rfl⟩
              have k0 : E0.size = d.size := by rw [← hE0, Sort.size_swp]; exact c4
              have w4' := w4
              rw [hE0] at w4'
              rw [hI0, hJ0, hE0] at hq
              have hr : (Sort.partition (ltC cm) d a b pv) = ((Sort.partLoop (ltC cm) a I0 J0 E0).1, false, Sort.swp (Sort.partLoop (ltC cm) a I0 J0 E0).2 (Sort.partLoop (ltC cm) a I0 J0 E0).1 a) := hq
              clear hq w1 w2 w3 w4 w6 e7 hdn
              have hb1 : a < I0 ∧ I0 ≤ J0 + 2 ∧ J0 < b ∧ a ≤ J0 := by omega
              clear hE0 c1 c2 c4 u1 u2 v1 v2 hl2 huv huj hA v4
              refine z1a (fun k s => ∃ (i j : Nat) (E : Array α), a < i ∧ i ≤ j + 2 ∧ j < b ∧ a ≤ j ∧ k = j + 1 - i ∧ E.size = d.size ∧ Sort.partLoop (ltC cm) a i j E = Sort.partLoop (ltC cm) a I0 J0 E0 ∧ s = ⟨[.ref 0 1 0 d.size, I a, .any, .any, .clo w46 [], .any, .any, I i, I j, .any, .any, .any, .any, .any, .any], .row t false 1 (E.toList.map fun x => ints (g x)) :: []⟩) (J0 + 1 - I0) ?_ ?_
              · simp (maxSteps := 2000000) (disch := first | omega | (simp only [lenS]; try omega)) only [go_sem, reduceAdd, reduceEqDiff, reduceLeDiff, reduceSub]
                exact ⟨I0, J0, E0, by omega, by omega, by omega, by omega, rfl, k0, rfl, by rw [w4', ← hI0, ← hJ0]; rfl⟩
              · rintro k s ⟨i, j, E, c1, c2, c3, c3', rfl, c4, c5, rfl⟩
                have hq := Sort.partLoop_eq (ltC cm) a i j E
                have e7 : E.toList.length = d.size := by simp [c4]
                have w1 := z149 E (i := a) (by omega)
                simp (maxSteps := 2000000) (disch := first | omega | (simp only [lenS]; try omega)) only [go_sem, reduceAdd, reduceEqDiff, reduceLeDiff, reduceSub]
                refine z1a (fun q s => ∃ u : Nat, i ≤ u ∧ u ≤ j + 2 ∧ q = j + 2 - u ∧ Sort.scanUp (fun x => ltC cm x E[a]!) E j u = Sort.scanUp (fun x => ltC cm x E[a]!) E j i ∧ s = ⟨[.ref 0 1 0 d.size, I a, .any, .any, .clo w46 [], .any, .any, I u, I j, .any, .any, .any, .any, .any, .any], .row t false 1 (E.toList.map fun x => ints (g x)) :: []⟩) (j + 2 - i) ?_ ?_
                · simp (maxSteps := 2000000) (disch := first | omega | (simp only [lenS]; try omega)) only [go_sem, reduceAdd, reduceEqDiff, reduceLeDiff, reduceSub]
                  exact ⟨i, by omega, c2, rfl, rfl, rfl⟩
                · rintro q s ⟨u, u1, u2, rfl, u4, rfl⟩
                  have s0 := z1bi (fun x => ltC cm x E[a]!) E (i := u) (j := j)
                  have s1 := up_go (fun x => ltC cm x E[a]!) E (i := u) (j := j)
                  by_cases huj : (u : Int) ≤ j
                  · have w2 := z149 E (i := u) (by omega)
                    by_cases hlt : cm E[u]! E[a]! < 0
                    · have s2 := s1 (by omega) (by simp [hlt])
                      generalize hA : E[a]! = A at *
                      generalize E[u]! = x at *
                      simp (maxSteps := 2000000) (disch := first | omega | (simp only [lenS]; try omega)) only [go_sem, reduceAdd, reduceEqDiff, reduceLeDiff, reduceSub, H, w1, w2, e7, huj, hlt]
                      exact ⟨j + 2 - (u + 1), by omega, u + 1, by omega, by omega, rfl, by rw [← u4, s2], rfl⟩
                    · have hup : Sort.scanUp (fun x => ltC cm x E[a]!) E j i = u := by rw [← u4]; exact s0 (.inr (by simp [hlt]))
                      rw [hup] at hq
                      clear s0 s1 u4 hup
                      generalize hA : E[a]! = A at *
                      generalize E[u]! = x at *
                      simp (maxSteps := 2000000) (disch := first | omega | (simp only [lenS]; try omega)) only [go_sem, reduceAdd, reduceEqDiff, reduceLeDiff, reduceSub, H, w1, w2, e7, huj, hlt]
                      clear w2 hlt x
                      refine z1a (fun q s => ∃ v : Nat, v ≤ j ∧ u ≤ v + 2 ∧ q = v ∧ Sort.scanDown (fun x => !ltC cm x A) E u v = Sort.scanDown (fun x => !ltC cm x A) E u j ∧ s = ⟨[.ref 0 1 0 d.size, I a, .any, .any, .clo w46 [], .any, .any, I u, I v, .any, .any, .any, .any, .any, .any], .row t false 1 (E.toList.map fun x => ints (g x)) :: []⟩) j ?_ ?_
                      · simp (maxSteps := 2000000) (disch := first | omega | (simp only [lenS]; try omega)) only [go_sem, reduceAdd, reduceEqDiff, reduceLeDiff, reduceSub]
                        exact ⟨j, by omega, u2, rfl, rfl, rfl⟩
                      · rintro q s ⟨v, v1, v2, rfl, v4, rfl⟩
                        have s0 := zbh (fun x => !ltC cm x A) E (i := u) (j := q)
                        have s1 := zbi (fun x => !ltC cm x A) E (i := u) (j := q)
                        by_cases huv : (u : Int) ≤ q
                        · have w2 := z149 E (i := q) (by omega)
                          obtain ⟨q', hq'⟩ : ∃ q' : Nat, (q : Int) - 1 = q' := ⟨q - 1, by omega⟩
                          by_cases hl2 : cm E[q]! A < 0
                          · have hdn : Sort.scanDown (fun x => !ltC cm x A) E u j = q := by rw [← v4]; exact s0 (.inr (by simp [hl2]))
                            rw [hdn, if_neg (by omega), show q - 1 = q' by omega] at hq
                            have w3 := z149 E (i := u) (by omega)
                            have w4 := z14d (fun x => ints (g x)) E u q
                            have w6 := z14c (fun x => ints (g x)) E (i := u) (j := q) E[q]! (by omega) (by omega)
                            generalize (if u = q then E[q]! else E[q]!) = z at *
                            generalize E[u]! = x at *
                            generalize E[q]! = y at *
                            simp (maxSteps := 2000000) (disch := first | omega | (simp only [lenS]; try omega)) only [go_sem, reduceAdd, reduceEqDiff, reduceLeDiff, reduceSub, H, w1, w2, w3, w6, e7, huv, hl2, hq']
                            exact ⟨q' + 1 - (u + 1), by omega, u + 1, q', Sort.swp E u q, by omega, by omega, by omega, by omega, rfl, by rw [Sort.size_swp]; exact c4, by rw [← c5]; exact hq.symm, by rw [w4]; rfl⟩
                          · have s2 := s1 (by omega) (by omega) (by simp [hl2])
                            rw [show q - 1 = q' by omega] at s2
                            generalize E[q]! = y at *
                            simp (maxSteps := 2000000) (disch := first | omega | (simp only [lenS]; try omega)) only [go_sem, reduceAdd, reduceEqDiff, reduceLeDiff, reduceSub, H, w1, w2, e7, huv, hl2, hq']
                            exact ⟨q', by omega, q', by omega, by omega, rfl, by rw [← v4, s2], rfl⟩
                        · have hdn : Sort.scanDown (fun x => !ltC cm x A) E u j = q := by rw [← v4]; exact s0 (.inl (by omega))
                          rw [hdn, if_pos (by omega)] at hq
                          have w2 := z149 E (i := q) (by omega)
                          have w4 := z14d (fun x => ints (g x)) E q a
                          have w6 := z14c (fun x => ints (g x)) E (i := q) (j := a) A (by omega) (by omega)
                          rw [hA] at w4
                          generalize (if q = a then A else E[a]!) = z at *
                          generalize E[q]! = y at *
                          simp (maxSteps := 2000000) (disch := first | omega | (simp only [lenS]; try omega)) only [go_sem, reduceAdd, reduceEqDiff, reduceLeDiff, reduceSub, huv, w1, w2, w6, e7]
                          rw [hr, ← c5, hq, w4]
                  · have hup : Sort.scanUp (fun x => ltC cm x E[a]!) E j i = u := by rw [← u4]; exact s0 (.inl (by omega))
                    rw [hup] at hq
                    clear s0 s1 u4 hup
                    simp (maxSteps := 2000000) (disch := first | omega | (simp only [lenS]; try omega)) only [go_sem, reduceAdd, reduceEqDiff, reduceLeDiff, reduceSub, huj]
                    generalize hA : E[a]! = A at *
                    refine z1a (fun q s => ∃ v : Nat, v ≤ j ∧ u ≤ v + 2 ∧ q = v ∧ Sort.scanDown (fun x => !ltC cm x A) E u v = Sort.scanDown (fun x => !ltC cm x A) E u j ∧ s = ⟨[.ref 0 1 0 d.size, I a, .any, .any, .clo w46 [], .any, .any, I u, I v, .any, .any, .any, .any, .any, .any], .row t false 1 (E.toList.map fun x => ints (g x)) :: []⟩) j ?_ ?_
                    · simp (maxSteps := 2000000) (disch := first | omega | (simp only [lenS]; try omega)) only [go_sem, reduceAdd, reduceEqDiff, reduceLeDiff, reduceSub]
                      exact ⟨j, by omega, u2, rfl, rfl, rfl⟩
                    · rintro q s ⟨v, v1, v2, rfl, v4, rfl⟩
                      have s0 := zbh (fun x => !ltC cm x A) E (i := u) (j := q)
                      have huv : ¬ (u : Int) ≤ q := by omega
                      have hdn : Sort.scanDown (fun x => !ltC cm x A) E u j = q := by rw [← v4]; exact s0 (.inl (by omega))
                      rw [hdn, if_pos (by omega)] at hq
                      have w2 := z149 E (i := q) (by omega)
                      have w4 := z14d (fun x => ints (g x)) E q a
                      have w6 := z14c (fun x => ints (g x)) E (i := q) (j := a) A (by omega) (by omega)
                      rw [hA] at w4
                      generalize (if q = a then A else E[a]!) = z at *
                      generalize E[q]! = y at *
                      simp (maxSteps := 2000000) (disch := first | omega | (simp only [lenS]; try omega)) only [go_sem, reduceAdd, reduceEqDiff, reduceLeDiff, reduceSub, huv, w1, w2, w6, e7]
                      rw [hr, ← c5, hq, w4]
            · have s2 := s1 (by omega) (by omega) (by simp [hl2])
              rw [show q - 1 = q' by omega] at s2
              generalize E[q]! = y at *
              simp (maxSteps := 2000000) (disch := first | omega | (simp only [lenS]; try omega)) only [go_sem, reduceAdd, reduceEqDiff, reduceLeDiff, reduceSub, H, w1, w2, e7, huv, hl2, hq']
              exact ⟨q', by omega, q', by omega, by omega, rfl, by rw [← v4, s2], rfl⟩
          · have hdn : Sort.scanDown (fun x => !ltC cm x A) E u j = q := by rw [← v4]; exact s0 (.inl (by omega))
            rw [hdn, if_pos (by omega)] at hq
            have w2 := z149 E (i := q) (by omega)
            have w4 := z14d (fun x => ints (g x)) E q a
            have w6 := z14c (fun x => ints (g x)) E (i := q) (j := a) A (by omega) (by omega)
            rw [hA] at w4
            generalize (if q = a then A else E[a]!) = z at *
            generalize E[q]! = y at *
            simp (maxSteps := 2000000) (disch := first | omega | (simp only [lenS]; try omega)) only [go_sem, reduceAdd, reduceEqDiff, reduceLeDiff, reduceSub, huv, w1, w2, w6, e7]
            rw [hq, w4]
    · have hup : Sort.scanUp (fun x => ltC cm x E[a]!) E j i = u := by rw [← u4]; exact s0 (.inl (by omega))
      rw [hup] at hq
      clear s0 s1 u4 hup
      simp (maxSteps := 2000000) (disch := first | omega | (simp only [lenS]; try omega)) only [go_sem, reduceAdd, reduceEqDiff, reduceLeDiff, reduceSub, huj]
      generalize hA : E[a]! = A at *
      refine z1a (fun q s => ∃ v : Nat, v ≤ j ∧ u ≤ v + 2 ∧ q = v ∧ Sort.scanDown (fun x => !ltC cm x A) E u v = Sort.scanDown (fun x => !ltC cm x A) E u j ∧ s = ⟨[.ref 0 1 0 d.size, I a, .any, .any, .clo w46 [], .any, .any, I u, I v, .any, .any, .any, .any, .any, .any], .row t false 1 (E.toList.map fun x => ints (g x)) :: []⟩) j ?_ ?_
      · simp (maxSteps := 2000000) (disch := first | omega | (simp only [lenS]; try omega)) only [go_sem, reduceAdd, reduceEqDiff, reduceLeDiff, reduceSub]
        exact ⟨j, by omega, u2, rfl, rfl, rfl⟩
      · rintro q s ⟨v, v1, v2, rfl, v4, rfl⟩
        have s0 := zbh (fun x => !ltC cm x A) E (i := u) (j := q)
        have huv : ¬ (u : Int) ≤ q := by omega
        have hdn : Sort.scanDown (fun x => !ltC cm x A) E u j = q := by rw [← v4]; exact s0 (.inl (by omega))
        rw [hdn, if_pos (by omega)] at hq
        have w2 := z149 E (i := q) (by omega)
        have w4 := z14d (fun x => ints (g x)) E q a
        have w6 := z14c (fun x => ints (g x)) E (i := q) (j := a) A (by omega) (by omega)
        rw [hA] at w4
        generalize (if q = a then A else E[a]!) = z at *
        generalize E[q]! = y at *
        simp (maxSteps := 2000000) (disch := first | omega | (simp only [lenS]; try omega)) only [go_sem, reduceAdd, reduceEqDiff, reduceLeDiff, reduceSub, huv, w1, w2, w6, e7]
        rw [hq, w4]
theorem w83 {α : Type} [Inhabited α] (g : α → List Int) (cm : α → α → Int) (H : ∀ x y, C w46 [ints (g x), ints (g y)] [] = some (I (cm x y), [])) (hw : Sort.SWO (ltC cm)) (t : TypeId) : ∀ (n : Nat) (d : Array α) (a b : Nat) (lim : Int), b - a ≤ n → a ≤ b → b ≤ d.size → d.size < 65536 → 0 ≤ lim ∧ lim < 2^40 → Sort.Below (ltC cm) a b d →
    Lw (C w4m [.ref 0 1 0 d.size, I a, I b, I lim, .clo w46 []] (.row t false 1 (d.toList.map fun x => ints (g x)) :: [])) fun r => ∃ E : Array α, r = (.tup [], .row t false 1 (E.toList.map fun x => ints (g x)) :: []) ∧ Sort.PermIn a b d E ∧ Sort.SortedIn (ltC cm) a b E := by
  intro n
  induction n using Nat.strongRecOn with
  | _ n IH =>
  intro d a b lim hn hab hb hs hlim hB
  refine w1a ?_
  simp (maxSteps := 2000000) (disch := first | omega | (simp only [lenS]; try omega)) only [w6m, go_sem, reduceAdd, reduceEqDiff, reduceLeDiff, reduceSub]
  refine z1a (fun k s => ∃ (a' b' : Nat) (lim' : Int) (E : Array α) (wb wp : Bool), k = b' - a' ∧ a' ≤ b' ∧ b' - a' ≤ n ∧ b' ≤ d.size ∧ E.size = d.size ∧ (0 ≤ lim' ∧ lim' < 2^40) ∧ Sort.Below (ltC cm) a' b' E ∧ (∀ R, Sort.PermIn a' b' E R → Sort.SortedIn (ltC cm) a' b' R → Sort.PermIn a b d R ∧ Sort.SortedIn (ltC cm) a b R) ∧ s = ⟨[.ref 0 1 0 d.size, I a', I b', I lim', .clo w46 [], .bool wb, .bool wp, .any, .any, .any, .any, .any, .any, .any, .any, .any, .any, .any, .any, .any, .any, .any, .any, .any], .row t false 1 (E.toList.map fun x => ints (g x)) :: []⟩) (b - a) ?_ ?_
  · simp (maxSteps := 2000000) (disch := first | omega | (simp only [lenS]; try omega)) only [go_sem, reduceAdd, reduceEqDiff, reduceLeDiff, reduceSub]
    exact ⟨a, b, lim, d, true, true, rfl, hab, hn, hb, rfl, hlim, hB, fun R h1 h2 => ⟨h1, h2⟩, rfl⟩
  · rintro k s ⟨a', b', lim', E, wb, wp, rfl, a1, a2, a3, a4, a5, a6, a7, rfl⟩
    clear hB hn hab hb hlim
    obtain ⟨L, hL⟩ : ∃ L : Nat, (b' : Int) - (a' : Int) = L := ⟨b' - a', by omega⟩
    by_cases h12 : (L : Int) ≤ 12
    · have e1 := w7v g cm H t E a' b' a1 (by omega) (by omega)
      rw [a4] at e1
      obtain ⟨i1, i2⟩ := Sort.insertionSort_holds hw E a' b' a1 (by omega)
      generalize Sort.insertionSort (ltC cm) E a' b' = R at *
      simp (maxSteps := 2000000) (disch := first | omega | (simp only [lenS]; try omega)) only [go_sem, reduceAdd, reduceEqDiff, reduceLeDiff, reduceSub, hL, h12, e1]
      exact ⟨R, rfl, a7 R i1 i2⟩
    by_cases hl0 : lim' = 0
    · have e1 := w7u g cm H t E a' b' a1 (by omega) (by omega)
      rw [a4] at e1
      obtain ⟨i1, i2⟩ := Sort.heapSort_holds hw E a' b' a1 (by omega)
      generalize Sort.heapSort (ltC cm) E a' b' = R at *
      subst hl0
      simp (maxSteps := 2000000) (disch := first | omega | (simp only [lenS]; try omega)) only [go_sem, reduceAdd, reduceEqDiff, reduceLeDiff, reduceSub, hL, h12, e1]
      exact ⟨R, rfl, a7 R i1 i2⟩
    refine z16 (W_seq (W.mono (Q := fun o => o = .next ⟨[.ref 0 1 0 d.size, I a', I b', I lim', .clo w46 [], .bool wb, .bool wp, I L, .any, .any, .any, .any, .any, .any, .any, .any, .any, .any, .any, .any, .any, .any, .any, .any], .row t false 1 (E.toList.map fun x => ints (g x)) :: []⟩) ?_ ?_))
    · simp (maxSteps := 2000000) (disch := first | omega | (simp only [lenS]; try omega)) only [go_sem, reduceAdd, reduceEqDiff, reduceLeDiff, reduceSub, hL]
    rintro _ rfl
    refine W_seq (W.mono (Q := fun o => o = .next ⟨[.ref 0 1 0 d.size, I a', I b', I lim', .clo w46 [], .bool wb, .bool wp, I L, .any, .any, .any, .any, .any, .any, .any, .any, .bool false, .any, .any, .any, .any, .any, .any, .any], .row t false 1 (E.toList.map fun x => ints (g x)) :: []⟩) ?_ ?_)
    · simp (maxSteps := 2000000) (disch := first | omega | (simp only [lenS]; try omega)) only [go_sem, reduceAdd, reduceEqDiff, reduceLeDiff, reduceSub, h12]
    rintro _ rfl
    refine W_seq (W.mono (Q := fun o => o = .next ⟨[.ref 0 1 0 d.size, I a', I b', I lim', .clo w46 [], .bool wb, .bool wp, I L, .any, .any, .any, .any, .any, .any, .any, .any, .bool false, .bool false, .any, .any, .any, .any, .any, .any], .row t false 1 (E.toList.map fun x => ints (g x)) :: []⟩) ?_ ?_)
    · simp (maxSteps := 2000000) (disch := first | omega | (simp only [lenS]; try omega)) only [go_sem, reduceAdd, reduceEqDiff, reduceLeDiff, reduceSub, hl0]
    rintro _ rfl
    refine W_seq (W.mono (Q := fun o => ∃ (E1 : Array α) (lim1 : Int), Sort.PermIn a' b' E E1 ∧ (0 ≤ lim1 ∧ lim1 < 2^40) ∧ o = .next ⟨[.ref 0 1 0 d.size, I a', I b', I lim1, .clo w46 [], .bool wb, .bool wp, I L, .any, .any, .any, .any, .any, .any, .any, .any, .bool false, .bool false, .bool !wb, .any, .any, .any, .any, .any], .row t false 1 (E1.toList.map fun x => ints (g x)) :: []⟩) ?_ ?_)
    · cases wb with
      | true =>
        simp (maxSteps := 2000000) (disch := first | omega | (simp only [lenS]; try omega)) only [go_sem, reduceAdd, reduceEqDiff, reduceLeDiff, reduceSub]
        exact ⟨E, lim', Sort.permIn_refl E a' b', a5, rfl⟩
      | false =>
        obtain ⟨_, e1, E1, rfl, p1⟩ := w7s g cm H t E a' b' (by omega) (by omega) (by omega)
        rw [a4] at e1
        simp (maxSteps := 2000000) (disch := first | omega | (simp only [lenS]; try omega)) only [go_sem, reduceAdd, reduceEqDiff, reduceLeDiff, reduceSub, e1]
        exact ⟨E1, lim' - 1, p1, by omega, rfl⟩
    rintro _ ⟨E1, lim1, p1, a5', rfl⟩
    have s1 := zxz p1
    obtain ⟨_, e1, x, h, rfl, x1, x2, x3, x4⟩ := w7t g cm H t E1 a' b' (by omega) (by omega) (by omega)
    rw [s1, a4] at e1
    refine W_seq (W.mono (Q := fun o => o = .next ⟨[.ref 0 1 0 d.size, I a', I b', I lim1, .clo w46 [], .bool wb, .bool wp, I L, I x, I h, .any, .any, .any, .any, .any, .any, .bool false, .bool false, .bool !wb, .any, .any, .any, .any, .any], .row t false 1 (E1.toList.map fun x => ints (g x)) :: []⟩) ?_ ?_)
    · simp (maxSteps := 2000000) (disch := first | omega | (simp only [lenS]; try omega)) only [go_sem, reduceAdd, reduceEqDiff, reduceLeDiff, reduceSub, e1]
    rintro _ rfl
    refine W_seq (W.mono (Q := fun o => ∃ (E2 : Array α) (pv : Nat) (h' : Int) (q : Bool), Sort.PermIn a' b' E E2 ∧ a' ≤ pv ∧ pv < b' ∧ o = .next ⟨[.ref 0 1 0 d.size, I a', I b', I lim1, .clo w46 [], .bool wb, .bool wp, I L, I pv, I h', .any, .any, .any, .any, .any, .any, .bool false, .bool false, .bool !wb, .bool q, .any, .any, .any, .any], .row t false 1 (E2.toList.map fun x => ints (g x)) :: []⟩) ?_ ?_)
    · by_cases h2 : h = 2
      · subst h2
        obtain ⟨_, e2, E2, rfl, p2⟩ := w84 g cm H t E1 a' b' (by omega) (by omega) (by omega)
        rw [s1, a4] at e2
        simp (maxSteps := 2000000) (disch := first | omega | (simp only [lenS]; try omega)) only [go_sem, reduceAdd, reduceEqDiff, reduceLeDiff, reduceSub, e2]
        exact ⟨E2, b' - 1 - (x - a'), 1, true, Sort.permIn_trans E E1 E2 a' b' p1 p2, by omega, by omega, by rw [show ((b' - 1 - (x - a') : Nat) : Int) = (b' : Int) - 1 - ((x : Int) - a') by omega]⟩
      · simp (maxSteps := 2000000) (disch := first | omega | (simp only [lenS]; try omega)) only [go_sem, reduceAdd, reduceEqDiff, reduceLeDiff, reduceSub, h2]
        exact ⟨E1, x, h, false, p1, x1, x2, rfl⟩
    rintro _ ⟨E2, pv, h', q, p2, v1, v2, rfl⟩
    have s2 := zxz p2
    have B2 := a6.permA Sort.permIn_all (by omega) p2
    refine W_seq (W.mono (Q := fun o => ∃ (E3 : Array α) (f : List PV), Sort.PermIn a' b' E E3 ∧ ((∃ z : PV, ∃ y : Bool, o = .next ⟨[.ref 0 1 0 d.size, I a', I b', I lim1, .clo w46 [], .bool wb, .bool wp, I L, I pv, I h', .any, .any, .any, .any, .any, .any, .bool false, .bool false, .bool !wb, .bool q, .bool y, z, .any, .any], .row t false 1 (E3.toList.map fun x => ints (g x)) :: []⟩) ∨ (Sort.SortedIn (ltC cm) a' b' E3 ∧ o = .ret ⟨f, .row t false 1 (E3.toList.map fun x => ints (g x)) :: []⟩))) ?_ ?_)
    · have e3 := w80 g cm H t E2 a' b' (by omega) (by omega) (by omega)
      rw [s2, a4] at e3
      obtain ⟨i1, i2⟩ := Sort.partialInsertionSort_holds hw E2 a' b' (by omega) (by omega) B2
      generalize Sort.partialInsertionSort (ltC cm) E2 a' b' = R at *
      obtain ⟨R, w⟩ := R
      have i3 := Sort.permIn_trans E E2 R a' b' p2 i1
      simp only at e3 i2
      cases wb with
      | false =>
        simp (maxSteps := 2000000) (disch := first | omega | (simp only [lenS]; try omega)) only [go_sem, reduceAdd, reduceEqDiff, reduceLeDiff, reduceSub]
        exact ⟨E2, [], p2, .inl ⟨_, _, rfl⟩⟩
      | true => cases wp with
        | false =>
          simp (maxSteps := 2000000) (disch := first | omega | (simp only [lenS]; try omega)) only [go_sem, reduceAdd, reduceEqDiff, reduceLeDiff, reduceSub]
          exact ⟨E2, [], p2, .inl ⟨_, _, rfl⟩⟩
        | true =>
          by_cases h1 : h' = 1
          · subst h1
            cases w with
            | true =>
              simp (maxSteps := 2000000) (disch := first | omega | (simp only [lenS]; try omega)) only [go_sem, reduceAdd, reduceEqDiff, reduceLeDiff, reduceSub, e3]
              exact ⟨R, _, i3, .inr ⟨i2 rfl, rfl⟩⟩
            | false =>
              simp (maxSteps := 2000000) (disch := first | omega | (simp only [lenS]; try omega)) only [go_sem, reduceAdd, reduceEqDiff, reduceLeDiff, reduceSub, e3]
              exact ⟨R, [], i3, .inl ⟨_, _, rfl⟩⟩
          · simp (maxSteps := 2000000) (disch := first | omega | (simp only [lenS]; try omega)) only [go_sem, reduceAdd, reduceEqDiff, reduceLeDiff, reduceSub, h1]
            exact ⟨E2, [], p2, .inl ⟨_, _, rfl⟩⟩
    rintro _ ⟨E3, f, p3, ⟨z, y, rfl⟩ | ⟨sr, rfl⟩⟩
    · clear e1 p1 p2 s1 s2 B2
      have s3 := zxz p3
      have B3 := a6.permA Sort.permIn_all (by omega) p3
      have e7 : E3.toList.length = d.size := by simp [s3, a4]
      show W _ _ _ _ _
      refine W_seq (W.mono (Q := fun o => (o = .next ⟨[.ref 0 1 0 d.size, I a', I b', I lim1, .clo w46 [], .bool wb, .bool wp, I L, I pv, I h', .any, .any, .any, .any, .any, .any, .bool false, .bool false, .bool !wb, .bool q, .bool y, z, .bool false, .any], .row t false 1 (E3.toList.map fun x => ints (g x)) :: []⟩) ∨ (∃ (mid : Nat) (d4 : Array α), (a' < mid ∧ mid ≤ b' ∧ d4.size = E3.size ∧ Sort.Below (ltC cm) mid b' d4 ∧ ∀ R, Sort.PermIn mid b' d4 R → Sort.SortedIn (ltC cm) mid b' R → Sort.PermIn a' b' E3 R ∧ Sort.SortedIn (ltC cm) a' b' R) ∧ o = .exit 1 ⟨[.ref 0 1 0 d.size, I mid, I b', I lim1, .clo w46 [], .bool wb, .bool wp, I L, I pv, I h', I mid, .any, .any, .any, .any, .any, .bool false, .bool false, .bool !wb, .bool q, .bool y, z, .bool true, .any], .row t false 1 (d4.toList.map fun x => ints (g x)) :: []⟩)) ?_ ?_)
      · by_cases h0 : (0 : Int) < a'
        · obtain ⟨am, ham⟩ : ∃ am : Nat, (a' : Int) - 1 = am := ⟨a' - 1, by omega⟩
          have w1 := z149 E3 (i := am) (by omega)
          have w2 := z149 E3 (i := pv) (by omega)
          by_cases hlt : cm E3[am]! E3[pv]! < 0
          · generalize E3[am]! = x1 at *
            generalize E3[pv]! = x2 at *
            simp (maxSteps := 2000000) (disch := first | omega | (simp only [lenS]; try omega)) only [go_sem, reduceAdd, reduceEqDiff, reduceLeDiff, reduceSub, H, w1, w2, e7, ham, h0, hlt]
            first | exact .inl trivial | exact .inl rfl
          · have e4 := w82 g cm H t E3 a' b' pv (by omega) (by omega) (by omega) (by omega)
            have hr := fun mid d4 hx => Sort.round_eq hw (Sort.partitionEqual_holds (ltC cm)) (d3 := E3) (d4 := d4) (a := a') (b := b') (pivot := pv) (mid := mid) (by omega) v1 v2 (by omega) B3 (by rw [show a' - 1 = am by omega]; simp [hlt]) hx
            generalize Sort.partitionEqual (ltC cm) E3 a' b' pv = Z at *
            obtain ⟨mid, d4⟩ := Z
            have hr := hr mid d4 rfl
            simp only [s3, a4] at e4
            generalize E3[am]! = x1 at *
            generalize E3[pv]! = x2 at *
            simp (maxSteps := 2000000) (disch := first | omega | (simp only [lenS]; try omega)) only [go_sem, reduceAdd, reduceEqDiff, reduceLeDiff, reduceSub, H, w1, w2, e7, ham, h0, hlt, e4]
            exact .inr ⟨mid, d4, hr, rfl⟩
        · simp (maxSteps := 2000000) (disch := first | omega | (simp only [lenS]; try omega)) only [go_sem, reduceAdd, reduceEqDiff, reduceLeDiff, reduceSub, h0]
          first | exact .inl trivial | exact .inl rfl
      rintro _ (rfl | ⟨mid, d4, ⟨r1, r2, r3, r4, r5⟩, rfl⟩)
      · have e4 := w81 g cm H t E3 a' b' pv (by omega) (by omega) (by omega) (by omega)
        have hr := fun mid ap d4 hx => Sort.round_part hw (Sort.partition_holds (ltC cm)) (d3 := E3) (d4 := d4) (a := a') (b := b') (pivot := pv) (mid := mid) (ap := ap) v1 v2 (by omega) B3 hx
        generalize Sort.partition (ltC cm) E3 a' b' pv = Z at *
        obtain ⟨mid, ap, d4⟩ := Z
        obtain ⟨r1, r2, r3, r4, r5, r6, r7⟩ := hr mid ap d4 rfl
        simp only [s3, a4] at e4
        have r3' : d4.size = d.size := by omega
        obtain ⟨ll, hll⟩ : ∃ l : Nat, (mid : Int) - (a' : Int) = l := ⟨mid - a', by omega⟩
        obtain ⟨rl, hrl⟩ : ∃ l : Nat, (b' : Int) - (mid : Int) = l := ⟨b' - mid, by omega⟩
        obtain ⟨bt, hbt⟩ : ∃ l : Nat, (L : Int).tdiv 8 = l := ⟨L / 8, (Int.ofNat_tdiv L 8).symm⟩
        obtain ⟨mp, hmp⟩ : ∃ l : Nat, (mid : Int) + 1 = l := ⟨mid + 1, by omega⟩
        obtain rfl : mp = mid + 1 := by omega
        clear e7
        show W _ _ _ _ _
        by_cases hlr : (ll : Int) < rl
        · obtain ⟨_, e5, F5, rfl, q1, q2⟩ := IH (mid - a') (by omega) d4 a' mid lim1 (Nat.le_refl _) r1 (by omega) (by omega) (by omega) r4
          obtain ⟨q3, q4⟩ := r6 F5 q1 q2
          have q5 := zxz q1
          rw [r3'] at e5
          simp (maxSteps := 2000000) (disch := first | omega | (simp only [lenS]; try omega)) only [go_sem, reduceAdd, reduceEqDiff, reduceLeDiff, reduceSub, e4, hll, hrl, hbt, hlr, e5, hmp]
          refine ⟨fun _ => ⟨fun _ => ?_, fun _ => ?_⟩, fun _ => ⟨fun _ => ?_, fun _ => ?_⟩⟩
          all_goals exact ⟨b' - (mid + 1), by omega, mid + 1, b', lim1, F5, _, _, rfl, by omega, by omega, by omega, by omega, a5', q3, fun R h1 h2 => a7 R (Sort.permIn_trans E E3 R a' b' p3 (q4 R h1 h2).1) (q4 R h1 h2).2, rfl⟩
        · obtain ⟨_, e5, F5, rfl, q1, q2⟩ := IH (b' - (mid + 1)) (by omega) d4 (mid + 1) b' lim1 (Nat.le_refl _) (by omega) (by omega) (by omega) (by omega) r5
          obtain ⟨q3, q4⟩ := r7 F5 q1 q2
          have q5 := zxz q1
          rw [r3'] at e5
          simp (maxSteps := 2000000) (disch := first | omega | (simp only [lenS]; try omega)) only [go_sem, reduceAdd, reduceEqDiff, reduceLeDiff, reduceSub, e4, hll, hrl, hbt, hlr, e5, hmp]
          refine ⟨fun _ => ⟨fun _ => ?_, fun _ => ?_⟩, fun _ => ⟨fun _ => ?_, fun _ => ?_⟩⟩
          all_goals exact ⟨mid - a', by omega, a', mid, lim1, F5, _, _, rfl, by omega, by omega, by omega, by omega, a5', q3, fun R h1 h2 => a7 R (Sort.permIn_trans E E3 R a' b' p3 (q4 R h1 h2).1) (q4 R h1 h2).2, rfl⟩
      · simp (maxSteps := 2000000) (disch := first | omega | (simp only [lenS]; try omega)) only [go_sem, reduceAdd, reduceEqDiff, reduceLeDiff, reduceSub]
        exact ⟨b' - mid, by omega, mid, b', lim1, d4, wb, wp, rfl, by omega, by omega, by omega, by omega, a5', r4, fun R h1 h2 => a7 R (Sort.permIn_trans E E3 R a' b' p3 (r5 R h1 h2).1) (r5 R h1 h2).2, rfl⟩
    · simp (maxSteps := 2000000) (disch := first | omega | (simp only [lenS]; try omega)) only [go_sem, reduceAdd, reduceEqDiff, reduceLeDiff, reduceSub]
      exact ⟨E3, rfl, a7 E3 p3 sr⟩
theorem w3g (x : Int) : C w3l [I x] [] = some (.bool false, []) := by
  refine w01 ?_
  simp (maxSteps := 2000000) (disch := first | omega | (simp only [lenS]; try omega)) only [w5n, go_sem, reduceAdd, reduceEqDiff, reduceLeDiff, reduceSub]
theorem w3f (x y : Int) : C w3k [I x, I y] [] = some (I (cmpI x y), []) := by
  refine w00 ?_
  simp (maxSteps := 2000000) (disch := first | omega | (simp only [lenS]; try omega)) only [w5m, go_sem, reduceAdd, reduceEqDiff, reduceLeDiff, reduceSub]
  simp (maxSteps := 2000000) (disch := first | omega | (simp only [lenS]; try omega)) only [go_sem, reduceAdd, reduceEqDiff, reduceLeDiff, reduceSub, w3g]
  unfold cmpI
  refine ⟨fun h => by rw [if_pos h], fun h => ⟨fun h2 => by rw [if_neg (by omega), if_pos h2], fun h2 => by rw [if_neg (by omega), if_neg (by omega)]⟩⟩
theorem w7n (a b : List Int) (ha : a.length < 2^60) (hb : b.length < 2^60) : C w46 [ints a, ints b] [] = some (I (cmpL a b), []) := by
  refine w0i ?_
  simp (maxSteps := 2000000) (disch := first | omega | (simp only [lenS]; try omega)) only [w66, go_sem, reduceAdd, reduceEqDiff, reduceLeDiff, reduceSub]
  refine W_for a.length (fun k s => s = ⟨[ints a, ints b, .any, .any, .any, .any, .any, ints a, I a.length, I k, .any, .any, .any, .any], []⟩ ∧ k ≤ b.length ∧ a.take k = b.take k) ?_ ?_ ?_
  · simp (maxSteps := 2000000) (disch := first | omega | (simp only [lenS]; try omega)) only [go_sem, reduceAdd, reduceEqDiff, reduceLeDiff, reduceSub]
    simp
  · rintro k s hk ⟨rfl, h1, h2⟩
    have e1 : a[k]? = some a[k] := List.getElem?_eq_getElem hk
    by_cases hkb : (b.length : Int) ≤ k
    · have := z9r h2 hk (by omega)
      simp (maxSteps := 2000000) (disch := first | omega | (simp only [lenS]; try omega)) only [go_sem, reduceAdd, reduceEqDiff, reduceLeDiff, reduceSub, e1, hkb]
      rw [this]
    · have hkb2 : k < b.length := by omega
      have e2 : b[k]? = some b[k] := List.getElem?_eq_getElem hkb2
      have e3 := z9n h2 hk hkb2
      have e4 : cmpI a[k] b[k] = 0 → a.take (k + 1) = b.take (k + 1) := fun h => by rw [z1a8 hk, z1a8 hkb2, h2, z9m h]
      generalize a[k] = x at *
      generalize b[k] = y at *
      simp (maxSteps := 2000000) (disch := first | omega | (simp only [lenS]; try omega)) only [go_sem, reduceAdd, reduceEqDiff, reduceLeDiff, reduceSub, e1, e2, w3f, hkb]
      exact ⟨fun h => by rw [e3 h], fun h => ⟨rfl, by omega, e4 h⟩⟩
  · rintro s ⟨rfl, h1, h2⟩
    have := z9p h2 h1
    simp (maxSteps := 2000000) (disch := first | omega | (simp only [lenS]; try omega)) only [go_sem, reduceAdd, reduceEqDiff, reduceLeDiff, reduceSub]
    rw [this]
    exact ⟨fun h => by rw [if_pos (by omega)], fun h => by rw [if_neg (by omega)]⟩
theorem w7r (l : List (List Int)) (t : TypeId) (hx : ∀ x ∈ l, x.length < 2^40) (hs : l.length < 65536) :
    Lw (C w4a [.ref 0 1 0 l.length, .clo w46 []] [.row t false 1 (l.map ints)]) fun r => ∃ R : List (List Int), r = (.tup [], [.row t false 1 (R.map ints)]) ∧ R.Perm l ∧ R.Pairwise leL := by
  have : Inhabited {x : List Int // x.length < 2^40} := ⟨⟨[], by simp⟩⟩
  obtain ⟨d, hd⟩ : ∃ d : Array {x : List Int // x.length < 2^40}, d.toList.map (·.1) = l := ⟨(l.pmap (fun x h => ⟨x, h⟩) hx).toArray, by simp [List.map_pmap]⟩
  have hl : d.size = l.length := by rw [← hd]; simp
  have H : ∀ x y : {x : List Int // x.length < 2^40}, C w46 [ints x.1, ints y.1] [] = some (I (cmpL x.1 y.1), []) := fun x y => w7n x.1 y.1 (by have := x.2; omega) (by have := y.2; omega)
  obtain ⟨_, e1, E, rfl, p1, p2⟩ := w83 (fun x : {x : List Int // x.length < 2^40} => x.1) (fun x y => cmpL x.1 y.1) H (z19q fun _ _ => rfl) t d.size d 0 d.size (Sort.bitsLen d.size) (by omega) (by omega) (by omega) (by omega) ⟨by omega, by have := (Sort.bitsLen_le_iff d.size 16).2 (by omega); omega⟩ (.inl rfl)
  have e2 := w7i d.size (by omega)
  have e3 : IntKind.u64.wrap (d.size : Int) = d.size := by rw [IntKind.wrap_u64]; omega
  have hm : l.map ints = d.toList.map (fun x => ints x.1) := by rw [← hd, List.map_map]; rfl
  rw [hm, ← hl]
  rw [show ((0 : Nat) : Int) = 0 from rfl] at e1
  generalize Sort.bitsLen d.size = z at *
  refine w14 ?_
  simp (maxSteps := 2000000) (disch := first | omega | (simp only [lenS]; try omega)) only [w6a, go_sem, reduceAdd, reduceEqDiff, reduceLeDiff, reduceSub]
  simp (maxSteps := 2000000) (disch := first | omega | (simp only [lenS]; try omega)) only [go_sem, reduceAdd, reduceEqDiff, reduceLeDiff, reduceSub, e2, e3, e1]
  refine ⟨E.toList.map (·.1), by rw [List.map_map]; rfl, ?_, ?_⟩
  · rw [← hd]; exact (zy0 p1).map _
  · rw [List.pairwise_map]
    have p3 := zxz p1
    rw [← p3] at p2
    refine (zxm p2).imp fun {x y} h => ?_
    exact zn1 (by simpa [ltC] using h)
theorem w7p (a b : List Int) (hl : a.length < 2^62) : C w48 [ints a, ints b] [] = some (.bool (decide (a = b)), []) := by
  refine w0k ?_
  simp (maxSteps := 2000000) (disch := first | omega | (simp only [lenS]; try omega)) only [w68, go_sem, reduceAdd, reduceEqDiff, reduceLeDiff, reduceSub]
  refine ⟨fun h => ?_, fun h => ?_⟩
  · have : a ≠ b := fun e => h (by rw [e])
    simp [this]
  refine W_for a.length (fun k s => s = ⟨[ints a, ints b, .any, .any, .any, I a.length, I k, .any, .any], []⟩ ∧ a.take k = b.take k) ?_ ?_ ?_
  · simp (maxSteps := 2000000) (disch := first | omega | (simp only [lenS]; try omega)) only [go_sem, reduceAdd, reduceEqDiff, reduceLeDiff, reduceSub]
    rfl
  · rintro k s hk ⟨rfl, hall⟩
    simp (maxSteps := 2000000) (disch := first | omega | (simp only [lenS]; try omega)) only [go_sem, reduceAdd, reduceEqDiff, reduceLeDiff, reduceSub]
    refine ⟨fun h => ?_, fun h => ⟨rfl, ?_⟩⟩
    · have : a ≠ b := fun e => h (by simp [e])
      simp [this]
    · rw [z1a8 hk, z1a8 (show k < b.length by omega), hall, h]
  · rintro s ⟨rfl, hall⟩
    simp (maxSteps := 2000000) (disch := first | omega | (simp only [lenS]; try omega)) only [go_sem, reduceAdd, reduceEqDiff, reduceLeDiff, reduceSub]
    rw [List.take_length, List.take_of_length_le (by omega)] at hall
    simp [hall]
theorem w7m (l : List (List Int)) (t : TypeId) (hx : ∀ x ∈ l, x.length < 2^40) (hs : l.length < 2^30) :
    Lw (C w45 [.ref 0 1 0 l.length, .clo w48 []] [.row t false 1 (l.map ints)]) fun r => ∃ Z : List PV, r = (.ref 0 1 0 (compL l).length, [.row t false 1 ((compL l).map ints ++ Z)]) ∧ (compL l).length + Z.length = l.length := by
  have hE : ∀ x ∈ l, ∀ y, C w48 [ints x, ints y] [] = some (.bool (decide (x = y)), []) := fun x h y => w7p x y (by have := hx x h; omega)
  by_cases h2 : l.length < 2
  · have h3 : compL l = l := by
      rcases Nat.eq_zero_or_pos l.length with h | h
      · rw [List.length_eq_zero_iff.1 h]; rfl
      · have := z79 l
        rw [show l.length = 1 by omega, z7c h] at this
        rw [← this, List.take_of_length_le (by omega)]
    refine w13 ?_
    simp (maxSteps := 2000000) (disch := first | omega | (simp only [lenS]; try omega)) only [w65, go_sem, reduceAdd, reduceEqDiff, reduceLeDiff, reduceSub]
    rw [h3]
    exact ⟨[], by simp, by simp⟩
  · refine w13 ?_
    simp (maxSteps := 2000000) (disch := first | omega | (simp only [lenS]; try omega)) only [w65, go_sem, reduceAdd, reduceEqDiff, reduceLeDiff, reduceSub]
    refine z1a (fun q s => ∃ i : Nat, 0 < i ∧ i ≤ l.length ∧ q = l.length - i ∧ cK l i = l.take i ∧ s = ⟨[.ref 0 1 0 l.length, .clo w48 [], .any, I i, .any, .any, .any, .any, .any, .any, .any], [.row t false 1 (l.map ints)]⟩) (l.length - 1) ?_ ?_
    · simp (maxSteps := 2000000) (disch := first | omega | (simp only [lenS]; try omega)) only [go_sem, reduceAdd, reduceEqDiff, reduceLeDiff, reduceSub]
      exact ⟨1, by omega, by omega, rfl, z7c (by omega), rfl⟩
    · rintro q s ⟨i, i1, i2, rfl, i3, rfl⟩
      by_cases hi : (i : Int) < l.length
      · obtain ⟨i', hi'⟩ : ∃ i' : Nat, (i : Int) - 1 = i' := ⟨i - 1, by omega⟩
        have hil : i < l.length := by omega
        have k1 := z7d (l := l) i1 hil
        have k2 := z7a (l := l) i1 hil
        have e1 : l[i]? = some l[i] := List.getElem?_eq_getElem hil
        have hi1 : i' = i - 1 := by omega
        have e2 : l[i']? = some (l[i - 1]'(by omega)) := by simp only [hi1]; exact List.getElem?_eq_getElem _
        have e3 := hE l[i] (List.getElem_mem _) (l[i - 1]'(by omega))
        have e4 : l.take (i + 1) = l.take i ++ [l[i]] := List.take_succ_eq_append_getElem hil
        generalize l[i] = x at *
        generalize l[i - 1]'(by omega) = y at *
        by_cases hxy : x = y
        · simp only [hxy, decide_true] at e3
          subst hxy
          simp (maxSteps := 2000000) (disch := first | omega | (simp only [lenS]; try omega)) only [go_sem, reduceAdd, reduceEqDiff, reduceLeDiff, reduceSub, e1, e2, hi', hi, e3]
          have k3 := k1 rfl
          clear e1 e2 e3 e4 k2 k1
          refine z1a (fun q s => ∃ (k w : Nat) (M : List (List Int)), 1 ≤ k ∧ i + k ≤ l.length ∧ q = l.length - i - k ∧ M.length = l.length ∧ w + 1 ≤ i + k ∧ M.take w = cK l (i + k) ∧ (∀ j, i + k ≤ j + 1 → M[j]? = l[j]?) ∧ s = ⟨[.ref 0 1 0 l.length, .clo w48 [], .any, I w, .ref 0 1 i (l.length - i), I k, .any, .any, .any, .any, .any], [.row t false 1 (M.map ints)]⟩) (l.length - i - 1) ?_ ?_
          · simp (maxSteps := 2000000) (disch := first | omega | (simp only [lenS]; try omega)) only [go_sem, reduceAdd, reduceEqDiff, reduceLeDiff, reduceSub]
            exact ⟨1, i, l, by omega, by omega, rfl, rfl, by omega, by rw [k3, i3], fun _ _ => rfl, rfl⟩
          · rintro q s ⟨k, w, M, m1, m2, rfl, m3, m4, m5, m6, rfl⟩
            obtain ⟨L, hL⟩ : ∃ L : Nat, l.length - i = L := ⟨_, rfl⟩
            rw [hL]
            by_cases hk : (k : Int) < L
            · obtain ⟨k', hk'⟩ : ∃ k' : Nat, (k : Int) - 1 = k' := ⟨k - 1, by omega⟩
              have c1 := z7d (l := l) (k := i + k) (by omega) (by omega)
              have c2 := z7a (l := l) (k := i + k) (by omega) (by omega)
              have e1 : M[i + k]? = some (l[i + k]'(by omega)) := by rw [m6 _ (by omega)]; exact List.getElem?_eq_getElem _
              have e2 : M[i + k']? = some (l[i + k - 1]'(by omega)) := by
                have : i + k' = i + k - 1 := by omega
                rw [m6 _ (by omega)]; simp only [this]; exact List.getElem?_eq_getElem _
              have e3 := hE (l[i + k]'(by omega)) (List.getElem_mem _) (l[i + k - 1]'(by omega))
              have hw : w < M.length := by omega
              have e5 := z15a (x := l[i + k]'(by omega)) hw
              generalize l[i + k]'(by omega) = x at *
              generalize l[i + k - 1]'(by omega) = y at *
              by_cases hxy : x = y
              · simp only [hxy, decide_true] at e3
                subst hxy
                simp (maxSteps := 2000000) (disch := first | omega | (simp only [lenS]; try omega)) only [go_sem, reduceAdd, reduceEqDiff, reduceLeDiff, reduceSub, e1, e2, hk', hk, e3]
                exact ⟨L - (k + 1), by omega, k + 1, w, M, by omega, by omega, rfl, m3, by omega, by rw [← Nat.add_assoc, c1 rfl, m5], fun j hj => m6 j (by omega), rfl⟩
              · simp only [hxy, decide_false] at e3
                simp (maxSteps := 2000000) (disch := first | omega | (simp only [lenS]; try omega)) only [go_sem, reduceAdd, reduceEqDiff, reduceLeDiff, reduceSub, e1, e2, hk', hk, e3, m3]
                refine ⟨L - (k + 1), by omega, k + 1, w + 1, M.set w x, by omega, by omega, rfl, by simpa using m3, by omega, by rw [← Nat.add_assoc, c2 hxy, e5, m5], fun j hj => ?_, by rw [List.map_set]; rfl⟩
                rw [List.getElem?_set_ne (by omega)]
                exact m6 j (by omega)
            · have hw1 : w + (l.length - w) ≤ l.length := by omega
              have hok : okE false 1 (PV.nil true 1) = true := rfl
              have hc : compL l = M.take w := by rw [m5, show i + k = l.length by omega, z79]
              have hd : List.drop (w + (List.replicate (l.length - w) (PV.nil true 1)).length) (M.map ints) = [] := List.drop_eq_nil_of_le (by simp; omega)
              have hcl : (compL l).length = w := by rw [hc]; simp; omega
              have hrl : (List.take w (M.map ints) ++ List.replicate (l.length - w) (PV.nil true 1)).length = l.length := by simp; omega
              simp (maxSteps := 2000000) (disch := first | omega | (simp only [lenS]; try omega)) only [go_sem, reduceAdd, reduceEqDiff, reduceLeDiff, reduceSub, hk, m3, hw1, hok, hd, List.append_nil, hrl]
              rw [hcl, hc]
              exact ⟨List.replicate (l.length - w) (.nil true 1), by rw [List.map_take]; rfl, by simp; omega⟩
        · simp only [hxy, decide_false] at e3
          simp (maxSteps := 2000000) (disch := first | omega | (simp only [lenS]; try omega)) only [go_sem, reduceAdd, reduceEqDiff, reduceLeDiff, reduceSub, e1, e2, hi', hi, e3]
          exact ⟨l.length - (i + 1), by omega, i + 1, by omega, by omega, rfl, by rw [k2 hxy, i3, e4], rfl⟩
      · have h3 : compL l = l := by
          rw [← z79 l, show l.length = i by omega, i3, List.take_of_length_le (by omega)]
        simp (maxSteps := 2000000) (disch := first | omega | (simp only [lenS]; try omega)) only [go_sem, reduceAdd, reduceEqDiff, reduceLeDiff, reduceSub, hi]
        rw [h3]
        exact ⟨[], by simp, by simp⟩
theorem w5j (a b : List Int) (hl : a.length = b.length) (hb : b.length < 2^62) : C w3t [ints a, ints b] [] = some (.bool (zaq a b), []) := by
  refine w09 ?_
  simp (maxSteps := 2000000) (disch := first | omega | (simp only [lenS]; try omega)) only [w5v, go_sem, reduceAdd, reduceEqDiff, reduceLeDiff, reduceSub]
  refine W_for a.length (fun k s => s = ⟨[.any, ints b, .any, .any, .any, ints a, I a.length, I k, .any, .any], []⟩ ∧ ((a.zip b).take k).all (fun p => decide (p.2 ≤ p.1)) = true) ?_ ?_ ?_
  · simp (maxSteps := 2000000) (disch := first | omega | (simp only [lenS]; try omega)) only [go_sem, reduceAdd, reduceEqDiff, reduceLeDiff, reduceSub]
    rfl
  · rintro k s hk ⟨rfl, hall⟩
    simp (maxSteps := 2000000) (disch := first | omega | (simp only [lenS]; try omega)) only [go_sem, reduceAdd, reduceEqDiff, reduceLeDiff, reduceSub]
    have hz : k < (a.zip b).length := by simp; omega
    refine ⟨fun h => ?_, fun h => ⟨rfl, z2s hz hall (by simp; omega)⟩⟩
    have : zaq a b = false := z2r hz (by simp; omega)
    rw [this]
  · rintro s ⟨rfl, hall⟩
    simp (maxSteps := 2000000) (disch := first | omega | (simp only [lenS]; try omega)) only [go_sem, reduceAdd, reduceEqDiff, reduceLeDiff, reduceSub]
    rw [List.take_of_length_le (by simp; omega)] at hall
    unfold zaq
    rw [hall]
theorem w5k (l : List (List Int)) (n : Nat) (hn : n < 2^30) (hx : ∀ x ∈ l, x.length = n) (hs : l.length < 65536) : C w3u [rows l] [] = some (.un w8t false 1 ((zn8 l).map ints), []) := by
  obtain ⟨_, e1, R, rfl, r1, r2⟩ := w7r l w8t (fun x h => by have := hx x h; omega) hs
  have hRl : R.length = l.length := r1.length_eq
  obtain ⟨_, e2, Z, rfl, r3⟩ := w7m R w8t (fun x h => by have := hx x (r1.mem_iff.1 h); omega) (by omega)
  have hq := zn9 r1 r2
  have hp := zak R r2
  have hK : ∀ x ∈ compL R, x.length = n := fun x h => hx x (r1.mem_iff.1 ((zai R x).1 h))
  rw [hRl] at e2 r3
  generalize compL R = K at *
  generalize zn8 l = T at *
  subst hq
  obtain ⟨P, hP⟩ : ∃ P : List Int → Bool, (fun m => K.all fun x => !zaq m x || decide (m = x)) = P := ⟨_, rfl⟩
  rw [hP]
  have hne : ∀ i j, (hi : i < K.length) → (hj : j < K.length) → (K[i] = K[j] ↔ i = j) := fun i j hi hj => by
    constructor
    · intro h
      rcases Nat.lt_trichotomy i j with h1 | h1 | h1
      · have := List.pairwise_iff_getElem.1 hp i j hi hj h1
        rw [h] at this; exact absurd this zp5
      · exact h1
      · have := List.pairwise_iff_getElem.1 hp j i hj hi h1
        rw [h] at this; exact absurd this zp5
    · rintro rfl; rfl
  have hKl : K.length ≤ l.length := by omega
  refine w0a ?_
  simp (maxSteps := 2000000) (disch := first | omega | (simp only [lenS]; try omega)) only [w5w, go_sem, reduceAdd, reduceEqDiff, reduceLeDiff, reduceSub]
  simp (maxSteps := 2000000) (disch := first | omega | (simp only [lenS]; try omega)) only [go_sem, reduceAdd, reduceEqDiff, reduceLeDiff, reduceSub, w7l, e1, e2]
  refine W_for K.length (fun i s => s = ⟨[.any, .any, .ref 0 1 0 K.length, .ref 1 1 0 ((K.take i).filter P).length, .any, .any, .any, .any, .any, .ref 0 1 0 K.length, I K.length, I i, .any, .any, .any, .any, .any, .any], [.row w8t false 1 (K.map ints ++ Z), .row w8t false 1 (((K.take i).filter P).map ints)]⟩) ?_ ?_ ?_
  · simp (maxSteps := 2000000) (disch := first | omega | (simp only [lenS]; try omega)) only [go_sem, reduceAdd, reduceEqDiff, reduceLeDiff, reduceSub]
    simp
  · rintro i s hi rfl
    have hxi := hK _ (List.getElem_mem hi)
    have e3 : (K.map ints ++ Z)[i]? = some (ints K[i]) := by rw [List.getElem?_append_left (by simpa using hi)]; simp [hi]
    have e4 : (K.take (i + 1)).filter P = (K.take i).filter P ++ (if P K[i] then [K[i]] else []) := by
      rw [List.take_succ_eq_append_getElem hi, List.filter_append]
      congr 1
      rw [List.filter_cons]; simp
    have e5 : P K[i] = K.all fun x => !zaq K[i] x || decide (K[i] = x) := by rw [← hP]
    have hfl : ((K.take i).filter P).length ≤ i := Nat.le_trans (List.length_filter_le _ _) (by simp; omega)
    have hne' := fun j hj => hne i j hi hj
    rw [e4]
    generalize (K.take i).filter P = A at *
    generalize K[i] = x at *
    simp (maxSteps := 2000000) (disch := first | omega | (simp only [lenS]; try omega)) only [go_sem, reduceAdd, reduceEqDiff, reduceLeDiff, reduceSub, e3]
    refine W_for K.length (fun k s => s = ⟨[.any, .any, .ref 0 1 0 K.length, .ref 1 1 0 A.length, I i, ints x, .bool ((K.take k).all fun y => !zaq x y || decide (x = y)), .any, .any, .ref 0 1 0 K.length, I K.length, I i, .any, .ref 0 1 0 K.length, I K.length, I k, .any, .any], [.row w8t false 1 (K.map ints ++ Z), .row w8t false 1 (A.map ints)]⟩) ?_ ?_ ?_
    · simp (maxSteps := 2000000) (disch := first | omega | (simp only [lenS]; try omega)) only [go_sem, reduceAdd, reduceEqDiff, reduceLeDiff, reduceSub]
      simp
    · rintro k s hk rfl
      have f1 := hK _ (List.getElem_mem hk)
      have f3 : (K.map ints ++ Z)[k]? = some (ints K[k]) := by rw [List.getElem?_append_left (by simpa using hk)]; simp [hk]
      have f4 := hne' k hk
      have f5 : ((K.take (k + 1)).all fun y => !zaq x y || decide (x = y)) = (((K.take k).all fun y => !zaq x y || decide (x = y)) && (!zaq x K[k] || decide (x = K[k]))) := by
        rw [List.take_succ_eq_append_getElem hk, List.all_append]; simp
      have f6 := w5j x K[k] (by omega) (by omega)
      rw [f5]
      generalize ((K.take k).all fun y => !zaq x y || decide (x = y)) = B at *
      generalize K[k] = y at *
      generalize zaq x y = c at *
      rw [show decide (x = y) = decide (i = k) by simp [f4]]
      by_cases hik : (i : Int) = k
      · have : i = k := by omega
        subst this
        cases B <;> cases c <;> simp (maxSteps := 2000000) (disch := first | omega | (simp only [lenS]; try omega)) only [go_sem, reduceAdd, reduceEqDiff, reduceLeDiff, reduceSub, f3, f6]
        all_goals simp
      · have hik2 : ¬ i = k := by omega
        cases B <;> cases c <;> simp (maxSteps := 2000000) (disch := first | omega | (simp only [lenS]; try omega)) only [go_sem, reduceAdd, reduceEqDiff, reduceLeDiff, reduceSub, f3, f6, hik]
        all_goals simp [hik2]
    · rintro s rfl
      rw [List.take_length, ← e5]
      cases P x with
      | true =>
        simp (maxSteps := 2000000) (disch := first | omega | (simp only [lenS]; try omega)) only [go_sem, reduceAdd, reduceEqDiff, reduceLeDiff, reduceSub, w7k]
        simp
      | false =>
        simp (maxSteps := 2000000) (disch := first | omega | (simp only [lenS]; try omega)) only [go_sem, reduceAdd, reduceEqDiff, reduceLeDiff, reduceSub]
        simp
  · rintro s rfl
    simp (maxSteps := 2000000) (disch := first | omega | (simp only [lenS]; try omega)) only [go_sem, reduceAdd, reduceEqDiff, reduceLeDiff, reduceSub]
    first | done | simp
def w7j (p : Int) (l : List (List Int)) : Bool := inB 1 16 p && decide (l.length ≤ 400) && l.all (goodM p)
theorem w5f (p : Int) (l : List (List Int)) (hs : l.length < 65536) (hx : ∀ x ∈ l, x.length < 2^40) : C w3p [I p, rows l] [] = some (.tup [if w7j p l then .un w8t false 1 ((zn8 l).map ints) else .un w8t false 1 [], .bool (w7j p l)], []) := by
  have h1 := w5i p l (by omega) (fun m h => by have := hx m h; omega)
  have h2 := w5l p 1 16
  unfold w7j
  cases hp : inB 1 16 p with
  | false =>
    rw [hp] at h2
    refine w05 ?_
    simp (maxSteps := 2000000) (disch := first | omega | (simp only [lenS]; try omega)) only [w5r, go_sem, reduceAdd, reduceEqDiff, reduceLeDiff, reduceSub]
    simp (maxSteps := 2000000) (disch := first | omega | (simp only [lenS]; try omega)) only [go_sem, reduceAdd, reduceEqDiff, reduceLeDiff, reduceSub, h2]
    done
  | true =>
    rw [hp] at h2
    by_cases h4 : l.length ≤ 400
    · cases hg : l.all (goodM p) with
      | false =>
        rw [hg] at h1
        refine w05 ?_
        simp (maxSteps := 2000000) (disch := first | omega | (simp only [lenS]; try omega)) only [w5r, go_sem, reduceAdd, reduceEqDiff, reduceLeDiff, reduceSub]
        simp (maxSteps := 2000000) (disch := first | omega | (simp only [lenS]; try omega)) only [go_sem, reduceAdd, reduceEqDiff, reduceLeDiff, reduceSub, h1, h2, h4]
        done
      | true =>
        rw [hg] at h1
        have h3 := w5k l p.toNat (by simp [inB] at hp; omega) (fun x h => by have := zh2 (List.all_eq_true.1 hg x h); omega) hs
        refine w05 ?_
        simp (maxSteps := 2000000) (disch := first | omega | (simp only [lenS]; try omega)) only [w5r, go_sem, reduceAdd, reduceEqDiff, reduceLeDiff, reduceSub]
        simp (maxSteps := 2000000) (disch := first | omega | (simp only [lenS]; try omega)) only [go_sem, reduceAdd, reduceEqDiff, reduceLeDiff, reduceSub, h1, h2, h3, h4]
        done
    · refine w05 ?_
      simp (maxSteps := 2000000) (disch := first | omega | (simp only [lenS]; try omega)) only [w5r, go_sem, reduceAdd, reduceEqDiff, reduceLeDiff, reduceSub]
      simp (maxSteps := 2000000) (disch := first | omega | (simp only [lenS]; try omega)) only [go_sem, reduceAdd, reduceEqDiff, reduceLeDiff, reduceSub, h2, h4]
      done
theorem w8n (n lo hi : Int) : C w55 [I n, I lo, I hi] [] = some (.bool (inB lo hi n), []) := by
  refine w0y ?_
  simp (maxSteps := 2000000) (disch := first | omega | (simp only [lenS]; try omega)) only [w75, go_sem, reduceAdd, reduceEqDiff, reduceLeDiff, reduceSub]
  unfold inB; grind
theorem w8q (n : Int) : C w59 [I n] [] = some (.bool (inB 1 16 n), []) := by
  refine w10 ?_
  simp (maxSteps := 2000000) (disch := first | omega | (simp only [lenS]; try omega)) only [w79, go_sem, reduceAdd, reduceEqDiff, reduceLeDiff, reduceSub]
  simp (maxSteps := 2000000) (disch := first | omega | (simp only [lenS]; try omega)) only [go_sem, reduceAdd, reduceEqDiff, reduceLeDiff, reduceSub, w8n]
  grind
theorem w8d (l : List Int) (lo hi : Int) (hl : l.length < 2^62) : C w4w [ints l, I lo, I hi] [] = some (.bool (l.all (inB lo hi)), []) := by
  refine w0v ?_
  simp (maxSteps := 2000000) (disch := first | omega | (simp only [lenS]; try omega)) only [w6w, go_sem, reduceAdd, reduceEqDiff, reduceLeDiff, reduceSub]
  refine W_for l.length (fun k s => s = ⟨[.any, I lo, I hi, .any, .any, ints l, I l.length, I k, .any, .any], []⟩ ∧ (l.take k).all (inB lo hi) = true) ?_ ?_ ?_
  · simp (maxSteps := 2000000) (disch := first | omega | (simp only [lenS]; try omega)) only [go_sem, reduceAdd, reduceEqDiff, reduceLeDiff, reduceSub]
    rfl
  · rintro k s hk ⟨rfl, hall⟩
    simp (maxSteps := 2000000) (disch := first | omega | (simp only [lenS]; try omega)) only [go_sem, reduceAdd, reduceEqDiff, reduceLeDiff, reduceSub, w8n]
    exact ⟨fun h => ⟨rfl, z2s hk hall h⟩, fun h => by rw [z2r hk h]⟩
  · rintro s ⟨rfl, hall⟩
    simp (maxSteps := 2000000) (disch := first | omega | (simp only [lenS]; try omega)) only [go_sem, reduceAdd, reduceEqDiff, reduceLeDiff, reduceSub]
    rw [List.take_length] at hall
    rw [hall]
theorem w8b (p : Int) (m : List Int) (hl : m.length < 2^62) : C w4u [I p, ints m] [] = some (.bool (goodM p m), []) := by
  refine w0u ?_
  simp (maxSteps := 2000000) (disch := first | omega | (simp only [lenS]; try omega)) only [w6u, go_sem, reduceAdd, reduceEqDiff, reduceLeDiff, reduceSub]
  simp (maxSteps := 2000000) (disch := first | omega | (simp only [lenS]; try omega)) only [go_sem, reduceAdd, reduceEqDiff, reduceLeDiff, reduceSub, w8q, w8d m _ _ hl]
  unfold goodM; grind
theorem w8f (a b : List Int) (hl : a.length = b.length) (hb : b.length < 2^62) : C w4y [ints a, ints b] [] = some (.bool (zaq a b), []) := by
  refine w0x ?_
  simp (maxSteps := 2000000) (disch := first | omega | (simp only [lenS]; try omega)) only [w6y, go_sem, reduceAdd, reduceEqDiff, reduceLeDiff, reduceSub]
  refine W_for b.length (fun k s => s = ⟨[ints a, .any, .any, .any, .any, ints b, I b.length, I k, .any, .any], []⟩ ∧ ((a.zip b).take k).all (fun p => decide (p.2 ≤ p.1)) = true) ?_ ?_ ?_
  · simp (maxSteps := 2000000) (disch := first | omega | (simp only [lenS]; try omega)) only [go_sem, reduceAdd, reduceEqDiff, reduceLeDiff, reduceSub]
    rfl
  · rintro k s hk ⟨rfl, hall⟩
    simp (maxSteps := 2000000) (disch := first | omega | (simp only [lenS]; try omega)) only [go_sem, reduceAdd, reduceEqDiff, reduceLeDiff, reduceSub]
    have hz : k < (a.zip b).length := by simp; omega
    refine ⟨fun h => ?_, fun h => ⟨rfl, z2s hz hall (by simp; omega)⟩⟩
    have : zaq a b = false := z2r hz (by simp; omega)
    rw [this]
  · rintro s ⟨rfl, hall⟩
    simp (maxSteps := 2000000) (disch := first | omega | (simp only [lenS]; try omega)) only [go_sem, reduceAdd, reduceEqDiff, reduceLeDiff, reduceSub]
    rw [List.take_of_length_le (by simp; omega)] at hall
    unfold zaq
    rw [hall]
theorem w8r (a b : List Int) (hl : a.length < 2^62) : C w5a [ints a, ints b] [] = some (.bool (decide (a = b)), []) := by
  refine w11 ?_
  simp (maxSteps := 2000000) (disch := first | omega | (simp only [lenS]; try omega)) only [w7a, go_sem, reduceAdd, reduceEqDiff, reduceLeDiff, reduceSub]
  refine ⟨fun h => ?_, fun h => ?_⟩
  · have : a ≠ b := fun e => h (by rw [e])
    simp [this]
  refine W_for a.length (fun k s => s = ⟨[ints a, ints b, .any, .any, .any, I a.length, I k, .any, .any], []⟩ ∧ a.take k = b.take k) ?_ ?_ ?_
  · simp (maxSteps := 2000000) (disch := first | omega | (simp only [lenS]; try omega)) only [go_sem, reduceAdd, reduceEqDiff, reduceLeDiff, reduceSub]
    rfl
  · rintro k s hk ⟨rfl, hall⟩
    simp (maxSteps := 2000000) (disch := first | omega | (simp only [lenS]; try omega)) only [go_sem, reduceAdd, reduceEqDiff, reduceLeDiff, reduceSub]
    refine ⟨fun h => ?_, fun h => ⟨rfl, ?_⟩⟩
    · have : a ≠ b := fun e => h (by simp [e])
      simp [this]
    · rw [z1a8 hk, z1a8 (show k < b.length by omega), hall, h]
  · rintro s ⟨rfl, hall⟩
    simp (maxSteps := 2000000) (disch := first | omega | (simp only [lenS]; try omega)) only [go_sem, reduceAdd, reduceEqDiff, reduceLeDiff, reduceSub]
    rw [List.take_length, List.take_of_length_le (by omega)] at hall
    simp [hall]
theorem w8p (l : List Int) (h : l.length < 2^36) : C w58 [ints l] [] = some (.un t_int true 1 (l.map I), []) := by
  refine w0z ?_
  simp (maxSteps := 2000000) (disch := first | omega | (simp only [lenS]; try omega)) only [w78, go_sem, reduceAdd, reduceEqDiff, reduceLeDiff, reduceSub]
theorem w8e (a b : List Int) (hl : a.length = b.length) (hb : b.length < 2^60) : C w4x [ints a, ints b] [] = some (I (cmpL a b), []) := by
  refine w0w ?_
  simp (maxSteps := 2000000) (disch := first | omega | (simp only [lenS]; try omega)) only [w6x, go_sem, reduceAdd, reduceEqDiff, reduceLeDiff, reduceSub]
  refine W_for a.length (fun k s => s = ⟨[ints a, ints b, .any, .any, I a.length, I k, .any, .any, .any], []⟩ ∧ a.take k = b.take k) ?_ ?_ ?_
  · simp (maxSteps := 2000000) (disch := first | omega | (simp only [lenS]; try omega)) only [go_sem, reduceAdd, reduceEqDiff, reduceLeDiff, reduceSub]
    simp
  · rintro k s hk ⟨rfl, h2⟩
    have e1 : a[k]? = some a[k] := List.getElem?_eq_getElem hk
    have hkb2 : k < b.length := by omega
    have e2 : b[k]? = some b[k] := List.getElem?_eq_getElem hkb2
    have e3 := z9n h2 hk hkb2
    have e4 : cmpI a[k] b[k] = 0 → a.take (k + 1) = b.take (k + 1) := fun h => by rw [z1a8 hk, z1a8 hkb2, h2, z9m h]
    generalize a[k] = x at *
    generalize b[k] = y at *
    unfold cmpI at e3 e4
    by_cases h5 : x < y
    · simp only [h5, if_true] at e3
      simp (maxSteps := 2000000) (disch := first | omega | (simp only [lenS]; try omega)) only [go_sem, reduceAdd, reduceEqDiff, reduceLeDiff, reduceSub, e1, e2, h5]
      rw [e3 (by decide)]
    · by_cases h6 : y < x
      · simp only [h5, h6, if_true, if_false] at e3
        simp (maxSteps := 2000000) (disch := first | omega | (simp only [lenS]; try omega)) only [go_sem, reduceAdd, reduceEqDiff, reduceLeDiff, reduceSub, e1, e2, h5, h6]
        rw [e3 (by decide)]
      · simp only [h5, h6, if_false] at e4
        simp (maxSteps := 2000000) (disch := first | omega | (simp only [lenS]; try omega)) only [go_sem, reduceAdd, reduceEqDiff, reduceLeDiff, reduceSub, e1, e2, h5, h6]
        exact ⟨rfl, e4 trivial⟩
  · rintro s ⟨rfl, h2⟩
    have := z9p h2 (by omega)
    simp (maxSteps := 2000000) (disch := first | omega | (simp only [lenS]; try omega)) only [go_sem, reduceAdd, reduceEqDiff, reduceLeDiff, reduceSub]
    rw [this, if_neg (by omega)]
theorem w8m (l : List (List Int)) (m : List Int) (n : Nat) (hn : n < 2^30) (hx : ∀ x ∈ l, x.length = n) (hm : m.length = n) (hl : l.length < 2^30) (hs : l.Pairwise ltL) : Lw (C w56 [rows l, ints m] []) fun r => r = (.un w8t false 1 ((inOrd l m).map ints), []) ∨ r = (rows (inOrd l m), []) := by
  refine w1n ?_
  simp (maxSteps := 2000000) (disch := first | omega | (simp only [lenS]; try omega)) only [w76, go_sem, reduceAdd, reduceEqDiff, reduceLeDiff, reduceSub]
  refine W_for l.length (fun k s => ∃ (d : Bool) (o : List (List Int)), o.length ≤ l.length + 1 ∧ s = ⟨[rows l, ints m, .any, .ref 0 1 0 o.length, .bool d, .any, .any, rows l, I l.length, I k, .any, .any, .any, .any], [.row w8t false 1 (o.map ints)]⟩ ∧ ((d = false ∧ o = l.take k ∧ ∀ x ∈ l.take k, 0 < cmpL m x) ∨ (d = true ∧ ∃ j, j < k ∧ o = l.take j ++ m :: (l.take k).drop j ∧ (∀ x ∈ l.take j, 0 < cmpL m x) ∧ ∀ x, l[j]? = some x → cmpL m x < 0))) ?_ ?_ ?_
  · simp (maxSteps := 2000000) (disch := first | omega | (simp only [lenS]; try omega)) only [go_sem, reduceAdd, reduceEqDiff, reduceLeDiff, reduceSub]
    exact ⟨false, [], by simp⟩
  · rintro k s hk ⟨d, o, ho, rfl, hd⟩
    have e1 : l[k]? = some l[k] := List.getElem?_eq_getElem hk
    have e2 := w8e m l[k] (by rw [hm, hx _ (List.getElem_mem hk)]) (by rw [hx _ (List.getElem_mem hk)]; omega)
    have e3 : l.take (k + 1) = l.take k ++ [l[k]] := List.take_succ_eq_append_getElem hk
    have e4 : cmpL m l[k] = 0 → inOrd l m = l := fun h => zk6 hs (by rw [z9q.1 h]; exact List.getElem_mem hk)
    have hlk : (l.take k).length = k := by simp; omega
    by_cases h0 : cmpL m l[k] = 0
    · rw [h0] at e2
      simp (maxSteps := 2000000) (disch := first | omega | (simp only [lenS]; try omega)) only [go_sem, reduceAdd, reduceEqDiff, reduceLeDiff, reduceSub, e1, e2]
      exact .inr (by rw [e4 h0])
    · rcases hd with ⟨rfl, rfl, h1⟩ | ⟨rfl, j, hj, rfl, h1, h2⟩
      · by_cases h3 : cmpL m l[k] < 0
        · have h4 : ∀ x, l[k]? = some x → cmpL m x < 0 := fun x h => by rw [e1] at h; rw [← Option.some.inj h]; exact h3
          have h5 : (l.take (k + 1)).drop k = [l[k]] := by rw [e3, List.drop_append, hlk]; simp [List.drop_eq_nil_of_le, hlk]
          generalize hy : l[k] = y at *
          generalize hc : cmpL m y = c at *
          simp (maxSteps := 2000000) (disch := first | omega | (simp only [lenS]; try omega)) only [go_sem, reduceAdd, reduceEqDiff, reduceLeDiff, reduceSub, e1, e2, h0, h3]
          refine ⟨true, l.take k ++ m :: (l.take (k + 1)).drop k, by rw [h5]; simp; omega, ?_, .inr ⟨rfl, k, by omega, rfl, h1, h4⟩⟩
          rw [h5]; simp [hlk]
        · have h4 : ∀ x ∈ l.take (k + 1), 0 < cmpL m x := fun x h => by
            rw [e3, List.mem_append] at h
            rcases h with h | h
            · exact h1 x h
            · rw [List.mem_singleton] at h; subst h; omega
          generalize hy : l[k] = y at *
          generalize hc : cmpL m y = c at *
          simp (maxSteps := 2000000) (disch := first | omega | (simp only [lenS]; try omega)) only [go_sem, reduceAdd, reduceEqDiff, reduceLeDiff, reduceSub, e1, e2, h0, h3]
          refine ⟨false, l.take (k + 1), by simp; omega, ?_, .inl ⟨rfl, rfl, h4⟩⟩
          rw [e3]; simp [hlk]
      · have h5 : (l.take (k + 1)).drop j = (l.take k).drop j ++ [l[k]] := by rw [e3, List.drop_append_of_le_length (by rw [hlk]; omega)]
        have h6 : (l.take j ++ m :: (l.take k).drop j).length = k + 1 := by simp; omega
        have h7 : (l.take j ++ m :: (l.take (k + 1)).drop j) = (l.take j ++ m :: (l.take k).drop j) ++ [l[k]] := by rw [h5]; simp
        have h8 : ∃ W, l.take j ++ m :: (l.take k).drop j = W := ⟨_, rfl⟩
        obtain ⟨W, hW⟩ := h8
        rw [hW] at h6 h7 ⊢
        generalize hy : l[k] = y at *
        generalize hc : cmpL m y = c at *
        by_cases h3 : c < 0
        · simp (maxSteps := 2000000) (disch := first | omega | (simp only [lenS]; try omega)) only [go_sem, reduceAdd, reduceEqDiff, reduceLeDiff, reduceSub, e1, e2, h0, h3, h6]
          refine ⟨true, l.take j ++ m :: (l.take (k + 1)).drop j, by rw [h7]; simp; omega, ?_, .inr ⟨rfl, j, by omega, rfl, h1, h2⟩⟩
          rw [h7]; simp [h6]
        · simp (maxSteps := 2000000) (disch := first | omega | (simp only [lenS]; try omega)) only [go_sem, reduceAdd, reduceEqDiff, reduceLeDiff, reduceSub, e1, e2, h0, h3, h6]
          refine ⟨true, l.take j ++ m :: (l.take (k + 1)).drop j, by rw [h7]; simp; omega, ?_, .inr ⟨rfl, j, by omega, rfl, h1, h2⟩⟩
          rw [h7]; simp [h6]
  · rintro s ⟨d, o, ho, rfl, hd⟩
    rcases hd with ⟨rfl, rfl, h1⟩ | ⟨rfl, j, hj, rfl, h1, h2⟩
    · rw [List.take_length] at h1 ⊢
      have h3 := zk5 (l := l) (m := m) (j := l.length) (by rw [List.take_length]; exact h1) (fun x h => by rw [List.getElem?_eq_none (Nat.le_refl _)] at h; cases h)
      rw [h3]
      simp (maxSteps := 2000000) (disch := first | omega | (simp only [lenS]; try omega)) only [go_sem, reduceAdd, reduceEqDiff, reduceLeDiff, reduceSub]
      exact .inl (by simp)
    · have h3 := zk5 h1 h2
      rw [List.take_length, ← h3]
      simp (maxSteps := 2000000) (disch := first | omega | (simp only [lenS]; try omega)) only [go_sem, reduceAdd, reduceEqDiff, reduceLeDiff, reduceSub]
      first | exact .inl trivial | exact .inl rfl
theorem w8o (l : List (List Int)) (n : Nat) (hn : n < 2^30) (hx : ∀ x ∈ l, x.length = n) (hl : l.length < 2^20) : Lw (C w57 [rows l] []) fun r => r = (.un w8t false 1 ((zn8 l).map ints), []) ∨ r = (rows (zn8 l), []) := by
  refine w1o ?_
  simp (maxSteps := 2000000) (disch := first | omega | (simp only [lenS]; try omega)) only [w77, go_sem, reduceAdd, reduceEqDiff, reduceLeDiff, reduceSub]
  refine W_for l.length (fun i s => ∃ (V : PV) (K : List Blk), ((V = .ref 0 1 0 (zn5 l i).length ∧ K = [.row w8t false 1 ((zn5 l i).map ints)]) ∨ (V = rows (zn5 l i) ∧ K = [])) ∧ s = ⟨[rows l, .any, V, .any, .any, .any, rows l, I l.length, I i, .any, .any, .any, .any, .any, .any], K⟩) ?_ ?_ ?_
  · simp (maxSteps := 2000000) (disch := first | omega | (simp only [lenS]; try omega)) only [go_sem, reduceAdd, reduceEqDiff, reduceLeDiff, reduceSub]
    exact ⟨_, _, .inl ⟨rfl, rfl⟩, rfl⟩
  · rintro i s hi ⟨V, K, hV, rfl⟩
    have e1 : l[i]? = some l[i] := List.getElem?_eq_getElem hi
    obtain ⟨f1, f2, f3⟩ := zn6 l i
    have hxi := hx _ (List.getElem_mem hi)
    have hKx : ∀ x ∈ zn5 l i, x.length = n := fun x h => hx x (List.mem_of_mem_take ((f2 x).1 h).1)
    obtain ⟨_, e2, hr⟩ := w8m (zn5 l i) l[i] n hn hKx hxi (by omega) f1
    have e3 := zn7 hi
    have e4 : zn3 l l[i] = l.all fun x => !zaq l[i] x || decide (l[i] = x) := rfl
    have e5 := w8p l[i] (by omega)
    have hil := zk7 (zn5 l i) l[i]
    have hne : l[i] ∈ inOrd (zn5 l i) l[i] := (zk8 _ _ _).2 (.inl rfl)
    rw [e3]
    generalize zn5 l i = A at *
    generalize l[i] = x at *
    generalize inOrd A x = B at *
    rcases hV with ⟨rfl, rfl⟩ | ⟨rfl, rfl⟩
    · simp (maxSteps := 2000000) (disch := first | omega | (simp only [lenS]; try omega)) only [go_sem, reduceAdd, reduceEqDiff, reduceLeDiff, reduceSub, e1]
      refine W_for l.length (fun k s => s = ⟨[rows l, .any, .ref 0 1 0 A.length, ints x, .bool ((l.take k).all fun y => !zaq x y || decide (x = y)), .any, rows l, I l.length, I i, .any, rows l, I l.length, I k, .any, .any], [.row w8t false 1 (A.map ints)]⟩) ?_ ?_ ?_
      · simp (maxSteps := 2000000) (disch := first | omega | (simp only [lenS]; try omega)) only [go_sem, reduceAdd, reduceEqDiff, reduceLeDiff, reduceSub]
        simp
      · rintro k s hk rfl
        have g1 : l[k]? = some l[k] := List.getElem?_eq_getElem hk
        have g2 := hx _ (List.getElem_mem hk)
        have g3 : ((l.take (k + 1)).all fun y => !zaq x y || decide (x = y)) = (((l.take k).all fun y => !zaq x y || decide (x = y)) && (!zaq x l[k] || decide (x = l[k]))) := by
          rw [List.take_succ_eq_append_getElem hk, List.all_append]; simp
        have g4 := w8f x l[k] (by omega) (by omega)
        have g5 := w8r x l[k] (by omega)
        rw [g3]
        generalize ((l.take k).all fun y => !zaq x y || decide (x = y)) = T at *
        generalize l[k] = y at *
        generalize zaq x y = c at *
        generalize decide (x = y) = q at *
        cases T <;> cases c <;> cases q <;> simp (maxSteps := 2000000) (disch := first | omega | (simp only [lenS]; try omega)) only [go_sem, reduceAdd, reduceEqDiff, reduceLeDiff, reduceSub, g1, g4, g5]
        all_goals first | done | rfl
      · rintro s rfl
        rw [List.take_length, ← e4]
        cases zn3 l x with
        | true =>
          rcases hr with rfl | rfl
          · simp (maxSteps := 2000000) (disch := first | omega | (simp only [lenS]; try omega)) only [go_sem, reduceAdd, reduceEqDiff, reduceLeDiff, reduceSub, e5, e2]
            exact ⟨_, _, .inl ⟨rfl, rfl⟩, rfl⟩
          · obtain ⟨b, B', rfl⟩ : ∃ b B', B = b :: B' := by
              cases B with
              | nil => simp at hne
              | cons b B' => exact ⟨b, B', rfl⟩
            simp (maxSteps := 2000000) (disch := first | omega | (simp only [lenS]; try omega)) only [go_sem, reduceAdd, reduceEqDiff, reduceLeDiff, reduceSub, e5, e2]
            exact ⟨_, _, .inr ⟨rfl, rfl⟩, rfl⟩
        | false =>
          simp (maxSteps := 2000000) (disch := first | omega | (simp only [lenS]; try omega)) only [go_sem, reduceAdd, reduceEqDiff, reduceLeDiff, reduceSub]
          exact ⟨_, _, .inl ⟨rfl, rfl⟩, rfl⟩
    · simp (maxSteps := 2000000) (disch := first | omega | (simp only [lenS]; try omega)) only [go_sem, reduceAdd, reduceEqDiff, reduceLeDiff, reduceSub, e1]
      refine W_for l.length (fun k s => s = ⟨[rows l, .any, rows A, ints x, .bool ((l.take k).all fun y => !zaq x y || decide (x = y)), .any, rows l, I l.length, I i, .any, rows l, I l.length, I k, .any, .any], []⟩) ?_ ?_ ?_
      · simp (maxSteps := 2000000) (disch := first | omega | (simp only [lenS]; try omega)) only [go_sem, reduceAdd, reduceEqDiff, reduceLeDiff, reduceSub]
        simp
      · rintro k s hk rfl
        have g1 : l[k]? = some l[k] := List.getElem?_eq_getElem hk
        have g2 := hx _ (List.getElem_mem hk)
        have g3 : ((l.take (k + 1)).all fun y => !zaq x y || decide (x = y)) = (((l.take k).all fun y => !zaq x y || decide (x = y)) && (!zaq x l[k] || decide (x = l[k]))) := by
          rw [List.take_succ_eq_append_getElem hk, List.all_append]; simp
        have g4 := w8f x l[k] (by omega) (by omega)
        have g5 := w8r x l[k] (by omega)
        rw [g3]
        generalize ((l.take k).all fun y => !zaq x y || decide (x = y)) = T at *
        generalize l[k] = y at *
        generalize zaq x y = c at *
        generalize decide (x = y) = q at *
        cases T <;> cases c <;> cases q <;> simp (maxSteps := 2000000) (disch := first | omega | (simp only [lenS]; try omega)) only [go_sem, reduceAdd, reduceEqDiff, reduceLeDiff, reduceSub, g1, g4, g5]
        all_goals first | done | rfl
      · rintro s rfl
        rw [List.take_length, ← e4]
        cases zn3 l x with
        | true =>
          rcases hr with rfl | rfl
          · simp (maxSteps := 2000000) (disch := first | omega | (simp only [lenS]; try omega)) only [go_sem, reduceAdd, reduceEqDiff, reduceLeDiff, reduceSub, e5, e2]
            exact ⟨_, _, .inl ⟨rfl, rfl⟩, rfl⟩
          · obtain ⟨b, B', rfl⟩ : ∃ b B', B = b :: B' := by
              cases B with
              | nil => simp at hne
              | cons b B' => exact ⟨b, B', rfl⟩
            simp (maxSteps := 2000000) (disch := first | omega | (simp only [lenS]; try omega)) only [go_sem, reduceAdd, reduceEqDiff, reduceLeDiff, reduceSub, e5, e2]
            exact ⟨_, _, .inr ⟨rfl, rfl⟩, rfl⟩
        | false =>
          simp (maxSteps := 2000000) (disch := first | omega | (simp only [lenS]; try omega)) only [go_sem, reduceAdd, reduceEqDiff, reduceLeDiff, reduceSub]
          exact ⟨_, _, .inr ⟨rfl, rfl⟩, rfl⟩
  · rintro s ⟨V, K, hV, rfl⟩
    unfold zn8
    rcases hV with ⟨rfl, rfl⟩ | ⟨rfl, rfl⟩
    · simp (maxSteps := 2000000) (disch := first | omega | (simp only [lenS]; try omega)) only [go_sem, reduceAdd, reduceEqDiff, reduceLeDiff, reduceSub]
      exact .inl trivial
    · simp (maxSteps := 2000000) (disch := first | omega | (simp only [lenS]; try omega)) only [go_sem, reduceAdd, reduceEqDiff, reduceLeDiff, reduceSub]
      exact .inr trivial
theorem w8c (p : Int) (l : List (List Int)) (hs : l.length < 65536) (hx : ∀ x ∈ l, x.length < 2^40) : Lw (C w4v [I p, rows l] []) fun r => ∃ V : PV, r = (.tup [V, .bool (w7j p l)], []) ∧ (V = .un w8t false 1 ((if w7j p l then zn8 l else []).map ints) ∨ (w7j p l = true ∧ V = rows (zn8 l))) := by
  have h2 := w8q p
  unfold w7j
  cases hp : inB 1 16 p with
  | false =>
    rw [hp] at h2
    refine w1g ?_
    simp (maxSteps := 2000000) (disch := first | omega | (simp only [lenS]; try omega)) only [w6v, go_sem, reduceAdd, reduceEqDiff, reduceLeDiff, reduceSub]
    simp (maxSteps := 2000000) (disch := first | omega | (simp only [lenS]; try omega)) only [go_sem, reduceAdd, reduceEqDiff, reduceLeDiff, reduceSub, h2]
    first | exact ⟨_, rfl, .inl rfl⟩ | exact ⟨_, rfl, rfl⟩ | simp
  | true =>
    rw [hp] at h2
    by_cases h4 : l.length ≤ 400
    · simp only [h4, decide_true, Bool.true_and]
      refine w1g ?_
      simp (maxSteps := 2000000) (disch := first | omega | (simp only [lenS]; try omega)) only [w6v, go_sem, reduceAdd, reduceEqDiff, reduceLeDiff, reduceSub]
      simp (maxSteps := 2000000) (disch := first | omega | (simp only [lenS]; try omega)) only [go_sem, reduceAdd, reduceEqDiff, reduceLeDiff, reduceSub, h2]
      refine W_for l.length (fun k s => s = ⟨[I p, rows l, .any, .any, .any, .any, rows l, I l.length, I k, .any, .any], []⟩ ∧ (l.take k).all (goodM p) = true) ?_ ?_ ?_
      · simp (maxSteps := 2000000) (disch := first | omega | (simp only [lenS]; try omega)) only [go_sem, reduceAdd, reduceEqDiff, reduceLeDiff, reduceSub]
        simp
      · rintro k s hk ⟨rfl, h0⟩
        have e1 : l[k]? = some l[k] := List.getElem?_eq_getElem hk
        have e2 := z2s (p := goodM p) hk h0
        have e3 := fun h => z2r (p := goodM p) hk h
        have e4 := w8b p l[k] (by have := hx _ (List.getElem_mem hk); omega)
        generalize l[k] = x at *
        generalize goodM p x = q at *
        cases q with
        | false =>
          simp (maxSteps := 2000000) (disch := first | omega | (simp only [lenS]; try omega)) only [go_sem, reduceAdd, reduceEqDiff, reduceLeDiff, reduceSub, e1, e4]
          rw [e3 rfl]
          first | exact ⟨_, rfl, .inl rfl⟩ | simp
        | true =>
          simp (maxSteps := 2000000) (disch := first | omega | (simp only [lenS]; try omega)) only [go_sem, reduceAdd, reduceEqDiff, reduceLeDiff, reduceSub, e1, e4]
          first | exact e2 rfl | exact ⟨rfl, e2 rfl⟩
      · rintro s ⟨rfl, h0⟩
        rw [List.take_length] at h0
        rw [h0]
        obtain ⟨_, e1, hr⟩ := w8o l p.toNat (by simp [inB] at hp; omega) (fun x h => by have := zh2 (List.all_eq_true.1 h0 x h); omega) (by omega)
        rcases hr with rfl | rfl
        · simp (maxSteps := 2000000) (disch := first | omega | (simp only [lenS]; try omega)) only [go_sem, reduceAdd, reduceEqDiff, reduceLeDiff, reduceSub, e1]
          simp
        · simp (maxSteps := 2000000) (disch := first | omega | (simp only [lenS]; try omega)) only [go_sem, reduceAdd, reduceEqDiff, reduceLeDiff, reduceSub, e1]
          simp
    · simp only [h4, decide_false, Bool.and_false, Bool.false_and]
      refine w1g ?_
      simp (maxSteps := 2000000) (disch := first | omega | (simp only [lenS]; try omega)) only [w6v, go_sem, reduceAdd, reduceEqDiff, reduceLeDiff, reduceSub]
      simp (maxSteps := 2000000) (disch := first | omega | (simp only [lenS]; try omega)) only [go_sem, reduceAdd, reduceEqDiff, reduceLeDiff, reduceSub, h2, h4]
      first | exact ⟨_, rfl, .inl rfl⟩ | simp
theorem w7d (a b : List Int) (hl : a.length < 2^62) : C w3y [ints a, ints b] [] = some (.bool (decide (a = b)), []) := by
  refine w0e ?_
  simp (maxSteps := 2000000) (disch := first | omega | (simp only [lenS]; try omega)) only [w60, go_sem, reduceAdd, reduceEqDiff, reduceLeDiff, reduceSub]
  refine ⟨fun h => ?_, fun h => ?_⟩
  · have : a ≠ b := fun e => h (by rw [e])
    simp [this]
  refine W_for a.length (fun k s => s = ⟨[ints a, ints b, .any, .any, .any, I a.length, I k, .any, .any], []⟩ ∧ a.take k = b.take k) ?_ ?_ ?_
  · simp (maxSteps := 2000000) (disch := first | omega | (simp only [lenS]; try omega)) only [go_sem, reduceAdd, reduceEqDiff, reduceLeDiff, reduceSub]
    rfl
  · rintro k s hk ⟨rfl, hall⟩
    simp (maxSteps := 2000000) (disch := first | omega | (simp only [lenS]; try omega)) only [go_sem, reduceAdd, reduceEqDiff, reduceLeDiff, reduceSub]
    refine ⟨fun h => ?_, fun h => ⟨rfl, ?_⟩⟩
    · have : a ≠ b := fun e => h (by simp [e])
      simp [this]
    · rw [z1a8 hk, z1a8 (show k < b.length by omega), hall, h]
  · rintro s ⟨rfl, hall⟩
    simp (maxSteps := 2000000) (disch := first | omega | (simp only [lenS]; try omega)) only [go_sem, reduceAdd, reduceEqDiff, reduceLeDiff, reduceSub]
    rw [List.take_length, List.take_of_length_le (by omega)] at hall
    simp [hall]
theorem w7e (a : List (List Int)) (hl : a.length < 2^62) (hx : ∀ x ∈ a, x.length < 2^62) : C w3z [rows a, rows a] [] = some (.bool true, []) := by
  refine w0f ?_
  simp (maxSteps := 2000000) (disch := first | omega | (simp only [lenS]; try omega)) only [w61, go_sem, reduceAdd, reduceEqDiff, reduceLeDiff, reduceSub]
  refine W_for a.length (fun k s => s = ⟨[rows a, rows a, .any, .any, .any, I a.length, I k, .any, .any], []⟩) ?_ ?_ ?_
  · simp (maxSteps := 2000000) (disch := first | omega | (simp only [lenS]; try omega)) only [go_sem, reduceAdd, reduceEqDiff, reduceLeDiff, reduceSub]
    rfl
  · rintro k s hk rfl
    have hk2 := hx _ (List.getElem_mem hk)
    simp (maxSteps := 2000000) (disch := first | omega | (simp only [lenS]; try omega)) only [go_sem, reduceAdd, reduceEqDiff, reduceLeDiff, reduceSub, w7d]
    rfl
  · rintro s rfl
    simp (maxSteps := 2000000) (disch := first | omega | (simp only [lenS]; try omega)) only [go_sem, reduceAdd, reduceEqDiff, reduceLeDiff, reduceSub]
theorem w5d (p : Int) (a b : List Int) (ha : a.length < 2^62) (hb : b.length < 2^62) : C w3n [I p, ints a, ints b] [] = some (.tup [.bool (goodM p a && goodM p b && zaq a b), .bool (goodM p a && goodM p b)], []) := by
  refine w03 ?_
  simp (maxSteps := 2000000) (disch := first | omega | (simp only [lenS]; try omega)) only [w5p, go_sem, reduceAdd, reduceEqDiff, reduceLeDiff, reduceSub]
  have h := w5i p [a, b] (by simp) (by simp [ha, hb])
  simp only [rows, go_sem] at h
  simp (maxSteps := 2000000) (disch := first | omega | (simp only [lenS]; try omega)) only [go_sem, reduceAdd, reduceEqDiff, reduceLeDiff, reduceSub, h]
  refine ⟨fun h => ?_, fun h => by simp [h]⟩
  obtain ⟨h1, h2⟩ := zh5 h
  simp (maxSteps := 2000000) (disch := first | omega | (simp only [lenS]; try omega)) only [go_sem, reduceAdd, reduceEqDiff, reduceLeDiff, reduceSub, w5j a b h1 hb]
  grind
theorem w5c (p : Int) (a b : List Int) (ha : a.length < 2^60) (hb : b.length < 2^60) : C w3m [I p, ints a, ints b] [] = some (.tup [I (if goodM p a && goodM p b then cmpL a b else 0), .bool (goodM p a && goodM p b)], []) := by
  have h := w5i p [a, b] (by simp) (by simp; omega)
  have h2 := w7n a b ha hb
  simp only [rows, List.map_cons, List.map_nil] at h
  simp only [List.all_cons, List.all_nil, Bool.and_true] at h
  refine w02 ?_
  simp (maxSteps := 2000000) (disch := first | omega | (simp only [lenS]; try omega)) only [w5o, go_sem, reduceAdd, reduceEqDiff, reduceLeDiff, reduceSub]
  cases hg : goodM p a && goodM p b with
  | false =>
    rw [hg] at h
    simp (maxSteps := 2000000) (disch := first | omega | (simp only [lenS]; try omega)) only [go_sem, reduceAdd, reduceEqDiff, reduceLeDiff, reduceSub, h]
  | true =>
    rw [hg] at h
    simp (maxSteps := 2000000) (disch := first | omega | (simp only [lenS]; try omega)) only [go_sem, reduceAdd, reduceEqDiff, reduceLeDiff, reduceSub, h, h2]
theorem w8l (bs : List Int) (at_ sd : Int) (h0 : 0 ≤ at_) (h1 : at_ < 2^61) (hl : bs.length < 2^62) (hb : ∀ x ∈ bs, 0 ≤ x ∧ x < 256) :
    Lw (C w54 [.ptr 0 0] [.box w8v [bys bs, I at_, .int .u64 sd]]) fun r => ∃ x at' sd', r = (I x, [.box w8v [bys bs, I at', .int .u64 sd']]) ∧ at_ ≤ at' ∧ at' ≤ at_ + 2 ∧ 0 ≤ x ∧ x ≤ 17 := by
  refine w1m ?_
  simp (maxSteps := 2000000) (disch := first | omega | (simp only [lenS]; try omega)) only [w74, go_sem, reduceAdd, reduceEqDiff, reduceLeDiff, reduceSub]
  obtain ⟨_, e1, x1, a1, s1, rfl, h3, h4, h5⟩ := w8g [1, 2, 3, 4, 5, 16, 0, 17] t_int (by decide) (by decide) bs at_ sd h0 h1 hl hb
  simp only [go_sem, Nat.reduceAdd] at e1
  simp (maxSteps := 2000000) (disch := first | omega | (simp only [lenS]; try omega)) only [go_sem, reduceAdd, reduceEqDiff, reduceLeDiff, reduceSub, e1]
  simp only [List.mem_cons, List.not_mem_nil, or_false] at h5
  exact ⟨_, _, _, rfl, h3, h4, by omega, by omega⟩
theorem w88 (bs : List Int) (hl : bs.length < 2^62) (hb : ∀ x ∈ bs, 0 ≤ x ∧ x < 256) :
    Lw (C w4r [bys bs] []) fun r => ∃ (p : Int) (a b : List Int), r = (.tup [I p, .un t_int true 1 (a.map I), .un t_int true 1 (b.map I)], []) ∧ 0 ≤ p ∧ p ≤ 17 ∧ a.length ≤ 101 ∧ b.length ≤ 101 := by
  refine w1d ?_
  simp (maxSteps := 2000000) (disch := first | omega | (simp only [lenS]; try omega)) only [w6r, go_sem, reduceAdd, reduceEqDiff, reduceLeDiff, reduceSub]
  obtain ⟨_, e1, x1, a1, s1, rfl, h3, h4, h5, h6⟩ := w8l bs 0 0 (by omega) (by omega) hl hb
  obtain ⟨_, e2, l2, a2, s2, rfl, h7, h8, h9, h10⟩ := w8h x1 (by omega) bs a1 s1 (by omega) (by omega) hl hb
  obtain ⟨_, e3, l3, a3, s3, rfl, h11, h12, h13, h14⟩ := w8h x1 (by omega) bs a2 s2 (by omega) (by omega) hl hb
  simp (maxSteps := 2000000) (disch := first | omega | (simp only [lenS]; try omega)) only [go_sem, reduceAdd, reduceEqDiff, reduceLeDiff, reduceSub, e1, e2, e3]
  exact ⟨_, _, _, rfl, h5, h6, h9, h13⟩
theorem w89 (bs : List Int) (hl : bs.length < 2^62) (hb : ∀ x ∈ bs, 0 ≤ x ∧ x < 256) :
    Lw (C w4s [bys bs] []) fun r => ∃ (p : Int) (a b : List Int), r = (.tup [I p, .un t_int true 1 (a.map I), .un t_int true 1 (b.map I)], []) ∧ 0 ≤ p ∧ p ≤ 17 ∧ a.length ≤ 101 ∧ b.length ≤ 101 := by
  obtain ⟨_, e1, p, a, b, rfl, h⟩ := w88 bs hl hb
  refine w1e ?_
  simp (maxSteps := 2000000) (disch := first | omega | (simp only [lenS]; try omega)) only [w6s, go_sem, reduceAdd, reduceEqDiff, reduceLeDiff, reduceSub]
  simp (maxSteps := 2000000) (disch := first | omega | (simp only [lenS]; try omega)) only [go_sem, reduceAdd, reduceEqDiff, reduceLeDiff, reduceSub, e1]
  exact ⟨_, _, _, rfl, h⟩
theorem w8s (p : Int) (a b : List Int) (ha : a.length < 2^62) (hb : b.length < 2^62) : C w5b [I p, ints a, ints b] [] = some (.bool (goodM p a && goodM p b), []) := by
  refine w12 ?_
  simp (maxSteps := 2000000) (disch := first | omega | (simp only [lenS]; try omega)) only [w7b, go_sem, reduceAdd, reduceEqDiff, reduceLeDiff, reduceSub]
  simp (maxSteps := 2000000) (disch := first | omega | (simp only [lenS]; try omega)) only [go_sem, reduceAdd, reduceEqDiff, reduceLeDiff, reduceSub, w8b p a ha, w8b p b hb]
  grind
theorem w87 (p : Int) (a b : List Int) (ha : a.length < 2^60) (hb : b.length < 2^60) : C w4q [I p, ints a, ints b] [] = some (.tup [I (if goodM p a && goodM p b then cmpL a b else 0), .bool (goodM p a && goodM p b)], []) := by
  have h := w8s p a b (by omega) (by omega)
  refine w0t ?_
  simp (maxSteps := 2000000) (disch := first | omega | (simp only [lenS]; try omega)) only [w6q, go_sem, reduceAdd, reduceEqDiff, reduceLeDiff, reduceSub]
  cases hg : goodM p a && goodM p b with
  | false =>
    rw [hg] at h
    simp (maxSteps := 2000000) (disch := first | omega | (simp only [lenS]; try omega)) only [go_sem, reduceAdd, reduceEqDiff, reduceLeDiff, reduceSub, h]
  | true =>
    rw [hg] at h
    have h2 := w8e a b (zh5 hg).1 hb
    simp (maxSteps := 2000000) (disch := first | omega | (simp only [lenS]; try omega)) only [go_sem, reduceAdd, reduceEqDiff, reduceLeDiff, reduceSub, h, h2]
theorem laws_FnLeastMarks_ok (a b : List Int) (ha2 : ∀ x ∈ a, 0 ≤ x ∧ x < 256) (hb2 : ∀ x ∈ b, 0 ≤ x ∧ x < 256) : C w3w [bys a, bys b] [] = some (.bool true, []) := by
  refine w0c ?_
  simp (maxSteps := 2000000) (disch := first | omega | (simp only [lenS]; try omega)) only [w5y, go_sem, reduceAdd, reduceEqDiff, reduceLeDiff, reduceSub]
  simp (maxSteps := 2000000) (disch := first | omega | (simp only [lenS]; try omega)) only [go_sem, reduceAdd, reduceEqDiff, reduceLeDiff, reduceSub, w7c]
  intro hbig
  simp only [Bool.or_eq_false_iff, decide_eq_false_iff_not] at hbig
  obtain ⟨_, e1, p, l, rfl, p1, p2, p3, p4⟩ := w8a a (by omega) ha2
  obtain ⟨_, e2, q, A, B, rfl, q1, q2, q3, q4⟩ := w89 b (by omega) hb2
  have i1 := w5f p l (by omega) (fun x h => by have := p4 x h; omega)
  obtain ⟨_, i2, V, rfl, hV⟩ := w8c p l (by omega) (fun x h => by have := p4 x h; omega)
  have n1 := w5c q A B (by omega) (by omega)
  have n2 := w87 q A B (by omega) (by omega)
  have n3 := w5c q B A (by omega) (by omega)
  have n4 := z9s A B
  have n5 : (goodM q B && goodM q A) = (goodM q A && goodM q B) := Bool.and_comm ..
  rw [n5] at n3
  rw [n4] at n3
  have n6 := z9t A B
  generalize (goodM q A && goodM q B) = G at *
  generalize cmpL A B = c at *
  have n7 : (if G = true then -c else 0) = 0 - (if G = true then c else 0) := by cases G <;> simp
  have n8 : -1 ≤ (if G = true then c else 0) ∧ (if G = true then c else 0) ≤ 1 := by split <;> omega
  rw [n7] at n3
  generalize (if G = true then c else 0) = e at *
  clear n7 n6 n5 n4
  cases hok : w7j p l with
  | false =>
    simp only [hok, Bool.false_eq_true, if_false, false_and, or_false, List.map_nil] at i1 hV i2
    subst hV
    have s1 := w7e [] (by simp) (by simp)
    simp only [rows, List.map_nil] at s1
    simp (maxSteps := 2000000) (disch := first | omega | (simp only [lenS]; try omega)) only [go_sem, reduceAdd, reduceEqDiff, reduceLeDiff, reduceSub, e1, e2, i1, i2, s1, n1, n2, n3, bne_self_eq_false, beq_self_eq_true]
    cases G <;> simp
  | true =>
    simp only [hok, if_true, true_and] at i1 hV i2
    have hg : ∀ x ∈ l, goodM p x = true := by unfold w7j at hok; simp only [Bool.and_eq_true, List.all_eq_true] at hok; exact hok.2
    obtain ⟨f1, f2, f3⟩ := zna l
    have hT : ∀ x ∈ zn8 l, goodM p x = true := fun x h => hg x ((f2 x).1 h).1
    have hl1 : ∀ x ∈ l, x.length = p.toNat := fun x h => by have := zh2 (hg x h); omega
    have hmet := fun m hm => znc hl1 (fun x h y hy => ((zh2 (hg x h)).2.2.2.2 y hy).1) (m := m) hm
    have hap := fun x y hx hy hn => znb (l := l) (x := x) (y := y) hx hy hn
    have s1 := w7e (zn8 l) (by omega) (fun x h => by have := zh2 (hT x h); omega)
    clear f2
    generalize zn8 l = T at *
    rcases hV with rfl | rfl
    · simp (maxSteps := 2000000) (disch := first | omega | (simp only [lenS]; try omega)) only [go_sem, reduceAdd, reduceEqDiff, reduceLeDiff, reduceSub, e1, i1, i2, s1, bne_self_eq_false, beq_self_eq_true]
      refine W_for l.length (fun k s => s = ⟨[.any, bys b, .any, I p, .any, .ref 0 1 0 T.length, .any, .any, .any, .any, .any, .any, .any, .any, .any, .any, .any, .any, .any, .any, .any, .any, .any, .any, .any, .any, .any, .any, .any, .any, .any, .any, .any, .any, .any, .ref 1 1 0 l.length, I l.length, I k, .any, .any, .any, .any, .any, .any, .any, .any, .any, .any, .any, .any, .any, .any, .any, .any], [.row w8t false 1 (T.map ints), .fro false 1 (l.map ints)]⟩) ?_ ?_ ?_
      · simp (maxSteps := 2000000) (disch := first | omega | (simp only [lenS]; try omega)) only [go_sem, reduceAdd, reduceEqDiff, reduceLeDiff, reduceSub]
        first | done | rfl
      · rintro k s hk rfl
        have g1 : l[k]? = some l[k] := List.getElem?_eq_getElem hk
        have g2 := hg _ (List.getElem_mem hk)
        have g3 := hmet _ (List.getElem_mem hk)
        have g4 := (zh2 g2).2.2.2.1
        generalize l[k] = m at *
        simp (maxSteps := 2000000) (disch := first | omega | (simp only [lenS]; try omega)) only [go_sem, reduceAdd, reduceEqDiff, reduceLeDiff, reduceSub, g1]
        refine W_for T.length (fun j s => s = ⟨[.any, bys b, .any, I p, .any, .ref 0 1 0 T.length, .any, .any, .any, ints m, .bool ((T.take j).any fun x => zaq m x), .any, .any, .any, .any, .any, .any, .any, .any, .any, .any, .any, .any, .any, .any, .any, .any, .any, .any, .any, .any, .any, .any, .any, .any, .ref 1 1 0 l.length, I l.length, I k, .any, .ref 0 1 0 T.length, I T.length, I j, .any, .any, .any, .any, .any, .any, .any, .any, .any, .any, .any, .any], [.row w8t false 1 (T.map ints), .fro false 1 (l.map ints)]⟩) ?_ ?_ ?_
        · simp (maxSteps := 2000000) (disch := first | omega | (simp only [lenS]; try omega)) only [go_sem, reduceAdd, reduceEqDiff, reduceLeDiff, reduceSub]
          first | done | rfl | simp
        · rintro j s hj rfl
          have g5 : T[j]? = some T[j] := List.getElem?_eq_getElem hj
          have g6 := hT _ (List.getElem_mem hj)
          have g7 := (zh2 g6).2.2.2.1
          have g8 := w5d p m T[j] (by omega) (by omega)
          have g9 : ((T.take (j + 1)).any fun x => zaq m x) = (((T.take j).any fun x => zaq m x) || zaq m T[j]) := by
            rw [List.take_succ_eq_append_getElem hj, List.any_append]; simp
          rw [g2, g6] at g8
          simp only [Bool.true_and] at g8
          rw [g9]
          generalize ((T.take j).any fun x => zaq m x) = u at *
          generalize T[j] = x at *
          generalize zaq m x = c at *
          cases u <;> cases c <;> simp (maxSteps := 2000000) (disch := first | omega | (simp only [lenS]; try omega)) only [go_sem, reduceAdd, reduceEqDiff, reduceLeDiff, reduceSub, g5, g8]
          all_goals first | done | rfl
        · rintro s rfl
          rw [List.take_length, g3]
          simp (maxSteps := 2000000) (disch := first | omega | (simp only [lenS]; try omega)) only [go_sem, reduceAdd, reduceEqDiff, reduceLeDiff, reduceSub]
          first | done | rfl
      · rintro s rfl
        simp (maxSteps := 2000000) (disch := first | omega | (simp only [lenS]; try omega)) only [go_sem, reduceAdd, reduceEqDiff, reduceLeDiff, reduceSub]
        refine W_for T.length (fun k s => s = ⟨[.any, bys b, .any, I p, .any, .ref 0 1 0 T.length, .any, .any, .any, .any, .any, .any, .any, .any, .any, .any, .any, .any, .any, .any, .any, .any, .any, .any, .any, .any, .any, .any, .any, .any, .any, .any, .any, .any, .any, .any, .any, .any, .any, .any, .any, .any, .any, .any, .any, .ref 0 1 0 T.length, I T.length, I k, .any, .any, .any, .any, .any, .any], [.row w8t false 1 (T.map ints)]⟩) ?_ ?_ ?_
        · simp (maxSteps := 2000000) (disch := first | omega | (simp only [lenS]; try omega)) only [go_sem, reduceAdd, reduceEqDiff, reduceLeDiff, reduceSub]
          first | done | rfl
        · rintro k s hk rfl
          have g1 : T[k]? = some T[k] := List.getElem?_eq_getElem hk
          have g2 := hT _ (List.getElem_mem hk)
          have g4 := (zh2 g2).2.2.2.1
          have gk : ∀ j, (hj : j < k) → ltL (T[j]'(by omega)) T[k] := fun j hj => List.pairwise_iff_getElem.1 f1 j k (by omega) hk hj
          have gm := List.getElem_mem hk
          generalize T[k] = x at *
          simp (maxSteps := 2000000) (disch := first | omega | (simp only [lenS]; try omega)) only [go_sem, reduceAdd, reduceEqDiff, reduceLeDiff, reduceSub, g1]
          refine W_for k (fun j s => s = ⟨[.any, bys b, .any, I p, .any, .ref 0 1 0 T.length, .any, .any, .any, .any, .any, .any, .any, .any, .any, ints x, .any, .any, .any, .any, .any, .any, .any, .any, .any, .any, .any, .any, .any, .any, .any, .any, .any, .any, .any, .any, .any, .any, .any, .any, .any, .any, .any, .any, .any, .ref 0 1 0 T.length, I T.length, I k, .any, .ref 0 1 0 k, I k, I j, .any, .any], [.row w8t false 1 (T.map ints)]⟩) ?_ ?_ ?_
          · simp (maxSteps := 2000000) (disch := first | omega | (simp only [lenS]; try omega)) only [go_sem, reduceAdd, reduceEqDiff, reduceLeDiff, reduceSub]
            first | done | rfl | simp
          · rintro j s hj rfl
            have hjT : j < T.length := by omega
            have g5 : T[j]? = some T[j] := List.getElem?_eq_getElem hjT
            have g6 := hT _ (List.getElem_mem hjT)
            have g7 := (zh2 g6).2.2.2.1
            have g8 := w5d p x T[j] (by omega) (by omega)
            have g9 := w5d p T[j] x (by omega) (by omega)
            have g10 := w5c p T[j] x (by omega) (by omega)
            have g11 := gk j hj
            have g12 : T[j] ≠ x := fun e => by rw [e] at g11; exact zp5 g11
            have g13 := hap _ _ gm (List.getElem_mem hjT) (fun e => g12 e.symm)
            have g14 := hap _ _ (List.getElem_mem hjT) gm g12
            have g15 : cmpL T[j] x = -1 := by
              unfold ltL at g11
              rcases z9t T[j] x with h | h | h <;> omega
            rw [g2, g6] at g8 g9 g10
            rw [g13] at g8
            rw [g14] at g9
            rw [g15] at g10
            simp only [Bool.true_and, if_true] at g8 g9 g10
            generalize T[j] = y at *
            simp (maxSteps := 2000000) (disch := first | omega | (simp only [lenS]; try omega)) only [go_sem, reduceAdd, reduceEqDiff, reduceLeDiff, reduceSub, g5, g8, g9, g10]
            first | done | rfl
          · rintro s rfl
            simp (maxSteps := 2000000) (disch := first | omega | (simp only [lenS]; try omega)) only [go_sem, reduceAdd, reduceEqDiff, reduceLeDiff, reduceSub]
            first | done | rfl
        · rintro s rfl
          simp (maxSteps := 2000000) (disch := first | omega | (simp only [lenS]; try omega)) only [go_sem, reduceAdd, reduceEqDiff, reduceLeDiff, reduceSub, e2, n1, n2, n3]
          cases G <;> simp
    · simp (maxSteps := 2000000) (disch := first | omega | (simp only [lenS]; try omega)) only [go_sem, reduceAdd, reduceEqDiff, reduceLeDiff, reduceSub, e1, i1, i2, s1, bne_self_eq_false, beq_self_eq_true]
      have tw : ∀ {P Q : Prop}, P → (Q → P) ∧ (¬ Q → P) := fun h => ⟨fun _ => h, fun _ => h⟩
      refine tw ?_
      refine W_for l.length (fun k s => s = ⟨[.any, bys b, .any, I p, .any, .ref 0 1 0 T.length, .any, .any, .any, .any, .any, .any, .any, .any, .any, .any, .any, .any, .any, .any, .any, .any, .any, .any, .any, .any, .any, .any, .any, .any, .any, .any, .any, .any, .any, .ref 1 1 0 l.length, I l.length, I k, .any, .any, .any, .any, .any, .any, .any, .any, .any, .any, .any, .any, .any, .any, .any, .any], [.row w8t false 1 (T.map ints), .fro false 1 (l.map ints)]⟩) ?_ ?_ ?_
      · simp (maxSteps := 2000000) (disch := first | omega | (simp only [lenS]; try omega)) only [go_sem, reduceAdd, reduceEqDiff, reduceLeDiff, reduceSub]
        first | done | rfl
      · rintro k s hk rfl
        have g1 : l[k]? = some l[k] := List.getElem?_eq_getElem hk
        have g2 := hg _ (List.getElem_mem hk)
        have g3 := hmet _ (List.getElem_mem hk)
        have g4 := (zh2 g2).2.2.2.1
        generalize l[k] = m at *
        simp (maxSteps := 2000000) (disch := first | omega | (simp only [lenS]; try omega)) only [go_sem, reduceAdd, reduceEqDiff, reduceLeDiff, reduceSub, g1]
        refine W_for T.length (fun j s => s = ⟨[.any, bys b, .any, I p, .any, .ref 0 1 0 T.length, .any, .any, .any, ints m, .bool ((T.take j).any fun x => zaq m x), .any, .any, .any, .any, .any, .any, .any, .any, .any, .any, .any, .any, .any, .any, .any, .any, .any, .any, .any, .any, .any, .any, .any, .any, .ref 1 1 0 l.length, I l.length, I k, .any, .ref 0 1 0 T.length, I T.length, I j, .any, .any, .any, .any, .any, .any, .any, .any, .any, .any, .any, .any], [.row w8t false 1 (T.map ints), .fro false 1 (l.map ints)]⟩) ?_ ?_ ?_
        · simp (maxSteps := 2000000) (disch := first | omega | (simp only [lenS]; try omega)) only [go_sem, reduceAdd, reduceEqDiff, reduceLeDiff, reduceSub]
          first | done | rfl | simp
        · rintro j s hj rfl
          have g5 : T[j]? = some T[j] := List.getElem?_eq_getElem hj
          have g6 := hT _ (List.getElem_mem hj)
          have g7 := (zh2 g6).2.2.2.1
          have g8 := w5d p m T[j] (by omega) (by omega)
          have g9 : ((T.take (j + 1)).any fun x => zaq m x) = (((T.take j).any fun x => zaq m x) || zaq m T[j]) := by
            rw [List.take_succ_eq_append_getElem hj, List.any_append]; simp
          rw [g2, g6] at g8
          simp only [Bool.true_and] at g8
          rw [g9]
          generalize ((T.take j).any fun x => zaq m x) = u at *
          generalize T[j] = x at *
          generalize zaq m x = c at *
          cases u <;> cases c <;> simp (maxSteps := 2000000) (disch := first | omega | (simp only [lenS]; try omega)) only [go_sem, reduceAdd, reduceEqDiff, reduceLeDiff, reduceSub, g5, g8]
          all_goals first | done | rfl
        · rintro s rfl
          rw [List.take_length, g3]
          simp (maxSteps := 2000000) (disch := first | omega | (simp only [lenS]; try omega)) only [go_sem, reduceAdd, reduceEqDiff, reduceLeDiff, reduceSub]
          first | done | rfl
      · rintro s rfl
        simp (maxSteps := 2000000) (disch := first | omega | (simp only [lenS]; try omega)) only [go_sem, reduceAdd, reduceEqDiff, reduceLeDiff, reduceSub]
        refine W_for T.length (fun k s => s = ⟨[.any, bys b, .any, I p, .any, .ref 0 1 0 T.length, .any, .any, .any, .any, .any, .any, .any, .any, .any, .any, .any, .any, .any, .any, .any, .any, .any, .any, .any, .any, .any, .any, .any, .any, .any, .any, .any, .any, .any, .any, .any, .any, .any, .any, .any, .any, .any, .any, .any, .ref 0 1 0 T.length, I T.length, I k, .any, .any, .any, .any, .any, .any], [.row w8t false 1 (T.map ints)]⟩) ?_ ?_ ?_
        · simp (maxSteps := 2000000) (disch := first | omega | (simp only [lenS]; try omega)) only [go_sem, reduceAdd, reduceEqDiff, reduceLeDiff, reduceSub]
          first | done | rfl
        · rintro k s hk rfl
          have g1 : T[k]? = some T[k] := List.getElem?_eq_getElem hk
          have g2 := hT _ (List.getElem_mem hk)
          have g4 := (zh2 g2).2.2.2.1
          have gk : ∀ j, (hj : j < k) → ltL (T[j]'(by omega)) T[k] := fun j hj => List.pairwise_iff_getElem.1 f1 j k (by omega) hk hj
          have gm := List.getElem_mem hk
          generalize T[k] = x at *
          simp (maxSteps := 2000000) (disch := first | omega | (simp only [lenS]; try omega)) only [go_sem, reduceAdd, reduceEqDiff, reduceLeDiff, reduceSub, g1]
          refine W_for k (fun j s => s = ⟨[.any, bys b, .any, I p, .any, .ref 0 1 0 T.length, .any, .any, .any, .any, .any, .any, .any, .any, .any, ints x, .any, .any, .any, .any, .any, .any, .any, .any, .any, .any, .any, .any, .any, .any, .any, .any, .any, .any, .any, .any, .any, .any, .any, .any, .any, .any, .any, .any, .any, .ref 0 1 0 T.length, I T.length, I k, .any, .ref 0 1 0 k, I k, I j, .any, .any], [.row w8t false 1 (T.map ints)]⟩) ?_ ?_ ?_
          · simp (maxSteps := 2000000) (disch := first | omega | (simp only [lenS]; try omega)) only [go_sem, reduceAdd, reduceEqDiff, reduceLeDiff, reduceSub]
            first | done | rfl | simp
          · rintro j s hj rfl
            have hjT : j < T.length := by omega
            have g5 : T[j]? = some T[j] := List.getElem?_eq_getElem hjT
            have g6 := hT _ (List.getElem_mem hjT)
            have g7 := (zh2 g6).2.2.2.1
            have g8 := w5d p x T[j] (by omega) (by omega)
            have g9 := w5d p T[j] x (by omega) (by omega)
            have g10 := w5c p T[j] x (by omega) (by omega)
            have g11 := gk j hj
            have g12 : T[j] ≠ x := fun e => by rw [e] at g11; exact zp5 g11
            have g13 := hap _ _ gm (List.getElem_mem hjT) (fun e => g12 e.symm)
            have g14 := hap _ _ (List.getElem_mem hjT) gm g12
            have g15 : cmpL T[j] x = -1 := by
              unfold ltL at g11
              rcases z9t T[j] x with h | h | h <;> omega
            rw [g2, g6] at g8 g9 g10
            rw [g13] at g8
            rw [g14] at g9
            rw [g15] at g10
            simp only [Bool.true_and, if_true] at g8 g9 g10
            generalize T[j] = y at *
            simp (maxSteps := 2000000) (disch := first | omega | (simp only [lenS]; try omega)) only [go_sem, reduceAdd, reduceEqDiff, reduceLeDiff, reduceSub, g5, g8, g9, g10]
            first | done | rfl
          · rintro s rfl
            simp (maxSteps := 2000000) (disch := first | omega | (simp only [lenS]; try omega)) only [go_sem, reduceAdd, reduceEqDiff, reduceLeDiff, reduceSub]
            first | done | rfl
        · rintro s rfl
          simp (maxSteps := 2000000) (disch := first | omega | (simp only [lenS]; try omega)) only [go_sem, reduceAdd, reduceEqDiff, reduceLeDiff, reduceSub, e2, n1, n2, n3]
          cases G <;> simp
end Go.Proofs.Ytkkifebmicbbaaa.Pi
