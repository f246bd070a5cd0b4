/- The functions that the law reaches: what they answer. Conditions: those that each theorem names. -/
import Derived.Test.YtkkifebmicbbaaaGreatIrFnAdmitted
import Derived.Test.YtkkifebmicbbaaaGreatPlFnAdmitted
namespace Go.Proofs.YtkkifebmicbbaaaGreat.Pi
open Go
set_option linter.all false
open Nat (reduceAdd reduceEqDiff reduceLeDiff reduceSub)
set_option maxHeartbeats 4000000
set_option maxRecDepth 20000
/-- Lengths, all at once. -/
theorem lenS : (∀ {α : Type} (a b : List α), (a ++ b).length = a.length + b.length) ∧ (∀ {α : Type} (n : Nat) (l : List α), (l.take n).length = min n l.length) ∧ (∀ {α : Type} (n : Nat) (x : α), (List.replicate n x).length = n) ∧ (∀ {α β : Type} (f : α → β) (l : List α), (l.map f).length = l.length) ∧ (∀ {α : Type} (l : List α) (n : Nat) (x : α), (l.set n x).length = l.length) ∧ (∀ {α : Type} (x : α) (l : List α), (x :: l).length = l.length + 1) ∧ (∀ {α : Type}, ([] : List α).length = 0) ∧ (∀ {α β γ : Type} (f : α → β → γ) (a : List α) (b : List β), (List.zipWith f a b).length = min a.length b.length) ∧ (∀ {α : Type} (n : Nat) (l : List α), (l.drop n).length = l.length - n) ∧ (∀ (n : Nat), (List.range n).length = n) :=
  ⟨fun _ _ => List.length_append, fun _ _ => List.length_take, fun _ _ => List.length_replicate, fun _ _ => List.length_map _, fun _ _ _ => List.length_set, fun _ _ => List.length_cons, List.length_nil, fun _ _ _ => List.length_zipWith, fun _ _ => List.length_drop, fun _ => List.length_range⟩
theorem wdw (a b : List Int) : C w7n [bys a, bys b] [] = some (.bool (decide (1048576 < (a.length : Int)) || decide (1048576 - (a.length : Int) < b.length)), []) := by
  refine w1b ?_
  simp (maxSteps := 2000000) (disch := first | omega | (simp only [lenS]; try omega)) only [wc4, go_sem, reduceAdd, reduceEqDiff, reduceLeDiff, reduceSub]
  refine ⟨fun h => by simp [h], fun h => ?_⟩
  simp (maxSteps := 2000000) (disch := first | omega | (simp only [lenS]; try omega)) only [go_sem, reduceAdd, reduceEqDiff, reduceLeDiff, reduceSub]
  grind
theorem wew (bs : List Int) (at_ sd : Int) (h0 : 0 ≤ at_) (h1 : at_ < 2^62) (hl : bs.length < 2^62) (hb : ∀ x ∈ bs, 0 ≤ x ∧ x < 256) :
    Lw (C w8m [.ptr 0 0] [.box wg6 [bys bs, I at_, .int .u64 sd]]) fun r => ∃ x sd', r = (I x, [.box wg6 [bys bs, I (at_ + 1), .int .u64 sd']]) ∧ 0 ≤ x ∧ x < 256 := by
  refine w2v ?_
  simp (maxSteps := 2000000) (disch := first | omega | (simp only [lenS]; try omega)) only [wd2, go_sem, reduceAdd, reduceEqDiff, reduceLeDiff, reduceSub]
  refine ⟨fun h => ?_, fun h => ?_⟩
  · have h2 : at_.toNat < bs.length := by omega
    have h3 := hb _ (List.getElem_mem h2)
    simp (maxSteps := 2000000) (disch := first | omega | (simp only [lenS]; try omega)) only [go_sem, reduceAdd, reduceEqDiff, reduceLeDiff, reduceSub]
    exact ⟨_, _, rfl, h3⟩
  · refine ⟨fun _ => ⟨_, _, rfl, by omega, by omega⟩, fun _ => ?_⟩
    generalize hw : IntKind.u64.wrap (IntKind.u64.wrap (IntKind.u64.wrap (sd * 6364136223846793005) + IntKind.u64.wrap 0) + 1442695040888963407) = w
    have hb := z1ao (IntKind.u64.wrap (IntKind.u64.wrap (sd * 6364136223846793005) + IntKind.u64.wrap 0) + 1442695040888963407)
    rw [hw] at hb
    have h3 := z2u (x := w / 2 ^ min (Int.toNat 40) 64) (Int.ediv_nonneg hb.1 (by decide)) (Int.lt_of_le_of_lt (Int.ediv_le_self _ hb.1) hb.2)
    rw [wrap_i64 (by omega) (by omega)]
    exact ⟨_, _, rfl, h3⟩
theorem wey (n : Int) (bs : List Int) (at_ sd : Int) (h0 : 0 ≤ at_) (h1 : at_ < 2^61) (hl : bs.length < 2^62) (hb : ∀ x ∈ bs, 0 ≤ x ∧ x < 256) :
    Lw (C w8o [.ptr 0 0, I n] [.box wg6 [bys bs, I at_, .int .u64 sd]]) fun r => ∃ x at' sd', r = (I x, [.box wg6 [bys bs, I at', .int .u64 sd']]) ∧ at_ ≤ at' ∧ at' ≤ at_ + 2 ∧ 0 ≤ x ∧ (x = 0 ∨ x < n) := by
  refine w2x ?_
  simp (maxSteps := 2000000) (disch := first | omega | (simp only [lenS]; try omega)) only [wd4, go_sem, reduceAdd, reduceEqDiff, reduceLeDiff, reduceSub]
  refine ⟨fun h => ⟨_, _, _, rfl, by omega, by omega, by omega, by omega⟩, fun h => ?_⟩
  obtain ⟨_, e1, x1, s1, rfl, h3, h4⟩ := wew bs at_ sd h0 (by omega) hl hb
  obtain ⟨_, e2, x2, s2, rfl, h5, h6⟩ := wew bs (at_ + 1) s1 (by omega) (by omega) hl hb
  simp (maxSteps := 2000000) (disch := first | omega | (simp only [lenS]; try omega)) only [go_sem, reduceAdd, reduceEqDiff, reduceLeDiff, reduceSub, e1, e2]
  refine ⟨fun _ => ⟨_, _, _, rfl, by omega, by omega, Int.tmod_nonneg _ (by omega), .inr (Int.tmod_lt_of_pos _ (by omega))⟩, fun _ => ⟨_, _, _, rfl, by omega, by omega, Int.tmod_nonneg _ (by omega), .inr (Int.tmod_lt_of_pos _ (by omega))⟩⟩
theorem wf4 (a b : List Int) (j s : Int) (bs : List Int) (at_ sd : Int) (h0 : 0 ≤ at_) (h1 : at_ < 2^59) (hl : bs.length < 2^62) (hb : ∀ x ∈ bs, 0 ≤ x ∧ x < 256) :
    Lw (C w8s [.ptr 0 0, .ref 1 1 0 a.length, .ref 2 1 0 b.length, I j, I s] [.box wg6 [bys bs, I at_, .int .u64 sd], .row t_int true 1 (a.map I), .row t_int true 1 (b.map I)]) fun r => ∃ (ro at' sd' : Int), r = (.agg [I j, I s, .ref 1 1 0 a.length, .ref 2 1 0 b.length, .nil true 1, .nil true 1, I ro], [.box wg6 [bys bs, I at', .int .u64 sd'], .row t_int true 1 (a.map I), .row t_int true 1 (b.map I)]) ∧ at_ ≤ at' ∧ at' ≤ at_ + 2 := by
  obtain ⟨_, e1, x1, a1, s1, rfl, h3, h4, h5, h6⟩ := wey 3 bs at_ sd h0 (by omega) hl hb
  refine w31 ?_
  simp (maxSteps := 2000000) (disch := first | omega | (simp only [lenS]; try omega)) only [wd8, go_sem, reduceAdd, reduceEqDiff, reduceLeDiff, reduceSub]
  simp (maxSteps := 2000000) (disch := first | omega | (simp only [lenS]; try omega)) only [go_sem, reduceAdd, reduceEqDiff, reduceLeDiff, reduceSub, e1]
  exact ⟨x1, a1, s1, rfl, by omega, by omega⟩
theorem wf2 (bs : List Int) (at_ sd : Int) (h0 : 0 ≤ at_) (h1 : at_ < 2^58) (hl : bs.length < 2^62) (hb : ∀ x ∈ bs, 0 ≤ x ∧ x < 256) :
    Lw (C w8q [.ptr 0 0] [.box wg6 [bys bs, I at_, .int .u64 sd]]) fun r => ∃ (s : Spc) (at' sd' : Int), r = (.agg [I s.conds, .un wg1 false 7 (s.tasks.map encK)], [.box wg6 [bys bs, I at', .int .u64 sd']]) ∧ at_ ≤ at' ∧ at' ≤ at_ + 20 ∧ (1 ≤ s.tasks.length ∧ s.tasks.length ≤ 4) ∧ (0 ≤ s.conds ∧ s.conds ≤ 10) ∧ smk 2 s.tasks := by
  obtain ⟨_, e1, x1, a1, s1, rfl, h3, h4, h5, h6⟩ := wey 5 bs at_ sd h0 (by omega) hl hb
  have tk : ∀ (a b : List Int) (j s a0 s0 : Int), at_ ≤ a0 → a0 ≤ at_ + 18 → ∃ (ro a' s' : Int), C w8s [.ptr 0 0, .ref 1 1 0 a.length, .ref 2 1 0 b.length, I j, I s] [.box wg6 [bys bs, I a0, .int .u64 s0], .row t_int true 1 (a.map I), .row t_int true 1 (b.map I)] = some (.agg [I j, I s, .ref 1 1 0 a.length, .ref 2 1 0 b.length, .nil true 1, .nil true 1, I ro], [.box wg6 [bys bs, I a', .int .u64 s'], .row t_int true 1 (a.map I), .row t_int true 1 (b.map I)]) ∧ a0 ≤ a' ∧ a' ≤ a0 + 2 := by
    intro a b j s a0 s0 g1 g2
    obtain ⟨_, f1, ro, a', s', rfl, g3, g4⟩ := wf4 a b j s bs a0 s0 (by omega) (by omega) hl hb
    exact ⟨ro, a', s', f1, g3, g4⟩
  refine w2z ?_
  simp (maxSteps := 2000000) (disch := first | omega | (simp only [lenS]; try omega)) only [wd6, go_sem, reduceAdd, reduceEqDiff, reduceLeDiff, reduceSub]
  simp (maxSteps := 2000000) (disch := first | omega | (simp only [lenS]; try omega)) only [go_sem, reduceAdd, reduceEqDiff, reduceLeDiff, reduceSub, e1]
  refine ⟨fun hx => ?_, fun _ => ⟨fun hx => ?_, fun _ => ⟨fun hx => ?_, fun _ => ⟨fun hx => ?_, fun hx => ?_⟩⟩⟩⟩
  · obtain ⟨r2, a2, s2, e2, g2, g2'⟩ := tk [0] [2] 1 1 a1 s1 (by omega) (by omega)
    obtain ⟨r3, a3, s3, e3, g3, g3'⟩ := tk [2] [1] 1 1 a2 s2 (by omega) (by omega)
    simp only [List.map_cons, List.map_nil, List.length_cons, List.length_nil, Nat.reduceAdd] at e2 e3
    simp (maxSteps := 2000000) (disch := first | omega | (simp only [lenS]; try omega)) only [go_sem, reduceAdd, reduceEqDiff, reduceLeDiff, reduceSub, e2, e3]
    repeat (refine ⟨by decide, ?_⟩)
    exact ⟨⟨3, [⟨1, 1, [0], [2], [], [], r2⟩, ⟨1, 1, [2], [1], [], [], r3⟩]⟩, a3, s3, rfl, by omega, by omega, by simp, by simp, z16l (by simp) (z16l (by simp) (z16n))⟩
  · obtain ⟨r2, a2, s2, e2, g2, g2'⟩ := tk [0] [2, 3] 1 1 a1 s1 (by omega) (by omega)
    obtain ⟨r3, a3, s3, e3, g3, g3'⟩ := tk [2] [4] 1 1 a2 s2 (by omega) (by omega)
    obtain ⟨r4, a4, s4, e4, g4, g4'⟩ := tk [3] [5] 2 2 a3 s3 (by omega) (by omega)
    obtain ⟨r5, a5, s5, e5, g5, g5'⟩ := tk [4, 5] [1] 1 1 a4 s4 (by omega) (by omega)
    simp only [List.map_cons, List.map_nil, List.length_cons, List.length_nil, Nat.reduceAdd] at e2 e3 e4 e5
    simp (maxSteps := 2000000) (disch := first | omega | (simp only [lenS]; try omega)) only [go_sem, reduceAdd, reduceEqDiff, reduceLeDiff, reduceSub, e2, e3, e4, e5]
    repeat (refine ⟨by decide, ?_⟩)
    exact ⟨⟨6, [⟨1, 1, [0], [2, 3], [], [], r2⟩, ⟨1, 1, [2], [4], [], [], r3⟩, ⟨2, 2, [3], [5], [], [], r4⟩, ⟨1, 1, [4, 5], [1], [], [], r5⟩]⟩, a5, s5, rfl, by omega, by omega, by simp, by simp, z16l (by simp) (z16l (by simp) (z16l (by simp) (z16l (by simp) (z16n))))⟩
  · obtain ⟨r2, a2, s2, e2, g2, g2'⟩ := tk [0] [2, 3] 2 2 a1 s1 (by omega) (by omega)
    obtain ⟨r3, a3, s3, e3, g3, g3'⟩ := tk [2, 3] [1] 2 1 a2 s2 (by omega) (by omega)
    simp only [List.map_cons, List.map_nil, List.length_cons, List.length_nil, Nat.reduceAdd] at e2 e3
    simp (maxSteps := 2000000) (disch := first | omega | (simp only [lenS]; try omega)) only [go_sem, reduceAdd, reduceEqDiff, reduceLeDiff, reduceSub, e2, e3]
    repeat (refine ⟨by decide, ?_⟩)
    exact ⟨⟨4, [⟨2, 2, [0], [2, 3], [], [], r2⟩, ⟨2, 1, [2, 3], [1], [], [], r3⟩]⟩, a3, s3, rfl, by omega, by omega, by simp, by simp, z16l (by simp) (z16l (by simp) (z16n))⟩
  · obtain ⟨r2, a2, s2, e2, g2, g2'⟩ := tk [0] [2] 1 1 a1 s1 (by omega) (by omega)
    obtain ⟨r3, a3, s3, e3, g3, g3'⟩ := tk [2, 3] [1, 3] 2 2 a2 s2 (by omega) (by omega)
    simp only [List.map_cons, List.map_nil, List.length_cons, List.length_nil, Nat.reduceAdd] at e2 e3
    simp (maxSteps := 2000000) (disch := first | omega | (simp only [lenS]; try omega)) only [go_sem, reduceAdd, reduceEqDiff, reduceLeDiff, reduceSub, e2, e3]
    repeat (refine ⟨by decide, ?_⟩)
    exact ⟨⟨4, [⟨1, 1, [0], [2], [], [], r2⟩, ⟨2, 2, [2, 3], [1, 3], [], [], r3⟩]⟩, a3, s3, rfl, by omega, by omega, by simp, by simp, z16l (by simp) (z16l (by simp) (z16n))⟩
  · obtain ⟨r2, a2, s2, e2, g2, g2'⟩ := tk [0] [2, 3] 1 1 a1 s1 (by omega) (by omega)
    obtain ⟨r3, a3, s3, e3, g3, g3'⟩ := tk [2] [1] 1 1 a2 s2 (by omega) (by omega)
    obtain ⟨r4, a4, s4, e4, g4, g4'⟩ := tk [3] [1, 3] 1 2 a3 s3 (by omega) (by omega)
    simp only [List.map_cons, List.map_nil, List.length_cons, List.length_nil, Nat.reduceAdd] at e2 e3 e4
    simp (maxSteps := 2000000) (disch := first | omega | (simp only [lenS]; try omega)) only [go_sem, reduceAdd, reduceEqDiff, reduceLeDiff, reduceSub, e2, e3, e4, List.getElem_cons_succ, List.getElem_cons_zero, List.set_cons_succ, List.set_cons_zero, show Int.toNat 1 = 1 from rfl, show Int.toNat 2 = 2 from rfl]
    repeat (refine ⟨by decide, ?_⟩)
    exact ⟨⟨4, [⟨1, 1, [0], [2, 3], [], [], r2⟩, ⟨1, 1, [2], [1], [3], [2], r3⟩, ⟨1, 2, [3], [1, 3], [2], [1], r4⟩]⟩, a4, s4, rfl, by omega, by omega, by simp, by simp, z16l (by simp) (z16l (by simp) (z16l (by simp) (z16n)))⟩
theorem wf9 (l : List Int) (x : Int) (hl : l.length < 2^30) : Lw (C w8x [.ref 0 1 0 l.length, I x] [.row t_int true 1 (l.map I)]) fun r => r = (.un t_int true 1 ((putI l x).map I), [.row t_int true 1 (l.map I)]) ∨ (r = (.ref 0 1 0 l.length, [.row t_int true 1 (l.map I)]) ∧ putI l x = l) := by
  refine w32 ?_
  simp (maxSteps := 2000000) (disch := first | omega | (simp only [lenS]; try omega)) only [wdd, go_sem, reduceAdd, reduceEqDiff, reduceLeDiff, reduceSub]
  refine W_for l.length (fun k s => s = ⟨[.ref 0 1 0 l.length, I x, .any, I k, .any, .any, .any], [.row t_int true 1 (l.map I)]⟩ ∧ (l.take k).all (fun y => decide (y < x)) = true) ?_ ?_ ?_
  · simp (maxSteps := 2000000) (disch := first | omega | (simp only [lenS]; try omega)) only [go_sem, reduceAdd, reduceEqDiff, reduceLeDiff, reduceSub]
    rfl
  · rintro k s hk ⟨rfl, hall⟩
    simp (maxSteps := 2000000) (disch := first | omega | (simp only [lenS]; try omega)) only [go_sem, reduceAdd, reduceEqDiff, reduceLeDiff, reduceSub]
    refine ⟨fun h => ⟨rfl, z2s hk hall (by simpa using h)⟩, fun h => ⟨fun h2 => .inr (zyr hk hall h2), fun h2 => .inl ?_⟩⟩
    rw [zys hall (fun _ => by omega) (by omega)]
    simp
  · rintro s ⟨rfl, hall⟩
    simp (maxSteps := 2000000) (disch := first | omega | (simp only [lenS]; try omega)) only [go_sem, reduceAdd, reduceEqDiff, reduceLeDiff, reduceSub]
    have e := zys hall (fun h => by omega) (by omega)
    refine ⟨fun h => .inl ?_, fun h => .inl ?_⟩
    · rw [e]; simp
    · have : l = [] := List.eq_nil_of_length_eq_zero (by omega)
      subst this; rfl
theorem wez (n least most : Int) (hlm : 0 ≤ least ∧ least ≤ most ∧ most ≤ 20) (bs : List Int) (at_ sd : Int) (h0 : 0 ≤ at_) (h1 : at_ < 2^60) (hl : bs.length < 2^62) (hb : ∀ x ∈ bs, 0 ≤ x ∧ x < 256) :
    Lw (C w8p [.ptr 0 0, I n, I least, I most] [.box wg6 [bys bs, I at_, .int .u64 sd]]) fun r => ∃ (l : List Int) (at' sd' : Int), r = (.un t_int true 1 (l.map I), [.box wg6 [bys bs, I at', .int .u64 sd']]) ∧ at_ ≤ at' ∧ at' ≤ at_ + 50 ∧ l.length ≤ 20 ∧ ∀ x ∈ l, 0 ≤ x ∧ (x = 0 ∨ x < n) := by
  refine w2y ?_
  simp (maxSteps := 2000000) (disch := first | omega | (simp only [lenS]; try omega)) only [wd5, go_sem, reduceAdd, reduceEqDiff, reduceLeDiff, reduceSub]
  obtain ⟨_, e1, x1, a1, s1, rfl, h3, h4, h5, h6⟩ := wey (most - least + 1) bs at_ sd h0 (by omega) hl hb
  simp (maxSteps := 2000000) (disch := first | omega | (simp only [lenS]; try omega)) only [go_sem, reduceAdd, reduceEqDiff, reduceLeDiff, reduceSub, e1]
  refine W_for (least + x1).toNat (fun k s => ∃ (l : List Int) (at' sd' : Int), s = ⟨[.ptr 0 0, I n, .any, .any, .any, .ref 1 1 0 l.length, I (least + x1 - k), .any], [.box wg6 [bys bs, I at', .int .u64 sd'], .row t_int true 1 (l.map I)]⟩ ∧ l.length ≤ k ∧ at_ ≤ at' ∧ at' ≤ at_ + 2 + 2 * k ∧ ∀ x ∈ l, 0 ≤ x ∧ (x = 0 ∨ x < n)) ?_ ?_ ?_
  · refine ⟨[], a1, s1, ?_, by simp, by omega, by omega, by simp⟩
    simp (maxSteps := 2000000) (disch := first | omega | (simp only [lenS]; try omega)) only [go_sem, reduceAdd, reduceEqDiff, reduceLeDiff, reduceSub]
    rw [show least + x1 - ((0 : Nat) : Int) = least + x1 by omega]
  · rintro k s hk ⟨l, a, sd, rfl, h7, h8, h9, h10⟩
    obtain ⟨_, e2, x2, a2, s2, rfl, h11, h12, h13, h14⟩ := wey n bs a sd (by omega) (by omega) hl hb
    have e : least + x1 - ((k + 1 : Nat) : Int) = least + x1 - k - 1 := by omega
    obtain ⟨_, e3, rfl | ⟨rfl, e4⟩⟩ := wf9 l x2 (by omega)
    · simp (maxSteps := 2000000) (disch := first | omega | (simp only [lenS]; try omega)) only [go_sem, reduceAdd, reduceEqDiff, reduceLeDiff, reduceSub, e2, e3]
      have := zyt l x2
      refine ⟨putI l x2, a2, s2, by rw [e], by omega, by omega, by omega, fun y hy => ?_⟩
      rcases zyu hy with hy | rfl
      · exact h10 y hy
      · exact ⟨h13, h14⟩
    · simp (maxSteps := 2000000) (disch := first | omega | (simp only [lenS]; try omega)) only [go_sem, reduceAdd, reduceEqDiff, reduceLeDiff, reduceSub, e2, e3]
      exact ⟨l, a2, s2, by rw [e], by omega, by omega, by omega, h10⟩
  · rintro s ⟨l, a, sd, rfl, h7, h8, h9, h10⟩
    simp (maxSteps := 2000000) (disch := first | omega | (simp only [lenS]; try omega)) only [go_sem, reduceAdd, reduceEqDiff, reduceLeDiff, reduceSub]
    exact ⟨l, a, sd, rfl, by omega, by omega, by omega, h10⟩
theorem wex (n : Int) (bs : List Int) (at_ sd : Int) (h0 : 0 ≤ at_) (h1 : at_ < 2^61) (hl : bs.length < 2^62) (hb : ∀ x ∈ bs, 0 ≤ x ∧ x < 256) :
    Lw (C w8n [.ptr 0 0, I n] [.box wg6 [bys bs, I at_, .int .u64 sd]]) fun r => ∃ x at' sd', r = (.bool x, [.box wg6 [bys bs, I at', .int .u64 sd']]) ∧ at_ ≤ at' ∧ at' ≤ at_ + 2 := by
  refine w2w ?_
  simp (maxSteps := 2000000) (disch := first | omega | (simp only [lenS]; try omega)) only [wd3, go_sem, reduceAdd, reduceEqDiff, reduceLeDiff, reduceSub]
  obtain ⟨_, e1, x1, a1, s1, rfl, h3, h4, h5⟩ := wey n bs at_ sd h0 h1 hl hb
  simp (maxSteps := 2000000) (disch := first | omega | (simp only [lenS]; try omega)) only [go_sem, reduceAdd, reduceEqDiff, reduceLeDiff, reduceSub, e1]
  exact ⟨fun _ => ⟨_, _, _, rfl, h3, h4⟩, fun _ => ⟨_, _, _, rfl, h3, h4⟩⟩
theorem weu (l : List Int) (t : TypeId) (hne : 0 < l.length) (hln : l.length < 2^30) (bs : List Int) (at_ sd : Int) (h0 : 0 ≤ at_) (h1 : at_ < 2^61) (hl : bs.length < 2^62) (hb : ∀ x ∈ bs, 0 ≤ x ∧ x < 256) :
    Lw (C w8k [.ptr 0 0, .ref 1 1 0 l.length] [.box wg6 [bys bs, I at_, .int .u64 sd], .row t true 1 (l.map I)]) fun r => ∃ x at' sd', r = (I x, [.box wg6 [bys bs, I at', .int .u64 sd'], .row t true 1 (l.map I)]) ∧ at_ ≤ at' ∧ at' ≤ at_ + 2 ∧ x ∈ l := by
  refine w2t ?_
  simp (maxSteps := 2000000) (disch := first | omega | (simp only [lenS]; try omega)) only [wd0, go_sem, reduceAdd, reduceEqDiff, reduceLeDiff, reduceSub]
  obtain ⟨_, e1, x1, a1, s1, rfl, h3, h4, h5, h6⟩ := wey l.length bs at_ sd h0 h1 hl hb
  have h7 : x1.toNat < l.length := by omega
  simp (maxSteps := 2000000) (disch := first | omega | (simp only [lenS]; try omega)) only [go_sem, reduceAdd, reduceEqDiff, reduceLeDiff, reduceSub, e1]
  exact ⟨_, _, _, rfl, h3, h4, List.getElem_mem h7⟩
theorem wfa (l : List Int) (x : Int) (hl : l.length < 2^30) : Lw (C w8x [ints l, I x] []) fun r => r = (.un t_int true 1 ((putI l x).map I), []) ∨ (r = (ints l, []) ∧ putI l x = l) := by
  refine w32 ?_
  simp (maxSteps := 2000000) (disch := first | omega | (simp only [lenS]; try omega)) only [wdd, go_sem, reduceAdd, reduceEqDiff, reduceLeDiff, reduceSub]
  refine W_for l.length (fun k s => s = ⟨[ints l, I x, .any, I k, .any, .any, .any], []⟩ ∧ (l.take k).all (fun y => decide (y < x)) = true) ?_ ?_ ?_
  · simp (maxSteps := 2000000) (disch := first | omega | (simp only [lenS]; try omega)) only [go_sem, reduceAdd, reduceEqDiff, reduceLeDiff, reduceSub]
    rfl
  · rintro k s hk ⟨rfl, hall⟩
    simp (maxSteps := 2000000) (disch := first | omega | (simp only [lenS]; try omega)) only [go_sem, reduceAdd, reduceEqDiff, reduceLeDiff, reduceSub]
    refine ⟨fun h => ⟨rfl, z2s hk hall (by simpa using h)⟩, fun h => ⟨fun h2 => .inr (zyr hk hall h2), fun h2 => .inl ?_⟩⟩
    rw [zys hall (fun _ => by omega) (by omega)]
    simp
  · rintro s ⟨rfl, hall⟩
    simp (maxSteps := 2000000) (disch := first | omega | (simp only [lenS]; try omega)) only [go_sem, reduceAdd, reduceEqDiff, reduceLeDiff, reduceSub]
    have e := zys hall (fun h => by omega) (by omega)
    refine .inl ?_
    rw [e]; simp
theorem wf3 (bs : List Int) (at_ sd : Int) (h0 : 0 ≤ at_) (h1 : at_ < 2^57) (hl : bs.length < 2^62) (hb : ∀ x ∈ bs, 0 ≤ x ∧ x < 256) :
    Lw (C w8r [.ptr 0 0] [.box wg6 [bys bs, I at_, .int .u64 sd]]) fun r => ∃ (s : Spc) (at' sd' : Int), r = (.agg [I s.conds, .un wg1 false 7 (s.tasks.map encK)], [.box wg6 [bys bs, I at', .int .u64 sd']]) ∧ at_ ≤ at' ∧ at' ≤ at_ + 200 ∧ drS s := by
  obtain ⟨_, e1, S, a1, s1, rfl, h3, h4, h5, h6, h7⟩ := wf2 bs at_ sd h0 (by omega) hl hb
  obtain ⟨_, e2, x2, a2, s2, rfl, g3, g4, g5, g6⟩ := wey S.tasks.length bs a1 s1 (by omega) (by omega) hl hb
  obtain ⟨_, e3, x3, a3, s3, rfl, k3, k4, k5, k6⟩ := wey 10 bs a2 s2 (by omega) (by omega) hl hb
  have hx2 : x2.toNat < S.tasks.length := by omega
  have hq := h7 _ (List.getElem_mem hx2)
  have h8 : smk 20 S.tasks := z16m (by decide) h7
  have fin : ∀ (a sd : Int), a3 ≤ a → a ≤ a3 + 150 → ∃ (b : Bool) (z : Int) (a' s' a'' s'' : Int), C w8n [.ptr 0 0, I 40] [.box wg6 [bys bs, I a, .int .u64 sd]] = some (.bool b, [.box wg6 [bys bs, I a', .int .u64 s']]) ∧ C w8k [.ptr 0 0, .ref 1 1 0 3] [.box wg6 [bys bs, I a', .int .u64 s'], .row t_int true 1 [I 1, I 8, I 9]] = some (I z, [.box wg6 [bys bs, I a'', .int .u64 s''], .row t_int true 1 [I 1, I 8, I 9]]) ∧ a ≤ a' ∧ a' ≤ a + 2 ∧ a' ≤ a'' ∧ a'' ≤ a' + 2 ∧ 0 ≤ z ∧ z ≤ 9 := by
    intro a sd ha1 ha2
    obtain ⟨_, f1, b, a', s', rfl, j1, j2⟩ := wex 40 bs a sd (by omega) (by omega) hl hb
    obtain ⟨_, f2, z, a'', s'', rfl, j3, j4, j5⟩ := weu [1, 8, 9] t_int (by decide) (by decide) bs a' s' (by omega) (by omega) hl hb
    simp only [List.mem_cons, List.not_mem_nil, or_false] at j5
    exact ⟨b, z, a', s', a'', s'', f1, f2, j1, j2, j3, j4, by omega, by omega⟩
  have cl : ∀ (T : List Tk) (X : List PV) (c a s : Int), X = T.map encK → at_ ≤ a → a ≤ at_ + 200 → T.length = S.tasks.length → 0 ≤ c → c ≤ 20 → smk 20 T → ∃ (s' : Spc) (at' sd' : Int), ((.agg [I c, .un wg1 false 7 X], [.box wg6 [bys bs, I a, .int .u64 s]]) : PV × List Blk) = (.agg [I s'.conds, .un wg1 false 7 (s'.tasks.map encK)], [.box wg6 [bys bs, I at', .int .u64 sd']]) ∧ at_ ≤ at' ∧ at' ≤ at_ + 200 ∧ drS s' := by
    intro T X c a s hX h1 h2 h3 h4 h5 h6
    subst hX
    exact ⟨⟨c, T⟩, a, s, rfl, h1, h2, ⟨by simp only; omega, by simp only; omega, h6⟩⟩
  refine w30 ?_
  simp (maxSteps := 2000000) (disch := first | omega | (simp only [lenS]; try omega)) only [wd7, go_sem, reduceAdd, reduceEqDiff, reduceLeDiff, reduceSub]
  simp (maxSteps := 2000000) (disch := first | omega | (simp only [lenS]; try omega)) only [go_sem, reduceAdd, reduceEqDiff, reduceLeDiff, reduceSub, e1, e2, e3]
  refine ⟨fun hx => ?_, fun _ => ⟨fun hx => ?_, fun _ => ⟨fun hx => ?_, fun _ => ⟨fun hx => ?_, fun _ => ⟨fun hx => ?_, fun _ => ⟨fun hx => ?_, fun _ => ?_⟩⟩⟩⟩⟩⟩
  · obtain ⟨_, f5, x5, a5, s5, rfl, j1, j2, j3, j4⟩ := wey 3 bs a3 s3 (by omega) (by omega) hl hb
    obtain ⟨b, z, a', s', a'', s'', t1, t2, t3, t4, t5, t6, t7, t8⟩ := fin a5 s5 (by omega) (by omega)
    simp (maxSteps := 2000000) (disch := first | omega | (simp only [lenS]; try omega)) only [go_sem, reduceAdd, reduceEqDiff, reduceLeDiff, reduceSub, f5, t1, t2]
    exact ⟨fun _ => cl (S.tasks.set x2.toNat ⟨S.tasks[x2.toNat].join, 1 + x5, S.tasks[x2.toNat].inn, S.tasks[x2.toNat].out, S.tasks[x2.toNat].cut, S.tasks[x2.toNat].stop, S.tasks[x2.toNat].role⟩) _ z a'' s'' (by simp [List.map_set]; try rfl) (by omega) (by omega) (by simp) (by omega) (by omega) (z16o h8 (by simp only [List.length_cons, List.length_nil]; omega)), fun _ => cl (S.tasks.set x2.toNat ⟨S.tasks[x2.toNat].join, 1 + x5, S.tasks[x2.toNat].inn, S.tasks[x2.toNat].out, S.tasks[x2.toNat].cut, S.tasks[x2.toNat].stop, S.tasks[x2.toNat].role⟩) _ S.conds a' s' (by simp [List.map_set]; try rfl) (by omega) (by omega) (by simp) (by omega) (by omega) (z16o h8 (by simp only [List.length_cons, List.length_nil]; omega))⟩
  · obtain ⟨_, f5, x5, a5, s5, rfl, j1, j2, j3, j4⟩ := wey 2 bs a3 s3 (by omega) (by omega) hl hb
    obtain ⟨b, z, a', s', a'', s'', t1, t2, t3, t4, t5, t6, t7, t8⟩ := fin a5 s5 (by omega) (by omega)
    simp (maxSteps := 2000000) (disch := first | omega | (simp only [lenS]; try omega)) only [go_sem, reduceAdd, reduceEqDiff, reduceLeDiff, reduceSub, f5, t1, t2]
    exact ⟨fun _ => cl (S.tasks.set x2.toNat ⟨1 + x5, S.tasks[x2.toNat].split, S.tasks[x2.toNat].inn, S.tasks[x2.toNat].out, S.tasks[x2.toNat].cut, S.tasks[x2.toNat].stop, S.tasks[x2.toNat].role⟩) _ z a'' s'' (by simp [List.map_set]; try rfl) (by omega) (by omega) (by simp) (by omega) (by omega) (z16o h8 (by simp only [List.length_cons, List.length_nil]; omega)), fun _ => cl (S.tasks.set x2.toNat ⟨1 + x5, S.tasks[x2.toNat].split, S.tasks[x2.toNat].inn, S.tasks[x2.toNat].out, S.tasks[x2.toNat].cut, S.tasks[x2.toNat].stop, S.tasks[x2.toNat].role⟩) _ S.conds a' s' (by simp [List.map_set]; try rfl) (by omega) (by omega) (by simp) (by omega) (by omega) (z16o h8 (by simp only [List.length_cons, List.length_nil]; omega))⟩
  · obtain ⟨_, f5, x5, a5, s5, rfl, j1, j2, j3, j4⟩ := wey S.conds bs a3 s3 (by omega) (by omega) hl hb
    obtain ⟨b, z, a', s', a'', s'', t1, t2, t3, t4, t5, t6, t7, t8⟩ := fin a5 s5 (by omega) (by omega)
    have hpl := zyt S.tasks[x2.toNat].out x5
    obtain ⟨_, f6, rfl | ⟨rfl, f7⟩⟩ := wfa S.tasks[x2.toNat].out x5 (by omega)
    · simp (maxSteps := 2000000) (disch := first | omega | (simp only [lenS]; try omega)) only [go_sem, reduceAdd, reduceEqDiff, reduceLeDiff, reduceSub, f5, f6, t1, t2]
      refine ⟨rfl, ?_⟩
      exact ⟨fun _ => cl (S.tasks.set x2.toNat ⟨S.tasks[x2.toNat].join, S.tasks[x2.toNat].split, S.tasks[x2.toNat].inn, putI S.tasks[x2.toNat].out x5, S.tasks[x2.toNat].cut, S.tasks[x2.toNat].stop, S.tasks[x2.toNat].role⟩) _ z a'' s'' (by simp [List.map_set]; try rfl) (by omega) (by omega) (by simp) (by omega) (by omega) (z16o h8 (by simp only [List.length_cons, List.length_nil]; omega)), fun _ => cl (S.tasks.set x2.toNat ⟨S.tasks[x2.toNat].join, S.tasks[x2.toNat].split, S.tasks[x2.toNat].inn, putI S.tasks[x2.toNat].out x5, S.tasks[x2.toNat].cut, S.tasks[x2.toNat].stop, S.tasks[x2.toNat].role⟩) _ S.conds a' s' (by simp [List.map_set]; try rfl) (by omega) (by omega) (by simp) (by omega) (by omega) (z16o h8 (by simp only [List.length_cons, List.length_nil]; omega))⟩
    · simp (maxSteps := 2000000) (disch := first | omega | (simp only [lenS]; try omega)) only [go_sem, reduceAdd, reduceEqDiff, reduceLeDiff, reduceSub, f5, f6, t1, t2]
      refine ⟨rfl, ?_⟩
      exact ⟨fun _ => cl (S.tasks.set x2.toNat ⟨S.tasks[x2.toNat].join, S.tasks[x2.toNat].split, S.tasks[x2.toNat].inn, S.tasks[x2.toNat].out, S.tasks[x2.toNat].cut, S.tasks[x2.toNat].stop, S.tasks[x2.toNat].role⟩) _ z a'' s'' (by simp [List.map_set]; try rfl) (by omega) (by omega) (by simp) (by omega) (by omega) (z16o h8 (by simp only [List.length_cons, List.length_nil]; omega)), fun _ => cl (S.tasks.set x2.toNat ⟨S.tasks[x2.toNat].join, S.tasks[x2.toNat].split, S.tasks[x2.toNat].inn, S.tasks[x2.toNat].out, S.tasks[x2.toNat].cut, S.tasks[x2.toNat].stop, S.tasks[x2.toNat].role⟩) _ S.conds a' s' (by simp [List.map_set]; try rfl) (by omega) (by omega) (by simp) (by omega) (by omega) (z16o h8 (by simp only [List.length_cons, List.length_nil]; omega))⟩
  · obtain ⟨_, f5, x5, a5, s5, rfl, j1, j2, j3, j4⟩ := wey S.conds bs a3 s3 (by omega) (by omega) hl hb
    obtain ⟨b, z, a', s', a'', s'', t1, t2, t3, t4, t5, t6, t7, t8⟩ := fin a5 s5 (by omega) (by omega)
    have hpl := zyt S.tasks[x2.toNat].inn x5
    obtain ⟨_, f6, rfl | ⟨rfl, f7⟩⟩ := wfa S.tasks[x2.toNat].inn x5 (by omega)
    · simp (maxSteps := 2000000) (disch := first | omega | (simp only [lenS]; try omega)) only [go_sem, reduceAdd, reduceEqDiff, reduceLeDiff, reduceSub, f5, f6, t1, t2]
      refine ⟨rfl, ?_⟩
      exact ⟨fun _ => cl (S.tasks.set x2.toNat ⟨S.tasks[x2.toNat].join, S.tasks[x2.toNat].split, putI S.tasks[x2.toNat].inn x5, S.tasks[x2.toNat].out, S.tasks[x2.toNat].cut, S.tasks[x2.toNat].stop, S.tasks[x2.toNat].role⟩) _ z a'' s'' (by simp [List.map_set]; try rfl) (by omega) (by omega) (by simp) (by omega) (by omega) (z16o h8 (by simp only [List.length_cons, List.length_nil]; omega)), fun _ => cl (S.tasks.set x2.toNat ⟨S.tasks[x2.toNat].join, S.tasks[x2.toNat].split, putI S.tasks[x2.toNat].inn x5, S.tasks[x2.toNat].out, S.tasks[x2.toNat].cut, S.tasks[x2.toNat].stop, S.tasks[x2.toNat].role⟩) _ S.conds a' s' (by simp [List.map_set]; try rfl) (by omega) (by omega) (by simp) (by omega) (by omega) (z16o h8 (by simp only [List.length_cons, List.length_nil]; omega))⟩
    · simp (maxSteps := 2000000) (disch := first | omega | (simp only [lenS]; try omega)) only [go_sem, reduceAdd, reduceEqDiff, reduceLeDiff, reduceSub, f5, f6, t1, t2]
      refine ⟨rfl, ?_⟩
      exact ⟨fun _ => cl (S.tasks.set x2.toNat ⟨S.tasks[x2.toNat].join, S.tasks[x2.toNat].split, S.tasks[x2.toNat].inn, S.tasks[x2.toNat].out, S.tasks[x2.toNat].cut, S.tasks[x2.toNat].stop, S.tasks[x2.toNat].role⟩) _ z a'' s'' (by simp [List.map_set]; try rfl) (by omega) (by omega) (by simp) (by omega) (by omega) (z16o h8 (by simp only [List.length_cons, List.length_nil]; omega)), fun _ => cl (S.tasks.set x2.toNat ⟨S.tasks[x2.toNat].join, S.tasks[x2.toNat].split, S.tasks[x2.toNat].inn, S.tasks[x2.toNat].out, S.tasks[x2.toNat].cut, S.tasks[x2.toNat].stop, S.tasks[x2.toNat].role⟩) _ S.conds a' s' (by simp [List.map_set]; try rfl) (by omega) (by omega) (by simp) (by omega) (by omega) (z16o h8 (by simp only [List.length_cons, List.length_nil]; omega))⟩
  · obtain ⟨_, f5, l5, a5, s5, rfl, j1, j2, j3, j4⟩ := wez S.conds 0 2 (by omega) bs a3 s3 (by omega) (by omega) hl hb
    obtain ⟨b, z, a', s', a'', s'', t1, t2, t3, t4, t5, t6, t7, t8⟩ := fin a5 s5 (by omega) (by omega)
    simp (maxSteps := 2000000) (disch := first | omega | (simp only [lenS]; try omega)) only [go_sem, reduceAdd, reduceEqDiff, reduceLeDiff, reduceSub, f5, t1, t2]
    exact ⟨fun _ => cl (S.tasks.set x2.toNat ⟨S.tasks[x2.toNat].join, S.tasks[x2.toNat].split, S.tasks[x2.toNat].inn, S.tasks[x2.toNat].out, l5, S.tasks[x2.toNat].stop, S.tasks[x2.toNat].role⟩) _ z a'' s'' (by simp [List.map_set]; try rfl) (by omega) (by omega) (by simp) (by omega) (by omega) (z16o h8 (by simp only [List.length_cons, List.length_nil]; omega)), fun _ => cl (S.tasks.set x2.toNat ⟨S.tasks[x2.toNat].join, S.tasks[x2.toNat].split, S.tasks[x2.toNat].inn, S.tasks[x2.toNat].out, l5, S.tasks[x2.toNat].stop, S.tasks[x2.toNat].role⟩) _ S.conds a' s' (by simp [List.map_set]; try rfl) (by omega) (by omega) (by simp) (by omega) (by omega) (z16o h8 (by simp only [List.length_cons, List.length_nil]; omega))⟩
  · obtain ⟨_, f5, x5, a5, s5, rfl, j1, j2, j3, j4⟩ := wey S.tasks.length bs a3 s3 (by omega) (by omega) hl hb
    obtain ⟨b, z, a', s', a'', s'', t1, t2, t3, t4, t5, t6, t7, t8⟩ := fin a5 s5 (by omega) (by omega)
    simp (maxSteps := 2000000) (disch := first | omega | (simp only [lenS]; try omega)) only [go_sem, reduceAdd, reduceEqDiff, reduceLeDiff, reduceSub, f5, t1, t2]
    exact ⟨fun _ => cl (S.tasks.set x2.toNat ⟨S.tasks[x2.toNat].join, S.tasks[x2.toNat].split, S.tasks[x2.toNat].inn, S.tasks[x2.toNat].out, S.tasks[x2.toNat].cut, [x5], S.tasks[x2.toNat].role⟩) _ z a'' s'' (by simp [List.map_set]; try rfl) (by omega) (by omega) (by simp) (by omega) (by omega) (z16o h8 (by simp only [List.length_cons, List.length_nil]; omega)), fun _ => cl (S.tasks.set x2.toNat ⟨S.tasks[x2.toNat].join, S.tasks[x2.toNat].split, S.tasks[x2.toNat].inn, S.tasks[x2.toNat].out, S.tasks[x2.toNat].cut, [x5], S.tasks[x2.toNat].role⟩) _ S.conds a' s' (by simp [List.map_set]; try rfl) (by omega) (by omega) (by simp) (by omega) (by omega) (z16o h8 (by simp only [List.length_cons, List.length_nil]; omega))⟩
  · obtain ⟨b, z, a', s', a'', s'', t1, t2, t3, t4, t5, t6, t7, t8⟩ := fin a3 s3 (by omega) (by omega)
    simp (maxSteps := 2000000) (disch := first | omega | (simp only [lenS]; try omega)) only [go_sem, reduceAdd, reduceEqDiff, reduceLeDiff, reduceSub, t1, t2]
    exact ⟨fun _ => cl S.tasks _ z a'' s'' (by simp [List.map_set]; try rfl) (by omega) (by omega) (by simp) (by omega) (by omega) h8, fun _ => cl S.tasks _ S.conds a' s' (by simp [List.map_set]; try rfl) (by omega) (by omega) (by simp) (by omega) (by omega) h8⟩
theorem wev (bs : List Int) (at_ sd : Int) (h0 : 0 ≤ at_) (h1 : at_ < 2^60) (hl : bs.length < 2^62) (hb : ∀ x ∈ bs, 0 ≤ x ∧ x < 256) :
    Lw (C w8l [.ptr 0 0] [.box wg6 [bys bs, I at_, .int .u64 sd]]) fun r => ∃ (x at' sd' : Int), r = (I x, [.box wg6 [bys bs, I at', .int .u64 sd']]) ∧ at_ ≤ at' ∧ at' ≤ at_ + 2 ∧ 0 ≤ x ∧ x ≤ 401 := by
  obtain ⟨_, e3, x3, a3, s3, rfl, h11, h12, h13⟩ := weu [1, 5, 20, 100, 100, 400, 401, 0] t_int (by decide) (by decide) bs at_ sd h0 (by omega) hl hb
  simp only [go_sem, Nat.reduceAdd] at e3
  refine w2u ?_
  simp (maxSteps := 2000000) (disch := first | omega | (simp only [lenS]; try omega)) only [wd1, go_sem, reduceAdd, reduceEqDiff, reduceLeDiff, reduceSub]
  simp (maxSteps := 2000000) (disch := first | omega | (simp only [lenS]; try omega)) only [go_sem, reduceAdd, reduceEqDiff, reduceLeDiff, reduceSub, e3]
  simp only [List.mem_cons, List.not_mem_nil, or_false] at h13
  exact ⟨_, _, _, rfl, h11, h12, by omega, by omega⟩
theorem weg (a : List Int) (hl : a.length < 2^62) (hb : ∀ x ∈ a, 0 ≤ x ∧ x < 256) : Lw (C w86 [bys a] []) fun r => ∃ (s : Spc) (k : Int), r = (.tup [.agg [I s.conds, .un wg1 false 7 (s.tasks.map encK)], I k], []) ∧ drS s := by
  obtain ⟨_, e1, S, a1, s1, rfl, h3, h4, h5⟩ := wf3 a 0 0 (by omega) (by omega) hl hb
  obtain ⟨_, e2, x2, a2, s2, rfl, g3, g4, g5, g6⟩ := wev a a1 s1 (by omega) (by omega) hl hb
  refine w2s ?_
  simp (maxSteps := 2000000) (disch := first | omega | (simp only [lenS]; try omega)) only [wcm, go_sem, reduceAdd, reduceEqDiff, reduceLeDiff, reduceSub]
  simp (maxSteps := 2000000) (disch := first | omega | (simp only [lenS]; try omega)) only [go_sem, reduceAdd, reduceEqDiff, reduceLeDiff, reduceSub, e1, e2]
  first | exact ⟨rfl, S, x2, rfl, h5⟩ | exact ⟨S, x2, rfl, h5⟩
theorem waq (n lo hi : Int) : C w7l [I n, I lo, I hi] [] = some (.bool (inB lo hi n), []) := by
  refine w19 ?_
  simp (maxSteps := 2000000) (disch := first | omega | (simp only [lenS]; try omega)) only [wc2, go_sem, reduceAdd, reduceEqDiff, reduceLeDiff, reduceSub]
  unfold inB; grind
theorem wa8 (l : List Int) (hl : l.length < 2^62) : C w74 [ints l] [] = some (.bool (incr l), []) := by
  refine w0s ?_
  simp (maxSteps := 2000000) (disch := first | omega | (simp only [lenS]; try omega)) only [wbl, go_sem, reduceAdd, reduceEqDiff, reduceLeDiff, reduceSub]
  refine W_for (l.length - 1) (fun k s => s = ⟨[ints l, .any, I (k + 1 : Int), .any, .any], []⟩ ∧ (l.take (k + 1)).Pairwise (· < ·)) ?_ ?_ ?_
  · simp (maxSteps := 2000000) (disch := first | omega | (simp only [lenS]; try omega)) only [go_sem, reduceAdd, reduceEqDiff, reduceLeDiff, reduceSub]
    exact ⟨rfl, zk3⟩
  · rintro k s hk ⟨rfl, hp⟩
    simp (maxSteps := 2000000) (disch := first | omega | (simp only [lenS]; try omega)) only [go_sem, reduceAdd, reduceEqDiff, reduceLeDiff, reduceSub]
    have e1 : ((k : Int) + 1).toNat = k + 1 := by omega
    have e2 : ((k : Int) + 1 - 1).toNat = k := by omega
    simp only [e1, e2]
    refine ⟨fun h => by rw [zk2 (k := k) (by omega) (by omega)], fun h => ⟨rfl, zk5 (by omega) hp h⟩⟩
  · rintro s ⟨rfl, hp⟩
    simp (maxSteps := 2000000) (disch := first | omega | (simp only [lenS]; try omega)) only [go_sem, reduceAdd, reduceEqDiff, reduceLeDiff, reduceSub]
    rw [z19h (by omega)] at hp
    rw [show incr l = true by simpa [incr] using hp]
theorem w9x (l : List Int) (lo hi : Int) (hl : l.length < 2^62) : C w6t [ints l, I lo, I hi] [] = some (.bool (l.all (inB lo hi)), []) := by
  refine w0h ?_
  simp (maxSteps := 2000000) (disch := first | omega | (simp only [lenS]; try omega)) only [wba, go_sem, reduceAdd, reduceEqDiff, reduceLeDiff, reduceSub]
  refine W_for l.length (fun k s => s = ⟨[.any, I lo, I hi, .any, .any, ints l, I l.length, I k, .any, .any], []⟩ ∧ (l.take k).all (inB lo hi) = true) ?_ ?_ ?_
  · simp (maxSteps := 2000000) (disch := first | omega | (simp only [lenS]; try omega)) only [go_sem, reduceAdd, reduceEqDiff, reduceLeDiff, reduceSub]
    rfl
  · rintro k s hk ⟨rfl, hall⟩
    simp (maxSteps := 2000000) (disch := first | omega | (simp only [lenS]; try omega)) only [go_sem, reduceAdd, reduceEqDiff, reduceLeDiff, reduceSub, waq]
    exact ⟨fun h => ⟨rfl, z2s hk hall h⟩, fun h => by rw [z2r hk h]⟩
  · rintro s ⟨rfl, hall⟩
    simp (maxSteps := 2000000) (disch := first | omega | (simp only [lenS]; try omega)) only [go_sem, reduceAdd, reduceEqDiff, reduceLeDiff, reduceSub]
    rw [List.take_length] at hall
    rw [hall]
theorem w9y (s : Spc) (l : List Int) (f : Int) (hl : l.length < 2^62) (hc : 2 ≤ s.conds ∧ s.conds ≤ 8) : C w6u [encS s, ints l, I f] [] = some (.bool (incr l && l.all (inB f (s.conds - 1))), []) := by
  refine w0i ?_
  simp (maxSteps := 2000000) (disch := first | omega | (simp only [lenS]; try omega)) only [wbb, go_sem, reduceAdd, reduceEqDiff, reduceLeDiff, reduceSub]
  simp (maxSteps := 2000000) (disch := first | omega | (simp only [lenS]; try omega)) only [go_sem, reduceAdd, reduceEqDiff, reduceLeDiff, reduceSub, wa8 l hl, w9x l _ _ hl]
  grind
theorem web (l : List Int) (x : Int) (hl : l.length < 2^62) : C w82 [ints l, I x] [] = some (I (idxI l (fun y => y == x)), []) := by
  refine w1p ?_
  simp (maxSteps := 2000000) (disch := first | omega | (simp only [lenS]; try omega)) only [wci, go_sem, reduceAdd, reduceEqDiff, reduceLeDiff, reduceSub]
  refine W_for l.length (fun k s => s = ⟨[ints l, I x, .any, .any, I l.length, I k, .any, .any], []⟩ ∧ (l.take k).any (fun y => y == x) = false) ?_ ?_ ?_
  · simp (maxSteps := 2000000) (disch := first | omega | (simp only [lenS]; try omega)) only [go_sem, reduceAdd, reduceEqDiff, reduceLeDiff, reduceSub]
    rfl
  · rintro k s hk ⟨rfl, hall⟩
    simp (maxSteps := 2000000) (disch := first | omega | (simp only [lenS]; try omega)) only [go_sem, reduceAdd, reduceEqDiff, reduceLeDiff, reduceSub]
    refine ⟨fun h => ?_, fun h => ⟨rfl, z37 hk hall (by simpa using fun e => h e.symm)⟩⟩
    rw [zhy hk hall (by simpa using h.symm)]
  · rintro s ⟨rfl, hall⟩
    simp (maxSteps := 2000000) (disch := first | omega | (simp only [lenS]; try omega)) only [go_sem, reduceAdd, reduceEqDiff, reduceLeDiff, reduceSub]
    rw [List.take_length] at hall
    rw [zhx hall]
theorem we4 (l : List Int) (x : Int) (hl : l.length < 2^62) : C w7v [ints l, I x] [] = some (.bool (hasB l x), []) := by
  refine w1i ?_
  simp (maxSteps := 2000000) (disch := first | omega | (simp only [lenS]; try omega)) only [wcb, go_sem, reduceAdd, reduceEqDiff, reduceLeDiff, reduceSub]
  simp (maxSteps := 2000000) (disch := first | omega | (simp only [lenS]; try omega)) only [go_sem, reduceAdd, reduceEqDiff, reduceLeDiff, reduceSub, web l x hl]
  have := zhv l (fun y => y == x)
  rw [zhi, this]
  exact ⟨fun h => by simp [h], fun h => by rw [decide_eq_false (by omega)]⟩
theorem wae (s : Spc) (k : Nat) (hk : k < s.tasks.length) (hl : s.tasks.length ≤ 6) (hc : 2 ≤ s.conds ∧ s.conds ≤ 8) (ht : smTk s.tasks[k]) : C w7a [encS s, I k] [] = some (.bool (goodK s k s.tasks[k]), []) := by
  obtain ⟨a, b, c, d⟩ := ht
  refine w0y ?_
  simp (maxSteps := 2000000) (disch := first | omega | (simp only [lenS]; try omega)) only [wbr, go_sem, reduceAdd, reduceEqDiff, reduceLeDiff, reduceSub]
  unfold goodK
  generalize hT : s.tasks[k] = t at *
  simp (maxSteps := 2000000) (disch := first | omega | (simp only [lenS]; try omega)) only [go_sem, reduceAdd, reduceEqDiff, reduceLeDiff, reduceSub, hT, waq, w9y s _ _ _ hc, wa8, w9x, we4]
  generalize t.inn.all (inB 0 (s.conds - 1)) = q1
  generalize t.out.all (inB 0 (s.conds - 1)) = q2
  generalize t.cut.all (inB 2 (s.conds - 1)) = q3
  generalize t.stop.all (inB 0 ((s.tasks.length : Int) - 1)) = q4
  (repeat' (first | apply And.intro | intro _)) <;> simp_all
theorem waf (s : Spc) (h : zt9 s = true) : C w7b [encS s] [] = some (.un wfx true 3 ((mvS s).map encM), []) := by
  obtain ⟨hc, hn, hg⟩ := zta h
  have shl1 : IntKind.i64.wrap (1 * 2 ^ min 1 64) = 2 := by decide
  have shl2 : IntKind.i64.wrap (1 * 2 ^ min 2 64) = 4 := by decide
  have shl3 : IntKind.i64.wrap (1 * 2 ^ min 3 64) = 8 := by decide
  refine w0z ?_
  simp (maxSteps := 2000000) (disch := first | omega | (simp only [lenS]; try omega)) only [wbs, go_sem, reduceAdd, reduceEqDiff, reduceLeDiff, reduceSub]
  refine W_for s.tasks.length (fun k st => st = ⟨[.any, .any, .any, .ref 0 3 0 (mvU s k).length, .any, .any, .any, .any, .any, tks s.tasks, I s.tasks.length, I k, .any, .any, .any, .any, .any, .any, .any, .any, .any], [.row wfx true 3 ((mvU s k).map encM)]⟩) ?_ ?_ ?_
  · simp (maxSteps := 2000000) (disch := first | omega | (simp only [lenS]; try omega)) only [go_sem, reduceAdd, reduceEqDiff, reduceLeDiff, reduceSub]
    rfl
  · rintro k st hk rfl
    have hK := hg k hk
    have hl := zr7 h k (by omega)
    have hbl := z52 hK
    have hel := zbl hK
    have hU := zr9 s k
    have hB : (z50 (tkN s k)).length = if (tkN s k).join = 2 then (tkN s k).inn.length else 1 := by unfold z50; split <;> simp
    have hE : (endL (tkN s k)).length = if (tkN s k).split = 2 then (tkN s k).out.length else if (tkN s k).split = 3 then 2 ^ (tkN s k).out.length - 1 else 1 := by unfold endL; (repeat' split) <;> simp
    have hF : endF (tkN s k) = if (tkN s k).split = 2 then 0 else if (tkN s k).split = 3 then 1 else 0 := rfl
    unfold mvK at hU
    have heq := z19s hk
    rw [hU]
    simp (maxSteps := 2000000) (disch := first | omega | (simp only [lenS]; try omega)) only [go_sem, reduceAdd, reduceEqDiff, reduceLeDiff, reduceSub]
    rw [← heq]
    generalize tkN s k = t at *
    obtain ⟨hj, hs, h1, h2, -, -, -, -, -, -⟩ := zgk hK
    have hp := zxz h2.1 h2.2
    generalize mvU s k = U at *
    generalize hN : (z50 t).length = nb at *
    generalize hM : (endL t).length = ne at *
    refine W_for (nb - 1) (fun j st => st = ⟨[.any, .any, .any, .ref 0 3 0 (U.length + (j + 1)), I k, .ptr 1 0, I (j + 1 : Int), .any, .any, tks s.tasks, I s.tasks.length, I k, .any, .any, .any, .any, .any, .any, .any, .any, .any], [.row wfx true 3 ((U ++ mvB k (j + 1)).map encM), .box wg1 [I t.join, I t.split, ints t.inn, ints t.out, ints t.cut, ints t.stop, I t.role]]⟩) ?_ ?_ ?_
    · simp (maxSteps := 2000000) (disch := first | omega | (simp only [lenS]; try omega)) only [go_sem, reduceAdd, reduceEqDiff, reduceLeDiff, reduceSub]
      simp [mvB]
    · rintro j st hjj rfl
      have hj2 : t.join = 2 := by
        rcases hj with hj | hj
        · simp [hj] at hB; omega
        · exact hj
      simp [hj2] at hB
      have := zqy k (j + 1)
      simp (maxSteps := 2000000) (disch := first | omega | (simp only [lenS]; try omega)) only [go_sem, reduceAdd, reduceEqDiff, reduceLeDiff, reduceSub, hj2, this]
      rw [zqz k (j + 1)]
      simp
      omega
    · rintro st rfl
      have e1 : nb - 1 + 1 = nb := by omega
      rw [e1]
      have e2 : ((nb - 1 : Nat) : Int) + 1 = nb := by omega
      rw [e2]
      have e3 := zqy k nb
      have hj3 : t.join = 2 → nb = t.inn.length := fun e => by simpa [e] using hB
      have e4 : (U ++ mvB k nb).length = U.length + nb := by simp [e3]
      generalize hV : U ++ mvB k nb = V at *
      rw [← List.append_assoc, hV, ← e4]
      have hVl : V.length ≤ 100 := by omega
      clear hB hV hN hM hU
      rcases hs with hs | hs | hs
      · have hne : ne = 1 := by simpa [hs] using hE
        have hF0 : endF t = 0 := by simpa [hs] using hF
        subst hne
        rcases hj with hj | hj
        · simp (maxSteps := 2000000) (disch := first | omega | (simp only [lenS]; try omega)) only [go_sem, reduceAdd, reduceEqDiff, reduceLeDiff, reduceSub, hj, hs]
          simp [hF0, mvE]
        · have := hj3 hj
          simp (maxSteps := 2000000) (disch := first | omega | (simp only [lenS]; try omega)) only [go_sem, reduceAdd, reduceEqDiff, reduceLeDiff, reduceSub, hj, hs]
          simp [hF0, mvE]
      · have hne : ne = t.out.length := by simpa [hs] using hE
        have hF0 : endF t = 0 := by simpa [hs] using hF
        rcases hj with hj | hj
        · simp (maxSteps := 2000000) (disch := first | omega | (simp only [lenS]; try omega)) only [go_sem, reduceAdd, reduceEqDiff, reduceLeDiff, reduceSub, hj, hs]
          refine W_for ne (fun i st => st = ⟨[.any, .any, .any, .ref 0 3 0 (V.length + i), I k, .any, .any, .any, .any, tks s.tasks, I s.tasks.length, I k, .any, .any, .any, .any, .any, .any, I ne, I i, .any], [.row wfx true 3 ((V ++ mvE k 0 i).map encM)]⟩) ?_ ?_ ?_
          · simp (maxSteps := 2000000) (disch := first | omega | (simp only [lenS]; try omega)) only [go_sem, reduceAdd, reduceEqDiff, reduceLeDiff, reduceSub]
            simp [mvE, hne]
          · rintro i st hi rfl
            have := zr0 k 0 i
            simp (maxSteps := 2000000) (disch := first | omega | (simp only [lenS]; try omega)) only [go_sem, reduceAdd, reduceEqDiff, reduceLeDiff, reduceSub, this]
            rw [zr1]
            simp
            omega
          · rintro st rfl
            have := zr0 k 0 ne
            simp (maxSteps := 2000000) (disch := first | omega | (simp only [lenS]; try omega)) only [go_sem, reduceAdd, reduceEqDiff, reduceLeDiff, reduceSub, this]
            simp [hF0, this]
        · have := hj3 hj
          simp (maxSteps := 2000000) (disch := first | omega | (simp only [lenS]; try omega)) only [go_sem, reduceAdd, reduceEqDiff, reduceLeDiff, reduceSub, hj, hs]
          refine W_for ne (fun i st => st = ⟨[.any, .any, .any, .ref 0 3 0 (V.length + i), I k, .any, .any, .any, .any, tks s.tasks, I s.tasks.length, I k, .any, .any, .any, .any, .any, .any, I ne, I i, .any], [.row wfx true 3 ((V ++ mvE k 0 i).map encM)]⟩) ?_ ?_ ?_
          · simp (maxSteps := 2000000) (disch := first | omega | (simp only [lenS]; try omega)) only [go_sem, reduceAdd, reduceEqDiff, reduceLeDiff, reduceSub]
            simp [mvE, hne]
          · rintro i st hi rfl
            have := zr0 k 0 i
            simp (maxSteps := 2000000) (disch := first | omega | (simp only [lenS]; try omega)) only [go_sem, reduceAdd, reduceEqDiff, reduceLeDiff, reduceSub, this]
            rw [zr1]
            simp
            omega
          · rintro st rfl
            have := zr0 k 0 ne
            simp (maxSteps := 2000000) (disch := first | omega | (simp only [lenS]; try omega)) only [go_sem, reduceAdd, reduceEqDiff, reduceLeDiff, reduceSub, this]
            simp [hF0, this]
      · have hne : ne = 2 ^ t.out.length - 1 := by simpa [hs] using hE
        have hF0 : endF t = 1 := by simpa [hs] using hF
        rcases hj with hj | hj
        · simp (maxSteps := 2000000) (disch := first | omega | (simp only [lenS]; try omega)) only [go_sem, reduceAdd, reduceEqDiff, reduceLeDiff, reduceSub, hj, hs]
          refine W_for ne (fun i st => st = ⟨[.any, .any, .any, .ref 0 3 0 (V.length + i), I k, .ptr 1 0, .any, .any, I (i + 1 : Int), tks s.tasks, I s.tasks.length, I k, .any, .any, .any, .any, .any, .any, .any, .any, .any], [.row wfx true 3 ((V ++ mvE k 1 i).map encM), .box wg1 [I t.join, I t.split, ints t.inn, ints t.out, ints t.cut, ints t.stop, I t.role]]⟩) ?_ ?_ ?_
          · simp (maxSteps := 2000000) (disch := first | omega | (simp only [lenS]; try omega)) only [go_sem, reduceAdd, reduceEqDiff, reduceLeDiff, reduceSub]
            simp [mvE, hj, hs]
          · rintro i st hi rfl
            have e := zr0 k 1 i
            have e5 : t.out.length = 1 ∨ t.out.length = 2 ∨ t.out.length = 3 := by omega
            rcases e5 with e5 | e5 | e5
            all_goals
              simp only [e5] at hne
              simp (maxSteps := 2000000) (disch := first | omega | (simp only [lenS]; try omega)) only [go_sem, reduceAdd, reduceEqDiff, reduceLeDiff, reduceSub, e, e5, shl1, shl2, shl3]
              rw [zr1]
              simp
              omega
          · rintro st rfl
            have e := zr0 k 1 ne
            have e5 : t.out.length = 1 ∨ t.out.length = 2 ∨ t.out.length = 3 := by omega
            rcases e5 with e5 | e5 | e5
            all_goals
              simp only [e5] at hne
              simp (maxSteps := 2000000) (disch := first | omega | (simp only [lenS]; try omega)) only [go_sem, reduceAdd, reduceEqDiff, reduceLeDiff, reduceSub, e, e5, shl1, shl2, shl3]
              simp [hF0, e]
        · have := hj3 hj
          simp (maxSteps := 2000000) (disch := first | omega | (simp only [lenS]; try omega)) only [go_sem, reduceAdd, reduceEqDiff, reduceLeDiff, reduceSub, hj, hs]
          refine W_for ne (fun i st => st = ⟨[.any, .any, .any, .ref 0 3 0 (V.length + i), I k, .ptr 1 0, .any, .any, I (i + 1 : Int), tks s.tasks, I s.tasks.length, I k, .any, .any, .any, .any, .any, .any, .any, .any, .any], [.row wfx true 3 ((V ++ mvE k 1 i).map encM), .box wg1 [I t.join, I t.split, ints t.inn, ints t.out, ints t.cut, ints t.stop, I t.role]]⟩) ?_ ?_ ?_
          · simp (maxSteps := 2000000) (disch := first | omega | (simp only [lenS]; try omega)) only [go_sem, reduceAdd, reduceEqDiff, reduceLeDiff, reduceSub]
            simp [mvE, hj, hs]
          · rintro i st hi rfl
            have e := zr0 k 1 i
            have e5 : t.out.length = 1 ∨ t.out.length = 2 ∨ t.out.length = 3 := by omega
            rcases e5 with e5 | e5 | e5
            all_goals
              simp only [e5] at hne
              simp (maxSteps := 2000000) (disch := first | omega | (simp only [lenS]; try omega)) only [go_sem, reduceAdd, reduceEqDiff, reduceLeDiff, reduceSub, e, e5, shl1, shl2, shl3]
              rw [zr1]
              simp
              omega
          · rintro st rfl
            have e := zr0 k 1 ne
            have e5 : t.out.length = 1 ∨ t.out.length = 2 ∨ t.out.length = 3 := by omega
            rcases e5 with e5 | e5 | e5
            all_goals
              simp only [e5] at hne
              simp (maxSteps := 2000000) (disch := first | omega | (simp only [lenS]; try omega)) only [go_sem, reduceAdd, reduceEqDiff, reduceLeDiff, reduceSub, e, e5, shl1, shl2, shl3]
              simp [hF0, e]
  · rintro st rfl
    simp (maxSteps := 2000000) (disch := first | omega | (simp only [lenS]; try omega)) only [go_sem, reduceAdd, reduceEqDiff, reduceLeDiff, reduceSub]
    rfl
theorem wal (l : List Int) (h : ∀ p ∈ l, 0 ≤ p ∧ p < 30) (hi : incr l = true) (hl : l.length < 2^30) : C w7g [I (maskN l)] [] = some (.un t_int true 1 (l.map I), []) := by
  have hp : l.Pairwise (· < ·) := by simpa [incr] using hi
  have h0 : ∀ p ∈ l, 0 ≤ p := fun p hp => (h p hp).1
  have hm : maskN l < 2 ^ 30 := zpd (q := 30) h
  refine w14 ?_
  simp (maxSteps := 2000000) (disch := first | omega | (simp only [lenS]; try omega)) only [wbx, go_sem, reduceAdd, reduceEqDiff, reduceLeDiff, reduceSub]
  refine z1a (fun j s => ∃ k : Nat, j + k = 40 ∧ k ≤ 31 ∧ s = ⟨[I (maskN l), .any, .ref 0 1 0 (below l k).length, I k, .any, .any], [.row t_int true 1 ((below l k).map I)]⟩) 40 ?_ ?_
  · refine ⟨0, rfl, by omega, ?_⟩
    rw [z5b h0]
    simp (maxSteps := 2000000) (disch := first | omega | (simp only [lenS]; try omega)) only [go_sem, reduceAdd, reduceEqDiff, reduceLeDiff, reduceSub]
    rfl
  · rintro j s ⟨k, hj, hk, rfl⟩
    have hbl := z59 l k
    have e1 : ((maskN l : Nat) : Int) / 2 ^ min k 64 = ((maskN l / 2 ^ k : Nat) : Int) := by
      rw [show min k 64 = k by omega]; simp
    have e2 : maskN l / 2 ^ k < 2 ^ 62 := Nat.lt_of_le_of_lt (Nat.div_le_self _ _) (by omega)
    have e3 := z2x (a := maskN l / 2 ^ k) (b := 1) e2 (by decide)
    rw [Nat.and_one_is_mod] at e3
    simp (maxSteps := 2000000) (disch := first | omega | (simp only [lenS]; try omega)) only [go_sem, reduceAdd, reduceEqDiff, reduceLeDiff, reduceSub, e1]
    have eb := zph h0 k
    have hone : ((1 : Nat) : Int) = 1 := rfl
    rw [hone] at e3
    refine ⟨fun hne => ?_, fun hz => ?_⟩
    · have hk30 : k < 30 := by
        rcases Nat.lt_or_ge k 30 with h5 | h5
        · exact h5
        · exact (hne (by rw [Nat.div_eq_of_lt (Nat.lt_of_lt_of_le hm (Nat.pow_le_pow_right (by decide) h5))]; rfl)).elim
      refine ⟨fun h1 => ⟨j - 1, by omega, k + 1, by omega, by omega, ?_⟩, fun h1 => ⟨j - 1, by omega, k + 1, by omega, by omega, ?_⟩⟩
      · have hm1 : maskN l / 2 ^ k % 2 = 1 := by rw [e3] at h1; omega
        rw [decide_eq_true hm1] at eb
        rw [z5a hp, if_pos (by simpa [hasB] using eb), List.map_append]
        simp
      · have hm1 : ¬ maskN l / 2 ^ k % 2 = 1 := by rw [e3] at h1; omega
        rw [decide_eq_false hm1] at eb
        rw [z5a hp, if_neg (by simpa [hasB] using eb), List.append_nil]
        rfl
    · rw [z58 (zpi h0 k (by exact_mod_cast hz))]
theorem wak (s : Spc) (k : Nat) (hk : k < s.tasks.length) (hc : 2 ≤ s.conds ∧ s.conds ≤ 8) (ht : smTk s.tasks[k]) (h1 : s.tasks[k].cut.length ≤ 16) (h0 : s.tasks[k].stop.length ≤ 16) (h2 : ∀ x ∈ s.tasks[k].stop, 0 ≤ x ∧ x < 16) : C w7f [encS s, I k] [] = some (.un t_int true 1 ((regL s s.tasks[k]).map I), []) := by
  obtain ⟨a, b, c, d⟩ := ht
  refine w13 ?_
  simp (maxSteps := 2000000) (disch := first | omega | (simp only [lenS]; try omega)) only [wbw, go_sem, reduceAdd, reduceEqDiff, reduceLeDiff, reduceSub]
  simp (maxSteps := 2000000) (disch := first | omega | (simp only [lenS]; try omega)) only [go_sem, reduceAdd, reduceEqDiff, reduceLeDiff, reduceSub, wdz]
  generalize hT : s.tasks[k] = t at *
  refine W_for t.stop.length (fun i st => st = ⟨[.any, .any, .ptr 0 0, .any, .ref 1 1 0 (t.cut.length + i), .any, ints t.stop, I t.stop.length, I i, .any], [.box wg0 [I s.conds, tks s.tasks], .row t_int true 1 ((t.cut ++ (t.stop.take i).map (s.conds + ·)).map I)]⟩) ?_ ?_ ?_
  · simp (maxSteps := 2000000) (disch := first | omega | (simp only [lenS]; try omega)) only [go_sem, reduceAdd, reduceEqDiff, reduceLeDiff, reduceSub]
    simp
  · rintro i st hi rfl
    have h3 := h2 _ (List.getElem_mem hi)
    have e := z10e (s := s) hi
    simp (maxSteps := 2000000) (disch := first | omega | (simp only [lenS]; try omega)) only [go_sem, reduceAdd, reduceEqDiff, reduceLeDiff, reduceSub]
    rw [e, List.map_append]
    simp
    omega
  · rintro st rfl
    simp (maxSteps := 2000000) (disch := first | omega | (simp only [lenS]; try omega)) only [go_sem, reduceAdd, reduceEqDiff, reduceLeDiff, reduceSub]
    simp [regL]
theorem wap (s : Spc) (m : Mv) (h : zt9 s = true) (hm : isMv s m) : C w7k [encS s, encM m] [] = some (.agg [.un t_int true 1 ((trM s m).inn.map I), .un t_int true 1 ((trM s m).out.map I), if m.begin_ then .nil true 1 else .un t_int true 1 ((trM s m).rst.map I)], []) := by
  obtain ⟨hc, hn, hg⟩ := zta h
  obtain ⟨k, hk, e1, hb, he⟩ := hm
  have hK := hg k hk
  have hsm := ztb h hk
  have heq := z19s hk
  obtain ⟨c1, c2, c3, c4⟩ := hsm
  have hreg := wak s k hk hc c1 c2 c3 c4
  rw [← heq] at c1 c2 c3 c4 hreg
  obtain ⟨b1, b2, b3, b4⟩ := c1
  obtain ⟨mt, mb, mp⟩ := m
  simp only at e1 hb he
  subst e1
  have eT : tkN s ((k : Int)).toNat = tkN s k := by simp
  refine w18 ?_
  simp (maxSteps := 2000000) (disch := first | omega | (simp only [lenS]; try omega)) only [wc1, go_sem, reduceAdd, reduceEqDiff, reduceLeDiff, reduceSub]
  simp only [trM, eT]
  have hb2 : (z50 (tkN s k)).length = if (tkN s k).join = 2 then (tkN s k).inn.length else 1 := by unfold z50; split <;> simp
  have hE : (endL (tkN s k)).length = if (tkN s k).split = 2 then (tkN s k).out.length else if (tkN s k).split = 3 then 2 ^ (tkN s k).out.length - 1 else 1 := by unfold endL; (repeat' split) <;> simp
  have hF : endF (tkN s k) = if (tkN s k).split = 2 then 0 else if (tkN s k).split = 3 then 1 else 0 := rfl
  simp only [← heq]
  generalize tkN s k = t at *
  obtain ⟨hj, hs, h1, h2, -, -, -, -, -, -⟩ := zgk hK
  cases mb with
  | true =>
    obtain ⟨hp0, hp1⟩ := hb rfl
    rcases hj with hj | hj
    · simp (maxSteps := 2000000) (disch := first | omega | (simp only [lenS]; try omega)) only [go_sem, reduceAdd, reduceEqDiff, reduceLeDiff, reduceSub, hj, wdz]
      exact fun h => absurd h (by decide)
    · simp only [hj, if_true] at hb2
      have := at_eq (m := t.inn) (p := mp) (by omega)
      simp (maxSteps := 2000000) (disch := first | omega | (simp only [lenS]; try omega)) only [go_sem, reduceAdd, reduceEqDiff, reduceLeDiff, reduceSub, hj, this]
  | false =>
    obtain ⟨hp0, hp1⟩ := he rfl
    rcases hs with hs | hs | hs
    · simp (maxSteps := 2000000) (disch := first | omega | (simp only [lenS]; try omega)) only [go_sem, reduceAdd, reduceEqDiff, reduceLeDiff, reduceSub, hs, wdz, hreg]
    · simp only [hs, if_true] at hE hF
      have := at_eq (m := t.out) (p := mp) (by omega)
      simp (maxSteps := 2000000) (disch := first | omega | (simp only [lenS]; try omega)) only [go_sem, reduceAdd, reduceEqDiff, reduceLeDiff, reduceSub, hs, wdz, hreg, this]
    · simp [hs] at hE hF
      have hpp := zxz h2.1 h2.2
      have hS := z14d mp.toNat (by omega)
      obtain ⟨d1, d2, d3, d4, d5⟩ := hS
      have d6 := d5 t.out.length h2.1 h2.2 (by omega)
      have hset := wal (setB mp.toNat) (fun p hp => by have := d3 p hp; omega) d2 (by omega)
      rw [d1, show ((mp.toNat : Nat) : Int) = mp by omega] at hset
      simp (maxSteps := 2000000) (disch := first | omega | (simp only [lenS]; try omega)) only [go_sem, reduceAdd, reduceEqDiff, reduceLeDiff, reduceSub, hs, wdz, hset]
      refine W_for (setB mp.toNat).length (fun i st => st = ⟨[.any, .any, .ptr 0 0, .ptr 1 0, .ptr 2 0, .ptr 3 0, .ref 4 1 0 1, .ref 5 1 0 i, .any, .any, .any, .any, .any, .any, .ref 6 1 0 (setB mp.toNat).length, I (setB mp.toNat).length, I i, .any], [.box wg0 [I s.conds, tks s.tasks], .box wfx [I k, .bool false, I mp], .box wg2 [.nil true 1, .nil true 1, .nil true 1], .box wg1 [I t.join, I t.split, ints t.inn, ints t.out, ints t.cut, ints t.stop, I t.role], .row t_int true 1 [I (s.conds + k)], .row t_int true 1 (((setB mp.toNat).take i).map fun p => I (at_ t.out p)), .row t_int true 1 ((setB mp.toNat).map I)]⟩) ?_ ?_ ?_
      · simp (maxSteps := 2000000) (disch := first | omega | (simp only [lenS]; try omega)) only [go_sem, reduceAdd, reduceEqDiff, reduceLeDiff, reduceSub]
        simp [hs]
      · rintro i st hi rfl
        have h6 := d6 _ (List.getElem_mem hi)
        have h7 := d3 _ (List.getElem_mem hi)
        have e := at_eq (m := t.out) (p := (setB mp.toNat)[i]) (by omega)
        simp (maxSteps := 2000000) (disch := first | omega | (simp only [lenS]; try omega)) only [go_sem, reduceAdd, reduceEqDiff, reduceLeDiff, reduceSub]
        rw [List.take_succ_eq_append_getElem hi, List.map_append]
        simp [e]
      · rintro st rfl
        simp (maxSteps := 2000000) (disch := first | omega | (simp only [lenS]; try omega)) only [go_sem, reduceAdd, reduceEqDiff, reduceLeDiff, reduceSub, hreg]
        simp [someL]
theorem wan (s : Spc) (h : zt9 s = true) : C w7i [encS s] [] = some (.agg [I (s.conds + s.tasks.length), .un wg2 false 3 ((trS s).map encT), I 0, I 1], []) := by
  obtain ⟨hc, hn, hg⟩ := zta h
  have hml := zr7 h s.tasks.length (by omega)
  have hmv := waf s h
  have hU : (mvS s).map (trM s) = trS s := trM_U s s.tasks.length
  rw [← hU]
  have hall : ∀ m ∈ mvS s, isMv s m := fun m hm => zr5 hm
  have hL : (mvS s).length ≤ 60 ∧ 2 ≤ (mvS s).length := by unfold mvS; omega
  generalize mvS s = M at *
  refine w16 ?_
  simp (maxSteps := 2000000) (disch := first | omega | (simp only [lenS]; try omega)) only [wbz, go_sem, reduceAdd, reduceEqDiff, reduceLeDiff, reduceSub]
  simp (maxSteps := 2000000) (disch := first | omega | (simp only [lenS]; try omega)) only [go_sem, reduceAdd, reduceEqDiff, reduceLeDiff, reduceSub, hmv]
  refine W_for M.length (fun i st => st = ⟨[.any, .ptr 0 0, .ptr 1 0, .ptr 2 0, .any, .ref 3 3 0 M.length, I M.length, I i, .any], [.box wg0 [I s.conds, tks s.tasks], .box wfw [I 0, .nil false 3, I 0, I 0], .box wfy [I (s.conds + s.tasks.length), cellT 4 ((M.take i).map (trM s))], .row wfx true 3 (M.map encM)] ++ blkT wg2 ((M.take i).map (trM s))⟩) ?_ ?_ ?_
  · simp (maxSteps := 2000000) (disch := first | omega | (simp only [lenS]; try omega)) only [go_sem, reduceAdd, reduceEqDiff, reduceLeDiff, reduceSub]
    simp [cellT, blkT]
  · rintro i st hi rfl
    have hm := hall _ (List.getElem_mem hi)
    have ht := wap s M[i] h hm
    have hlen : ((M.take i).map (trM s)).length = i := by simp; omega
    have hne : (M.take (i + 1)).map (trM s) ≠ [] := by intro e; have := congrArg List.length e; rw [List.length_map, List.length_take, List.length_nil] at this; omega
    have hsn : (M.take (i + 1)).map (trM s) = (M.take i).map (trM s) ++ [trM s M[i]] := by rw [List.take_succ_eq_append_getElem hi, List.map_append]; rfl
    rw [z7w hne, z6h hne, hsn]
    generalize (M.take i).map (trM s) = L at *
    cases hb : M[i].begin_ with
    | true =>
      have hr : (trM s M[i]).rst = [] := by simp only [trM, hb, if_true]; split <;> rfl
      rw [hb, if_pos rfl] at ht
      by_cases hL0 : L = []
      · subst hL0
        simp only [z7x, z6i]
        simp (maxSteps := 2000000) (disch := first | omega | (simp only [lenS]; try omega)) only [go_sem, reduceAdd, reduceEqDiff, reduceLeDiff, reduceSub, ht]
        simp [hr, hb]
      · rw [z7w hL0, z6h hL0]
        simp (maxSteps := 2000000) (disch := first | omega | (simp only [lenS]; try omega)) only [go_sem, reduceAdd, reduceEqDiff, reduceLeDiff, reduceSub, ht]
        simp [hr, hb]
    | false =>
      rw [hb, if_neg (by simp)] at ht
      by_cases hL0 : L = []
      · subst hL0
        simp only [z7x, z6i]
        simp (maxSteps := 2000000) (disch := first | omega | (simp only [lenS]; try omega)) only [go_sem, reduceAdd, reduceEqDiff, reduceLeDiff, reduceSub, ht]
        simp [hb]
      · rw [z7w hL0, z6h hL0]
        simp (maxSteps := 2000000) (disch := first | omega | (simp only [lenS]; try omega)) only [go_sem, reduceAdd, reduceEqDiff, reduceLeDiff, reduceSub, ht]
        simp [hb]
  · rintro st rfl
    have hne : (M.take M.length).map (trM s) ≠ [] := by intro e; have := congrArg List.length e; rw [List.length_map, List.length_take, List.length_nil] at this; omega
    rw [z7w hne, z6h hne, List.take_length]
    simp (maxSteps := 2000000) (disch := first | omega | (simp only [lenS]; try omega)) only [go_sem, reduceAdd, reduceEqDiff, reduceLeDiff, reduceSub]
theorem w9z (n : Net) (l : List Int) (h : 1 ≤ n.pl ∧ n.pl ≤ 16) (hl : l.length < 2^62) : C w6v [encN n, ints l] [] = some (.bool (zxh n.pl l), []) := by
  refine w0j ?_
  simp (maxSteps := 2000000) (disch := first | omega | (simp only [lenS]; try omega)) only [wbc, go_sem, reduceAdd, reduceEqDiff, reduceLeDiff, reduceSub]
  simp (maxSteps := 2000000) (disch := first | omega | (simp only [lenS]; try omega)) only [go_sem, reduceAdd, reduceEqDiff, reduceLeDiff, reduceSub, wa8 l hl, w9x l _ _ hl]
  unfold zxh; grind
theorem w9j (n : Net) (t : Tr) (h : 1 ≤ n.pl ∧ n.pl ≤ 16) (ht : smT t) : C w6g [encT t, .pv (encN n) 0] [] = some (.bool (!goodT n.pl t), []) := by
  obtain ⟨h1, h2, h3⟩ := ht
  refine w04 ?_
  simp (maxSteps := 2000000) (disch := first | omega | (simp only [lenS]; try omega)) only [waw, go_sem, reduceAdd, reduceEqDiff, reduceLeDiff, reduceSub]
  simp (maxSteps := 2000000) (disch := first | omega | (simp only [lenS]; try omega)) only [go_sem, reduceAdd, reduceEqDiff, reduceLeDiff, reduceSub, w9z n _ h]
  refine ⟨fun h6 => by rw [zh3 (by omega)]; rfl, fun h6 => ⟨fun h7 => ⟨fun h8 => ⟨fun h9 => by rw [zgy (by omega) h7 h8 h9]; rfl, fun h9 => by simp [goodT, h9]⟩, fun h8 => by simp [goodT, h8]⟩, fun h7 => by simp [goodT, h7]⟩⟩
theorem we7 (l : List Tr) (g : FuncId) (caps : List PV) (hc : refsL caps = []) (hcv : ∀ m h, z1aw [] m h caps = some caps) (p : Tr → Bool) (hp : ∀ x ∈ l, C g (encT x :: caps) [] = some (.bool (p x), [])) (hl : l.length < 2^62) :
    C w7y [trs l, .clo g caps] [] = some (I (idxI l p), []) := by
  refine w1l ?_
  simp (maxSteps := 2000000) (disch := first | omega | (simp only [lenS]; try omega)) only [wce, go_sem, reduceAdd, reduceEqDiff, reduceLeDiff, reduceSub]
  refine W_for l.length (fun k s => s = ⟨[trs l, .clo g caps, .any, .any, I l.length, I k, .any, .any], []⟩ ∧ (l.take k).any p = false) ?_ ?_ ?_
  · simp (maxSteps := 2000000) (disch := first | omega | (simp only [lenS]; try omega)) only [go_sem, reduceAdd, reduceEqDiff, reduceLeDiff, reduceSub, hc]
    rfl
  · rintro k s hk ⟨rfl, hall⟩
    simp (maxSteps := 2000000) (disch := first | omega | (simp only [lenS]; try omega)) only [go_sem, reduceAdd, reduceEqDiff, reduceLeDiff, reduceSub, hc, hcv, hp _ (List.getElem_mem hk)]
    exact ⟨fun h => by rw [zhy hk hall h], fun h => ⟨rfl, z37 hk hall h⟩⟩
  · rintro s ⟨rfl, hall⟩
    simp (maxSteps := 2000000) (disch := first | omega | (simp only [lenS]; try omega)) only [go_sem, reduceAdd, reduceEqDiff, reduceLeDiff, reduceSub]
    rw [List.take_length] at hall
    rw [zhx hall]
theorem we1 (l : List Tr) (g : FuncId) (caps : List PV) (hc : refsL caps = []) (hcv : ∀ m h, z1aw [] m h caps = some caps) (p : Tr → Bool) (hp : ∀ x ∈ l, C g (encT x :: caps) [] = some (.bool (p x), [])) (hl : l.length < 2^62) :
    C w7s [trs l, .clo g caps] [] = some (.bool (l.any p), []) := by
  refine w1f ?_
  simp (maxSteps := 2000000) (disch := first | omega | (simp only [lenS]; try omega)) only [wc8, go_sem, reduceAdd, reduceEqDiff, reduceLeDiff, reduceSub]
  simp (maxSteps := 2000000) (disch := first | omega | (simp only [lenS]; try omega)) only [go_sem, reduceAdd, reduceEqDiff, reduceLeDiff, reduceSub, hc, hcv, we7 l g caps hc hcv p hp hl]
  have := zhv l p
  grind
theorem w9k (n : Net) (hn : smN n) : C w6f [encN n] [] = some (.bool (goodN n), []) := by
  have h0 := hn.1
  refine w03 ?_
  simp (maxSteps := 2000000) (disch := first | omega | (simp only [lenS]; try omega)) only [wav, go_sem, reduceAdd, reduceEqDiff, reduceLeDiff, reduceSub]
  simp (maxSteps := 2000000) (disch := first | omega | (simp only [lenS]; try omega)) only [go_sem, reduceAdd, reduceEqDiff, reduceLeDiff, reduceSub, waq]
  refine ⟨fun h => ⟨fun h2 => ?_, fun h2 => ?_⟩, fun h => by simp [goodN, h]⟩
  · have hb : 1 ≤ n.pl ∧ n.pl ≤ 16 := by simpa [inB] using h
    have h3 := we1 n.tr w6g [.pv (encN n) 0] rfl (fun _ _ => rfl) (fun t => !goodT n.pl t) (fun x hx => w9j n x hb (hn.2 x hx)) (by omega)
    simp (maxSteps := 2000000) (disch := first | omega | (simp only [lenS]; try omega)) only [go_sem, reduceAdd, reduceEqDiff, reduceLeDiff, reduceSub, h3]
    have : (n.tr.any fun t => !goodT n.pl t) = !n.tr.all (goodT n.pl) := by rw [List.any_eq_not_all_not]; simp
    have h4 : n.tr.length ≤ 24 := by omega
    simp only [this]
    simp [goodN, h, h4]
  · have : ¬ n.tr.length ≤ 24 := by omega
    simp [goodN, this]
theorem wah (x : Int) (P : List Bool) (h : 0 ≤ x ∧ x.toNat < P.length) : C w7e [I x, .pv (.agg [bls P]) 0] [] = some (.bool (P.getD x.toNat false), []) := by
  obtain ⟨h1, h2⟩ := h
  refine w12 ?_
  simp (maxSteps := 2000000) (disch := first | omega | (simp only [lenS]; try omega)) only [wbv, go_sem, reduceAdd, reduceEqDiff, reduceLeDiff, reduceSub]
  rw [zg4 h2]
  grind
theorem we8 (l : List Int) (g : FuncId) (caps : List PV) (hc : refsL caps = []) (hcv : ∀ m h, z1aw [] m h caps = some caps) (p : Int → Bool) (hp : ∀ x ∈ l, C g (I x :: caps) [] = some (.bool (p x), [])) (hl : l.length < 2^62) :
    C w7z [ints l, .clo g caps] [] = some (I (idxI l p), []) := by
  refine w1m ?_
  simp (maxSteps := 2000000) (disch := first | omega | (simp only [lenS]; try omega)) only [wcf, go_sem, reduceAdd, reduceEqDiff, reduceLeDiff, reduceSub]
  refine W_for l.length (fun k s => s = ⟨[ints l, .clo g caps, .any, .any, I l.length, I k, .any, .any], []⟩ ∧ (l.take k).any p = false) ?_ ?_ ?_
  · simp (maxSteps := 2000000) (disch := first | omega | (simp only [lenS]; try omega)) only [go_sem, reduceAdd, reduceEqDiff, reduceLeDiff, reduceSub, hc]
    rfl
  · rintro k s hk ⟨rfl, hall⟩
    simp (maxSteps := 2000000) (disch := first | omega | (simp only [lenS]; try omega)) only [go_sem, reduceAdd, reduceEqDiff, reduceLeDiff, reduceSub, hc, hcv, hp _ (List.getElem_mem hk)]
    exact ⟨fun h => by rw [zhy hk hall h], fun h => ⟨rfl, z37 hk hall h⟩⟩
  · rintro s ⟨rfl, hall⟩
    simp (maxSteps := 2000000) (disch := first | omega | (simp only [lenS]; try omega)) only [go_sem, reduceAdd, reduceEqDiff, reduceLeDiff, reduceSub]
    rw [List.take_length] at hall
    rw [zhx hall]
theorem we2 (l : List Int) (g : FuncId) (caps : List PV) (hc : refsL caps = []) (hcv : ∀ m h, z1aw [] m h caps = some caps) (p : Int → Bool) (hp : ∀ x ∈ l, C g (I x :: caps) [] = some (.bool (p x), [])) (hl : l.length < 2^62) :
    C w7t [ints l, .clo g caps] [] = some (.bool (l.any p), []) := by
  refine w1g ?_
  simp (maxSteps := 2000000) (disch := first | omega | (simp only [lenS]; try omega)) only [wc9, go_sem, reduceAdd, reduceEqDiff, reduceLeDiff, reduceSub]
  simp (maxSteps := 2000000) (disch := first | omega | (simp only [lenS]; try omega)) only [go_sem, reduceAdd, reduceEqDiff, reduceLeDiff, reduceSub, hc, hcv, we8 l g caps hc hcv p hp hl]
  have := zhv l p
  grind
theorem wai (n : Net) (p : Int) (hg : goodN n = true) (hp : 0 ≤ p ∧ p < n.pl) : C w7d [encN n, I p, .bool false] [] = some (.tup [.un wfu true 1 ((zzc n false p).pl.map PV.bool), .un wfu true 1 ((zzc n false p).tr.map PV.bool)], []) := by
  have hb := zgv hg
  have hlen := zze n false p
  rw [zzd] at hlen ⊢
  refine w11 ?_
  simp (maxSteps := 2000000) (disch := first | omega | (simp only [lenS]; try omega)) only [wbu, go_sem, reduceAdd, reduceEqDiff, reduceLeDiff, reduceSub]
  simp (maxSteps := 2000000) (disch := first | omega | (simp only [lenS]; try omega)) only [go_sem, reduceAdd, reduceEqDiff, reduceLeDiff, reduceSub, List.getElem_replicate]
  generalize hR : clRun n false (cntF (List.replicate n.tr.length false) + 1) ⟨(List.replicate n.pl.toNat false).set p.toNat true, List.replicate n.tr.length false, true⟩ = R at *
  refine ⟨rfl, ?_⟩
  refine z1a (fun k s => ∃ c : Cl, c.pl.length = n.pl.toNat ∧ c.tr.length = n.tr.length ∧ ((k = cntF c.tr + 1 ∧ s = ⟨[.any, .any, .bool false, .ptr 0 0, .any, .any, .ptr 1 0, .ref 2 1 0 n.tr.length, .bool true, .any, .any, .any, .any, .any, .any, .any, .any, .any, .any, .any, .any, .any, .any, .any, .any], [.box wfy [I n.pl, trs n.tr], .box wg4 [.ref 3 1 0 n.pl.toNat], .row wfu true 1 (c.tr.map PV.bool), .row wfu true 1 (c.pl.map PV.bool)]⟩ ∧ clRun n false (cntF c.tr + 1) c = R) ∨ (k = 0 ∧ s = ⟨[.any, .any, .bool false, .ptr 0 0, .any, .any, .ptr 1 0, .ref 2 1 0 n.tr.length, .bool false, .any, .any, .any, .any, .any, .any, .any, .any, .any, .any, .any, .any, .any, .any, .any, .any], [.box wfy [I n.pl, trs n.tr], .box wg4 [.ref 3 1 0 n.pl.toNat], .row wfu true 1 (c.tr.map PV.bool), .row wfu true 1 (c.pl.map PV.bool)]⟩ ∧ c = R))) (cntF (List.replicate n.tr.length false) + 1) ?_ ?_
  · refine ⟨⟨(List.replicate n.pl.toNat false).set p.toNat true, List.replicate n.tr.length false, true⟩, by simp, by simp, .inl ⟨rfl, ?_, hR⟩⟩
    simp (maxSteps := 2000000) (disch := first | omega | (simp only [lenS]; try omega)) only [go_sem, reduceAdd, reduceEqDiff, reduceLeDiff, reduceSub]
    simp
  · rintro k0 s ⟨c, hc1, hc2, ⟨rfl, rfl, hc⟩ | ⟨rfl, rfl, rfl⟩⟩
    · have hcl := fun k => z8u n false c k
      simp (maxSteps := 2000000) (disch := first | omega | (simp only [lenS]; try omega)) only [go_sem, reduceAdd, reduceEqDiff, reduceLeDiff, reduceSub]
      refine W_for n.tr.length (fun k s => s = ⟨[.any, .any, .bool false, .ptr 0 0, .any, .any, .ptr 1 0, .ref 2 1 0 n.tr.length, .bool (clK n false c k).ch, .any, .any, .any, .any, .any, .any, trs n.tr, I n.tr.length, I k, .any, .any, .any, .any, .any, .any, .any], [.box wfy [I n.pl, trs n.tr], .box wg4 [.ref 3 1 0 n.pl.toNat], .row wfu true 1 ((clK n false c k).tr.map PV.bool), .row wfu true 1 ((clK n false c k).pl.map PV.bool)]⟩) ?_ ?_ ?_
      · simp (maxSteps := 2000000) (disch := first | omega | (simp only [lenS]; try omega)) only [go_sem, reduceAdd, reduceEqDiff, reduceLeDiff, reduceSub]
        rfl
      · rintro k s hk rfl
        have hT := hb.2.2.2 _ (List.getElem_mem hk)
        have hLs := zh0 hT (by omega)
        obtain ⟨_, g1, g2, g3⟩ := zh4 hT
        have p1 := zxj g1
        have p2 := zxj g2
        have hd := hcl k
        have hstep := z8v n false c k
        have htr : n.tr[k] = trN n k := (z1a3 hk).symm
        rw [htr] at hLs p1 p2
        have s1 : (clK n false c k).tr.getD k false = true → clK n false c (k + 1) = clK n false c k := fun h => hstep.trans (z94 (.inl h))
        have s2 : hitB (clK n false c k).pl (sideI false (trN n k)) = false → clK n false c (k + 1) = clK n false c k := fun h => hstep.trans (z94 (.inr h))
        have s3 : (clK n false c k).tr.getD k false = false → hitB (clK n false c k).pl (sideI false (trN n k)) = true → clK n false c (k + 1) = ⟨markB (clK n false c k).pl (sideO false (trN n k)), (clK n false c k).tr.set k true, true⟩ := fun h h2 => hstep.trans (z95 h h2)
        simp only [sideI, sideO, Bool.false_eq_true, if_false, if_true] at s2 s3
        clear hstep
        generalize clK n false c k = d at *
        generalize clK n false c (k + 1) = d' at *
        have hcont := we2 (trN n k).inn w7e [.pv (.agg [bls d.pl]) 0] rfl (fun _ _ => rfl) (fun q => d.pl.getD q.toNat false) (fun x hx => wah x d.pl (by have := p1 x hx; omega)) (by omega)
        rw [show ((trN n k).inn.any fun q => d.pl.getD q.toNat false) = hitB d.pl (trN n k).inn from rfl] at hcont
        have hkd : k < d.tr.length := by omega
        simp (maxSteps := 2000000) (disch := first | omega | (simp only [lenS]; try omega)) only [go_sem, reduceAdd, reduceEqDiff, reduceLeDiff, reduceSub, htr, hcont]
        generalize trN n k = tr at *
        refine ⟨fun h3 => ?_, fun h3 => ⟨fun h => ?_, fun h => ?_⟩⟩
        · rw [s1 (by rw [← zg4 hkd]; exact h3)]; rfl
        · have e := s3 (by rw [← zg4 hkd]; exact h3) h
          subst e
          refine W_for tr.out.length (fun j s => s = ⟨[.any, .any, .bool false, .ptr 0 0, .any, .any, .ptr 1 0, .ref 2 1 0 n.tr.length, .bool true, .any, .any, .any, .any, .any, .any, trs n.tr, I n.tr.length, I k, .any, .any, .any, ints tr.out, I tr.out.length, I j, .any], [.box wfy [I n.pl, trs n.tr], .box wg4 [.ref 3 1 0 n.pl.toNat], .row wfu true 1 ((d.tr.set k true).map PV.bool), .row wfu true 1 ((markB d.pl (tr.out.take j)).map PV.bool)]⟩) ?_ ?_ ?_
          · simp (maxSteps := 2000000) (disch := first | omega | (simp only [lenS]; try omega)) only [go_sem, reduceAdd, reduceEqDiff, reduceLeDiff, reduceSub]
            rfl
          · rintro j s hj rfl
            have h1 := p2 _ (List.getElem_mem hj)
            have h2 : tr.out[j].toNat < d.pl.length := by omega
            have h4 := zp1 d.pl (tr.out.take j)
            simp (maxSteps := 2000000) (disch := first | omega | (simp only [lenS]; try omega)) only [go_sem, reduceAdd, reduceEqDiff, reduceLeDiff, reduceSub]
            rw [zp2 hj]; rfl
          · rintro s rfl
            simp (maxSteps := 2000000) (disch := first | omega | (simp only [lenS]; try omega)) only [go_sem, reduceAdd, reduceEqDiff, reduceLeDiff, reduceSub, List.take_length]
            rfl
        · rw [s2 h]; rfl
      · rintro s rfl
        simp (maxSteps := 2000000) (disch := first | omega | (simp only [lenS]; try omega)) only [go_sem, reduceAdd, reduceEqDiff, reduceLeDiff, reduceSub]
        have hn := z90 (n := n) (bk := false) hc2
        rw [hc] at hn
        cases e : (z8w n false c).ch with
        | true =>
          have h1 := (z8t (n := n) (bk := false) (s := c) (k := n.tr.length) (by omega)).2 e
          simp only [e, if_true] at hn
          refine ⟨cntF (z8w n false c).tr + 1, by unfold z8w; omega, z8w n false c, by unfold z8w; have := hcl n.tr.length; omega, by unfold z8w; have := hcl n.tr.length; omega, .inl ⟨rfl, ?_, hn.symm⟩⟩
          unfold z8w at e ⊢
          rw [e]
        | false =>
          simp only [e, Bool.false_eq_true, if_false] at hn
          refine ⟨0, by omega, z8w n false c, by unfold z8w; have := hcl n.tr.length; omega, by unfold z8w; have := hcl n.tr.length; omega, .inr ⟨rfl, ?_, hn.symm⟩⟩
          unfold z8w at e ⊢
          rw [e]
    · simp (maxSteps := 2000000) (disch := first | omega | (simp only [lenS]; try omega)) only [go_sem, reduceAdd, reduceEqDiff, reduceLeDiff, reduceSub]
theorem waj (n : Net) (p : Int) (hg : goodN n = true) (hp : 0 ≤ p ∧ p < n.pl) : C w7d [encN n, I p, .bool true] [] = some (.tup [.un wfu true 1 ((zzc n true p).pl.map PV.bool), .un wfu true 1 ((zzc n true p).tr.map PV.bool)], []) := by
  have hb := zgv hg
  have hlen := zze n true p
  rw [zzd] at hlen ⊢
  refine w11 ?_
  simp (maxSteps := 2000000) (disch := first | omega | (simp only [lenS]; try omega)) only [wbu, go_sem, reduceAdd, reduceEqDiff, reduceLeDiff, reduceSub]
  simp (maxSteps := 2000000) (disch := first | omega | (simp only [lenS]; try omega)) only [go_sem, reduceAdd, reduceEqDiff, reduceLeDiff, reduceSub, List.getElem_replicate]
  generalize hR : clRun n true (cntF (List.replicate n.tr.length false) + 1) ⟨(List.replicate n.pl.toNat false).set p.toNat true, List.replicate n.tr.length false, true⟩ = R at *
  refine ⟨rfl, ?_⟩
  refine z1a (fun k s => ∃ c : Cl, c.pl.length = n.pl.toNat ∧ c.tr.length = n.tr.length ∧ ((k = cntF c.tr + 1 ∧ s = ⟨[.any, .any, .bool true, .ptr 0 0, .any, .any, .ptr 1 0, .ref 2 1 0 n.tr.length, .bool true, .any, .any, .any, .any, .any, .any, .any, .any, .any, .any, .any, .any, .any, .any, .any, .any], [.box wfy [I n.pl, trs n.tr], .box wg4 [.ref 3 1 0 n.pl.toNat], .row wfu true 1 (c.tr.map PV.bool), .row wfu true 1 (c.pl.map PV.bool)]⟩ ∧ clRun n true (cntF c.tr + 1) c = R) ∨ (k = 0 ∧ s = ⟨[.any, .any, .bool true, .ptr 0 0, .any, .any, .ptr 1 0, .ref 2 1 0 n.tr.length, .bool false, .any, .any, .any, .any, .any, .any, .any, .any, .any, .any, .any, .any, .any, .any, .any, .any], [.box wfy [I n.pl, trs n.tr], .box wg4 [.ref 3 1 0 n.pl.toNat], .row wfu true 1 (c.tr.map PV.bool), .row wfu true 1 (c.pl.map PV.bool)]⟩ ∧ c = R))) (cntF (List.replicate n.tr.length false) + 1) ?_ ?_
  · refine ⟨⟨(List.replicate n.pl.toNat false).set p.toNat true, List.replicate n.tr.length false, true⟩, by simp, by simp, .inl ⟨rfl, ?_, hR⟩⟩
    simp (maxSteps := 2000000) (disch := first | omega | (simp only [lenS]; try omega)) only [go_sem, reduceAdd, reduceEqDiff, reduceLeDiff, reduceSub]
    simp
  · rintro k0 s ⟨c, hc1, hc2, ⟨rfl, rfl, hc⟩ | ⟨rfl, rfl, rfl⟩⟩
    · have hcl := fun k => z8u n true c k
      simp (maxSteps := 2000000) (disch := first | omega | (simp only [lenS]; try omega)) only [go_sem, reduceAdd, reduceEqDiff, reduceLeDiff, reduceSub]
      refine W_for n.tr.length (fun k s => s = ⟨[.any, .any, .bool true, .ptr 0 0, .any, .any, .ptr 1 0, .ref 2 1 0 n.tr.length, .bool (clK n true c k).ch, .any, .any, .any, .any, .any, .any, trs n.tr, I n.tr.length, I k, .any, .any, .any, .any, .any, .any, .any], [.box wfy [I n.pl, trs n.tr], .box wg4 [.ref 3 1 0 n.pl.toNat], .row wfu true 1 ((clK n true c k).tr.map PV.bool), .row wfu true 1 ((clK n true c k).pl.map PV.bool)]⟩) ?_ ?_ ?_
      · simp (maxSteps := 2000000) (disch := first | omega | (simp only [lenS]; try omega)) only [go_sem, reduceAdd, reduceEqDiff, reduceLeDiff, reduceSub]
        rfl
      · rintro k s hk rfl
        have hT := hb.2.2.2 _ (List.getElem_mem hk)
        have hLs := zh0 hT (by omega)
        obtain ⟨_, g1, g2, g3⟩ := zh4 hT
        have p1 := zxj g2
        have p2 := zxj g1
        have hd := hcl k
        have hstep := z8v n true c k
        have htr : n.tr[k] = trN n k := (z1a3 hk).symm
        rw [htr] at hLs p1 p2
        have s1 : (clK n true c k).tr.getD k false = true → clK n true c (k + 1) = clK n true c k := fun h => hstep.trans (z94 (.inl h))
        have s2 : hitB (clK n true c k).pl (sideI true (trN n k)) = false → clK n true c (k + 1) = clK n true c k := fun h => hstep.trans (z94 (.inr h))
        have s3 : (clK n true c k).tr.getD k false = false → hitB (clK n true c k).pl (sideI true (trN n k)) = true → clK n true c (k + 1) = ⟨markB (clK n true c k).pl (sideO true (trN n k)), (clK n true c k).tr.set k true, true⟩ := fun h h2 => hstep.trans (z95 h h2)
        simp only [sideI, sideO, Bool.false_eq_true, if_false, if_true] at s2 s3
        clear hstep
        generalize clK n true c k = d at *
        generalize clK n true c (k + 1) = d' at *
        have hcont := we2 (trN n k).out w7e [.pv (.agg [bls d.pl]) 0] rfl (fun _ _ => rfl) (fun q => d.pl.getD q.toNat false) (fun x hx => wah x d.pl (by have := p1 x hx; omega)) (by omega)
        rw [show ((trN n k).out.any fun q => d.pl.getD q.toNat false) = hitB d.pl (trN n k).out from rfl] at hcont
        have hkd : k < d.tr.length := by omega
        simp (maxSteps := 2000000) (disch := first | omega | (simp only [lenS]; try omega)) only [go_sem, reduceAdd, reduceEqDiff, reduceLeDiff, reduceSub, htr, hcont]
        generalize trN n k = tr at *
        refine ⟨fun h3 => ?_, fun h3 => ⟨fun h => ?_, fun h => ?_⟩⟩
        · rw [s1 (by rw [← zg4 hkd]; exact h3)]; rfl
        · have e := s3 (by rw [← zg4 hkd]; exact h3) h
          subst e
          refine W_for tr.inn.length (fun j s => s = ⟨[.any, .any, .bool true, .ptr 0 0, .any, .any, .ptr 1 0, .ref 2 1 0 n.tr.length, .bool true, .any, .any, .any, .any, .any, .any, trs n.tr, I n.tr.length, I k, .any, .any, .any, ints tr.inn, I tr.inn.length, I j, .any], [.box wfy [I n.pl, trs n.tr], .box wg4 [.ref 3 1 0 n.pl.toNat], .row wfu true 1 ((d.tr.set k true).map PV.bool), .row wfu true 1 ((markB d.pl (tr.inn.take j)).map PV.bool)]⟩) ?_ ?_ ?_
          · simp (maxSteps := 2000000) (disch := first | omega | (simp only [lenS]; try omega)) only [go_sem, reduceAdd, reduceEqDiff, reduceLeDiff, reduceSub]
            rfl
          · rintro j s hj rfl
            have h1 := p2 _ (List.getElem_mem hj)
            have h2 : tr.inn[j].toNat < d.pl.length := by omega
            have h4 := zp1 d.pl (tr.inn.take j)
            simp (maxSteps := 2000000) (disch := first | omega | (simp only [lenS]; try omega)) only [go_sem, reduceAdd, reduceEqDiff, reduceLeDiff, reduceSub]
            rw [zp2 hj]; rfl
          · rintro s rfl
            simp (maxSteps := 2000000) (disch := first | omega | (simp only [lenS]; try omega)) only [go_sem, reduceAdd, reduceEqDiff, reduceLeDiff, reduceSub, List.take_length]
            rfl
        · rw [s2 h]; rfl
      · rintro s rfl
        simp (maxSteps := 2000000) (disch := first | omega | (simp only [lenS]; try omega)) only [go_sem, reduceAdd, reduceEqDiff, reduceLeDiff, reduceSub]
        have hn := z90 (n := n) (bk := true) hc2
        rw [hc] at hn
        cases e : (z8w n true c).ch with
        | true =>
          have h1 := (z8t (n := n) (bk := true) (s := c) (k := n.tr.length) (by omega)).2 e
          simp only [e, if_true] at hn
          refine ⟨cntF (z8w n true c).tr + 1, by unfold z8w; omega, z8w n true c, by unfold z8w; have := hcl n.tr.length; omega, by unfold z8w; have := hcl n.tr.length; omega, .inl ⟨rfl, ?_, hn.symm⟩⟩
          unfold z8w at e ⊢
          rw [e]
        | false =>
          simp only [e, Bool.false_eq_true, if_false] at hn
          refine ⟨0, by omega, z8w n true c, by unfold z8w; have := hcl n.tr.length; omega, by unfold z8w; have := hcl n.tr.length; omega, .inr ⟨rfl, ?_, hn.symm⟩⟩
          unfold z8w at e ⊢
          rw [e]
    · simp (maxSteps := 2000000) (disch := first | omega | (simp only [lenS]; try omega)) only [go_sem, reduceAdd, reduceEqDiff, reduceLeDiff, reduceSub]
theorem wa0 (a b : List Bool) (ha : a.length < 2^30) (hab : a.length ≤ b.length) : C w6w [bls a, bls b] [] = some (.un t_int true 1 ((bothL a b).map I), []) := by
  refine w0k ?_
  simp (maxSteps := 2000000) (disch := first | omega | (simp only [lenS]; try omega)) only [wbd, go_sem, reduceAdd, reduceEqDiff, reduceLeDiff, reduceSub]
  refine W_for a.length (fun k s => s = ⟨[.any, bls b, .any, .ref 0 1 0 (bothK a b k).length, .any, .any, bls a, I a.length, I k, .any, .any], [.row t_int true 1 ((bothK a b k).map I)]⟩) ?_ ?_ ?_
  · simp (maxSteps := 2000000) (disch := first | omega | (simp only [lenS]; try omega)) only [go_sem, reduceAdd, reduceEqDiff, reduceLeDiff, reduceSub]
    rfl
  · rintro k s hk rfl
    have h2 := z6n a b k
    have hkb : k < b.length := by omega
    have e1 := zg4 hk
    have e2 := zg4 hkb
    simp (maxSteps := 2000000) (disch := first | omega | (simp only [lenS]; try omega)) only [go_sem, reduceAdd, reduceEqDiff, reduceLeDiff, reduceSub]
    rw [e1, e2]
    refine ⟨fun h => ⟨fun h3 => ?_, fun h3 => ?_⟩, fun h => ?_⟩
    · rw [z6o h h3, List.map_append]; simp
    · rw [z6m (by rw [h, h3]; rfl)]; rfl
    · rw [z6m (by rw [h]; rfl)]; rfl
  · rintro s rfl
    simp (maxSteps := 2000000) (disch := first | omega | (simp only [lenS]; try omega)) only [go_sem, reduceAdd, reduceEqDiff, reduceLeDiff, reduceSub]
    rfl
theorem wag (n : Net) (a b : Int) (hg : goodN n = true) (ha : 0 ≤ a ∧ a < n.pl) (hb2 : 0 ≤ b ∧ b < n.pl) : C w7c [encN n, I a, I b] [] = some (.tup [.un t_int true 1 ((wayP n a b).map I), .un t_int true 1 ((wayT n a b).map I)], []) := by
  have hb := zgv hg
  have l1 := zze n false a
  have l2 := zze n true b
  refine w10 ?_
  simp (maxSteps := 2000000) (disch := first | omega | (simp only [lenS]; try omega)) only [wbt, go_sem, reduceAdd, reduceEqDiff, reduceLeDiff, reduceSub]
  simp (maxSteps := 2000000) (disch := first | omega | (simp only [lenS]; try omega)) only [go_sem, reduceAdd, reduceEqDiff, reduceLeDiff, reduceSub, wai n a hg ha, waj n b hg hb2]
  simp (maxSteps := 2000000) (disch := first | omega | (simp only [lenS]; try omega)) only [go_sem, reduceAdd, reduceEqDiff, reduceLeDiff, reduceSub, wa0 (zzc n false a).pl (zzc n true b).pl (by omega) (by omega), wa0 (zzc n false a).tr (zzc n true b).tr (by omega) (by omega)]
  rfl
theorem w9i (f : Fl) (hf : smN f.net) : C w6e [encF f] [] = some (.bool (zgg f), []) := by
  have hl := hf.1
  refine w02 ?_
  simp (maxSteps := 2000000) (disch := first | omega | (simp only [lenS]; try omega)) only [wau, go_sem, reduceAdd, reduceEqDiff, reduceLeDiff, reduceSub]
  simp (maxSteps := 2000000) (disch := first | omega | (simp only [lenS]; try omega)) only [go_sem, reduceAdd, reduceEqDiff, reduceLeDiff, reduceSub, w9k f.net hf, waq]
  cases hg : goodN f.net with
  | false => simp [zgg, okWay, hg]
  | true =>
    have hb := zgv hg
    cases h1 : inB 0 (f.net.pl - 1) f.src with
    | false => simp (maxSteps := 2000000) (disch := first | omega | (simp only [lenS]; try omega)) only [go_sem, reduceAdd, reduceEqDiff, reduceLeDiff, reduceSub, h1]; simp [zgg, okWay, hg, h1]
    | true =>
      cases h2 : inB 0 (f.net.pl - 1) f.dst with
      | false => simp (maxSteps := 2000000) (disch := first | omega | (simp only [lenS]; try omega)) only [go_sem, reduceAdd, reduceEqDiff, reduceLeDiff, reduceSub, h1, h2]; simp [zgg, okWay, hg, h1, h2]
      | true =>
        have hok : okWay f.net f.src f.dst = true := by simp [okWay, hg, h1, h2]
        have ha : 0 ≤ f.src ∧ f.src < f.net.pl := by simp [inB] at h1; omega
        have hb2 : 0 ≤ f.dst ∧ f.dst < f.net.pl := by simp [inB] at h2; omega
        have hP : (wayP f.net f.src f.dst).length < 2^62 := by
          have h1 := z6n (zzc f.net false f.src).pl (zzc f.net true f.dst).pl (zzc f.net false f.src).pl.length
          have h2 := zze f.net false f.src
          unfold wayP bothL; omega
        have hT : (wayT f.net f.src f.dst).length < 2^62 := by
          have h1 := z6n (zzc f.net false f.src).tr (zzc f.net true f.dst).tr (zzc f.net false f.src).tr.length
          have h2 := zze f.net false f.src
          unfold wayT bothL; omega
        simp (maxSteps := 2000000) (disch := first | omega | (simp only [lenS]; try omega)) only [go_sem, reduceAdd, reduceEqDiff, reduceLeDiff, reduceSub, h1, h2]
        refine ⟨fun h => by simp [zgg, h], fun hne => ?_⟩
        refine W_for f.net.tr.length (fun k s => s = ⟨[.any, .ptr 0 0, .any, .ptr 1 0, .any, .any, .any, .any, trs f.net.tr, I f.net.tr.length, I k, .any, .any], [.box wfw [I f.net.pl, trs f.net.tr, I f.src, I f.dst], .box wfy [I f.net.pl, trs f.net.tr]]⟩ ∧ (f.net.tr.take k).all (fun t => !z16y f t) = true) ?_ ?_ ?_
        · simp (maxSteps := 2000000) (disch := first | omega | (simp only [lenS]; try omega)) only [go_sem, reduceAdd, reduceEqDiff, reduceLeDiff, reduceSub]
          rfl
        · rintro k s hk ⟨rfl, hall⟩
          have hT := hb.2.2.2 _ (List.getElem_mem hk)
          have hLs := zh0 hT (by omega)
          simp (maxSteps := 2000000) (disch := first | omega | (simp only [lenS]; try omega)) only [go_sem, reduceAdd, reduceEqDiff, reduceLeDiff, reduceSub, we4]
          have gs : z16y f f.net.tr[k] = true → zgg f = false := fun hs => by
            have : (f.net.tr.all fun t => !z16y f t) = false := z2r hk (by simp [hs])
            simp [zgg, this]
          exact ⟨fun a => by rw [gs (by simp [z16y, a])], fun a => ⟨fun b => by rw [gs (by simp [z16y, b])], fun b => ⟨fun c => by rw [gs (by simp [z16y, c])], fun c => ⟨fun d => by rw [gs (by simp [z16y, d])], fun d => ⟨rfl, z2s hk hall (by simp [z16y, a, b, c, d])⟩⟩⟩⟩⟩
        · rintro s ⟨rfl, hall⟩
          rw [List.take_length] at hall
          simp (maxSteps := 2000000) (disch := first | omega | (simp only [lenS]; try omega)) only [go_sem, reduceAdd, reduceEqDiff, reduceLeDiff, reduceSub, wag f.net f.src f.dst hg ha hb2]
          have e : zgg f = (decide (((wayP f.net f.src f.dst).length : Int) = f.net.pl) && decide ((wayT f.net f.src f.dst).length = f.net.tr.length)) := by
            simp only [zgg, hok, hne, hall, decide_false, Bool.not_false, Bool.true_and]
          refine ⟨fun q1 => ⟨fun q2 => ?_, fun q2 => ?_⟩, fun q1 => ?_⟩
          · rw [e, decide_eq_true q1, decide_eq_true (by omega)]; rfl
          · rw [e, decide_eq_true q1, decide_eq_false (by omega)]; rfl
          · rw [e, decide_eq_false q1]; rfl
theorem wad (s : Spc) (hs : smSpc s) : C w79 [encS s] [] = some (.bool (goodS s), []) := by
  obtain ⟨hl, ht⟩ := hs
  refine w0x ?_
  simp (maxSteps := 2000000) (disch := first | omega | (simp only [lenS]; try omega)) only [wbq, go_sem, reduceAdd, reduceEqDiff, reduceLeDiff, reduceSub]
  simp (maxSteps := 2000000) (disch := first | omega | (simp only [lenS]; try omega)) only [go_sem, reduceAdd, reduceEqDiff, reduceLeDiff, reduceSub, waq]
  refine ⟨fun h1 => ⟨fun h2 => ?_, fun h2 => by simp [goodS, zt9, h2]⟩, fun h1 => by simp [goodS, zt9, h1]⟩
  have hc : 2 ≤ s.conds ∧ s.conds ≤ 8 := by simpa [inB] using h1
  have hn : 1 ≤ s.tasks.length ∧ s.tasks.length ≤ 6 := by simp [inB] at h2; omega
  refine W_for s.tasks.length (fun i st => st = ⟨[.any, .ptr 0 0, .any, .any, .any, I s.tasks.length, I i, .any, .any], [.box wg0 [I s.conds, tks s.tasks]]⟩ ∧ ∀ k, k < i → goodK s k (tkN s k) = true) ?_ ?_ ?_
  · simp (maxSteps := 2000000) (disch := first | omega | (simp only [lenS]; try omega)) only [go_sem, reduceAdd, reduceEqDiff, reduceLeDiff, reduceSub]
    exact ⟨rfl, fun k hk => by omega⟩
  · rintro i st hi ⟨rfl, hall⟩
    have hT := wae s i hi hn.2 hc (ht _ (List.getElem_mem hi))
    rw [← z19s hi] at hT
    simp (maxSteps := 2000000) (disch := first | omega | (simp only [lenS]; try omega)) only [go_sem, reduceAdd, reduceEqDiff, reduceLeDiff, reduceSub, hT]
    refine ⟨fun h => ⟨rfl, fun k hk => ?_⟩, fun h => ?_⟩
    · rcases Nat.lt_or_ge k i with h5 | h5
      · exact hall k h5
      · rw [show k = i by omega]; exact h
    · have : zt9 s = false := by
        rw [Bool.eq_false_iff]
        intro he
        have := (zta he).2.2 i hi
        rw [h] at this; cases this
      simp [goodS, this]
  · rintro st ⟨rfl, hall⟩
    have hok : zt9 s = true := by
      simp only [zt9, h1, h2, Bool.true_and, List.all_eq_true, List.mem_range]
      exact hall
    have hf := wan s hok
    have hg := w9i (flS s) (zeg hok)
    have e : (trS s).length = (mvS s).length := z1ab s s.tasks.length
    have h3 := zr7 hok s.tasks.length (by omega)
    unfold mvS at e
    unfold encF flS at hg
    simp only at hg
    simp (maxSteps := 2000000) (disch := first | omega | (simp only [lenS]; try omega)) only [go_sem, reduceAdd, reduceEqDiff, reduceLeDiff, reduceSub, hf, hg]
    simp [goodS, hok, flS]
theorem wam (n p : Int) (hn : 0 ≤ n ∧ n < 2^30) (hp : 0 ≤ p ∧ p < n) : C w7h [I n, I p] [] = some (.un t_int true 1 ((oneM n.toNat p).map I), []) := by
  refine w15 ?_
  simp (maxSteps := 2000000) (disch := first | omega | (simp only [lenS]; try omega)) only [wby, go_sem, reduceAdd, reduceEqDiff, reduceLeDiff, reduceSub]
  simp (maxSteps := 2000000) (disch := first | omega | (simp only [lenS]; try omega)) only [go_sem, reduceAdd, reduceEqDiff, reduceLeDiff, reduceSub, List.getElem_replicate]
  simp [oneM, List.map_set]
theorem wao (f : Fl) (hg : zgg f = true) : C w7j [encF f] [] = some (.un t_int true 1 ((oneM f.net.pl.toNat f.src).map I), []) := by
  obtain ⟨g1, g2, g3, _⟩ := zgj hg
  have hn := zgv g1
  refine w17 ?_
  simp (maxSteps := 2000000) (disch := first | omega | (simp only [lenS]; try omega)) only [wc0, go_sem, reduceAdd, reduceEqDiff, reduceLeDiff, reduceSub]
  simp (maxSteps := 2000000) (disch := first | omega | (simp only [lenS]; try omega)) only [go_sem, reduceAdd, reduceEqDiff, reduceLeDiff, reduceSub, wam f.net.pl f.src (by omega) g2]
theorem waa (m : List Int) (p : Int) (h : 0 ≤ p ∧ p.toNat < m.length) : C w77 [I p, .pv (.agg [ints m]) 0] [] = some (.bool (at_ m p == 0), []) := by
  obtain ⟨h1, h2⟩ := h
  refine w0v ?_
  simp (maxSteps := 2000000) (disch := first | omega | (simp only [lenS]; try omega)) only [wbo, go_sem, reduceAdd, reduceEqDiff, reduceLeDiff, reduceSub]
  simp only [at_eq h2]
  grind
theorem wab (t : Tr) (m : List Int) (ht : ∀ q ∈ t.inn, 0 ≤ q ∧ q.toNat < m.length) (hl : t.inn.length < 2^62) : C w76 [encT t, ints m] [] = some (.bool (canT t m), []) := by
  refine w0u ?_
  simp (maxSteps := 2000000) (disch := first | omega | (simp only [lenS]; try omega)) only [wbn, go_sem, reduceAdd, reduceEqDiff, reduceLeDiff, reduceSub]
  have h := we2 t.inn w77 [.pv (.agg [ints m]) 0] rfl (fun _ _ => rfl) (fun p => at_ m p == 0) (fun x hx => waa m x (ht x hx)) hl
  simp (maxSteps := 2000000) (disch := first | omega | (simp only [lenS]; try omega)) only [go_sem, reduceAdd, reduceEqDiff, reduceLeDiff, reduceSub, h]
  have : (t.inn.any fun p => at_ m p == 0) = !canT t m := by rw [canT, List.any_eq_not_all_not]
  rw [this]; simp
theorem wa4 (n : Net) (m : List Int) (hg : goodN n = true) (hm : (m.length : Int) = n.pl) : C w70 [encN n, ints m] [] = some (.un t_int true 1 ((enabL n m).map I), []) := by
  have hb := zgv hg
  refine w0o ?_
  simp (maxSteps := 2000000) (disch := first | omega | (simp only [lenS]; try omega)) only [wbh, go_sem, reduceAdd, reduceEqDiff, reduceLeDiff, reduceSub]
  refine W_for n.tr.length (fun k s => s = ⟨[.any, ints m, .any, .any, .ref 0 1 0 (enabK n m k).length, .any, .any, trs n.tr, I n.tr.length, I k, .any, .any], [.row t_int true 1 ((enabK n m k).map I)]⟩) ?_ ?_ ?_
  · simp (maxSteps := 2000000) (disch := first | omega | (simp only [lenS]; try omega)) only [go_sem, reduceAdd, reduceEqDiff, reduceLeDiff, reduceSub]
    rfl
  · rintro k s hk rfl
    have hT := hb.2.2.2 _ (List.getElem_mem hk)
    have h2 := zbd n m k
    simp (maxSteps := 2000000) (disch := first | omega | (simp only [lenS]; try omega)) only [go_sem, reduceAdd, reduceEqDiff, reduceLeDiff, reduceSub, wab _ m (zh1 hT hm).1 (by have := (zh0 hT (by omega)).1; omega)]
    refine ⟨fun h => ?_, fun h => ?_⟩
    · rw [zbe hk h, List.map_append]; simp
    · rw [zbc hk h]; rfl
  · rintro s rfl
    simp (maxSteps := 2000000) (disch := first | omega | (simp only [lenS]; try omega)) only [go_sem, reduceAdd, reduceEqDiff, reduceLeDiff, reduceSub]
    rfl
theorem wa7 (t : Tr) (m : List Int) (h1 : ∀ q ∈ t.inn, 0 ≤ q ∧ q.toNat < m.length) (h2 : ∀ q ∈ t.out, 0 ≤ q ∧ q.toNat < m.length) (h3 : ∀ q ∈ t.rst, 0 ≤ q ∧ q.toNat < m.length) (hl : smT t) (hm : m.length < 2^30) (hb : ∀ x ∈ m, 0 ≤ x ∧ x ≤ 50) :
    C w73 [encT t, ints m] [] = some (.un t_int true 1 ((ze7 t m).map I), []) := by
  obtain ⟨g1, g2, g3⟩ := hl
  refine w0r ?_
  simp (maxSteps := 2000000) (disch := first | omega | (simp only [lenS]; try omega)) only [wbk, go_sem, reduceAdd, reduceEqDiff, reduceLeDiff, reduceSub]
  simp (maxSteps := 2000000) (disch := first | omega | (simp only [lenS]; try omega)) only [go_sem, reduceAdd, reduceEqDiff, reduceLeDiff, reduceSub, wdz]
  refine W_for t.inn.length (fun k s => s = ⟨[.any, .any, .ptr 0 0, .any, .ref 1 1 0 m.length, .any, .any, .any, ints t.inn, I t.inn.length, I k, .any, .any, .any, .any, .any, .any, .any, .any, .any], [.box wg2 [ints t.inn, ints t.out, ints t.rst], .row t_int true 1 ((decL m (t.inn.take k)).map I)]⟩) ?_ ?_ ?_
  · simp (maxSteps := 2000000) (disch := first | omega | (simp only [lenS]; try omega)) only [go_sem, reduceAdd, reduceEqDiff, reduceLeDiff, reduceSub]
    rfl
  · rintro k s hk rfl
    obtain ⟨h4, h5⟩ := h1 _ (List.getElem_mem hk)
    have h6 := zan m (t.inn.take k)
    have h7 := z46 (p := t.inn[k]) (zam (l := t.inn.take k) hb (fun p hp => (h1 p (List.mem_of_mem_take hp)).2)) (by omega)
    have h8 : (t.inn.take k).length = k := by simp; omega
    simp (maxSteps := 2000000) (disch := first | omega | (simp only [lenS]; try omega)) only [go_sem, reduceAdd, reduceEqDiff, reduceLeDiff, reduceSub, at_eq]
    rw [zao hk]; rfl
  · rintro s rfl
    simp (maxSteps := 2000000) (disch := first | omega | (simp only [lenS]; try omega)) only [go_sem, reduceAdd, reduceEqDiff, reduceLeDiff, reduceSub, List.take_length]
    have b1 := zam (l := t.inn) hb (fun p hp => (h1 p hp).2)
    have l1 := zan m t.inn
    generalize e1 : decL m t.inn = m1 at b1 l1 ⊢
    refine W_for t.rst.length (fun k s => s = ⟨[.any, .any, .ptr 0 0, .any, .ref 1 1 0 m.length, .any, .any, .any, .any, .any, .any, .any, ints t.rst, I t.rst.length, I k, .any, .any, .any, .any, .any], [.box wg2 [ints t.inn, ints t.out, ints t.rst], .row t_int true 1 ((zerL m1 (t.rst.take k)).map I)]⟩) ?_ ?_ ?_
    · simp (maxSteps := 2000000) (disch := first | omega | (simp only [lenS]; try omega)) only [go_sem, reduceAdd, reduceEqDiff, reduceLeDiff, reduceSub]
      rfl
    · rintro k s hk rfl
      obtain ⟨h4, h5⟩ := h3 _ (List.getElem_mem hk)
      have h6 := z1c1 m1 (t.rst.take k)
      simp (maxSteps := 2000000) (disch := first | omega | (simp only [lenS]; try omega)) only [go_sem, reduceAdd, reduceEqDiff, reduceLeDiff, reduceSub]
      rw [z1c2 hk]; rfl
    · rintro s rfl
      simp (maxSteps := 2000000) (disch := first | omega | (simp only [lenS]; try omega)) only [go_sem, reduceAdd, reduceEqDiff, reduceLeDiff, reduceSub, List.take_length]
      have b2 := z1c0 (l := t.rst) b1 (by omega)
      have l2 := z1c1 m1 t.rst
      generalize e2 : zerL m1 t.rst = m2 at b2 l2 ⊢
      refine W_for t.out.length (fun k s => s = ⟨[.any, .any, .any, .any, .ref 0 1 0 m.length, .any, .any, .any, .any, .any, .any, .any, .any, .any, .any, .any, ints t.out, I t.out.length, I k, .any], [.row t_int true 1 ((incL m2 (t.out.take k)).map I)]⟩) ?_ ?_ ?_
      · simp (maxSteps := 2000000) (disch := first | omega | (simp only [lenS]; try omega)) only [go_sem, reduceAdd, reduceEqDiff, reduceLeDiff, reduceSub]
        rfl
      · rintro k s hk rfl
        obtain ⟨h4, h5⟩ := h2 _ (List.getElem_mem hk)
        have h6 := zjx m2 (t.out.take k)
        have h7 := z46 (p := t.out[k]) (zjw (l := t.out.take k) b2 (fun p hp => by have := (h2 p (List.mem_of_mem_take hp)).2; omega)) (by omega)
        have h8 : (t.out.take k).length = k := by simp; omega
        simp (maxSteps := 2000000) (disch := first | omega | (simp only [lenS]; try omega)) only [go_sem, reduceAdd, reduceEqDiff, reduceLeDiff, reduceSub, at_eq]
        rw [zjy hk]; rfl
      · rintro s rfl
        have h6 := zjx m2 t.out
        simp (maxSteps := 2000000) (disch := first | omega | (simp only [lenS]; try omega)) only [go_sem, reduceAdd, reduceEqDiff, reduceLeDiff, reduceSub, List.take_length]
        subst e2 e1; rfl
theorem we5 (a b : List Int) (hl : a.length < 2^62) : C w7w [ints a, ints b] [] = some (.bool (decide (a = b)), []) := by
  refine w1j ?_
  simp (maxSteps := 2000000) (disch := first | omega | (simp only [lenS]; try omega)) only [wcc, go_sem, reduceAdd, reduceEqDiff, reduceLeDiff, reduceSub]
  refine ⟨fun h => ?_, fun h => ?_⟩
  · have : a ≠ b := fun e => h (by rw [e])
    simp [this]
  refine W_for a.length (fun k s => s = ⟨[ints a, ints b, .any, .any, .any, I a.length, I k, .any, .any], []⟩ ∧ a.take k = b.take k) ?_ ?_ ?_
  · simp (maxSteps := 2000000) (disch := first | omega | (simp only [lenS]; try omega)) only [go_sem, reduceAdd, reduceEqDiff, reduceLeDiff, reduceSub]
    rfl
  · rintro k s hk ⟨rfl, hall⟩
    simp (maxSteps := 2000000) (disch := first | omega | (simp only [lenS]; try omega)) only [go_sem, reduceAdd, reduceEqDiff, reduceLeDiff, reduceSub]
    refine ⟨fun h => ?_, fun h => ⟨rfl, ?_⟩⟩
    · have : a ≠ b := fun e => h (by simp [e])
      simp [this]
    · rw [z19l hk, z19l (show k < b.length by omega), hall, h]
  · rintro s ⟨rfl, hall⟩
    simp (maxSteps := 2000000) (disch := first | omega | (simp only [lenS]; try omega)) only [go_sem, reduceAdd, reduceEqDiff, reduceLeDiff, reduceSub]
    rw [List.take_length, List.take_of_length_le (by omega)] at hall
    simp [hall]
abbrev encA (a : Arc3) : PV := .agg [I a.src, I a.by_, I a.dst]
def arcPV (l : List Arc3) : PV := if l = [] then .nil true 3 else .un wfv true 3 (l.map encA)
def exPV (r : Ex) : PV := if r.code = 0 then .agg [.un wg5 false 1 (r.sp.ms.map ints), arcPV r.sp.ar] else .agg [.nil false 1, .nil true 3]
def w67 (r : Ex) : Int := if r.code = 0 then 1 else r.code
theorem w68 {n : Net} {start : List Int} {b : Int} (hm : zp8 n start = true) (hb : 1 ≤ b) : ExOk n start b ⟨⟨[start], []⟩, 0⟩ := by
  refine ⟨rfl, fun m hm2 => ?_, by simp; omega, by simp, fun a ha => by simp at ha, fun j hj hl => ?_⟩
  · simp only [List.mem_singleton] at hm2; subst hm2; exact hm
  · simp only [List.length_cons, List.length_nil] at hl; omega
theorem w9p (x m : List Int) (hx : x.length < 2^62) : C w6m [ints x, .pv (.agg [ints m]) 0] [] = some (.bool (decide (x = m)), []) := by
  refine w0a ?_
  simp (maxSteps := 2000000) (disch := first | omega | (simp only [lenS]; try omega)) only [wb3, go_sem, reduceAdd, reduceEqDiff, reduceLeDiff, reduceSub]
  simp (maxSteps := 2000000) (disch := first | omega | (simp only [lenS]; try omega)) only [go_sem, reduceAdd, reduceEqDiff, reduceLeDiff, reduceSub, we5]
  grind
theorem we9 (l : List (List Int)) (g : FuncId) (caps : List PV) (hc : refsL caps = []) (hcv : ∀ m h, z1aw [] m h caps = some caps) (p : List Int → Bool) (hp : ∀ x ∈ l, C g (ints x :: caps) [] = some (.bool (p x), [])) (hl : l.length < 2^62) :
    C w80 [rows l, .clo g caps] [] = some (I (idxI l p), []) := by
  refine w1n ?_
  simp (maxSteps := 2000000) (disch := first | omega | (simp only [lenS]; try omega)) only [wcg, go_sem, reduceAdd, reduceEqDiff, reduceLeDiff, reduceSub]
  refine W_for l.length (fun k s => s = ⟨[rows l, .clo g caps, .any, .any, I l.length, I k, .any, .any], []⟩ ∧ (l.take k).any p = false) ?_ ?_ ?_
  · simp (maxSteps := 2000000) (disch := first | omega | (simp only [lenS]; try omega)) only [go_sem, reduceAdd, reduceEqDiff, reduceLeDiff, reduceSub, hc]
    rfl
  · rintro k s hk ⟨rfl, hall⟩
    simp (maxSteps := 2000000) (disch := first | omega | (simp only [lenS]; try omega)) only [go_sem, reduceAdd, reduceEqDiff, reduceLeDiff, reduceSub, hc, hcv, hp _ (List.getElem_mem hk)]
    exact ⟨fun h => by rw [zhy hk hall h], fun h => ⟨rfl, z37 hk hall h⟩⟩
  · rintro s ⟨rfl, hall⟩
    simp (maxSteps := 2000000) (disch := first | omega | (simp only [lenS]; try omega)) only [go_sem, reduceAdd, reduceEqDiff, reduceLeDiff, reduceSub]
    rw [List.take_length] at hall
    rw [zhx hall]
theorem w9q (ms : List (List Int)) (A : List PV) (m : List Int) (hl : ms.length < 2^62) (hx : ∀ x ∈ ms, x.length < 2^62) : C w6l [.agg [rows ms, .sl true 3 A], ints m] [] = some (I (findM ms m), []) := by
  have h := we9 ms w6m [.pv (.agg [ints m]) 0] rfl (fun _ _ => rfl) (fun x => decide (x = m)) (fun x h => w9p x m (hx x h)) hl
  refine w09 ?_
  simp (maxSteps := 2000000) (disch := first | omega | (simp only [lenS]; try omega)) only [wb2, go_sem, reduceAdd, reduceEqDiff, reduceLeDiff, reduceSub]
  simp (maxSteps := 2000000) (disch := first | omega | (simp only [lenS]; try omega)) only [go_sem, reduceAdd, reduceEqDiff, reduceLeDiff, reduceSub, h]
  rfl
theorem wa6 (n : Net) (start : List Int) (b : Int) (hm : zp8 n start = true) (hb : 1 ≤ b ∧ b ≤ 400) : C w72 [encN n, ints start, I b] [] = some (.tup [exPV (exAll n start b), I (w67 (exAll n start b))], []) := by
  obtain ⟨hg, hmk⟩ := zp9 hm
  have hn := zgv hg
  have hs := zgn hmk
  refine w0q ?_
  simp (maxSteps := 2000000) (disch := first | omega | (simp only [lenS]; try omega)) only [wbj, go_sem, reduceAdd, reduceEqDiff, reduceLeDiff, reduceSub]
  simp (maxSteps := 2000000) (disch := first | omega | (simp only [lenS]; try omega)) only [go_sem, reduceAdd, reduceEqDiff, reduceLeDiff, reduceSub, wdz]
  generalize hR : exAll n start b = R
  refine z1a (fun d s => ∃ (k : Nat) (c : Ex), d + k = b.toNat + 1 ∧ ExOk n start b c ∧ c.code = 0 ∧ k ≤ c.sp.ms.length ∧ c.sp.ar.length ≤ 24 * k ∧ exRun n b (d + 1) k c = R ∧ ((s = ⟨[.any, .any, I b, .ptr 0 0, .ptr 1 0, .any, .ptr 2 0, I k, .any, .any, .any, .any, .any, .any, .any, .any, .any, .any, .any], [.box wfy [I n.pl, trs n.tr], .box wfz [.nil false 1, .nil true 3], .box wfz [.ref 3 1 0 c.sp.ms.length, .nil true 3], .row wg5 false 1 (c.sp.ms.map ints)]⟩ ∧ c.sp.ar = []) ∨ (s = ⟨[.any, .any, I b, .ptr 0 0, .ptr 1 0, .any, .ptr 2 0, I k, .any, .any, .any, .any, .any, .any, .any, .any, .any, .any, .any], [.box wfy [I n.pl, trs n.tr], .box wfz [.nil false 1, .nil true 3], .box wfz [.ref 3 1 0 c.sp.ms.length, .ref 4 3 0 c.sp.ar.length], .row wg5 false 1 (c.sp.ms.map ints), .row wfv true 3 (c.sp.ar.map encA)]⟩ ∧ c.sp.ar ≠ []))) (b.toNat + 1) ?_ ?_
  · refine ⟨0, ⟨⟨[start], []⟩, 0⟩, by omega, w68 hm hb.1, rfl, by omega, by simp, hR, .inl ⟨?_, rfl⟩⟩
    simp (maxSteps := 2000000) (disch := first | omega | (simp only [lenS]; try omega)) only [go_sem, reduceAdd, reduceEqDiff, reduceLeDiff, reduceSub]
    rfl
  · rintro d s ⟨k, c, hd, hok, hc0, hk, hal, hrun, hcs⟩
    have hlb := hok.lenb
    by_cases hkl : k < c.sp.ms.length
    · have hmem := zg7 hkl
      have hmg := zp9 (hok.good _ hmem)
      have hml := zgn hmg.2
      have en := wa4 n (c.sp.ms.getD k []) hg hml.2.2.1
      have hLl : (enabL n (c.sp.ms.getD k [])).length ≤ n.tr.length := zbd ..
      have er : exRun n b (d + 1) k c = exRun n b d (k + 1) (exL n b k c (enabL n (c.sp.ms.getD k []))) := by
        show (if c.code ≠ 0 then c else if k < c.sp.ms.length then _ else c) = _
        rw [if_neg (by omega), if_pos hkl]
      rw [er] at hrun
      have hen : ∀ t ∈ enabL n (c.sp.ms.getD k []), t ∈ enabL n (c.sp.ms.getD k []) := fun t h => h
      generalize hL : enabL n (c.sp.ms.getD k []) = L at *
      rcases hcs with ⟨rfl, har⟩ | ⟨rfl, har⟩
      all_goals
        simp (maxSteps := 2000000) (disch := first | omega | (simp only [lenS]; try omega)) only [go_sem, reduceAdd, reduceEqDiff, reduceLeDiff, reduceSub, zg8, en]
        refine W_for L.length (fun j s => ∃ c' : Ex, ExOk n start b c' ∧ c'.code = 0 ∧ k < c'.sp.ms.length ∧ enabL n (c'.sp.ms.getD k []) = L ∧ c'.sp.ar.length ≤ 24 * k + j ∧ exRun n b d (k + 1) (exL n b k c' (L.drop j)) = R ∧ ((s = ⟨[.any, .any, I b, .ptr 0 0, .ptr 1 0, .any, .ptr 2 0, I k, .any, .any, .any, .any, .ref 3 1 0 L.length, I L.length, I j, .any, .any, .any, .any], [.box wfy [I n.pl, trs n.tr], .box wfz [.nil false 1, .nil true 3], .box wfz [.ref 4 1 0 c'.sp.ms.length, .nil true 3], .row t_int true 1 (L.map I), .row wg5 false 1 (c'.sp.ms.map ints)]⟩ ∧ c'.sp.ar = []) ∨ (s = ⟨[.any, .any, I b, .ptr 0 0, .ptr 1 0, .any, .ptr 2 0, I k, .any, .any, .any, .any, .ref 3 1 0 L.length, I L.length, I j, .any, .any, .any, .any], [.box wfy [I n.pl, trs n.tr], .box wfz [.nil false 1, .nil true 3], .box wfz [.ref 4 1 0 c'.sp.ms.length, .ref 5 3 0 c'.sp.ar.length], .row t_int true 1 (L.map I), .row wg5 false 1 (c'.sp.ms.map ints), .row wfv true 3 (c'.sp.ar.map encA)]⟩ ∧ c'.sp.ar ≠ []))) ?_ ?_ ?_
        · refine ⟨c, hok, hc0, hkl, hL, by omega, hrun, ?_⟩
          first
          | refine .inl ⟨?_, har⟩
            simp (maxSteps := 2000000) (disch := first | omega | (simp only [lenS]; try omega)) only [go_sem, reduceAdd, reduceEqDiff, reduceLeDiff, reduceSub]
            done
          | refine .inl ⟨?_, har⟩
            simp (maxSteps := 2000000) (disch := first | omega | (simp only [lenS]; try omega)) only [go_sem, reduceAdd, reduceEqDiff, reduceLeDiff, reduceSub]
            rfl
          | refine .inr ⟨?_, har⟩
            simp (maxSteps := 2000000) (disch := first | omega | (simp only [lenS]; try omega)) only [go_sem, reduceAdd, reduceEqDiff, reduceLeDiff, reduceSub]
            done
          | refine .inr ⟨?_, har⟩
            simp (maxSteps := 2000000) (disch := first | omega | (simp only [lenS]; try omega)) only [go_sem, reduceAdd, reduceEqDiff, reduceLeDiff, reduceSub]
            rfl
        · rintro j s hj ⟨c', hok', hc0', hkl', hL', hal', hrun', hcs'⟩
          have hlb' := hok'.lenb
          have ht : L[j] ∈ enabL n (c'.sp.ms.getD k []) := by rw [hL']; exact List.getElem_mem hj
          obtain ⟨t1, t2, t3⟩ := zbf.1 ht
          have hT := hn.2.2.2 (trAt n L[j]) (by rw [← z19x t2]; exact List.getElem_mem _)
          have hm2 := zgn (zp9 (hok'.good _ (zg7 hkl'))).2
          have hx := zh1 hT hm2.2.2.1
          have hy := zh0 hT (by omega)
          have hfire := wa7 (trAt n L[j]) (c'.sp.ms.getD k []) hx.1 hx.2.1 hx.2.2 ⟨by omega, by omega, by omega⟩ (by omega) hm2.2.2.2.2
          have hMl := ze9 (trAt n L[j]) (c'.sp.ms.getD k [])
          have hok2 := zcg hok' hkl' ht
          have hxs : ∀ x ∈ c'.sp.ms, x.length < 2^62 := fun x hx => by have := zgn (zp9 (hok'.good x hx)).2; omega
          rw [zc1 hj] at hrun'
          have f1 := zck (n := n) (b := b) (k := k) (s := c') (t := L[j]) hc0'
          have f2 := zch (n := n) (b := b) (k := k) (s := c') (t := L[j]) hc0'
          have f3 := zcd (n := n) (b := b) (k := k) (s := c') (t := L[j]) hc0'
          have f4 := zcf (n := n) (b := b) (k := k) (s := c') (t := L[j]) hc0'
          generalize hM : ze7 (trAt n L[j]) (c'.sp.ms.getD k []) = M at *
          have ck : C w6t [ints M, I 0, I 50] [] = some (.bool (M.all (inB 0 50)), []) := w9x M 0 50 (by omega)
          have fd := fun A => w9q c'.sp.ms A M (by omega) hxs
          have hsl : ∀ c2 : Ex, c2.code ≠ 0 → exRun n b d (k + 1) (exL n b k c2 (L.drop (j + 1))) = c2 := fun c2 h => by rw [zc3 h, zc8 h]
          cases ha : M.all (inB 0 50) with
          | false =>
            rw [f1 ha, hsl _ (by simp)] at hrun'
            subst hrun'
            rw [ha] at ck
            rcases hcs' with ⟨rfl, har'⟩ | ⟨rfl, har'⟩ <;> simp (maxSteps := 2000000) (disch := first | omega | (simp only [lenS]; try omega)) only [go_sem, reduceAdd, reduceEqDiff, reduceLeDiff, reduceSub, zg8, z19x, hfire, ck, exPV, w67]
          | true =>
            rw [ha] at ck
            by_cases h2 : 0 ≤ findM c'.sp.ms M
            · rw [f2 ha h2] at hrun' hok2
              rcases hcs' with ⟨rfl, har'⟩ | ⟨rfl, har'⟩
              · simp (maxSteps := 2000000) (disch := first | omega | (simp only [lenS]; try omega)) only [go_sem, reduceAdd, reduceEqDiff, reduceLeDiff, reduceSub, zg8, z19x, hfire, ck, fd]
                refine ⟨_, hok2, rfl, hkl', hL', by simp only [List.length_append, List.length_cons, List.length_nil]; omega, hrun', .inr ⟨?_, by simp⟩⟩
                simp [har']
              · simp (maxSteps := 2000000) (disch := first | omega | (simp only [lenS]; try omega)) only [go_sem, reduceAdd, reduceEqDiff, reduceLeDiff, reduceSub, zg8, z19x, hfire, ck, fd]
                refine ⟨_, hok2, rfl, hkl', hL', by simp only [List.length_append, List.length_cons, List.length_nil]; omega, hrun', .inr ⟨?_, by simp⟩⟩
                simp
            · by_cases h3 : b ≤ c'.sp.ms.length
              · rw [f3 ha h2 h3, hsl _ (by simp)] at hrun'
                subst hrun'
                rcases hcs' with ⟨rfl, har'⟩ | ⟨rfl, har'⟩ <;> simp (maxSteps := 2000000) (disch := first | omega | (simp only [lenS]; try omega)) only [go_sem, reduceAdd, reduceEqDiff, reduceLeDiff, reduceSub, zg8, z19x, hfire, ck, fd, exPV, w67]
              · rw [f4 ha h2 h3] at hrun' hok2
                rcases hcs' with ⟨rfl, har'⟩ | ⟨rfl, har'⟩
                · simp (maxSteps := 2000000) (disch := first | omega | (simp only [lenS]; try omega)) only [go_sem, reduceAdd, reduceEqDiff, reduceLeDiff, reduceSub, zg8, z19x, hfire, ck, fd]
                  refine ⟨_, hok2, rfl, by simp only [List.length_append]; omega, by simp only; rw [zg3 hkl']; exact hL', by simp only [List.length_append, List.length_cons, List.length_nil]; omega, hrun', .inr ⟨?_, by simp⟩⟩
                  simp [har']
                · simp (maxSteps := 2000000) (disch := first | omega | (simp only [lenS]; try omega)) only [go_sem, reduceAdd, reduceEqDiff, reduceLeDiff, reduceSub, zg8, z19x, hfire, ck, fd]
                  refine ⟨_, hok2, rfl, by simp only [List.length_append]; omega, by simp only; rw [zg3 hkl']; exact hL', by simp only [List.length_append, List.length_cons, List.length_nil]; omega, hrun', .inr ⟨?_, by simp⟩⟩
                  simp
        · rintro s ⟨c', hok', hc0', hkl', hL', hal', hrun', hcs'⟩
          rw [List.drop_length] at hrun'
          have hlb' := hok'.lenb
          rcases hcs' with ⟨rfl, har'⟩ | ⟨rfl, har'⟩
          · simp (maxSteps := 2000000) (disch := first | omega | (simp only [lenS]; try omega)) only [go_sem, reduceAdd, reduceEqDiff, reduceLeDiff, reduceSub]
            refine ⟨d - 1, by omega, k + 1, c', by omega, hok', hc0', by omega, by omega, by rw [show d - 1 + 1 = d by omega]; exact hrun', .inl ⟨rfl, har'⟩⟩
          · simp (maxSteps := 2000000) (disch := first | omega | (simp only [lenS]; try omega)) only [go_sem, reduceAdd, reduceEqDiff, reduceLeDiff, reduceSub]
            refine ⟨d - 1, by omega, k + 1, c', by omega, hok', hc0', by omega, by omega, by rw [show d - 1 + 1 = d by omega]; exact hrun', .inr ⟨rfl, har'⟩⟩
    · have er : exRun n b (d + 1) k c = c := by
        show (if c.code ≠ 0 then c else if k < c.sp.ms.length then _ else c) = _
        rw [if_neg (by omega), if_neg hkl]
      rw [er] at hrun
      subst hrun
      rcases hcs with ⟨rfl, har⟩ | ⟨rfl, har⟩
      · simp (maxSteps := 2000000) (disch := first | omega | (simp only [lenS]; try omega)) only [go_sem, reduceAdd, reduceEqDiff, reduceLeDiff, reduceSub]
        simp [exPV, w67, hc0, arcPV, har]
      · simp (maxSteps := 2000000) (disch := first | omega | (simp only [lenS]; try omega)) only [go_sem, reduceAdd, reduceEqDiff, reduceLeDiff, reduceSub]
        simp [exPV, w67, hc0, arcPV, har]
theorem wa5 (f : Fl) (hg : zgg f = true) : C w71 [encF f] [] = some (.un t_int true 1 ((oneM f.net.pl.toNat f.dst).map I), []) := by
  obtain ⟨g1, g2, g3, _⟩ := zgj hg
  have hn := zgv g1
  refine w0p ?_
  simp (maxSteps := 2000000) (disch := first | omega | (simp only [lenS]; try omega)) only [wbi, go_sem, reduceAdd, reduceEqDiff, reduceLeDiff, reduceSub]
  simp (maxSteps := 2000000) (disch := first | omega | (simp only [lenS]; try omega)) only [go_sem, reduceAdd, reduceEqDiff, reduceLeDiff, reduceSub, wam f.net.pl f.dst (by omega) g3]
theorem w9r (ms : List (List Int)) (ar : List Arc3) (p : Int) (hm : ms.length < 2^36) (hr : ar.length < 2^35) (ha : z3v ar ms.length) (hk : 0 ≤ p ∧ p < ms.length) :
    C w6n [.agg [rows ms, .sl true 3 (ar.map encA)], ints [p]] [] = some (.un wfu true 1 ((toL ar ms.length [p]).map PV.bool), []) := by
  refine w0b ?_
  simp (maxSteps := 2000000) (disch := first | omega | (simp only [lenS]; try omega)) only [wb4, go_sem, reduceAdd, reduceEqDiff, reduceLeDiff, reduceSub]
  generalize hn : ms.length = n at *
  refine W_for ar.length (fun k s => s = ⟨[.any, ints [p], .any, .any, .ref 0 1 0 n, .ref 1 1 0 n, .any, .any, .any, .any, .any, .sl true 3 (ar.map encA), I ar.length, I k, .any, .any, .any, .any, .any, .any, .any, .any, .any, .any, .any], [.row wfu true 1 (List.replicate n (.bool false)), .lin wg5 1 (befP (ar.take k) n)]⟩) ?_ ?_ ?_
  · simp (maxSteps := 2000000) (disch := first | omega | (simp only [lenS]; try omega)) only [go_sem, reduceAdd, reduceEqDiff, reduceLeDiff, reduceSub]
    rw [z4w]; rfl
  · rintro k s hk2 rfl
    obtain ⟨a1, a2, a3, a4⟩ := ha _ (List.getElem_mem hk2)
    have h1 := z4u (ar.take k) n
    have h2 := z4t (ar := ar.take k) (n := n) a3 a4
    have h3 := z4v (n := n) hk2 a3
    have h4 := z4x (ar.take k) ar[k].dst
    rw [List.length_take] at h4
    rw [h3]
    generalize befP (ar.take k) n = B at *
    generalize befs (ar.take k) ar[k].dst = L at *
    generalize hA : ar[k] = a at *
    by_cases hL : L = []
    · subst hL
      rw [show pvB [] = PV.nil true 1 from rfl] at h2
      simp (maxSteps := 2000000) (disch := first | omega | (simp only [lenS]; try omega)) only [go_sem, reduceAdd, reduceEqDiff, reduceLeDiff, reduceSub, hA, h1, h2]
      exact ⟨by decide, rfl⟩
    · have hpos := List.length_pos_iff.2 hL
      rw [show pvB L = ints L by simp [pvB, hL]] at h2
      simp (maxSteps := 2000000) (disch := first | omega | (simp only [lenS]; try omega)) only [go_sem, reduceAdd, reduceEqDiff, reduceLeDiff, reduceSub, hA, h1, h2, List.getElem_set_self, List.set_set]
      refine ⟨by decide, ?_⟩
      rw [show ints (L ++ [a.src]) = .sl true 1 (L.map I ++ [I a.src]) by show PV.sl true 1 ((L ++ [a.src]).map I) = _; rw [List.map_append]; rfl]; rfl
  · rintro s rfl
    have hcl := wdz (es := [I p]) (by simp)
    rw [List.take_length]
    simp (maxSteps := 2000000) (disch := first | omega | (simp only [lenS]; try omega)) only [go_sem, reduceAdd, reduceEqDiff, reduceLeDiff, reduceSub, hcl]
    refine W_for 1 (fun k s => s = ⟨[.any, .any, .any, .any, .ref 0 1 0 n, .ref 1 1 0 n, .any, .ref 2 1 0 1, .any, .any, .any, .any, .any, .any, .any, ints [p], I 1, I k, .any, .any, .any, .any, .any, .any, .any], [.row wfu true 1 ((putS (List.replicate n false) ([p].take k)).map PV.bool), .lin wg5 1 (befP ar n), .row t_int true 1 [I p]]⟩) ?_ ?_ ?_
    · simp (maxSteps := 2000000) (disch := first | omega | (simp only [lenS]; try omega)) only [go_sem, reduceAdd, reduceEqDiff, reduceLeDiff, reduceSub]
      simp [putS]
    · rintro k s hk2 rfl
      obtain rfl : k = 0 := by omega
      have h5 : (List.replicate n false)[p.toNat]? = some false := by rw [List.getElem?_replicate, if_pos (by omega)]
      have h6 : (List.replicate n false).length = n := List.length_replicate
      show W _ _ _ ⟨_, [.row wfu true 1 ((List.replicate n false).map PV.bool), _, _]⟩ _
      rw [show putS (List.replicate n false) ([p].take (0 + 1)) = (List.replicate n false).set p.toNat true from rfl]
      generalize List.replicate n false = c at *
      simp (maxSteps := 2000000) (disch := first | omega | (simp only [lenS]; try omega)) only [go_sem, reduceAdd, reduceEqDiff, reduceLeDiff, reduceSub, h5, h6]
      rw [List.map_set]; rfl
    · rintro s rfl
      have e0 : putS (List.replicate n false) ([p].take 1) = (List.replicate n false).set p.toNat true := rfl
      rw [e0]
      have hst := BF.start (ar := ar) hk.1 hk.2
      generalize (List.replicate n false).set p.toNat true = c0 at *
      simp (maxSteps := 2000000) (disch := first | omega | (simp only [lenS]; try omega)) only [go_sem, reduceAdd, reduceEqDiff, reduceLeDiff, reduceSub]
      refine z1a (fun j s => ∃ (c : List Bool) (q : List Int) (i : Nat) (K : Blk), (K = .lin wg5 1 (befP ar n) ∨ K = .fro false 1 (befP ar n)) ∧ BF ar n [p] c q i ∧ j = cntF c + (q.length - i) ∧ s = ⟨[.any, .any, .any, .any, .ref 0 1 0 n, .ref 1 1 0 n, .any, .ref 2 1 0 q.length, .any, I i, .any, .any, .any, .any, .any, .any, .any, .any, .any, .any, .any, .any, .any, .any, .any], [.row wfu true 1 (c.map PV.bool), K, .row t_int true 1 (q.map I)]⟩) (cntF c0 + 1) ?_ ?_
      · refine ⟨c0, [p], 0, _, .inl rfl, hst, rfl, ?_⟩
        simp (maxSteps := 2000000) (disch := first | omega | (simp only [lenS]; try omega)) only [go_sem, reduceAdd, reduceEqDiff, reduceLeDiff, reduceSub]
        rfl
      · rintro j s ⟨c, q, i, K, hK, hB, rfl, rfl⟩
        have hqn : q.length ≤ n := by have := hB.cnt; omega
        by_cases hi : i < q.length
        case neg =>
          have hiq : i = q.length := by have := hB.le; omega
          subst hiq
          have hend := hB.end_ ha (fun k hk' => by simp at hk'; subst hk'; exact hk)
          have hcl := hB.len
          rcases hK with rfl | rfl
          all_goals
            simp (maxSteps := 2000000) (disch := first | omega | (simp only [lenS]; try omega)) only [go_sem, reduceAdd, reduceEqDiff, reduceLeDiff, reduceSub, hcl]
            rw [hend]
        case pos =>
          have hq := hB.inn _ (List.getElem_mem hi)
          have hlk := hB.look hi
          have hget := z4t (ar := ar) (n := n) hq.1 hq.2
          have hln := z4u ar n
          have hbl := z4x ar q[i]
          have hsrc : ∀ x ∈ befs ar q[i], 0 ≤ x ∧ x < n := fun x hx => by
            obtain ⟨a, h1, _, rfl⟩ := z4y.1 hx
            exact ⟨(ha a h1).1, (ha a h1).2.1⟩
          have hnext := fun c' q' => BG.next (ar := ar) (n := n) (S := [p]) (i := i) (x := q[i]) (c := c') (q := q')
          have hold := fun m c' q' => BG.old (ar := ar) (n := n) (S := [p]) (i := i) (L := befs ar q[i]) (m := m) (x := q[i]) (c := c') (q := q')
          have hnew := fun m c' q' (h : BG ar n [p] i (befs ar q[i]) m q[i] c' q') => h.new ha
          generalize befs ar q[i] = L at *
          generalize hqi : q[i] = x at *
          generalize befP ar n = B at *
          have hmeas := hB.cnt
          by_cases hL : L = []
          · subst hL
            rw [show pvB [] = PV.nil true 1 from rfl] at hget
            rcases hK with rfl | rfl
            all_goals
              simp (maxSteps := 2000000) (disch := first | omega | (simp only [lenS]; try omega)) only [go_sem, reduceAdd, reduceEqDiff, reduceLeDiff, reduceSub, hqi, hln, hget]
              refine W_for 0 (fun m s => m = 0 ∧ s = ⟨[.any, .any, .any, .any, .ref 0 1 0 n, .ref 1 1 0 n, .any, .ref 2 1 0 q.length, .any, I i, .any, .any, .any, .any, .any, .any, .any, .any, .any, .any, .nil true 1, I 0, I 0, .any, .any], [.row wfu true 1 (c.map PV.bool), .fro false 1 B, .row t_int true 1 (q.map I)]⟩) ?_ ?_ ?_
              · simp (maxSteps := 2000000) (disch := first | omega | (simp only [lenS]; try omega)) only [go_sem, reduceAdd, reduceEqDiff, reduceLeDiff, reduceSub]
                first | done | rfl | exact ⟨rfl, rfl⟩
              · intro m s hm2; omega
              · rintro s ⟨_, rfl⟩
                simp (maxSteps := 2000000) (disch := first | omega | (simp only [lenS]; try omega)) only [go_sem, reduceAdd, reduceEqDiff, reduceLeDiff, reduceSub]
                exact ⟨cntF c + (q.length - (i + 1)), by omega, c, q, i + 1, _, .inr rfl, hnext c q hlk, rfl, rfl⟩
          · have hpos := List.length_pos_iff.2 hL
            rw [show pvB L = ints L by simp [pvB, hL]] at hget
            rcases hK with rfl | rfl
            all_goals
              simp (maxSteps := 2000000) (disch := first | omega | (simp only [lenS]; try omega)) only [go_sem, reduceAdd, reduceEqDiff, reduceLeDiff, reduceSub, hqi, hln, hget]
              refine W_for L.length (fun m s => ∃ (c' : List Bool) (q' : List Int), BG ar n [p] i L m x c' q' ∧ cntF c' + q'.length ≤ cntF c + q.length ∧ s = ⟨[.any, .any, .any, .any, .ref 0 1 0 n, .ref 1 1 0 n, .any, .ref 2 1 0 q'.length, .any, I i, .any, .any, .any, .any, .any, .any, .any, .any, .any, .any, ints L, I L.length, I m, .any, .any], [.row wfu true 1 (c'.map PV.bool), .fro false 1 B, .row t_int true 1 (q'.map I)]⟩) ?_ ?_ ?_
              · refine ⟨c, q, hlk, Nat.le_refl _, ?_⟩
                simp (maxSteps := 2000000) (disch := first | omega | (simp only [lenS]; try omega)) only [go_sem, reduceAdd, reduceEqDiff, reduceLeDiff, reduceSub]
                first | done | rfl
              · rintro m s hm2 ⟨c', q', h1, h2, rfl⟩
                have hy := hsrc _ (List.getElem_mem hm2)
                have hcl := h1.len
                have hcn := h1.cnt
                have g1 : c'[L[m].toNat]? = some (c'[L[m].toNat]'(by omega)) := List.getElem?_eq_getElem (by omega)
                have o1 := hold m c' q' h1 hm2
                have o2 := hnew m c' q' h1 hm2
                have hcs := z9p (l := c') (k := L[m].toNat) (by omega)
                rw [List.getD_eq_getElem?_getD] at hcs
                rw [g1] at o1 o2 hcs
                generalize c'[L[m].toNat]'(by omega) = b at *
                generalize hy2 : L[m] = y at *
                simp (maxSteps := 2000000) (disch := first | omega | (simp only [lenS]; try omega)) only [go_sem, reduceAdd, reduceEqDiff, reduceLeDiff, reduceSub, hy2, hcl, g1]
                refine ⟨fun e => ?_, fun e => ?_⟩
                · subst e
                  exact ⟨c', q', o1 rfl, h2, rfl⟩
                · subst e
                  have := hcs rfl
                  refine ⟨_, _, o2 rfl, by rw [List.length_append]; simp only [List.length_cons, List.length_nil]; omega, ?_⟩
                  rw [List.map_append, List.map_set, List.length_append]; rfl
              · rintro s ⟨c', q', h1, h2, rfl⟩
                simp (maxSteps := 2000000) (disch := first | omega | (simp only [lenS]; try omega)) only [go_sem, reduceAdd, reduceEqDiff, reduceLeDiff, reduceSub]
                exact ⟨cntF c' + (q'.length - (i + 1)), by have := h1.lt; omega, c', q', i + 1, _, .inr rfl, hnext c' q' h1, rfl, rfl⟩
theorem wea (c : List Bool) (b : Bool) (hl : c.length < 2^62) : C w81 [.sl true 1 (c.map PV.bool), .bool b] [] = some (I (idxI c (fun x => x == b)), []) := by
  refine w1o ?_
  simp (maxSteps := 2000000) (disch := first | omega | (simp only [lenS]; try omega)) only [wch, go_sem, reduceAdd, reduceEqDiff, reduceLeDiff, reduceSub]
  refine W_for c.length (fun k s => s = ⟨[.sl true 1 (c.map PV.bool), .bool b, .any, .any, I c.length, I k, .any, .any], []⟩ ∧ (c.take k).any (fun x => x == b) = false) ?_ ?_ ?_
  · simp (maxSteps := 2000000) (disch := first | omega | (simp only [lenS]; try omega)) only [go_sem, reduceAdd, reduceEqDiff, reduceLeDiff, reduceSub]
    simp
  · rintro k s hk ⟨rfl, h⟩
    have h1 := fun e => zhy (p := fun x => x == b) hk h e
    have h2 := fun e => z37 (p := fun x => x == b) hk h e
    cases b
    all_goals
      simp (maxSteps := 2000000) (disch := first | omega | (simp only [lenS]; try omega)) only [go_sem, reduceAdd, reduceEqDiff, reduceLeDiff, reduceSub]
      refine ⟨fun e => ?_, fun e => ?_⟩
      all_goals first
        | (rw [h1 (by simp [e])])
        | exact ⟨rfl, h2 (by simp [e])⟩
  · rintro s ⟨rfl, h⟩
    rw [List.take_length] at h
    simp (maxSteps := 2000000) (disch := first | omega | (simp only [lenS]; try omega)) only [go_sem, reduceAdd, reduceEqDiff, reduceLeDiff, reduceSub]
    rw [zhx h]
theorem wa3 (a b : List Int) (hl : a.length = b.length) (hb : b.length < 2^62) : C w6z [ints a, ints b] [] = some (.bool (zaf a b), []) := by
  refine w0n ?_
  simp (maxSteps := 2000000) (disch := first | omega | (simp only [lenS]; try omega)) only [wbg, go_sem, reduceAdd, reduceEqDiff, reduceLeDiff, reduceSub]
  refine W_for a.length (fun k s => s = ⟨[.any, ints b, .any, .any, .any, ints a, I a.length, I k, .any, .any], []⟩ ∧ ((a.zip b).take k).all (fun p => decide (p.2 ≤ p.1)) = true) ?_ ?_ ?_
  · simp (maxSteps := 2000000) (disch := first | omega | (simp only [lenS]; try omega)) only [go_sem, reduceAdd, reduceEqDiff, reduceLeDiff, reduceSub]
    rfl
  · rintro k s hk ⟨rfl, hall⟩
    simp (maxSteps := 2000000) (disch := first | omega | (simp only [lenS]; try omega)) only [go_sem, reduceAdd, reduceEqDiff, reduceLeDiff, reduceSub]
    have hz : k < (a.zip b).length := by simp; omega
    refine ⟨fun h => ?_, fun h => ⟨rfl, z2s hz hall (by simp; omega)⟩⟩
    have : zaf a b = false := z2r hz (by simp; omega)
    rw [this]
  · rintro s ⟨rfl, hall⟩
    simp (maxSteps := 2000000) (disch := first | omega | (simp only [lenS]; try omega)) only [go_sem, reduceAdd, reduceEqDiff, reduceLeDiff, reduceSub]
    rw [List.take_of_length_le (by simp; omega)] at hall
    unfold zaf
    rw [hall]
theorem wac (a b : List Int) (hl : a.length = b.length) (hb : b.length < 2^62) : C w78 [ints a, ints b] [] = some (.bool (overB a b), []) := by
  have h1 := wa3 a b hl hb
  have h2 := we5 a b (by omega)
  unfold overB
  generalize zaf a b = c at *
  refine w0w ?_
  simp (maxSteps := 2000000) (disch := first | omega | (simp only [lenS]; try omega)) only [wbp, go_sem, reduceAdd, reduceEqDiff, reduceLeDiff, reduceSub]
  simp (maxSteps := 2000000) (disch := first | omega | (simp only [lenS]; try omega)) only [go_sem, reduceAdd, reduceEqDiff, reduceLeDiff, reduceSub, h1, h2]
  grind
theorem wa1 (a b : List Int) (hl : a.length = b.length) (hb : b.length < 2^62) : C w6y [ints a, .pv (.agg [ints b]) 0] [] = some (.bool (overB a b), []) := by
  have h1 := wac a b hl hb
  generalize overB a b = c at *
  refine w0m ?_
  simp (maxSteps := 2000000) (disch := first | omega | (simp only [lenS]; try omega)) only [wbf, go_sem, reduceAdd, reduceEqDiff, reduceLeDiff, reduceSub]
  simp (maxSteps := 2000000) (disch := first | omega | (simp only [lenS]; try omega)) only [go_sem, reduceAdd, reduceEqDiff, reduceLeDiff, reduceSub, h1]
  cases c <;> simp
theorem w9s (a : Arc3) (p : Int) : C w6p [encA a, .pv (.agg [I p]) 0] [] = some (.bool (decide (a.dst = p)), []) := by
  refine w0d ?_
  simp (maxSteps := 2000000) (disch := first | omega | (simp only [lenS]; try omega)) only [wb6, go_sem, reduceAdd, reduceEqDiff, reduceLeDiff, reduceSub]
  grind
theorem we6 (l : List Arc3) (g : FuncId) (caps : List PV) (hc : refsL caps = []) (hcv : ∀ m h, z1aw [] m h caps = some caps) (p : Arc3 → Bool) (hp : ∀ x ∈ l, C g (encA x :: caps) [] = some (.bool (p x), [])) (hl : l.length < 2^62) :
    C w7x [.sl true 3 (l.map encA), .clo g caps] [] = some (I (idxI l p), []) := by
  refine w1k ?_
  simp (maxSteps := 2000000) (disch := first | omega | (simp only [lenS]; try omega)) only [wcd, go_sem, reduceAdd, reduceEqDiff, reduceLeDiff, reduceSub]
  refine W_for l.length (fun k s => s = ⟨[.sl true 3 (l.map encA), .clo g caps, .any, .any, I l.length, I k, .any, .any], []⟩ ∧ (l.take k).any p = false) ?_ ?_ ?_
  · simp (maxSteps := 2000000) (disch := first | omega | (simp only [lenS]; try omega)) only [go_sem, reduceAdd, reduceEqDiff, reduceLeDiff, reduceSub, hc]
    rfl
  · rintro k s hk ⟨rfl, hall⟩
    simp (maxSteps := 2000000) (disch := first | omega | (simp only [lenS]; try omega)) only [go_sem, reduceAdd, reduceEqDiff, reduceLeDiff, reduceSub, hc, hcv, hp _ (List.getElem_mem hk)]
    exact ⟨fun h => by rw [zhy hk hall h], fun h => ⟨rfl, z37 hk hall h⟩⟩
  · rintro s ⟨rfl, hall⟩
    simp (maxSteps := 2000000) (disch := first | omega | (simp only [lenS]; try omega)) only [go_sem, reduceAdd, reduceEqDiff, reduceLeDiff, reduceSub]
    rw [List.take_length] at hall
    rw [zhx hall]
theorem wec (l : List Int) (hl : l.length < 2^60) : C w83 [.ref 0 1 0 l.length] [.row t_int true 1 (l.map I)] = some (.tup [], [.row t_int true 1 (l.reverse.map I)]) := by
  refine w1q ?_
  simp (maxSteps := 2000000) (disch := first | omega | (simp only [lenS]; try omega)) only [wcj, go_sem, reduceAdd, reduceEqDiff, reduceLeDiff, reduceSub]
  refine z1a (fun k s => ∃ (i : Nat) (c : List Int), k + 2 * i = l.length + 1 ∧ revI l c i ∧ s = ⟨[.ref 0 1 0 l.length, I i, I (l.length - 1 - i : Int), .any], [.row t_int true 1 (c.map I)]⟩) (l.length + 1) ?_ ?_
  · refine ⟨0, l, by omega, z129 l, ?_⟩
    simp (maxSteps := 2000000) (disch := first | omega | (simp only [lenS]; try omega)) only [go_sem, reduceAdd, reduceEqDiff, reduceLeDiff, reduceSub]
    simp
  · rintro k s ⟨i, c, hk, hr, rfl⟩
    have hcl := hr.1
    by_cases hi : 2 * i + 1 < l.length
    · have e1 : ((l.length : Int) - 1 - i).toNat = l.length - 1 - i := by omega
      have hst := z128 hr hi
      simp (maxSteps := 2000000) (disch := first | omega | (simp only [lenS]; try omega)) only [go_sem, reduceAdd, reduceEqDiff, reduceLeDiff, reduceSub, e1]
      refine ⟨k - 2, by omega, i + 1, _, by omega, hst, ?_⟩
      rw [show (l.length : Int) - 1 - ((i + 1 : Nat) : Int) = l.length - 1 - i - 1 by omega]
      rfl
    · have := z127 hr (by omega)
      subst this
      simp (maxSteps := 2000000) (disch := first | omega | (simp only [lenS]; try omega)) only [go_sem, reduceAdd, reduceEqDiff, reduceLeDiff, reduceSub]
theorem w9n (a : Arc3) (t : Int) : C w6k [encA a, .pv (.agg [I t]) 0] [] = some (.bool (decide (a.by_ = t)), []) := by
  refine w08 ?_
  simp (maxSteps := 2000000) (disch := first | omega | (simp only [lenS]; try omega)) only [wb1, go_sem, reduceAdd, reduceEqDiff, reduceLeDiff, reduceSub]
  grind
theorem we0 (l : List Arc3) (g : FuncId) (caps : List PV) (hc : refsL caps = []) (hcv : ∀ m h, z1aw [] m h caps = some caps) (p : Arc3 → Bool) (hp : ∀ x ∈ l, C g (encA x :: caps) [] = some (.bool (p x), [])) (hl : l.length < 2^62) :
    C w7r [.sl true 3 (l.map encA), .clo g caps] [] = some (.bool (l.any p), []) := by
  refine w1e ?_
  simp (maxSteps := 2000000) (disch := first | omega | (simp only [lenS]; try omega)) only [wc7, go_sem, reduceAdd, reduceEqDiff, reduceLeDiff, reduceSub]
  simp (maxSteps := 2000000) (disch := first | omega | (simp only [lenS]; try omega)) only [go_sem, reduceAdd, reduceEqDiff, reduceLeDiff, reduceSub, hc, hcv, we6 l g caps hc hcv p hp hl]
  have := zhv l p
  grind
theorem w9o (ms : List (List Int)) (ar : List Arc3) (n : Net) (hr : ar.length < 2^35) (ht : n.tr.length < 2^20) : C w6j [.agg [rows ms, .sl true 3 (ar.map encA)], encN n] [] = some (.un t_int true 1 ((deadK ar n.tr.length).map I), []) := by
  refine w07 ?_
  simp (maxSteps := 2000000) (disch := first | omega | (simp only [lenS]; try omega)) only [wb0, go_sem, reduceAdd, reduceEqDiff, reduceLeDiff, reduceSub]
  refine W_for n.tr.length (fun k s => s = ⟨[.any, .any, .ptr 0 0, .any, .any, .ref 1 1 0 (deadK ar k).length, .any, I n.tr.length, I k, .any, .any], [.box wfz [rows ms, .sl true 3 (ar.map encA)], .row t_int true 1 ((deadK ar k).map I)]⟩) ?_ ?_ ?_
  · simp (maxSteps := 2000000) (disch := first | omega | (simp only [lenS]; try omega)) only [go_sem, reduceAdd, reduceEqDiff, reduceLeDiff, reduceSub]
    rfl
  · rintro k s hk rfl
    have ix := we0 ar w6k [.pv (.agg [I k]) 0] rfl (fun _ _ => rfl) (fun a => decide (a.by_ = k)) (fun x _ => w9n x k) (by omega)
    have hl := zai ar k
    have hst := zaj ar k
    rw [hst]
    generalize deadK ar k = D at *
    cases ha : ar.any fun a => decide (a.by_ = (k : Int)) with
    | true =>
      rw [ha] at ix
      simp (maxSteps := 2000000) (disch := first | omega | (simp only [lenS]; try omega)) only [go_sem, reduceAdd, reduceEqDiff, reduceLeDiff, reduceSub, ix]
      simp
    | false =>
      rw [ha] at ix
      simp (maxSteps := 2000000) (disch := first | omega | (simp only [lenS]; try omega)) only [go_sem, reduceAdd, reduceEqDiff, reduceLeDiff, reduceSub, ix]
      simp
  · rintro s rfl
    simp (maxSteps := 2000000) (disch := first | omega | (simp only [lenS]; try omega)) only [go_sem, reduceAdd, reduceEqDiff, reduceLeDiff, reduceSub]
theorem w9t (ms : List (List Int)) (ar : List Arc3) (m : List Int) (hm : ms.length < 2^30) (hr : ar.length < 2^35) (hb : Bfs ar ms.length) (hxs : ∀ x ∈ ms, x.length < 2^62) (K : Nat) (hK : K < ms.length) (hf : findM ms m = K) :
    C w6o [.agg [rows ms, .sl true 3 (ar.map encA)], ints m] [] = some (.tup [.un t_int true 1 ((tw ar K).map I), .bool true], []) := by
  have fd := w9q ms (ar.map encA) m (by omega) hxs
  rw [hf] at fd
  refine w0c ?_
  simp (maxSteps := 2000000) (disch := first | omega | (simp only [lenS]; try omega)) only [wb5, go_sem, reduceAdd, reduceEqDiff, reduceLeDiff, reduceSub]
  simp (maxSteps := 2000000) (disch := first | omega | (simp only [lenS]; try omega)) only [go_sem, reduceAdd, reduceEqDiff, reduceLeDiff, reduceSub, fd]
  refine z1a (fun k s => ∃ W : List Int, k < ms.length ∧ tw ar K = tw ar k ++ W.reverse ∧ s = ⟨[.any, .any, .ptr 0 0, .any, .any, .ptr 1 0, .ref 2 1 0 W.length, .any, .any, .any], [.box wfz [rows ms, .sl true 3 (ar.map encA)], .box t_int [I k], .row t_int true 1 (W.map I)]⟩) K ?_ ?_
  · refine ⟨[], hK, by simp, ?_⟩
    simp (maxSteps := 2000000) (disch := first | omega | (simp only [lenS]; try omega)) only [go_sem, reduceAdd, reduceEqDiff, reduceLeDiff, reduceSub]
    first | done | rfl
  · rintro k s ⟨W, hk, hW, rfl⟩
    have hlW := congrArg List.length hW
    rw [List.length_append, List.length_reverse] at hlW
    have hlK := z1ai hb K hK
    by_cases h0 : 0 < k
    · obtain ⟨i, hi, a1, a2, a3, a4, a5⟩ := hb.arc h0 hk
      have ix := we6 ar w6p [.pv (.agg [I k]) 0] rfl (fun _ _ => rfl) (fun a => decide (a.dst = k)) (fun x _ => w9s x k) (by omega)
      rw [show idxI ar (fun a => decide (a.dst = k)) = i from a1] at ix
      have hst := z1al hb h0 hk hi a1
      rw [hst] at hW
      simp (maxSteps := 2000000) (disch := first | omega | (simp only [lenS]; try omega)) only [go_sem, reduceAdd, reduceEqDiff, reduceLeDiff, reduceSub, ix]
      have e2 : ((ar[i].src.toNat : Nat) : Int) = ar[i].src := by omega
      refine ⟨ar[i].src.toNat, by omega, W ++ [ar[i].by_], by omega, by rw [hW, List.reverse_append]; simp, ?_⟩
      rw [e2, List.map_append, List.length_append]; rfl
    · have : k = 0 := by omega
      subst this
      rw [z1am, List.nil_append] at hW
      have rv := wec W (by omega)
      rw [← hW] at rv
      have hl2 : W.length = (tw ar K).length := by rw [hW, List.length_reverse]
      rw [hl2] at rv
      generalize tw ar K = T at *
      simp (maxSteps := 2000000) (disch := first | omega | (simp only [lenS]; try omega)) only [go_sem, reduceAdd, reduceEqDiff, reduceLeDiff, reduceSub, rv, hl2]
theorem wf6 (n lo hi : Int) : C w8u [I n, I lo, I hi] [] = some (.bool (inB lo hi n), []) := by
  refine w27 ?_
  simp (maxSteps := 2000000) (disch := first | omega | (simp only [lenS]; try omega)) only [wda, go_sem, reduceAdd, reduceEqDiff, reduceLeDiff, reduceSub]
  unfold inB; grind
theorem wf8 (n : Int) : C w8w [I n] [] = some (.bool (inB 1 16 n), []) := by
  refine w29 ?_
  simp (maxSteps := 2000000) (disch := first | omega | (simp only [lenS]; try omega)) only [wdc, go_sem, reduceAdd, reduceEqDiff, reduceLeDiff, reduceSub]
  simp (maxSteps := 2000000) (disch := first | omega | (simp only [lenS]; try omega)) only [go_sem, reduceAdd, reduceEqDiff, reduceLeDiff, reduceSub, wf6]
  grind
theorem wfb (l : List Int) (lo hi : Int) (hl : l.length < 2^62) : C w8y [ints l, I lo, I hi] [] = some (.bool (incr l && l.all (inB lo hi)), []) := by
  refine w2a ?_
  simp (maxSteps := 2000000) (disch := first | omega | (simp only [lenS]; try omega)) only [wde, go_sem, reduceAdd, reduceEqDiff, reduceLeDiff, reduceSub]
  refine W_for l.length (fun k s => s = ⟨[ints l, I lo, I hi, .any, .any, .any, ints l, I l.length, I k, .any, .any], []⟩ ∧ (l.take k).Pairwise (· < ·) ∧ (l.take k).all (inB lo hi) = true) ?_ ?_ ?_
  · simp (maxSteps := 2000000) (disch := first | omega | (simp only [lenS]; try omega)) only [go_sem, reduceAdd, reduceEqDiff, reduceLeDiff, reduceSub]
    exact ⟨rfl, List.Pairwise.nil⟩
  · rintro k s hk ⟨rfl, hp, hall⟩
    simp (maxSteps := 2000000) (disch := first | omega | (simp only [lenS]; try omega)) only [go_sem, reduceAdd, reduceEqDiff, reduceLeDiff, reduceSub, wf6]
    refine ⟨fun h => ⟨fun h2 => ?_, fun h2 => ?_⟩, fun h => by rw [z2r hk h]; simp⟩
    · simp (maxSteps := 2000000) (disch := first | omega | (simp only [lenS]; try omega)) only [go_sem, reduceAdd, reduceEqDiff, reduceLeDiff, reduceSub]
      obtain ⟨j, rfl⟩ : ∃ j, k = j + 1 := ⟨k - 1, by omega⟩
      have e : (((j + 1 : Nat) : Int) - 1).toNat = j := by omega
      refine ⟨fun h3 => ?_, fun h3 => ⟨rfl, ?_, z2s hk hall h⟩⟩
      · rw [zk2 hk (by simp only [e] at h3; omega)]; rfl
      · exact zk5 hk hp (by simp only [e] at h3; omega)
    · obtain rfl : k = 0 := by omega
      exact ⟨rfl, zk3, z2s hk hall h⟩
  · rintro s ⟨rfl, hp, hall⟩
    simp (maxSteps := 2000000) (disch := first | omega | (simp only [lenS]; try omega)) only [go_sem, reduceAdd, reduceEqDiff, reduceLeDiff, reduceSub]
    rw [List.take_length] at hp hall
    rw [hall, show incr l = true by simpa [incr] using hp]
    rfl
theorem wej (n : Net) (hn : smN n) : C w89 [encN n] [] = some (.bool (goodN n), []) := by
  have h0 := hn.1
  refine w1v ?_
  simp (maxSteps := 2000000) (disch := first | omega | (simp only [lenS]; try omega)) only [wcp, go_sem, reduceAdd, reduceEqDiff, reduceLeDiff, reduceSub]
  simp (maxSteps := 2000000) (disch := first | omega | (simp only [lenS]; try omega)) only [go_sem, reduceAdd, reduceEqDiff, reduceLeDiff, reduceSub, wf8]
  refine ⟨fun h => ⟨fun h2 => ?_, fun h2 => ?_⟩, fun h => by simp [goodN, h]⟩
  · have : ¬ n.tr.length ≤ 24 := by omega
    simp [goodN, this]
  have hb : 1 ≤ n.pl ∧ n.pl ≤ 16 := by simpa [inB] using h
  refine W_for n.tr.length (fun k s => s = ⟨[.any, .ptr 0 0, .any, .any, .any, trs n.tr, I n.tr.length, I k, .any, .any], [.box wfy [I n.pl, trs n.tr]]⟩ ∧ (n.tr.take k).all (goodT n.pl) = true) ?_ ?_ ?_
  · simp (maxSteps := 2000000) (disch := first | omega | (simp only [lenS]; try omega)) only [go_sem, reduceAdd, reduceEqDiff, reduceLeDiff, reduceSub]
    rfl
  · rintro k s hk ⟨rfl, hall⟩
    obtain ⟨h3, h4, h5⟩ := hn.2 _ (List.getElem_mem hk)
    simp (maxSteps := 2000000) (disch := first | omega | (simp only [lenS]; try omega)) only [go_sem, reduceAdd, reduceEqDiff, reduceLeDiff, reduceSub, wfb]
    simp only [zxi]
    refine ⟨fun h6 => by rw [zgt hk (zh3 (by omega))], fun h6 => ⟨fun h7 => ⟨fun h8 => ⟨fun h9 => ⟨rfl, z2s hk hall (zgy (by omega) h7 h8 h9)⟩, fun h9 => by rw [zgt hk (by simp [goodT, h9])]⟩, fun h8 => by rw [zgt hk (by simp [goodT, h8])]⟩, fun h7 => by rw [zgt hk (by simp [goodT, h7])]⟩⟩
  · rintro s ⟨rfl, hall⟩
    simp (maxSteps := 2000000) (disch := first | omega | (simp only [lenS]; try omega)) only [go_sem, reduceAdd, reduceEqDiff, reduceLeDiff, reduceSub]
    rw [List.take_length] at hall
    simp [goodN, hall, h, show n.tr.length ≤ 24 by omega]
theorem wfj (n : Net) (p : Int) (hg : goodN n = true) (hp : 0 ≤ p ∧ p < n.pl) : C w96 [encN n, I p] [] = some (.tup [.un wfu true 1 ((zzc n false p).pl.map PV.bool), .un wfu true 1 ((zzc n false p).tr.map PV.bool)], []) := by
  have hb := zgv hg
  have hlen := zze n false p
  rw [zzd] at hlen ⊢
  refine w2i ?_
  simp (maxSteps := 2000000) (disch := first | omega | (simp only [lenS]; try omega)) only [wdm, go_sem, reduceAdd, reduceEqDiff, reduceLeDiff, reduceSub]
  simp (maxSteps := 2000000) (disch := first | omega | (simp only [lenS]; try omega)) only [go_sem, reduceAdd, reduceEqDiff, reduceLeDiff, reduceSub, List.getElem_replicate]
  generalize hR : clRun n false (cntF (List.replicate n.tr.length false) + 1) ⟨(List.replicate n.pl.toNat false).set p.toNat true, List.replicate n.tr.length false, true⟩ = R at *
  refine z1a (fun k s => ∃ c : Cl, c.pl.length = n.pl.toNat ∧ c.tr.length = n.tr.length ∧ ((k = cntF c.tr + 1 ∧ s = ⟨[.any, .any, .ptr 0 0, .any, .any, .ref 1 1 0 n.pl.toNat, .ref 2 1 0 n.tr.length, .bool true, .any, .any, .any, .any, .any, .any, .any, .any, .any, .any, .any, .any, .any, .any, .any, .any, .any, .any, .any], [.box wfy [I n.pl, trs n.tr], .row wfu true 1 (c.pl.map PV.bool), .row wfu true 1 (c.tr.map PV.bool)]⟩ ∧ clRun n false (cntF c.tr + 1) c = R) ∨ (k = 0 ∧ s = ⟨[.any, .any, .ptr 0 0, .any, .any, .ref 1 1 0 n.pl.toNat, .ref 2 1 0 n.tr.length, .bool false, .any, .any, .any, .any, .any, .any, .any, .any, .any, .any, .any, .any, .any, .any, .any, .any, .any, .any, .any], [.box wfy [I n.pl, trs n.tr], .row wfu true 1 (c.pl.map PV.bool), .row wfu true 1 (c.tr.map PV.bool)]⟩ ∧ c = R))) (cntF (List.replicate n.tr.length false) + 1) ?_ ?_
  · refine ⟨⟨(List.replicate n.pl.toNat false).set p.toNat true, List.replicate n.tr.length false, true⟩, by simp, by simp, .inl ⟨rfl, ?_, hR⟩⟩
    simp (maxSteps := 2000000) (disch := first | omega | (simp only [lenS]; try omega)) only [go_sem, reduceAdd, reduceEqDiff, reduceLeDiff, reduceSub]
    simp
  · rintro k0 s ⟨c, hc1, hc2, ⟨rfl, rfl, hc⟩ | ⟨rfl, rfl, rfl⟩⟩
    · have hcl := fun k => z8u n false c k
      simp (maxSteps := 2000000) (disch := first | omega | (simp only [lenS]; try omega)) only [go_sem, reduceAdd, reduceEqDiff, reduceLeDiff, reduceSub]
      refine W_for n.tr.length (fun k s => s = ⟨[.any, .any, .ptr 0 0, .any, .any, .ref 1 1 0 n.pl.toNat, .ref 2 1 0 n.tr.length, .bool (clK n false c k).ch, .any, .any, .any, .any, .any, .any, trs n.tr, I n.tr.length, I k, .any, .any, .any, .any, .any, .any, .any, .any, .any, .any], [.box wfy [I n.pl, trs n.tr], .row wfu true 1 ((clK n false c k).pl.map PV.bool), .row wfu true 1 ((clK n false c k).tr.map PV.bool)]⟩) ?_ ?_ ?_
      · simp (maxSteps := 2000000) (disch := first | omega | (simp only [lenS]; try omega)) only [go_sem, reduceAdd, reduceEqDiff, reduceLeDiff, reduceSub]
        rfl
      · rintro k s hk rfl
        have hT := hb.2.2.2 _ (List.getElem_mem hk)
        have hLs := zh0 hT (by omega)
        obtain ⟨_, g1, g2, g3⟩ := zh4 hT
        have p1 := zxj g1
        have p2 := zxj g2
        have hd := hcl k
        have hstep := z8v n false c k
        have htr : n.tr[k] = trN n k := (z1a3 hk).symm
        rw [htr] at hLs p1 p2
        have s1 : (clK n false c k).tr.getD k false = true → clK n false c (k + 1) = clK n false c k := fun h => hstep.trans (z94 (.inl h))
        have s2 : hitB (clK n false c k).pl (sideI false (trN n k)) = false → clK n false c (k + 1) = clK n false c k := fun h => hstep.trans (z94 (.inr h))
        have s3 : (clK n false c k).tr.getD k false = false → hitB (clK n false c k).pl (sideI false (trN n k)) = true → clK n false c (k + 1) = ⟨markB (clK n false c k).pl (sideO false (trN n k)), (clK n false c k).tr.set k true, true⟩ := fun h h2 => hstep.trans (z95 h h2)
        simp only [sideI, sideO, Bool.false_eq_true, if_false, if_true] at s2 s3
        clear hstep
        generalize clK n false c k = d at *
        generalize clK n false c (k + 1) = d' at *
        simp (maxSteps := 2000000) (disch := first | omega | (simp only [lenS]; try omega)) only [go_sem, reduceAdd, reduceEqDiff, reduceLeDiff, reduceSub]
        simp only [htr]
        generalize trN n k = tr at *
        refine W_for tr.inn.length (fun j s => s = ⟨[.any, .any, .ptr 0 0, .any, .any, .ref 1 1 0 n.pl.toNat, .ref 2 1 0 n.tr.length, .bool d.ch, I k, .ptr 3 0, .bool ((tr.inn.take j).any fun p => d.pl.getD p.toNat false), .any, .any, .any, trs n.tr, I n.tr.length, I k, .any, ints tr.inn, I tr.inn.length, I j, .any, .any, .any, .any, .any, .any], [.box wfy [I n.pl, trs n.tr], .row wfu true 1 (d.pl.map PV.bool), .row wfu true 1 (d.tr.map PV.bool), .box wg2 [ints tr.inn, ints tr.out, ints tr.rst]]⟩) ?_ ?_ ?_
        · simp (maxSteps := 2000000) (disch := first | omega | (simp only [lenS]; try omega)) only [go_sem, reduceAdd, reduceEqDiff, reduceLeDiff, reduceSub]
          rfl
        · rintro j s hj rfl
          have h1 := p1 _ (List.getElem_mem hj)
          have h2 : tr.inn[j].toNat < d.pl.length := by omega
          simp (maxSteps := 2000000) (disch := first | omega | (simp only [lenS]; try omega)) only [go_sem, reduceAdd, reduceEqDiff, reduceLeDiff, reduceSub]
          refine ⟨fun h => ?_, fun h => ⟨fun h3 => ?_, fun h3 => ?_⟩⟩
          · rw [z34 hj h]; rfl
          · rw [z32 hj (by rw [← zg4 h2]; exact h3)]; rfl
          · rw [z37 hj h (by rw [← zg4 h2]; exact h3)]; rfl
        · rintro s rfl
          have hkd : k < d.tr.length := by omega
          simp (maxSteps := 2000000) (disch := first | omega | (simp only [lenS]; try omega)) only [go_sem, reduceAdd, reduceEqDiff, reduceLeDiff, reduceSub, List.take_length]
          refine ⟨fun h => ⟨fun h3 => ?_, fun h3 => ?_⟩, fun h => ?_⟩
          · rw [s1 (by rw [← zg4 hkd]; exact h3)]; rfl
          · have e := s3 (by rw [← zg4 hkd]; exact h3) h
            subst e
            refine W_for tr.out.length (fun j s => s = ⟨[.any, .any, .ptr 0 0, .any, .any, .ref 1 1 0 n.pl.toNat, .ref 2 1 0 n.tr.length, .bool true, .any, .any, .any, .any, .any, .any, trs n.tr, I n.tr.length, I k, .any, .any, .any, .any, .any, .any, ints tr.out, I tr.out.length, I j, .any], [.box wfy [I n.pl, trs n.tr], .row wfu true 1 ((markB d.pl (tr.out.take j)).map PV.bool), .row wfu true 1 ((d.tr.set k true).map PV.bool)]⟩) ?_ ?_ ?_
            · simp (maxSteps := 2000000) (disch := first | omega | (simp only [lenS]; try omega)) only [go_sem, reduceAdd, reduceEqDiff, reduceLeDiff, reduceSub]
              rfl
            · rintro j s hj rfl
              have h1 := p2 _ (List.getElem_mem hj)
              have h2 : tr.out[j].toNat < d.pl.length := by omega
              have h4 := zp1 d.pl (tr.out.take j)
              simp (maxSteps := 2000000) (disch := first | omega | (simp only [lenS]; try omega)) only [go_sem, reduceAdd, reduceEqDiff, reduceLeDiff, reduceSub]
              rw [zp2 hj]; rfl
            · rintro s rfl
              simp (maxSteps := 2000000) (disch := first | omega | (simp only [lenS]; try omega)) only [go_sem, reduceAdd, reduceEqDiff, reduceLeDiff, reduceSub, List.take_length]
              rfl
          · rw [s2 h]; rfl
      · rintro s rfl
        simp (maxSteps := 2000000) (disch := first | omega | (simp only [lenS]; try omega)) only [go_sem, reduceAdd, reduceEqDiff, reduceLeDiff, reduceSub]
        have hn := z90 (n := n) (bk := false) hc2
        rw [hc] at hn
        cases e : (z8w n false c).ch with
        | true =>
          have h1 := (z8t (n := n) (bk := false) (s := c) (k := n.tr.length) (by omega)).2 e
          simp only [e, if_true] at hn
          refine ⟨cntF (z8w n false c).tr + 1, by unfold z8w; omega, z8w n false c, by unfold z8w; have := hcl n.tr.length; omega, by unfold z8w; have := hcl n.tr.length; omega, .inl ⟨rfl, ?_, hn.symm⟩⟩
          unfold z8w at e ⊢
          rw [e]
        | false =>
          simp only [e, Bool.false_eq_true, if_false] at hn
          refine ⟨0, by omega, z8w n false c, by unfold z8w; have := hcl n.tr.length; omega, by unfold z8w; have := hcl n.tr.length; omega, .inr ⟨rfl, ?_, hn.symm⟩⟩
          unfold z8w at e ⊢
          rw [e]
    · simp (maxSteps := 2000000) (disch := first | omega | (simp only [lenS]; try omega)) only [go_sem, reduceAdd, reduceEqDiff, reduceLeDiff, reduceSub]
theorem wfh (n : Net) (p : Int) (hg : goodN n = true) (hp : 0 ≤ p ∧ p < n.pl) : C w94 [encN n, I p] [] = some (.tup [.un wfu true 1 ((zzc n true p).pl.map PV.bool), .un wfu true 1 ((zzc n true p).tr.map PV.bool)], []) := by
  have hb := zgv hg
  have hlen := zze n true p
  rw [zzd] at hlen ⊢
  refine w2g ?_
  simp (maxSteps := 2000000) (disch := first | omega | (simp only [lenS]; try omega)) only [wdk, go_sem, reduceAdd, reduceEqDiff, reduceLeDiff, reduceSub]
  simp (maxSteps := 2000000) (disch := first | omega | (simp only [lenS]; try omega)) only [go_sem, reduceAdd, reduceEqDiff, reduceLeDiff, reduceSub, List.getElem_replicate]
  generalize hR : clRun n true (cntF (List.replicate n.tr.length false) + 1) ⟨(List.replicate n.pl.toNat false).set p.toNat true, List.replicate n.tr.length false, true⟩ = R at *
  refine z1a (fun k s => ∃ c : Cl, c.pl.length = n.pl.toNat ∧ c.tr.length = n.tr.length ∧ ((k = cntF c.tr + 1 ∧ s = ⟨[.any, .any, .ptr 0 0, .any, .any, .ref 1 1 0 n.pl.toNat, .ref 2 1 0 n.tr.length, .bool true, .any, .any, .any, .any, .any, .any, .any, .any, .any, .any, .any, .any, .any, .any, .any, .any, .any, .any, .any], [.box wfy [I n.pl, trs n.tr], .row wfu true 1 (c.pl.map PV.bool), .row wfu true 1 (c.tr.map PV.bool)]⟩ ∧ clRun n true (cntF c.tr + 1) c = R) ∨ (k = 0 ∧ s = ⟨[.any, .any, .ptr 0 0, .any, .any, .ref 1 1 0 n.pl.toNat, .ref 2 1 0 n.tr.length, .bool false, .any, .any, .any, .any, .any, .any, .any, .any, .any, .any, .any, .any, .any, .any, .any, .any, .any, .any, .any], [.box wfy [I n.pl, trs n.tr], .row wfu true 1 (c.pl.map PV.bool), .row wfu true 1 (c.tr.map PV.bool)]⟩ ∧ c = R))) (cntF (List.replicate n.tr.length false) + 1) ?_ ?_
  · refine ⟨⟨(List.replicate n.pl.toNat false).set p.toNat true, List.replicate n.tr.length false, true⟩, by simp, by simp, .inl ⟨rfl, ?_, hR⟩⟩
    simp (maxSteps := 2000000) (disch := first | omega | (simp only [lenS]; try omega)) only [go_sem, reduceAdd, reduceEqDiff, reduceLeDiff, reduceSub]
    simp
  · rintro k0 s ⟨c, hc1, hc2, ⟨rfl, rfl, hc⟩ | ⟨rfl, rfl, rfl⟩⟩
    · have hcl := fun k => z8u n true c k
      simp (maxSteps := 2000000) (disch := first | omega | (simp only [lenS]; try omega)) only [go_sem, reduceAdd, reduceEqDiff, reduceLeDiff, reduceSub]
      refine W_for n.tr.length (fun k s => s = ⟨[.any, .any, .ptr 0 0, .any, .any, .ref 1 1 0 n.pl.toNat, .ref 2 1 0 n.tr.length, .bool (clK n true c k).ch, .any, .any, .any, .any, .any, .any, trs n.tr, I n.tr.length, I k, .any, .any, .any, .any, .any, .any, .any, .any, .any, .any], [.box wfy [I n.pl, trs n.tr], .row wfu true 1 ((clK n true c k).pl.map PV.bool), .row wfu true 1 ((clK n true c k).tr.map PV.bool)]⟩) ?_ ?_ ?_
      · simp (maxSteps := 2000000) (disch := first | omega | (simp only [lenS]; try omega)) only [go_sem, reduceAdd, reduceEqDiff, reduceLeDiff, reduceSub]
        rfl
      · rintro k s hk rfl
        have hT := hb.2.2.2 _ (List.getElem_mem hk)
        have hLs := zh0 hT (by omega)
        obtain ⟨_, g1, g2, g3⟩ := zh4 hT
        have p1 := zxj g2
        have p2 := zxj g1
        have hd := hcl k
        have hstep := z8v n true c k
        have htr : n.tr[k] = trN n k := (z1a3 hk).symm
        rw [htr] at hLs p1 p2
        have s1 : (clK n true c k).tr.getD k false = true → clK n true c (k + 1) = clK n true c k := fun h => hstep.trans (z94 (.inl h))
        have s2 : hitB (clK n true c k).pl (sideI true (trN n k)) = false → clK n true c (k + 1) = clK n true c k := fun h => hstep.trans (z94 (.inr h))
        have s3 : (clK n true c k).tr.getD k false = false → hitB (clK n true c k).pl (sideI true (trN n k)) = true → clK n true c (k + 1) = ⟨markB (clK n true c k).pl (sideO true (trN n k)), (clK n true c k).tr.set k true, true⟩ := fun h h2 => hstep.trans (z95 h h2)
        simp only [sideI, sideO, Bool.false_eq_true, if_false, if_true] at s2 s3
        clear hstep
        generalize clK n true c k = d at *
        generalize clK n true c (k + 1) = d' at *
        simp (maxSteps := 2000000) (disch := first | omega | (simp only [lenS]; try omega)) only [go_sem, reduceAdd, reduceEqDiff, reduceLeDiff, reduceSub]
        simp only [htr]
        generalize trN n k = tr at *
        refine W_for tr.out.length (fun j s => s = ⟨[.any, .any, .ptr 0 0, .any, .any, .ref 1 1 0 n.pl.toNat, .ref 2 1 0 n.tr.length, .bool d.ch, I k, .ptr 3 0, .bool ((tr.out.take j).any fun p => d.pl.getD p.toNat false), .any, .any, .any, trs n.tr, I n.tr.length, I k, .any, ints tr.out, I tr.out.length, I j, .any, .any, .any, .any, .any, .any], [.box wfy [I n.pl, trs n.tr], .row wfu true 1 (d.pl.map PV.bool), .row wfu true 1 (d.tr.map PV.bool), .box wg2 [ints tr.inn, ints tr.out, ints tr.rst]]⟩) ?_ ?_ ?_
        · simp (maxSteps := 2000000) (disch := first | omega | (simp only [lenS]; try omega)) only [go_sem, reduceAdd, reduceEqDiff, reduceLeDiff, reduceSub]
          rfl
        · rintro j s hj rfl
          have h1 := p1 _ (List.getElem_mem hj)
          have h2 : tr.out[j].toNat < d.pl.length := by omega
          simp (maxSteps := 2000000) (disch := first | omega | (simp only [lenS]; try omega)) only [go_sem, reduceAdd, reduceEqDiff, reduceLeDiff, reduceSub]
          refine ⟨fun h => ?_, fun h => ⟨fun h3 => ?_, fun h3 => ?_⟩⟩
          · rw [z34 hj h]; rfl
          · rw [z32 hj (by rw [← zg4 h2]; exact h3)]; rfl
          · rw [z37 hj h (by rw [← zg4 h2]; exact h3)]; rfl
        · rintro s rfl
          have hkd : k < d.tr.length := by omega
          simp (maxSteps := 2000000) (disch := first | omega | (simp only [lenS]; try omega)) only [go_sem, reduceAdd, reduceEqDiff, reduceLeDiff, reduceSub, List.take_length]
          refine ⟨fun h => ⟨fun h3 => ?_, fun h3 => ?_⟩, fun h => ?_⟩
          · rw [s1 (by rw [← zg4 hkd]; exact h3)]; rfl
          · have e := s3 (by rw [← zg4 hkd]; exact h3) h
            subst e
            refine W_for tr.inn.length (fun j s => s = ⟨[.any, .any, .ptr 0 0, .any, .any, .ref 1 1 0 n.pl.toNat, .ref 2 1 0 n.tr.length, .bool true, .any, .any, .any, .any, .any, .any, trs n.tr, I n.tr.length, I k, .any, .any, .any, .any, .any, .any, ints tr.inn, I tr.inn.length, I j, .any], [.box wfy [I n.pl, trs n.tr], .row wfu true 1 ((markB d.pl (tr.inn.take j)).map PV.bool), .row wfu true 1 ((d.tr.set k true).map PV.bool)]⟩) ?_ ?_ ?_
            · simp (maxSteps := 2000000) (disch := first | omega | (simp only [lenS]; try omega)) only [go_sem, reduceAdd, reduceEqDiff, reduceLeDiff, reduceSub]
              rfl
            · rintro j s hj rfl
              have h1 := p2 _ (List.getElem_mem hj)
              have h2 : tr.inn[j].toNat < d.pl.length := by omega
              have h4 := zp1 d.pl (tr.inn.take j)
              simp (maxSteps := 2000000) (disch := first | omega | (simp only [lenS]; try omega)) only [go_sem, reduceAdd, reduceEqDiff, reduceLeDiff, reduceSub]
              rw [zp2 hj]; rfl
            · rintro s rfl
              simp (maxSteps := 2000000) (disch := first | omega | (simp only [lenS]; try omega)) only [go_sem, reduceAdd, reduceEqDiff, reduceLeDiff, reduceSub, List.take_length]
              rfl
          · rw [s2 h]; rfl
      · rintro s rfl
        simp (maxSteps := 2000000) (disch := first | omega | (simp only [lenS]; try omega)) only [go_sem, reduceAdd, reduceEqDiff, reduceLeDiff, reduceSub]
        have hn := z90 (n := n) (bk := true) hc2
        rw [hc] at hn
        cases e : (z8w n true c).ch with
        | true =>
          have h1 := (z8t (n := n) (bk := true) (s := c) (k := n.tr.length) (by omega)).2 e
          simp only [e, if_true] at hn
          refine ⟨cntF (z8w n true c).tr + 1, by unfold z8w; omega, z8w n true c, by unfold z8w; have := hcl n.tr.length; omega, by unfold z8w; have := hcl n.tr.length; omega, .inl ⟨rfl, ?_, hn.symm⟩⟩
          unfold z8w at e ⊢
          rw [e]
        | false =>
          simp only [e, Bool.false_eq_true, if_false] at hn
          refine ⟨0, by omega, z8w n true c, by unfold z8w; have := hcl n.tr.length; omega, by unfold z8w; have := hcl n.tr.length; omega, .inr ⟨rfl, ?_, hn.symm⟩⟩
          unfold z8w at e ⊢
          rw [e]
    · simp (maxSteps := 2000000) (disch := first | omega | (simp only [lenS]; try omega)) only [go_sem, reduceAdd, reduceEqDiff, reduceLeDiff, reduceSub]
theorem wfi (a b : List Bool) (ha : a.length < 2^30) (hab : a.length ≤ b.length) : C w95 [bls a, bls b] [] = some (.un t_int true 1 ((bothL a b).map I), []) := by
  refine w2h ?_
  simp (maxSteps := 2000000) (disch := first | omega | (simp only [lenS]; try omega)) only [wdl, go_sem, reduceAdd, reduceEqDiff, reduceLeDiff, reduceSub]
  refine W_for a.length (fun k s => s = ⟨[bls a, bls b, .any, .ref 0 1 0 (bothK a b k).length, .any, I a.length, I k, .any, .any], [.row t_int true 1 ((bothK a b k).map I)]⟩) ?_ ?_ ?_
  · simp (maxSteps := 2000000) (disch := first | omega | (simp only [lenS]; try omega)) only [go_sem, reduceAdd, reduceEqDiff, reduceLeDiff, reduceSub]
    rfl
  · rintro k s hk rfl
    have h2 := z6n a b k
    have hkb : k < b.length := by omega
    have e1 := zg4 hk
    have e2 := zg4 hkb
    simp (maxSteps := 2000000) (disch := first | omega | (simp only [lenS]; try omega)) only [go_sem, reduceAdd, reduceEqDiff, reduceLeDiff, reduceSub]
    rw [e1, e2]
    refine ⟨fun h => ⟨fun h3 => ?_, fun h3 => ?_⟩, fun h => ?_⟩
    · rw [z6o h h3, List.map_append]; simp
    · rw [z6m (by rw [h, h3]; rfl)]; rfl
    · rw [z6m (by rw [h]; rfl)]; rfl
  · rintro s rfl
    simp (maxSteps := 2000000) (disch := first | omega | (simp only [lenS]; try omega)) only [go_sem, reduceAdd, reduceEqDiff, reduceLeDiff, reduceSub]
    rfl
theorem wem (n : Net) (a b : Int) (hn : smN n) : C w8c [encN n, I a, I b] [] = some (.tup [.un t_int true 1 ((if okWay n a b then wayP n a b else []).map I), .un t_int true 1 ((if okWay n a b then wayT n a b else []).map I), .bool (okWay n a b)], []) := by
  refine w1y ?_
  simp (maxSteps := 2000000) (disch := first | omega | (simp only [lenS]; try omega)) only [wcs, go_sem, reduceAdd, reduceEqDiff, reduceLeDiff, reduceSub]
  simp (maxSteps := 2000000) (disch := first | omega | (simp only [lenS]; try omega)) only [go_sem, reduceAdd, reduceEqDiff, reduceLeDiff, reduceSub, wej n hn, wf6]
  cases hg : goodN n with
  | false => simp [okWay, hg]
  | true =>
    have hb := zgv hg
    cases h1 : inB 0 (n.pl - 1) a with
    | false => simp (maxSteps := 2000000) (disch := first | omega | (simp only [lenS]; try omega)) only [go_sem, reduceAdd, reduceEqDiff, reduceLeDiff, reduceSub, h1]; simp [okWay, hg, h1]
    | true =>
      cases h2 : inB 0 (n.pl - 1) b with
      | false => simp (maxSteps := 2000000) (disch := first | omega | (simp only [lenS]; try omega)) only [go_sem, reduceAdd, reduceEqDiff, reduceLeDiff, reduceSub, h1, h2]; simp [okWay, hg, h1, h2]
      | true =>
        have hok : okWay n a b = true := by simp [okWay, hg, h1, h2]
        have ha : 0 ≤ a ∧ a < n.pl := by simp [inB] at h1; omega
        have hb2 : 0 ≤ b ∧ b < n.pl := by simp [inB] at h2; omega
        have l1 := zze n false a
        have l2 := zze n true b
        simp (maxSteps := 2000000) (disch := first | omega | (simp only [lenS]; try omega)) only [go_sem, reduceAdd, reduceEqDiff, reduceLeDiff, reduceSub, h1, h2, wfj n a hg ha, wfh n b hg hb2, hok]
        simp (maxSteps := 2000000) (disch := first | omega | (simp only [lenS]; try omega)) only [go_sem, reduceAdd, reduceEqDiff, reduceLeDiff, reduceSub, wfi (zzc n false a).pl (zzc n true b).pl (by omega) (by omega), wfi (zzc n false a).tr (zzc n true b).tr (by omega) (by omega)]
        rfl
theorem wf5 (l : List Int) (x : Int) (hl : l.length < 2^62) : C w8t [ints l, I x] [] = some (.bool (hasB l x), []) := by
  refine w26 ?_
  simp (maxSteps := 2000000) (disch := first | omega | (simp only [lenS]; try omega)) only [wd9, go_sem, reduceAdd, reduceEqDiff, reduceLeDiff, reduceSub]
  refine W_for l.length (fun k s => s = ⟨[.any, I x, .any, .any, ints l, I l.length, I k, .any, .any], []⟩ ∧ (l.take k).any (fun y => y == x) = false) ?_ ?_ ?_
  · simp (maxSteps := 2000000) (disch := first | omega | (simp only [lenS]; try omega)) only [go_sem, reduceAdd, reduceEqDiff, reduceLeDiff, reduceSub]
    rfl
  · rintro k s hk ⟨rfl, hall⟩
    simp (maxSteps := 2000000) (disch := first | omega | (simp only [lenS]; try omega)) only [go_sem, reduceAdd, reduceEqDiff, reduceLeDiff, reduceSub]
    refine ⟨fun h => ?_, fun h => ⟨rfl, z37 hk hall (by simpa using h)⟩⟩
    rw [zhl hk h]
  · rintro s ⟨rfl, hall⟩
    simp (maxSteps := 2000000) (disch := first | omega | (simp only [lenS]; try omega)) only [go_sem, reduceAdd, reduceEqDiff, reduceLeDiff, reduceSub]
    rw [List.take_length] at hall
    rw [zhk hall]
theorem weh (f : Fl) (hf : smN f.net) : C w87 [encF f] [] = some (.bool (zgg f), []) := by
  have hl := hf.1
  have hw := wem f.net f.src f.dst hf
  have hP : (wayP f.net f.src f.dst).length < 2^62 ∨ goodN f.net = false := by
    cases hg : goodN f.net with
    | false => exact .inr rfl
    | true =>
      have := zgv hg
      have h1 := z6n (zzc f.net false f.src).pl (zzc f.net true f.dst).pl (zzc f.net false f.src).pl.length
      have h2 := zze f.net false f.src
      exact .inl (by unfold wayP bothL; omega)
  have hT : (wayT f.net f.src f.dst).length < 2^62 := by
    have h1 := z6n (zzc f.net false f.src).tr (zzc f.net true f.dst).tr (zzc f.net false f.src).tr.length
    have h2 := zze f.net false f.src
    unfold wayT bothL; omega
  refine w1t ?_
  simp (maxSteps := 2000000) (disch := first | omega | (simp only [lenS]; try omega)) only [wcn, go_sem, reduceAdd, reduceEqDiff, reduceLeDiff, reduceSub]
  cases hok : okWay f.net f.src f.dst with
  | false =>
    simp only [hok] at hw
    simp (maxSteps := 2000000) (disch := first | omega | (simp only [lenS]; try omega)) only [go_sem, reduceAdd, reduceEqDiff, reduceLeDiff, reduceSub, hw]
    simp [zgg, hok]
  | true =>
    have hg : goodN f.net = true := by simp only [okWay, Bool.and_eq_true] at hok; exact hok.1.1
    have hb := zgv hg
    have hP : (wayP f.net f.src f.dst).length < 2^62 := by
      rcases hP with h | h
      · exact h
      · rw [hg] at h; cases h
    simp only [hok, if_true] at hw
    simp (maxSteps := 2000000) (disch := first | omega | (simp only [lenS]; try omega)) only [go_sem, reduceAdd, reduceEqDiff, reduceLeDiff, reduceSub, hw]
    refine ⟨fun h => by simp [zgg, h], fun h => ⟨fun h2 => by simp [zgg, h2], fun h2 => ⟨fun h3 => ?_, fun h3 => ?_⟩⟩⟩
    · have : ¬ (wayT f.net f.src f.dst).length = f.net.tr.length := by omega
      simp [zgg, this]
    refine W_for f.net.tr.length (fun k s => s = ⟨[.any, .ptr 0 0, .any, .any, .any, .any, .any, .any, trs f.net.tr, I f.net.tr.length, I k, .any, .any], [.box wfw [I f.net.pl, trs f.net.tr, I f.src, I f.dst]]⟩ ∧ (f.net.tr.take k).all (fun t => !z16y f t) = true) ?_ ?_ ?_
    · simp (maxSteps := 2000000) (disch := first | omega | (simp only [lenS]; try omega)) only [go_sem, reduceAdd, reduceEqDiff, reduceLeDiff, reduceSub]
      rfl
    · rintro k s hk ⟨rfl, hall⟩
      have hT := hb.2.2.2 _ (List.getElem_mem hk)
      have hLs := zh0 hT (by omega)
      simp (maxSteps := 2000000) (disch := first | omega | (simp only [lenS]; try omega)) only [go_sem, reduceAdd, reduceEqDiff, reduceLeDiff, reduceSub, wf5]
      have gs : z16y f f.net.tr[k] = true → zgg f = false := fun hs => by
        have : (f.net.tr.all fun t => !z16y f t) = false := z2r hk (by simp [hs])
        simp [zgg, this]
      exact ⟨fun a => by rw [gs (by simp [z16y, a])], fun a => ⟨fun b => by rw [gs (by simp [z16y, b])], fun b => ⟨fun c => by rw [gs (by simp [z16y, c])], fun c => ⟨fun d => by rw [gs (by simp [z16y, d])], fun d => ⟨rfl, z2s hk hall (by simp [z16y, a, b, c, d])⟩⟩⟩⟩⟩
    · rintro s ⟨rfl, hall⟩
      simp (maxSteps := 2000000) (disch := first | omega | (simp only [lenS]; try omega)) only [go_sem, reduceAdd, reduceEqDiff, reduceLeDiff, reduceSub]
      rw [List.take_length] at hall
      have h4 : (wayT f.net f.src f.dst).length = f.net.tr.length := by omega
      simp [zgg, hok, h, h2, h4]
      simpa using hall
theorem wfq (f : Fl) (b : Int) (hf : smN f.net) : C w9d [encF f, I b] [] = some (.bool (zgg f && inB 1 400 b), []) := by
  refine w2p ?_
  simp (maxSteps := 2000000) (disch := first | omega | (simp only [lenS]; try omega)) only [wdt, go_sem, reduceAdd, reduceEqDiff, reduceLeDiff, reduceSub]
  simp (maxSteps := 2000000) (disch := first | omega | (simp only [lenS]; try omega)) only [go_sem, reduceAdd, reduceEqDiff, reduceLeDiff, reduceSub, weh f hf, wf6]
  grind
theorem wfk (n p : Int) (hn : 0 ≤ n ∧ n < 2^30) (hp : 0 ≤ p ∧ p < n) : C w97 [I n, I p] [] = some (.un t_int true 1 ((oneM n.toNat p).map I), []) := by
  refine w2j ?_
  simp (maxSteps := 2000000) (disch := first | omega | (simp only [lenS]; try omega)) only [wdn, go_sem, reduceAdd, reduceEqDiff, reduceLeDiff, reduceSub]
  simp (maxSteps := 2000000) (disch := first | omega | (simp only [lenS]; try omega)) only [go_sem, reduceAdd, reduceEqDiff, reduceLeDiff, reduceSub, List.getElem_replicate]
  simp [oneM, List.map_set]
theorem wft (f : Fl) (hg : zgg f = true) : C w9f [encF f] [] = some (.tup [.un t_int true 1 ((oneM f.net.pl.toNat f.src).map I), .un t_int true 1 ((oneM f.net.pl.toNat f.dst).map I)], []) := by
  obtain ⟨g1, g2, g3, _⟩ := zgj hg
  have hn := zgv g1
  refine w2r ?_
  simp (maxSteps := 2000000) (disch := first | omega | (simp only [lenS]; try omega)) only [wdv, go_sem, reduceAdd, reduceEqDiff, reduceLeDiff, reduceSub]
  simp (maxSteps := 2000000) (disch := first | omega | (simp only [lenS]; try omega)) only [go_sem, reduceAdd, reduceEqDiff, reduceLeDiff, reduceSub, wfk f.net.pl f.src (by omega) g2, wfk f.net.pl f.dst (by omega) g3]
theorem wf7 (l : List Int) (h : l.length < 2^36) : C w8v [ints l] [] = some (.un t_int true 1 (l.map I), []) := by
  refine w28 ?_
  simp (maxSteps := 2000000) (disch := first | omega | (simp only [lenS]; try omega)) only [wdb, go_sem, reduceAdd, reduceEqDiff, reduceLeDiff, reduceSub]
theorem wfe (t : Tr) (m : List Int) (ht : ∀ q ∈ t.inn, 0 ≤ q ∧ q.toNat < m.length) (hl : t.inn.length < 2^62) : C w91 [encT t, ints m] [] = some (.bool (canT t m), []) := by
  refine w2d ?_
  simp (maxSteps := 2000000) (disch := first | omega | (simp only [lenS]; try omega)) only [wdh, go_sem, reduceAdd, reduceEqDiff, reduceLeDiff, reduceSub]
  refine W_for t.inn.length (fun k s => s = ⟨[.any, ints m, .any, .any, .any, ints t.inn, I t.inn.length, I k, .any, .any], []⟩ ∧ (t.inn.take k).all (fun p => !(at_ m p == 0)) = true) ?_ ?_ ?_
  · simp (maxSteps := 2000000) (disch := first | omega | (simp only [lenS]; try omega)) only [go_sem, reduceAdd, reduceEqDiff, reduceLeDiff, reduceSub]
    rfl
  · rintro k s hk ⟨rfl, hall⟩
    obtain ⟨h1, h2⟩ := ht _ (List.getElem_mem hk)
    simp (maxSteps := 2000000) (disch := first | omega | (simp only [lenS]; try omega)) only [go_sem, reduceAdd, reduceEqDiff, reduceLeDiff, reduceSub]
    refine ⟨fun h => ?_, fun h => ⟨rfl, z2s hk hall ?_⟩⟩
    · have : canT t m = false := z2r hk (by rw [at_eq h2] at h; simp [h])
      rw [this]
    · rw [at_eq h2] at h; simp [h]
  · rintro s ⟨rfl, hall⟩
    simp (maxSteps := 2000000) (disch := first | omega | (simp only [lenS]; try omega)) only [go_sem, reduceAdd, reduceEqDiff, reduceLeDiff, reduceSub]
    rw [List.take_length] at hall
    unfold canT; rw [hall]
theorem wff (n : Net) (m : List Int) (hg : goodN n = true) (hm : (m.length : Int) = n.pl) : C w92 [encN n, ints m] [] = some (.un t_int true 1 ((enabL n m).map I), []) := by
  have hb := zgv hg
  refine w2e ?_
  simp (maxSteps := 2000000) (disch := first | omega | (simp only [lenS]; try omega)) only [wdi, go_sem, reduceAdd, reduceEqDiff, reduceLeDiff, reduceSub]
  refine W_for n.tr.length (fun k s => s = ⟨[.any, ints m, .any, .any, .ref 0 1 0 (enabK n m k).length, .any, .any, trs n.tr, I n.tr.length, I k, .any, .any], [.row t_int true 1 ((enabK n m k).map I)]⟩) ?_ ?_ ?_
  · simp (maxSteps := 2000000) (disch := first | omega | (simp only [lenS]; try omega)) only [go_sem, reduceAdd, reduceEqDiff, reduceLeDiff, reduceSub]
    rfl
  · rintro k s hk rfl
    have hT := hb.2.2.2 _ (List.getElem_mem hk)
    have h2 := zbd n m k
    simp (maxSteps := 2000000) (disch := first | omega | (simp only [lenS]; try omega)) only [go_sem, reduceAdd, reduceEqDiff, reduceLeDiff, reduceSub, wfe _ m (zh1 hT hm).1 (by have := (zh0 hT (by omega)).1; omega)]
    refine ⟨fun h => ?_, fun h => ?_⟩
    · rw [zbe hk h, List.map_append]; simp
    · rw [zbc hk h]; rfl
  · rintro s rfl
    simp (maxSteps := 2000000) (disch := first | omega | (simp only [lenS]; try omega)) only [go_sem, reduceAdd, reduceEqDiff, reduceLeDiff, reduceSub]
    rfl
theorem wfg (t : Tr) (m : List Int) (h1 : ∀ q ∈ t.inn, 0 ≤ q ∧ q.toNat < m.length) (h2 : ∀ q ∈ t.out, 0 ≤ q ∧ q.toNat < m.length) (h3 : ∀ q ∈ t.rst, 0 ≤ q ∧ q.toNat < m.length) (hl : smT t) (hm : m.length < 2^30) (hb : ∀ x ∈ m, 0 ≤ x ∧ x ≤ 50) :
    C w93 [encT t, ints m] [] = some (.un t_int true 1 ((ze7 t m).map I), []) := by
  obtain ⟨g1, g2, g3⟩ := hl
  refine w2f ?_
  simp (maxSteps := 2000000) (disch := first | omega | (simp only [lenS]; try omega)) only [wdj, go_sem, reduceAdd, reduceEqDiff, reduceLeDiff, reduceSub]
  simp (maxSteps := 2000000) (disch := first | omega | (simp only [lenS]; try omega)) only [go_sem, reduceAdd, reduceEqDiff, reduceLeDiff, reduceSub, wf7 m (by omega)]
  refine W_for t.inn.length (fun k s => s = ⟨[.any, .any, .ptr 0 0, .any, .ref 1 1 0 m.length, .any, .any, .any, ints t.inn, I t.inn.length, I k, .any, .any, .any, .any, .any, .any, .any, .any, .any], [.box wg2 [ints t.inn, ints t.out, ints t.rst], .row t_int true 1 ((decL m (t.inn.take k)).map I)]⟩) ?_ ?_ ?_
  · simp (maxSteps := 2000000) (disch := first | omega | (simp only [lenS]; try omega)) only [go_sem, reduceAdd, reduceEqDiff, reduceLeDiff, reduceSub]
    rfl
  · rintro k s hk rfl
    obtain ⟨h4, h5⟩ := h1 _ (List.getElem_mem hk)
    have h6 := zan m (t.inn.take k)
    have h7 := z46 (p := t.inn[k]) (zam (l := t.inn.take k) hb (fun p hp => (h1 p (List.mem_of_mem_take hp)).2)) (by omega)
    have h8 : (t.inn.take k).length = k := by simp; omega
    simp (maxSteps := 2000000) (disch := first | omega | (simp only [lenS]; try omega)) only [go_sem, reduceAdd, reduceEqDiff, reduceLeDiff, reduceSub, at_eq]
    rw [zao hk]; rfl
  · rintro s rfl
    simp (maxSteps := 2000000) (disch := first | omega | (simp only [lenS]; try omega)) only [go_sem, reduceAdd, reduceEqDiff, reduceLeDiff, reduceSub, List.take_length]
    have b1 := zam (l := t.inn) hb (fun p hp => (h1 p hp).2)
    have l1 := zan m t.inn
    generalize e1 : decL m t.inn = m1 at b1 l1 ⊢
    refine W_for t.rst.length (fun k s => s = ⟨[.any, .any, .ptr 0 0, .any, .ref 1 1 0 m.length, .any, .any, .any, .any, .any, .any, .any, ints t.rst, I t.rst.length, I k, .any, .any, .any, .any, .any], [.box wg2 [ints t.inn, ints t.out, ints t.rst], .row t_int true 1 ((zerL m1 (t.rst.take k)).map I)]⟩) ?_ ?_ ?_
    · simp (maxSteps := 2000000) (disch := first | omega | (simp only [lenS]; try omega)) only [go_sem, reduceAdd, reduceEqDiff, reduceLeDiff, reduceSub]
      rfl
    · rintro k s hk rfl
      obtain ⟨h4, h5⟩ := h3 _ (List.getElem_mem hk)
      have h6 := z1c1 m1 (t.rst.take k)
      simp (maxSteps := 2000000) (disch := first | omega | (simp only [lenS]; try omega)) only [go_sem, reduceAdd, reduceEqDiff, reduceLeDiff, reduceSub]
      rw [z1c2 hk]; rfl
    · rintro s rfl
      simp (maxSteps := 2000000) (disch := first | omega | (simp only [lenS]; try omega)) only [go_sem, reduceAdd, reduceEqDiff, reduceLeDiff, reduceSub, List.take_length]
      have b2 := z1c0 (l := t.rst) b1 (by omega)
      have l2 := z1c1 m1 t.rst
      generalize e2 : zerL m1 t.rst = m2 at b2 l2 ⊢
      refine W_for t.out.length (fun k s => s = ⟨[.any, .any, .any, .any, .ref 0 1 0 m.length, .any, .any, .any, .any, .any, .any, .any, .any, .any, .any, .any, ints t.out, I t.out.length, I k, .any], [.row t_int true 1 ((incL m2 (t.out.take k)).map I)]⟩) ?_ ?_ ?_
      · simp (maxSteps := 2000000) (disch := first | omega | (simp only [lenS]; try omega)) only [go_sem, reduceAdd, reduceEqDiff, reduceLeDiff, reduceSub]
        rfl
      · rintro k s hk rfl
        obtain ⟨h4, h5⟩ := h2 _ (List.getElem_mem hk)
        have h6 := zjx m2 (t.out.take k)
        have h7 := z46 (p := t.out[k]) (zjw (l := t.out.take k) b2 (fun p hp => by have := (h2 p (List.mem_of_mem_take hp)).2; omega)) (by omega)
        have h8 : (t.out.take k).length = k := by simp; omega
        simp (maxSteps := 2000000) (disch := first | omega | (simp only [lenS]; try omega)) only [go_sem, reduceAdd, reduceEqDiff, reduceLeDiff, reduceSub, at_eq]
        rw [zjy hk]; rfl
      · rintro s rfl
        have h6 := zjx m2 t.out
        simp (maxSteps := 2000000) (disch := first | omega | (simp only [lenS]; try omega)) only [go_sem, reduceAdd, reduceEqDiff, reduceLeDiff, reduceSub, List.take_length]
        subst e2 e1; rfl
theorem wes (l : List Int) (lo hi : Int) (hl : l.length < 2^62) : C w8i [ints l, I lo, I hi] [] = some (.bool (l.all (inB lo hi)), []) := by
  refine w24 ?_
  simp (maxSteps := 2000000) (disch := first | omega | (simp only [lenS]; try omega)) only [wcy, go_sem, reduceAdd, reduceEqDiff, reduceLeDiff, reduceSub]
  refine W_for l.length (fun k s => s = ⟨[.any, I lo, I hi, .any, .any, ints l, I l.length, I k, .any, .any], []⟩ ∧ (l.take k).all (inB lo hi) = true) ?_ ?_ ?_
  · simp (maxSteps := 2000000) (disch := first | omega | (simp only [lenS]; try omega)) only [go_sem, reduceAdd, reduceEqDiff, reduceLeDiff, reduceSub]
    rfl
  · rintro k s hk ⟨rfl, hall⟩
    simp (maxSteps := 2000000) (disch := first | omega | (simp only [lenS]; try omega)) only [go_sem, reduceAdd, reduceEqDiff, reduceLeDiff, reduceSub, wf6]
    exact ⟨fun h => ⟨rfl, z2s hk hall h⟩, fun h => by rw [z2r hk h]⟩
  · rintro s ⟨rfl, hall⟩
    simp (maxSteps := 2000000) (disch := first | omega | (simp only [lenS]; try omega)) only [go_sem, reduceAdd, reduceEqDiff, reduceLeDiff, reduceSub]
    rw [List.take_length] at hall
    rw [hall]
theorem wei (p : Int) (m : List Int) (hl : m.length < 2^62) : C w88 [I p, ints m] [] = some (.bool (goodM p m), []) := by
  refine w1u ?_
  simp (maxSteps := 2000000) (disch := first | omega | (simp only [lenS]; try omega)) only [wco, go_sem, reduceAdd, reduceEqDiff, reduceLeDiff, reduceSub]
  simp (maxSteps := 2000000) (disch := first | omega | (simp only [lenS]; try omega)) only [go_sem, reduceAdd, reduceEqDiff, reduceLeDiff, reduceSub, wf8, wes m _ _ hl]
  unfold goodM; grind
theorem wfc (a b : List Int) (hl : a.length < 2^62) : C w8z [ints a, ints b] [] = some (.bool (decide (a = b)), []) := by
  refine w2b ?_
  simp (maxSteps := 2000000) (disch := first | omega | (simp only [lenS]; try omega)) only [wdf, go_sem, reduceAdd, reduceEqDiff, reduceLeDiff, reduceSub]
  refine ⟨fun h => ?_, fun h => ?_⟩
  · have : a ≠ b := fun e => h (by rw [e])
    simp [this]
  refine W_for a.length (fun k s => s = ⟨[ints a, ints b, .any, .any, .any, I a.length, I k, .any, .any], []⟩ ∧ a.take k = b.take k) ?_ ?_ ?_
  · simp (maxSteps := 2000000) (disch := first | omega | (simp only [lenS]; try omega)) only [go_sem, reduceAdd, reduceEqDiff, reduceLeDiff, reduceSub]
    rfl
  · rintro k s hk ⟨rfl, hall⟩
    simp (maxSteps := 2000000) (disch := first | omega | (simp only [lenS]; try omega)) only [go_sem, reduceAdd, reduceEqDiff, reduceLeDiff, reduceSub]
    refine ⟨fun h => ?_, fun h => ⟨rfl, ?_⟩⟩
    · have : a ≠ b := fun e => h (by simp [e])
      simp [this]
    · rw [z19l hk, z19l (show k < b.length by omega), hall, h]
  · rintro s ⟨rfl, hall⟩
    simp (maxSteps := 2000000) (disch := first | omega | (simp only [lenS]; try omega)) only [go_sem, reduceAdd, reduceEqDiff, reduceLeDiff, reduceSub]
    rw [List.take_length, List.take_of_length_le (by omega)] at hall
    simp [hall]
theorem wfn (ms : List (List Int)) (m : List Int) (hl : ms.length < 2^62) (hx : ∀ x ∈ ms, x.length < 2^62) : C w9a [rows ms, ints m] [] = some (I (findM ms m), []) := by
  refine w2m ?_
  simp (maxSteps := 2000000) (disch := first | omega | (simp only [lenS]; try omega)) only [wdq, go_sem, reduceAdd, reduceEqDiff, reduceLeDiff, reduceSub]
  refine W_for ms.length (fun k s => s = ⟨[.any, ints m, .any, .any, .any, rows ms, I ms.length, I k, .any, .any], []⟩ ∧ (ms.take k).any (fun x => decide (x = m)) = false) ?_ ?_ ?_
  · simp (maxSteps := 2000000) (disch := first | omega | (simp only [lenS]; try omega)) only [go_sem, reduceAdd, reduceEqDiff, reduceLeDiff, reduceSub]
    rfl
  · rintro k s hk ⟨rfl, hall⟩
    have hxk := hx _ (List.getElem_mem hk)
    simp (maxSteps := 2000000) (disch := first | omega | (simp only [lenS]; try omega)) only [go_sem, reduceAdd, reduceEqDiff, reduceLeDiff, reduceSub, wfc]
    refine ⟨fun h => ?_, fun h => ⟨rfl, z37 hk hall (decide_eq_false h)⟩⟩
    unfold findM
    rw [zhy hk hall (decide_eq_true h)]
  · rintro s ⟨rfl, hall⟩
    simp (maxSteps := 2000000) (disch := first | omega | (simp only [lenS]; try omega)) only [go_sem, reduceAdd, reduceEqDiff, reduceLeDiff, reduceSub]
    rw [List.take_length] at hall
    unfold findM
    rw [zhx hall]
end Go.Proofs.YtkkifebmicbbaaaGreat.Pi
