/- The functions that the law reaches: what they answer. Conditions: those that each theorem names. -/
import Derived.Test.YtbaclnecajkknaaGreatIrFnBackward
import Derived.Test.YtbaclnecajkknaaGreatPlFnBackward
namespace Go.Proofs.YtbaclnecajkknaaGreat.Pi
open Go
set_option linter.all false
open Nat (reduceAdd reduceEqDiff reduceLeDiff reduceSub)
set_option maxHeartbeats 4000000
set_option maxRecDepth 20000
/-- Lengths, all at once. -/
theorem lenS : (∀ {α : Type} (a b : List α), (a ++ b).length = a.length + b.length) ∧ (∀ {α : Type} (n : Nat) (l : List α), (l.take n).length = min n l.length) ∧ (∀ {α : Type} (n : Nat) (x : α), (List.replicate n x).length = n) ∧ (∀ {α β : Type} (f : α → β) (l : List α), (l.map f).length = l.length) ∧ (∀ {α : Type} (l : List α) (n : Nat) (x : α), (l.set n x).length = l.length) ∧ (∀ {α : Type} (x : α) (l : List α), (x :: l).length = l.length + 1) ∧ (∀ {α : Type}, ([] : List α).length = 0) ∧ (∀ {α β γ : Type} (f : α → β → γ) (a : List α) (b : List β), (List.zipWith f a b).length = min a.length b.length) ∧ (∀ {α : Type} (n : Nat) (l : List α), (l.drop n).length = l.length - n) ∧ (∀ (n : Nat), (List.range n).length = n) :=
  ⟨fun _ _ => List.length_append, fun _ _ => List.length_take, fun _ _ => List.length_replicate, fun _ _ => List.length_map _, fun _ _ _ => List.length_set, fun _ _ => List.length_cons, List.length_nil, fun _ _ _ => List.length_zipWith, fun _ _ => List.length_drop, fun _ => List.length_range⟩
theorem wdy (a b : List Int) : C w7k [bys a, bys b] [] = some (.bool (decide (1048576 < (a.length : Int)) || decide (1048576 - (a.length : Int) < b.length)), []) := by
  refine w0v ?_
  simp (maxSteps := 2000000) (disch := first | omega | (simp only [lenS]; try omega)) only [wbo, go_sem, reduceAdd, reduceEqDiff, reduceLeDiff, reduceSub]
  refine ⟨fun h => by simp [h], fun h => ?_⟩
  simp (maxSteps := 2000000) (disch := first | omega | (simp only [lenS]; try omega)) only [go_sem, reduceAdd, reduceEqDiff, reduceLeDiff, reduceSub]
  grind
theorem wfo (bs : List Int) (at_ sd : Int) (h0 : 0 ≤ at_) (h1 : at_ < 2^62) (hl : bs.length < 2^62) (hb : ∀ x ∈ bs, 0 ≤ x ∧ x < 256) :
    Lw (C w95 [.ptr 0 0] [.box wgr [bys bs, I at_, .int .u64 sd]]) fun r => ∃ x sd', r = (I x, [.box wgr [bys bs, I (at_ + 1), .int .u64 sd']]) ∧ 0 ≤ x ∧ x < 256 := by
  refine w2w ?_
  simp (maxSteps := 2000000) (disch := first | omega | (simp only [lenS]; try omega)) only [wd7, go_sem, reduceAdd, reduceEqDiff, reduceLeDiff, reduceSub]
  refine ⟨fun h => ?_, fun h => ?_⟩
  · have h2 : at_.toNat < bs.length := by omega
    have h3 := hb _ (List.getElem_mem h2)
    simp (maxSteps := 2000000) (disch := first | omega | (simp only [lenS]; try omega)) only [go_sem, reduceAdd, reduceEqDiff, reduceLeDiff, reduceSub]
    exact ⟨_, _, rfl, h3⟩
  · refine ⟨fun _ => ⟨_, _, rfl, by omega, by omega⟩, fun _ => ?_⟩
    generalize hw : IntKind.u64.wrap (IntKind.u64.wrap (IntKind.u64.wrap (sd * 6364136223846793005) + IntKind.u64.wrap 0) + 1442695040888963407) = w
    have hb := z1f5 (IntKind.u64.wrap (IntKind.u64.wrap (sd * 6364136223846793005) + IntKind.u64.wrap 0) + 1442695040888963407)
    rw [hw] at hb
    have h3 := z31 (x := w / 2 ^ min (Int.toNat 40) 64) (Int.ediv_nonneg hb.1 (by decide)) (Int.lt_of_le_of_lt (Int.ediv_le_self _ hb.1) hb.2)
    rw [wrap_i64 (by omega) (by omega)]
    exact ⟨_, _, rfl, h3⟩
theorem wfq (n : Int) (bs : List Int) (at_ sd : Int) (h0 : 0 ≤ at_) (h1 : at_ < 2^61) (hl : bs.length < 2^62) (hb : ∀ x ∈ bs, 0 ≤ x ∧ x < 256) :
    Lw (C w97 [.ptr 0 0, I n] [.box wgr [bys bs, I at_, .int .u64 sd]]) fun r => ∃ x at' sd', r = (I x, [.box wgr [bys bs, I at', .int .u64 sd']]) ∧ at_ ≤ at' ∧ at' ≤ at_ + 2 ∧ 0 ≤ x ∧ (x = 0 ∨ x < n) := by
  refine w2y ?_
  simp (maxSteps := 2000000) (disch := first | omega | (simp only [lenS]; try omega)) only [wd9, go_sem, reduceAdd, reduceEqDiff, reduceLeDiff, reduceSub]
  refine ⟨fun h => ⟨_, _, _, rfl, by omega, by omega, by omega, by omega⟩, fun h => ?_⟩
  obtain ⟨_, e1, x1, s1, rfl, h3, h4⟩ := wfo bs at_ sd h0 (by omega) hl hb
  obtain ⟨_, e2, x2, s2, rfl, h5, h6⟩ := wfo bs (at_ + 1) s1 (by omega) (by omega) hl hb
  simp (maxSteps := 2000000) (disch := first | omega | (simp only [lenS]; try omega)) only [go_sem, reduceAdd, reduceEqDiff, reduceLeDiff, reduceSub, e1, e2]
  refine ⟨fun _ => ⟨_, _, _, rfl, by omega, by omega, Int.tmod_nonneg _ (by omega), .inr (Int.tmod_lt_of_pos _ (by omega))⟩, fun _ => ⟨_, _, _, rfl, by omega, by omega, Int.tmod_nonneg _ (by omega), .inr (Int.tmod_lt_of_pos _ (by omega))⟩⟩
theorem wfp (n : Int) (bs : List Int) (at_ sd : Int) (h0 : 0 ≤ at_) (h1 : at_ < 2^61) (hl : bs.length < 2^62) (hb : ∀ x ∈ bs, 0 ≤ x ∧ x < 256) :
    Lw (C w96 [.ptr 0 0, I n] [.box wgr [bys bs, I at_, .int .u64 sd]]) fun r => ∃ x at' sd', r = (.bool x, [.box wgr [bys bs, I at', .int .u64 sd']]) ∧ at_ ≤ at' ∧ at' ≤ at_ + 2 := by
  refine w2x ?_
  simp (maxSteps := 2000000) (disch := first | omega | (simp only [lenS]; try omega)) only [wd8, go_sem, reduceAdd, reduceEqDiff, reduceLeDiff, reduceSub]
  obtain ⟨_, e1, x1, a1, s1, rfl, h3, h4, h5⟩ := wfq n bs at_ sd h0 h1 hl hb
  simp (maxSteps := 2000000) (disch := first | omega | (simp only [lenS]; try omega)) only [go_sem, reduceAdd, reduceEqDiff, reduceLeDiff, reduceSub, e1]
  exact ⟨fun _ => ⟨_, _, _, rfl, h3, h4⟩, fun _ => ⟨_, _, _, rfl, h3, h4⟩⟩
theorem wg2 (l : List Int) (x : Int) (hl : l.length < 2^30) : Lw (C w9h [.ref 0 1 0 l.length, I x] [.row t_int true 1 (l.map I)]) fun r => r = (.un t_int true 1 ((putI l x).map I), [.row t_int true 1 (l.map I)]) ∨ (r = (.ref 0 1 0 l.length, [.row t_int true 1 (l.map I)]) ∧ putI l x = l) := by
  refine w33 ?_
  simp (maxSteps := 2000000) (disch := first | omega | (simp only [lenS]; try omega)) only [wdj, go_sem, reduceAdd, reduceEqDiff, reduceLeDiff, reduceSub]
  refine W_for l.length (fun k s => s = ⟨[.ref 0 1 0 l.length, I x, .any, I k, .any, .any, .any], [.row t_int true 1 (l.map I)]⟩ ∧ (l.take k).all (fun y => decide (y < x)) = true) ?_ ?_ ?_
  · simp (maxSteps := 2000000) (disch := first | omega | (simp only [lenS]; try omega)) only [go_sem, reduceAdd, reduceEqDiff, reduceLeDiff, reduceSub]
    rfl
  · rintro k s hk ⟨rfl, hall⟩
    simp (maxSteps := 2000000) (disch := first | omega | (simp only [lenS]; try omega)) only [go_sem, reduceAdd, reduceEqDiff, reduceLeDiff, reduceSub]
    refine ⟨fun h => ⟨rfl, z2z hk hall (by simpa using h)⟩, fun h => ⟨fun h2 => .inr (z11q hk hall h2), fun h2 => .inl ?_⟩⟩
    rw [z11r hall (fun _ => by omega) (by omega)]
    simp
  · rintro s ⟨rfl, hall⟩
    simp (maxSteps := 2000000) (disch := first | omega | (simp only [lenS]; try omega)) only [go_sem, reduceAdd, reduceEqDiff, reduceLeDiff, reduceSub]
    have e := z11r hall (fun h => by omega) (by omega)
    refine ⟨fun h => .inl ?_, fun h => .inl ?_⟩
    · rw [e]; simp
    · have : l = [] := List.eq_nil_of_length_eq_zero (by omega)
      subst this; rfl
theorem wg1 (x : Int) : C w9h [.nil true 1, I x] [] = some (.un t_int true 1 [I x], []) := by
  refine w1z ?_
  simp (maxSteps := 2000000) (disch := first | omega | (simp only [lenS]; try omega)) only [wdj, go_sem, reduceAdd, reduceEqDiff, reduceLeDiff, reduceSub]
  refine W_for 0 (fun k s => s = ⟨[.nil true 1, I x, .any, I 0, .any, .any, .any], []⟩) ?_ ?_ ?_
  · simp (maxSteps := 2000000) (disch := first | omega | (simp only [lenS]; try omega)) only [go_sem, reduceAdd, reduceEqDiff, reduceLeDiff, reduceSub]
  · intro k s hk; omega
  · rintro s rfl
    simp (maxSteps := 2000000) (disch := first | omega | (simp only [lenS]; try omega)) only [go_sem, reduceAdd, reduceEqDiff, reduceLeDiff, reduceSub]
theorem wg3 (l : List Int) (x : Int) (hl : l.length < 2^30) : Lw (C w9h [ints l, I x] []) fun r => r = (.un t_int true 1 ((putI l x).map I), []) ∨ (r = (ints l, []) ∧ putI l x = l) := by
  refine w33 ?_
  simp (maxSteps := 2000000) (disch := first | omega | (simp only [lenS]; try omega)) only [wdj, go_sem, reduceAdd, reduceEqDiff, reduceLeDiff, reduceSub]
  refine W_for l.length (fun k s => s = ⟨[ints l, I x, .any, I k, .any, .any, .any], []⟩ ∧ (l.take k).all (fun y => decide (y < x)) = true) ?_ ?_ ?_
  · simp (maxSteps := 2000000) (disch := first | omega | (simp only [lenS]; try omega)) only [go_sem, reduceAdd, reduceEqDiff, reduceLeDiff, reduceSub]
    rfl
  · rintro k s hk ⟨rfl, hall⟩
    simp (maxSteps := 2000000) (disch := first | omega | (simp only [lenS]; try omega)) only [go_sem, reduceAdd, reduceEqDiff, reduceLeDiff, reduceSub]
    refine ⟨fun h => ⟨rfl, z2z hk hall (by simpa using h)⟩, fun h => ⟨fun h2 => .inr (z11q hk hall h2), fun h2 => .inl ?_⟩⟩
    rw [z11r hall (fun _ => by omega) (by omega)]
    simp
  · rintro s ⟨rfl, hall⟩
    simp (maxSteps := 2000000) (disch := first | omega | (simp only [lenS]; try omega)) only [go_sem, reduceAdd, reduceEqDiff, reduceLeDiff, reduceSub]
    have e := z11r hall (fun h => by omega) (by omega)
    refine .inl ?_
    rw [e]; simp
theorem wfk (bs : List Int) (hl : bs.length < 2^62) (hb : ∀ x ∈ bs, 0 ≤ x ∧ x < 256) : ∀ d : Nat,
    (∀ (D a b pl at_ sd : Int), D = d → 0 ≤ pl → pl ≤ 13 → 0 ≤ at_ → at_ + growC d < 2^60 → growT d ≤ 1000 →
      Lw (C w91 [.ptr 0 0, .ptr 1 0, I a, I b, I D] [.box wgr [bys bs, I at_, .int .u64 sd], .box wgm [I pl, .nil false 3]]) fun r => ∃ (pl' : Int) (tr' : List Tr) (at' sd' : Int), r = (.tup [], [.box wgr [bys bs, I at', .int .u64 sd'], .box wgm [I pl', .ref 2 3 0 tr'.length], .row wgo false 3 (tr'.map encT)]) ∧ pl ≤ pl' ∧ pl' ≤ 13 ∧ 0 < tr'.length ∧ tr'.length ≤ growT d ∧ smq 10 tr' ∧ at_ ≤ at' ∧ at' ≤ at_ + growC d) ∧
    (∀ (D a b pl at_ sd : Int) (tr : List Tr), D = d → 0 ≤ pl → pl ≤ 13 → 0 ≤ at_ → at_ + growC d < 2^60 → tr.length + growT d ≤ 1000 → smq 10 tr →
      Lw (C w91 [.ptr 0 0, .ptr 1 0, I a, I b, I D] [.box wgr [bys bs, I at_, .int .u64 sd], .box wgm [I pl, .ref 2 3 0 tr.length], .row wgo false 3 (tr.map encT)]) fun r => ∃ (pl' : Int) (tr' : List Tr) (at' sd' : Int), r = (.tup [], [.box wgr [bys bs, I at', .int .u64 sd'], .box wgm [I pl', .ref 3 3 0 tr'.length], .dead, .row wgo false 3 (tr'.map encT)]) ∧ pl ≤ pl' ∧ pl' ≤ 13 ∧ tr.length < tr'.length ∧ tr'.length ≤ tr.length + growT d ∧ smq 10 tr' ∧ at_ ≤ at' ∧ at' ≤ at_ + growC d) := by
  intro d
  induction d with
  | zero =>
    have c0 : growT 0 = 1 := rfl
    refine ⟨fun D a b pl at_ sd hD h1 h2 h3 h4 h5 => ?_, fun D a b pl at_ sd tr hD h1 h2 h3 h4 h5 h6 => ?_⟩
    · obtain rfl : D = 0 := by omega
      refine w2s ?_
      simp (maxSteps := 2000000) (disch := first | omega | (simp only [lenS]; try omega)) only [wd3, go_sem, reduceAdd, reduceEqDiff, reduceLeDiff, reduceSub]
      exact ⟨pl, [⟨[a], [b], []⟩], at_, sd, by simp, by omega, by omega, by simp, by simp only [List.length_append, List.length_cons, List.length_nil]; omega, z1ap z1an (by simp), by omega, by omega⟩
    · obtain rfl : D = 0 := by omega
      refine w2s ?_
      simp (maxSteps := 2000000) (disch := first | omega | (simp only [lenS]; try omega)) only [wd3, go_sem, reduceAdd, reduceEqDiff, reduceLeDiff, reduceSub]
      exact ⟨pl, tr ++ [⟨[a], [b], []⟩], at_, sd, by rw [List.map_append]; simp, by omega, by omega, by simp, by simp only [List.length_append, List.length_cons, List.length_nil]; omega, z1ap h6 (by simp), by omega, by omega⟩
  | succ d ih =>
    obtain ⟨ih1, ih2⟩ := ih
    have c1 : growC (d + 1) = 2 + 2 * growC d := rfl
    have c0 : growT (d + 1) = 2 + 2 * growT d := rfl
    refine ⟨fun D a b pl at_ sd hD h1 h2 h3 h4 h5 => ?_, fun D a b pl at_ sd tr hD h1 h2 h3 h4 h5 h6 => ?_⟩
    · have hD0 : ¬ D = 0 := by omega
      have hDT := zjb d
      have hD1 : D ≤ 1000 := by omega
      refine w2s ?_
      simp (maxSteps := 2000000) (disch := first | omega | (simp only [lenS]; try omega)) only [wd3, go_sem, reduceAdd, reduceEqDiff, reduceLeDiff, reduceSub]
      refine ⟨fun h => ⟨pl, [⟨[a], [b], []⟩], at_, sd, by simp, by omega, by omega, by simp, by simp only [List.length_append, List.length_cons, List.length_nil]; omega, z1ap z1an (by simp), by omega, by omega⟩, fun hp9 => ?_⟩
      obtain ⟨_, e1, x1, a1, s1, rfl, h7, h8, h9, h10⟩ := wfq 5 bs at_ sd (by omega) (by omega) hl hb
      obtain ⟨_, fA, pA, tA, aA, sA, rfl, kA1, kA2, kA3, kA4, kA5, kA6, kA7⟩ := ih1 (D - 1) a pl (pl + 1) a1 s1 (by omega) (by omega) (by omega) (by omega) (by omega) (by omega)
      obtain ⟨_, gA, pA', tA', aA', sA', rfl, lA1, lA2, lA3, lA4, lA5, lA6, lA7⟩ := ih2 (D - 1) pl b pA aA sA tA (by omega) (by omega) (by omega) (by omega) (by omega) (by omega) kA5
      obtain ⟨_, fB, pB, tB, aB, sB, rfl, kB1, kB2, kB3, kB4, kB5, kB6, kB7⟩ := ih1 (D - 1) a b pl a1 s1 (by omega) (by omega) (by omega) (by omega) (by omega) (by omega)
      obtain ⟨_, gB, pB', tB', aB', sB', rfl, lB1, lB2, lB3, lB4, lB5, lB6, lB7⟩ := ih2 (D - 1) a b pB aB sB tB (by omega) (by omega) (by omega) (by omega) (by omega) (by omega) kB5
      obtain ⟨_, fC, pC, tC, aC, sC, rfl, kC1, kC2, kC3, kC4, kC5, kC6, kC7⟩ := ih2 (D - 1) pl (pl + 2) (pl + 4) a1 s1 ([] ++ [⟨[a], [pl, pl + 1], []⟩, ⟨[pl + 2, pl + 3], [b], []⟩]) (by omega) (by omega) (by omega) (by omega) (by omega) (by simp only [List.length_append, List.length_cons, List.length_nil]; omega) (by have := z1ap (q := 10) (z1ap (q := 10) z1an (t := ⟨[a], [pl, pl + 1], []⟩) (by simp)) (t := ⟨[pl + 2, pl + 3], [b], []⟩) (by simp); simpa using this)
      obtain ⟨_, gC, pC', tC', aC', sC', rfl, lC1, lC2, lC3, lC4, lC5, lC6, lC7⟩ := ih2 (D - 1) (pl + 1) (pl + 3) pC aC sC tC (by omega) (by omega) (by omega) (by omega) (by omega) (by simp only [List.length_append, List.length_cons, List.length_nil] at kC4; omega) kC5
      obtain ⟨_, fE, pE, tE, aE, sE, rfl, kE1, kE2, kE3, kE4, kE5, kE6, kE7⟩ := ih2 (D - 1) pl (pl + 1) (pl + 2) a1 s1 ([] ++ [⟨[a], [pl], []⟩, ⟨[pl + 1], [b], []⟩]) (by omega) (by omega) (by omega) (by omega) (by omega) (by simp only [List.length_append, List.length_cons, List.length_nil]; omega) (by have := z1ap (q := 10) (z1ap (q := 10) z1an (t := ⟨[a], [pl], []⟩) (by simp)) (t := ⟨[pl + 1], [b], []⟩) (by simp); simpa using this)
      obtain ⟨_, gE, pE', tE', aE', sE', rfl, lE1, lE2, lE3, lE4, lE5, lE6, lE7⟩ := ih2 (D - 1) (pl + 1) pl pE aE sE tE (by omega) (by omega) (by omega) (by omega) (by omega) (by simp only [List.length_append, List.length_cons, List.length_nil] at kE4; omega) kE5
      simp only [List.length_append, List.length_cons, List.length_nil] at kC3 kC4 kE3 kE4
      simp only [encT, ints, List.map_append, List.map_cons, List.map_nil, List.length_append, List.length_cons, List.length_nil, List.nil_append, Nat.reduceAdd, Nat.zero_add] at fC fE
      simp (maxSteps := 2000000) (disch := first | omega | (simp only [lenS]; try omega)) only [go_sem, reduceAdd, reduceEqDiff, reduceLeDiff, reduceSub, e1, fA, gA, fB, gB, fC, gC, fE, gE, wg1]
      exact ⟨fun _ => ⟨pA', tA', aA', sA', rfl, by omega, by omega, by omega, by omega, lA5, by omega, by omega⟩, fun _ => ⟨fun _ => ⟨pA', tA', aA', sA', rfl, by omega, by omega, by omega, by omega, lA5, by omega, by omega⟩, fun _ => ⟨fun _ => ⟨pB', tB', aB', sB', rfl, by omega, by omega, by omega, by omega, lB5, by omega, by omega⟩, fun _ => ⟨fun _ => ⟨rfl, ⟨pC', tC', aC', sC', rfl, by omega, by omega, by omega, by omega, lC5, by omega, by omega⟩⟩, fun _ => ⟨pE', tE', aE', sE', rfl, by omega, by omega, by omega, by omega, lE5, by omega, by omega⟩⟩⟩⟩⟩

    · have hD0 : ¬ D = 0 := by omega
      have hDT := zjb d
      have hD1 : D ≤ 1000 := by omega
      refine w2s ?_
      simp (maxSteps := 2000000) (disch := first | omega | (simp only [lenS]; try omega)) only [wd3, go_sem, reduceAdd, reduceEqDiff, reduceLeDiff, reduceSub]
      refine ⟨fun h => ⟨pl, tr ++ [⟨[a], [b], []⟩], at_, sd, by rw [List.map_append]; simp, by omega, by omega, by simp, by simp only [List.length_append, List.length_cons, List.length_nil]; omega, z1ap h6 (by simp), by omega, by omega⟩, fun hp9 => ⟨fun h => ⟨pl, tr ++ [⟨[a], [b], []⟩], at_, sd, by rw [List.map_append]; simp, by omega, by omega, by simp, by simp only [List.length_append, List.length_cons, List.length_nil]; omega, z1ap h6 (by simp), by omega, by omega⟩, fun hp12 => ?_⟩⟩
      obtain ⟨_, e1, x1, a1, s1, rfl, h7, h8, h9, h10⟩ := wfq 5 bs at_ sd (by omega) (by omega) hl hb
      obtain ⟨_, fA, pA, tA, aA, sA, rfl, kA1, kA2, kA3, kA4, kA5, kA6, kA7⟩ := ih2 (D - 1) a pl (pl + 1) a1 s1 tr (by omega) (by omega) (by omega) (by omega) (by omega) (by omega) h6
      obtain ⟨_, gA, pA', tA', aA', sA', rfl, lA1, lA2, lA3, lA4, lA5, lA6, lA7⟩ := ih2 (D - 1) pl b pA aA sA tA (by omega) (by omega) (by omega) (by omega) (by omega) (by omega) kA5
      obtain ⟨_, fB, pB, tB, aB, sB, rfl, kB1, kB2, kB3, kB4, kB5, kB6, kB7⟩ := ih2 (D - 1) a b pl a1 s1 tr (by omega) (by omega) (by omega) (by omega) (by omega) (by omega) h6
      obtain ⟨_, gB, pB', tB', aB', sB', rfl, lB1, lB2, lB3, lB4, lB5, lB6, lB7⟩ := ih2 (D - 1) a b pB aB sB tB (by omega) (by omega) (by omega) (by omega) (by omega) (by omega) kB5
      obtain ⟨_, fC, pC, tC, aC, sC, rfl, kC1, kC2, kC3, kC4, kC5, kC6, kC7⟩ := ih2 (D - 1) pl (pl + 2) (pl + 4) a1 s1 (tr ++ [⟨[a], [pl, pl + 1], []⟩, ⟨[pl + 2, pl + 3], [b], []⟩]) (by omega) (by omega) (by omega) (by omega) (by omega) (by simp only [List.length_append, List.length_cons, List.length_nil]; omega) (by have := z1ap (q := 10) (z1ap (q := 10) h6 (t := ⟨[a], [pl, pl + 1], []⟩) (by simp)) (t := ⟨[pl + 2, pl + 3], [b], []⟩) (by simp); simpa using this)
      obtain ⟨_, gC, pC', tC', aC', sC', rfl, lC1, lC2, lC3, lC4, lC5, lC6, lC7⟩ := ih2 (D - 1) (pl + 1) (pl + 3) pC aC sC tC (by omega) (by omega) (by omega) (by omega) (by omega) (by simp only [List.length_append, List.length_cons, List.length_nil] at kC4; omega) kC5
      obtain ⟨_, fE, pE, tE, aE, sE, rfl, kE1, kE2, kE3, kE4, kE5, kE6, kE7⟩ := ih2 (D - 1) pl (pl + 1) (pl + 2) a1 s1 (tr ++ [⟨[a], [pl], []⟩, ⟨[pl + 1], [b], []⟩]) (by omega) (by omega) (by omega) (by omega) (by omega) (by simp only [List.length_append, List.length_cons, List.length_nil]; omega) (by have := z1ap (q := 10) (z1ap (q := 10) h6 (t := ⟨[a], [pl], []⟩) (by simp)) (t := ⟨[pl + 1], [b], []⟩) (by simp); simpa using this)
      obtain ⟨_, gE, pE', tE', aE', sE', rfl, lE1, lE2, lE3, lE4, lE5, lE6, lE7⟩ := ih2 (D - 1) (pl + 1) pl pE aE sE tE (by omega) (by omega) (by omega) (by omega) (by omega) (by simp only [List.length_append, List.length_cons, List.length_nil] at kE4; omega) kE5
      simp only [List.length_append, List.length_cons, List.length_nil] at kC3 kC4 kE3 kE4
      simp only [encT, ints, List.map_append, List.map_cons, List.map_nil, List.length_append, List.length_cons, List.length_nil, List.nil_append, Nat.reduceAdd, Nat.zero_add] at fC fE
      simp (maxSteps := 2000000) (disch := first | omega | (simp only [lenS]; try omega)) only [go_sem, reduceAdd, reduceEqDiff, reduceLeDiff, reduceSub, e1, fA, gA, fB, gB, fC, gC, fE, gE, wg1]
      exact ⟨fun _ => ⟨pA', tA', aA', sA', rfl, by omega, by omega, by omega, by omega, lA5, by omega, by omega⟩, fun _ => ⟨fun _ => ⟨pA', tA', aA', sA', rfl, by omega, by omega, by omega, by omega, lA5, by omega, by omega⟩, fun _ => ⟨fun _ => ⟨pB', tB', aB', sB', rfl, by omega, by omega, by omega, by omega, lB5, by omega, by omega⟩, fun _ => ⟨fun _ => ⟨rfl, ⟨pC', tC', aC', sC', rfl, by omega, by omega, by omega, by omega, lC5, by omega, by omega⟩⟩, fun _ => ⟨pE', tE', aE', sE', rfl, by omega, by omega, by omega, by omega, lE5, by omega, by omega⟩⟩⟩⟩⟩
theorem wfr (n least most : Int) (hlm : 0 ≤ least ∧ least ≤ most ∧ most ≤ 20) (bs : List Int) (at_ sd : Int) (h0 : 0 ≤ at_) (h1 : at_ < 2^60) (hl : bs.length < 2^62) (hb : ∀ x ∈ bs, 0 ≤ x ∧ x < 256) :
    Lw (C w98 [.ptr 0 0, I n, I least, I most] [.box wgr [bys bs, I at_, .int .u64 sd]]) fun r => ∃ (l : List Int) (at' sd' : Int), r = (.un t_int true 1 (l.map I), [.box wgr [bys bs, I at', .int .u64 sd']]) ∧ at_ ≤ at' ∧ at' ≤ at_ + 50 ∧ l.length ≤ 20 ∧ ∀ x ∈ l, 0 ≤ x ∧ (x = 0 ∨ x < n) := by
  refine w2z ?_
  simp (maxSteps := 2000000) (disch := first | omega | (simp only [lenS]; try omega)) only [wda, go_sem, reduceAdd, reduceEqDiff, reduceLeDiff, reduceSub]
  obtain ⟨_, e1, x1, a1, s1, rfl, h3, h4, h5, h6⟩ := wfq (most - least + 1) bs at_ sd h0 (by omega) hl hb
  simp (maxSteps := 2000000) (disch := first | omega | (simp only [lenS]; try omega)) only [go_sem, reduceAdd, reduceEqDiff, reduceLeDiff, reduceSub, e1]
  refine W_for (least + x1).toNat (fun k s => ∃ (l : List Int) (at' sd' : Int), s = ⟨[.ptr 0 0, I n, .any, .any, .any, .ref 1 1 0 l.length, I (least + x1 - k), .any], [.box wgr [bys bs, I at', .int .u64 sd'], .row t_int true 1 (l.map I)]⟩ ∧ l.length ≤ k ∧ at_ ≤ at' ∧ at' ≤ at_ + 2 + 2 * k ∧ ∀ x ∈ l, 0 ≤ x ∧ (x = 0 ∨ x < n)) ?_ ?_ ?_
  · refine ⟨[], a1, s1, ?_, by simp, by omega, by omega, by simp⟩
    simp (maxSteps := 2000000) (disch := first | omega | (simp only [lenS]; try omega)) only [go_sem, reduceAdd, reduceEqDiff, reduceLeDiff, reduceSub]
    rw [show least + x1 - ((0 : Nat) : Int) = least + x1 by omega]
  · rintro k s hk ⟨l, a, sd, rfl, h7, h8, h9, h10⟩
    obtain ⟨_, e2, x2, a2, s2, rfl, h11, h12, h13, h14⟩ := wfq n bs a sd (by omega) (by omega) hl hb
    have e : least + x1 - ((k + 1 : Nat) : Int) = least + x1 - k - 1 := by omega
    obtain ⟨_, e3, rfl | ⟨rfl, e4⟩⟩ := wg2 l x2 (by omega)
    · simp (maxSteps := 2000000) (disch := first | omega | (simp only [lenS]; try omega)) only [go_sem, reduceAdd, reduceEqDiff, reduceLeDiff, reduceSub, e2, e3]
      have := z11s l x2
      refine ⟨putI l x2, a2, s2, by rw [e], by omega, by omega, by omega, fun y hy => ?_⟩
      rcases z11t hy with hy | rfl
      · exact h10 y hy
      · exact ⟨h13, h14⟩
    · simp (maxSteps := 2000000) (disch := first | omega | (simp only [lenS]; try omega)) only [go_sem, reduceAdd, reduceEqDiff, reduceLeDiff, reduceSub, e2, e3]
      exact ⟨l, a2, s2, by rw [e], by omega, by omega, by omega, h10⟩
  · rintro s ⟨l, a, sd, rfl, h7, h8, h9, h10⟩
    simp (maxSteps := 2000000) (disch := first | omega | (simp only [lenS]; try omega)) only [go_sem, reduceAdd, reduceEqDiff, reduceLeDiff, reduceSub]
    exact ⟨l, a, sd, rfl, by omega, by omega, by omega, h10⟩
theorem wfh (l : List Int) (t : TypeId) (hne : 0 < l.length) (hln : l.length < 2^30) (bs : List Int) (at_ sd : Int) (h0 : 0 ≤ at_) (h1 : at_ < 2^61) (hl : bs.length < 2^62) (hb : ∀ x ∈ bs, 0 ≤ x ∧ x < 256) :
    Lw (C w8y [.ptr 0 0, .ref 1 1 0 l.length] [.box wgr [bys bs, I at_, .int .u64 sd], .row t true 1 (l.map I)]) fun r => ∃ x at' sd', r = (I x, [.box wgr [bys bs, I at', .int .u64 sd'], .row t true 1 (l.map I)]) ∧ at_ ≤ at' ∧ at' ≤ at_ + 2 ∧ x ∈ l := by
  refine w2p ?_
  simp (maxSteps := 2000000) (disch := first | omega | (simp only [lenS]; try omega)) only [wd0, go_sem, reduceAdd, reduceEqDiff, reduceLeDiff, reduceSub]
  obtain ⟨_, e1, x1, a1, s1, rfl, h3, h4, h5, h6⟩ := wfq l.length bs at_ sd h0 h1 hl hb
  have h7 : x1.toNat < l.length := by omega
  simp (maxSteps := 2000000) (disch := first | omega | (simp only [lenS]; try omega)) only [go_sem, reduceAdd, reduceEqDiff, reduceLeDiff, reduceSub, e1]
  exact ⟨_, _, _, rfl, h3, h4, List.getElem_mem h7⟩
theorem wfj (rs : Bool) (bs : List Int) (at_ sd : Int) (h0 : 0 ≤ at_) (h1 : at_ < 2^59) (hl : bs.length < 2^62) (hb : ∀ x ∈ bs, 0 ≤ x ∧ x < 256) :
    Lw (C w90 [.ptr 0 0, .bool rs] [.box wgr [bys bs, I at_, .int .u64 sd]]) fun r => ∃ (f : Fl) (at' sd' : Int), r = (.agg [I f.net.pl, .un wgo false 3 (f.net.tr.map encT), I f.src, I f.dst], [.box wgr [bys bs, I at', .int .u64 sd']]) ∧ at_ ≤ at' ∧ at' ≤ at_ + 200 ∧ smNet f.net := by
  obtain ⟨_, e1, x1, a1, s1, rfl, h3, h4, h5, h6⟩ := wfq 3 bs at_ sd h0 (by omega) hl hb
  obtain ⟨d, hd⟩ : ∃ d : Nat, 1 + x1 = d := ⟨(1 + x1).toNat, by omega⟩
  have hd3 := zjc (d := d) (by omega)
  obtain ⟨_, e2, pl, tr, a2, s2, rfl, g1, g2, g3, g4, g5, g6, g7⟩ := (wfk bs hl hb d).1 (1 + x1) 0 1 2 a1 s1 hd (by omega) (by omega) (by omega) (by omega) (by omega)
  obtain ⟨_, e3, x3, a3, s3, rfl, k1, k2, k3, k4⟩ := wfq tr.length bs a2 s2 (by omega) (by omega) hl hb
  obtain ⟨_, e4, x4, a4, s4, rfl, k5, k6, k7, k8⟩ := wfq 9 bs a3 s3 (by omega) (by omega) hl hb
  have hx3 : x3.toNat < tr.length := by omega
  have hk := g5 _ (List.getElem_mem hx3)
  have g8 : smq 20 tr := z1am (by decide) g5
  have fin : ∀ (a sd : Int), a4 ≤ a → a ≤ a4 + 150 → ∃ (b : Bool) (y z : Int) (a' s' a'' s'' : Int), C w96 [.ptr 0 0, I 30] [.box wgr [bys bs, I a, .int .u64 sd]] = some (.bool b, [.box wgr [bys bs, I a', .int .u64 s']]) ∧ C w8y [.ptr 0 0, .ref 1 1 0 4] [.box wgr [bys bs, I a', .int .u64 s'], .row t_int true 1 [I 0, I (-1), I 2, I 17]] = some (I z, [.box wgr [bys bs, I a'', .int .u64 s''], .row t_int true 1 [I 0, I (-1), I 2, I 17]]) ∧ a ≤ a' ∧ a' ≤ a + 2 ∧ a' ≤ a'' ∧ a'' ≤ a' + 2 := by
    intro a sd ha1 ha2
    obtain ⟨_, f1, b, a', s', rfl, j1, j2⟩ := wfp 30 bs a sd (by omega) (by omega) hl hb
    obtain ⟨_, f2, z, a'', s'', rfl, j3, j4, j5⟩ := wfh [0, -1, 2, 17] t_int (by decide) (by decide) bs a' s' (by omega) (by omega) hl hb
    exact ⟨b, 0, z, a', s', a'', s'', f1, f2, j1, j2, j3, j4⟩
  refine w2r ?_
  simp (maxSteps := 2000000) (disch := first | omega | (simp only [lenS]; try omega)) only [wd2, go_sem, reduceAdd, reduceEqDiff, reduceLeDiff, reduceSub]
  simp (maxSteps := 2000000) (disch := first | omega | (simp only [lenS]; try omega)) only [go_sem, reduceAdd, reduceEqDiff, reduceLeDiff, reduceSub, e1, e2, e3, e4]
  refine ⟨fun hx => ?_, fun hx0 => ⟨fun hx => ?_, fun hx1 => ⟨fun hx => ?_, fun hx2 => ⟨fun hx => ⟨fun hr => ?_, fun hr => ?_⟩, fun hx3' => ?_⟩⟩⟩⟩
  · obtain ⟨_, f5, x5, a5, s5, rfl, j1, j2, j3, j4⟩ := wfq pl bs a4 s4 (by omega) (by omega) hl hb
    obtain ⟨_, f6, x6, a6, s6, rfl, j5, j6, j7, j8⟩ := wfq pl bs a5 s5 (by omega) (by omega) hl hb
    obtain ⟨b, y, z, a', s', a'', s'', t1, t2, t3, t4, t5, t6⟩ := fin a6 s6 (by omega) (by omega)
    simp (maxSteps := 2000000) (disch := first | omega | (simp only [lenS]; try omega)) only [go_sem, reduceAdd, reduceEqDiff, reduceLeDiff, reduceSub, f5, f6, t1, t2]
    refine ⟨rfl, ?_⟩
    exact ⟨fun _ => ⟨⟨⟨pl, tr ++ [⟨[x5], [x6], []⟩]⟩, 0, z⟩, a'', s'', by simp [List.map_set]; try rfl, by omega, by omega, ⟨by simp; try omega, by simp only; omega, z1ap g8 (by simp)⟩⟩, fun _ => ⟨⟨⟨pl, tr ++ [⟨[x5], [x6], []⟩]⟩, 0, 1⟩, a', s', by simp [List.map_set]; try rfl, by omega, by omega, ⟨by simp; try omega, by simp only; omega, z1ap g8 (by simp)⟩⟩⟩
  · obtain ⟨_, f5, x5, a5, s5, rfl, j1, j2, j3, j4⟩ := wfq pl bs a4 s4 (by omega) (by omega) hl hb
    obtain ⟨b, y, z, a', s', a'', s'', t1, t2, t3, t4, t5, t6⟩ := fin a5 s5 (by omega) (by omega)
    have hpl := z11s tr[x3.toNat].out x5
    obtain ⟨_, f6, rfl | ⟨rfl, f7⟩⟩ := wg3 tr[x3.toNat].out x5 (by omega)
    · simp (maxSteps := 2000000) (disch := first | omega | (simp only [lenS]; try omega)) only [go_sem, reduceAdd, reduceEqDiff, reduceLeDiff, reduceSub, f5, f6, t1, t2]
      refine ⟨rfl, ?_⟩
      exact ⟨fun _ => ⟨⟨⟨pl, tr.set x3.toNat ⟨tr[x3.toNat].inn, putI tr[x3.toNat].out x5, tr[x3.toNat].rst⟩⟩, 0, z⟩, a'', s'', by simp [List.map_set]; try rfl, by omega, by omega, ⟨by simp; try omega, by simp only; omega, z1ao g8 (by simp only; omega)⟩⟩, fun _ => ⟨⟨⟨pl, tr.set x3.toNat ⟨tr[x3.toNat].inn, putI tr[x3.toNat].out x5, tr[x3.toNat].rst⟩⟩, 0, 1⟩, a', s', by simp [List.map_set]; try rfl, by omega, by omega, ⟨by simp; try omega, by simp only; omega, z1ao g8 (by simp only; omega)⟩⟩⟩
    · simp (maxSteps := 2000000) (disch := first | omega | (simp only [lenS]; try omega)) only [go_sem, reduceAdd, reduceEqDiff, reduceLeDiff, reduceSub, f5, f6, t1, t2]
      refine ⟨rfl, ?_⟩
      exact ⟨fun _ => ⟨⟨⟨pl, tr.set x3.toNat ⟨tr[x3.toNat].inn, tr[x3.toNat].out, tr[x3.toNat].rst⟩⟩, 0, z⟩, a'', s'', by simp [List.map_set]; try rfl, by omega, by omega, ⟨by simp; try omega, by simp only; omega, z1ao g8 (by simp only; omega)⟩⟩, fun _ => ⟨⟨⟨pl, tr.set x3.toNat ⟨tr[x3.toNat].inn, tr[x3.toNat].out, tr[x3.toNat].rst⟩⟩, 0, 1⟩, a', s', by simp [List.map_set]; try rfl, by omega, by omega, ⟨by simp; try omega, by simp only; omega, z1ao g8 (by simp only; omega)⟩⟩⟩
  · obtain ⟨_, f5, x5, a5, s5, rfl, j1, j2, j3, j4⟩ := wfq pl bs a4 s4 (by omega) (by omega) hl hb
    obtain ⟨b, y, z, a', s', a'', s'', t1, t2, t3, t4, t5, t6⟩ := fin a5 s5 (by omega) (by omega)
    have hpl := z11s tr[x3.toNat].inn x5
    obtain ⟨_, f6, rfl | ⟨rfl, f7⟩⟩ := wg3 tr[x3.toNat].inn x5 (by omega)
    · simp (maxSteps := 2000000) (disch := first | omega | (simp only [lenS]; try omega)) only [go_sem, reduceAdd, reduceEqDiff, reduceLeDiff, reduceSub, f5, f6, t1, t2]
      refine ⟨rfl, ?_⟩
      exact ⟨fun _ => ⟨⟨⟨pl, tr.set x3.toNat ⟨putI tr[x3.toNat].inn x5, tr[x3.toNat].out, tr[x3.toNat].rst⟩⟩, 0, z⟩, a'', s'', by simp [List.map_set]; try rfl, by omega, by omega, ⟨by simp; try omega, by simp only; omega, z1ao g8 (by simp only; omega)⟩⟩, fun _ => ⟨⟨⟨pl, tr.set x3.toNat ⟨putI tr[x3.toNat].inn x5, tr[x3.toNat].out, tr[x3.toNat].rst⟩⟩, 0, 1⟩, a', s', by simp [List.map_set]; try rfl, by omega, by omega, ⟨by simp; try omega, by simp only; omega, z1ao g8 (by simp only; omega)⟩⟩⟩
    · simp (maxSteps := 2000000) (disch := first | omega | (simp only [lenS]; try omega)) only [go_sem, reduceAdd, reduceEqDiff, reduceLeDiff, reduceSub, f5, f6, t1, t2]
      refine ⟨rfl, ?_⟩
      exact ⟨fun _ => ⟨⟨⟨pl, tr.set x3.toNat ⟨tr[x3.toNat].inn, tr[x3.toNat].out, tr[x3.toNat].rst⟩⟩, 0, z⟩, a'', s'', by simp [List.map_set]; try rfl, by omega, by omega, ⟨by simp; try omega, by simp only; omega, z1ao g8 (by simp only; omega)⟩⟩, fun _ => ⟨⟨⟨pl, tr.set x3.toNat ⟨tr[x3.toNat].inn, tr[x3.toNat].out, tr[x3.toNat].rst⟩⟩, 0, 1⟩, a', s', by simp [List.map_set]; try rfl, by omega, by omega, ⟨by simp; try omega, by simp only; omega, z1ao g8 (by simp only; omega)⟩⟩⟩
  · obtain ⟨_, f5, l5, a5, s5, rfl, j1, j2, j3, j4⟩ := wfr pl 1 2 (by omega) bs a4 s4 (by omega) (by omega) hl hb
    obtain ⟨b, y, z, a', s', a'', s'', t1, t2, t3, t4, t5, t6⟩ := fin a5 s5 (by omega) (by omega)
    simp (maxSteps := 2000000) (disch := first | omega | (simp only [lenS]; try omega)) only [go_sem, reduceAdd, reduceEqDiff, reduceLeDiff, reduceSub, f5, t1, t2]
    exact ⟨fun _ => ⟨⟨⟨pl, tr.set x3.toNat ⟨tr[x3.toNat].inn, tr[x3.toNat].out, l5⟩⟩, 0, z⟩, a'', s'', by simp [List.map_set]; try rfl, by omega, by omega, ⟨by simp; try omega, by simp only; omega, z1ao g8 (by simp only; omega)⟩⟩, fun _ => ⟨⟨⟨pl, tr.set x3.toNat ⟨tr[x3.toNat].inn, tr[x3.toNat].out, l5⟩⟩, 0, 1⟩, a', s', by simp [List.map_set]; try rfl, by omega, by omega, ⟨by simp; try omega, by simp only; omega, z1ao g8 (by simp only; omega)⟩⟩⟩
  · obtain ⟨b, y, z, a', s', a'', s'', t1, t2, t3, t4, t5, t6⟩ := fin a4 s4 (by omega) (by omega)
    simp (maxSteps := 2000000) (disch := first | omega | (simp only [lenS]; try omega)) only [go_sem, reduceAdd, reduceEqDiff, reduceLeDiff, reduceSub, t1, t2]
    exact ⟨fun _ => ⟨⟨⟨pl, tr⟩, 0, z⟩, a'', s'', by simp [List.map_set]; try rfl, by omega, by omega, ⟨by simp; try omega, by simp only; omega, g8⟩⟩, fun _ => ⟨⟨⟨pl, tr⟩, 0, 1⟩, a', s', by simp [List.map_set]; try rfl, by omega, by omega, ⟨by simp; try omega, by simp only; omega, g8⟩⟩⟩
  · obtain ⟨b, y, z, a', s', a'', s'', t1, t2, t3, t4, t5, t6⟩ := fin a4 s4 (by omega) (by omega)
    simp (maxSteps := 2000000) (disch := first | omega | (simp only [lenS]; try omega)) only [go_sem, reduceAdd, reduceEqDiff, reduceLeDiff, reduceSub, t1, t2]
    exact ⟨fun _ => ⟨⟨⟨pl, tr⟩, 0, z⟩, a'', s'', by simp [List.map_set]; try rfl, by omega, by omega, ⟨by simp; try omega, by simp only; omega, g8⟩⟩, fun _ => ⟨⟨⟨pl, tr⟩, 0, 1⟩, a', s', by simp [List.map_set]; try rfl, by omega, by omega, ⟨by simp; try omega, by simp only; omega, g8⟩⟩⟩
theorem wfw (n lo hi : Int) : C w9b [I n, I lo, I hi] [] = some (.bool (inB lo hi n), []) := by
  refine w1v ?_
  simp (maxSteps := 2000000) (disch := first | omega | (simp only [lenS]; try omega)) only [wdd, go_sem, reduceAdd, reduceEqDiff, reduceLeDiff, reduceSub]
  unfold inB; grind
theorem wg0 (n : Int) : C w9g [I n] [] = some (.bool (inB 1 16 n), []) := by
  refine w1y ?_
  simp (maxSteps := 2000000) (disch := first | omega | (simp only [lenS]; try omega)) only [wdi, go_sem, reduceAdd, reduceEqDiff, reduceLeDiff, reduceSub]
  simp (maxSteps := 2000000) (disch := first | omega | (simp only [lenS]; try omega)) only [go_sem, reduceAdd, reduceEqDiff, reduceLeDiff, reduceSub, wfw]
  grind
theorem wg4 (l : List Int) (lo hi : Int) (hl : l.length < 2^62) : C w9i [ints l, I lo, I hi] [] = some (.bool (incr l && l.all (inB lo hi)), []) := by
  refine w20 ?_
  simp (maxSteps := 2000000) (disch := first | omega | (simp only [lenS]; try omega)) only [wdk, go_sem, reduceAdd, reduceEqDiff, reduceLeDiff, reduceSub]
  refine W_for l.length (fun k s => s = ⟨[ints l, I lo, I hi, .any, .any, .any, ints l, I l.length, I k, .any, .any], []⟩ ∧ (l.take k).Pairwise (· < ·) ∧ (l.take k).all (inB lo hi) = true) ?_ ?_ ?_
  · simp (maxSteps := 2000000) (disch := first | omega | (simp only [lenS]; try omega)) only [go_sem, reduceAdd, reduceEqDiff, reduceLeDiff, reduceSub]
    exact ⟨rfl, List.Pairwise.nil⟩
  · rintro k s hk ⟨rfl, hp, hall⟩
    simp (maxSteps := 2000000) (disch := first | omega | (simp only [lenS]; try omega)) only [go_sem, reduceAdd, reduceEqDiff, reduceLeDiff, reduceSub, wfw]
    refine ⟨fun h => ⟨fun h2 => ?_, fun h2 => ?_⟩, fun h => by rw [z2y hk h]; simp⟩
    · simp (maxSteps := 2000000) (disch := first | omega | (simp only [lenS]; try omega)) only [go_sem, reduceAdd, reduceEqDiff, reduceLeDiff, reduceSub]
      obtain ⟨j, rfl⟩ : ∃ j, k = j + 1 := ⟨k - 1, by omega⟩
      have e : (((j + 1 : Nat) : Int) - 1).toNat = j := by omega
      refine ⟨fun h3 => ?_, fun h3 => ⟨rfl, ?_, z2z hk hall h⟩⟩
      · rw [zm4 hk (by simp only [e] at h3; omega)]; rfl
      · exact zm7 hk hp (by simp only [e] at h3; omega)
    · obtain rfl : k = 0 := by omega
      exact ⟨rfl, zm5, z2z hk hall h⟩
  · rintro s ⟨rfl, hp, hall⟩
    simp (maxSteps := 2000000) (disch := first | omega | (simp only [lenS]; try omega)) only [go_sem, reduceAdd, reduceEqDiff, reduceLeDiff, reduceSub]
    rw [List.take_length] at hp hall
    rw [hall, show incr l = true by simpa [incr] using hp]
    rfl
theorem wfb (n : Net) (hn : smN n) : C w8s [encN n] [] = some (.bool (goodN n), []) := by
  have h0 := hn.1
  refine w1o ?_
  simp (maxSteps := 2000000) (disch := first | omega | (simp only [lenS]; try omega)) only [wcu, go_sem, reduceAdd, reduceEqDiff, reduceLeDiff, reduceSub]
  simp (maxSteps := 2000000) (disch := first | omega | (simp only [lenS]; try omega)) only [go_sem, reduceAdd, reduceEqDiff, reduceLeDiff, reduceSub, wg0]
  refine ⟨fun h => ⟨fun h2 => ?_, fun h2 => ?_⟩, fun h => by simp [goodN, h]⟩
  · have : ¬ n.tr.length ≤ 24 := by omega
    simp [goodN, this]
  have hb : 1 ≤ n.pl ∧ n.pl ≤ 16 := by simpa [inB] using h
  refine W_for n.tr.length (fun k s => s = ⟨[.any, .ptr 0 0, .any, .any, .any, trs n.tr, I n.tr.length, I k, .any, .any], [.box wgm [I n.pl, trs n.tr]]⟩ ∧ (n.tr.take k).all (goodT n.pl) = true) ?_ ?_ ?_
  · simp (maxSteps := 2000000) (disch := first | omega | (simp only [lenS]; try omega)) only [go_sem, reduceAdd, reduceEqDiff, reduceLeDiff, reduceSub]
    rfl
  · rintro k s hk ⟨rfl, hall⟩
    obtain ⟨h3, h4, h5⟩ := hn.2 _ (List.getElem_mem hk)
    simp (maxSteps := 2000000) (disch := first | omega | (simp only [lenS]; try omega)) only [go_sem, reduceAdd, reduceEqDiff, reduceLeDiff, reduceSub, wg4]
    simp only [z10h]
    refine ⟨fun h6 => by rw [zit hk (zj4 (by omega))], fun h6 => ⟨fun h7 => ⟨fun h8 => ⟨fun h9 => ⟨rfl, z2z hk hall (ziy (by omega) h7 h8 h9)⟩, fun h9 => by rw [zit hk (by simp [goodT, h9])]⟩, fun h8 => by rw [zit hk (by simp [goodT, h8])]⟩, fun h7 => by rw [zit hk (by simp [goodT, h7])]⟩⟩
  · rintro s ⟨rfl, hall⟩
    simp (maxSteps := 2000000) (disch := first | omega | (simp only [lenS]; try omega)) only [go_sem, reduceAdd, reduceEqDiff, reduceLeDiff, reduceSub]
    rw [List.take_length] at hall
    simp [goodN, hall, h, show n.tr.length ≤ 24 by omega]
theorem wgc (n : Net) (p : Int) (hg : goodN n = true) (hp : 0 ≤ p ∧ p < n.pl) : C w9q [encN n, I p] [] = some (.tup [.un wgj true 1 ((z12i n false p).pl.map PV.bool), .un wgj true 1 ((z12i n false p).tr.map PV.bool)], []) := by
  have hb := ziv hg
  have hlen := z12l n false p
  rw [z12j] at hlen ⊢
  refine w28 ?_
  simp (maxSteps := 2000000) (disch := first | omega | (simp only [lenS]; try omega)) only [wds, go_sem, reduceAdd, reduceEqDiff, reduceLeDiff, reduceSub]
  simp (maxSteps := 2000000) (disch := first | omega | (simp only [lenS]; try omega)) only [go_sem, reduceAdd, reduceEqDiff, reduceLeDiff, reduceSub, List.getElem_replicate]
  generalize hR : clRun n false (cntF (List.replicate n.tr.length false) + 1) ⟨(List.replicate n.pl.toNat false).set p.toNat true, List.replicate n.tr.length false, true⟩ = R at *
  refine z1a (fun k s => ∃ c : Cl, c.pl.length = n.pl.toNat ∧ c.tr.length = n.tr.length ∧ ((k = cntF c.tr + 1 ∧ s = ⟨[.any, .any, .ptr 0 0, .any, .any, .ref 1 1 0 n.pl.toNat, .ref 2 1 0 n.tr.length, .bool true, .any, .any, .any, .any, .any, .any, .any, .any, .any, .any, .any, .any, .any, .any, .any, .any, .any, .any, .any], [.box wgm [I n.pl, trs n.tr], .row wgj true 1 (c.pl.map PV.bool), .row wgj true 1 (c.tr.map PV.bool)]⟩ ∧ clRun n false (cntF c.tr + 1) c = R) ∨ (k = 0 ∧ s = ⟨[.any, .any, .ptr 0 0, .any, .any, .ref 1 1 0 n.pl.toNat, .ref 2 1 0 n.tr.length, .bool false, .any, .any, .any, .any, .any, .any, .any, .any, .any, .any, .any, .any, .any, .any, .any, .any, .any, .any, .any], [.box wgm [I n.pl, trs n.tr], .row wgj true 1 (c.pl.map PV.bool), .row wgj true 1 (c.tr.map PV.bool)]⟩ ∧ c = R))) (cntF (List.replicate n.tr.length false) + 1) ?_ ?_
  · refine ⟨⟨(List.replicate n.pl.toNat false).set p.toNat true, List.replicate n.tr.length false, true⟩, by simp, by simp, .inl ⟨rfl, ?_, hR⟩⟩
    simp (maxSteps := 2000000) (disch := first | omega | (simp only [lenS]; try omega)) only [go_sem, reduceAdd, reduceEqDiff, reduceLeDiff, reduceSub]
    simp
  · rintro k0 s ⟨c, hc1, hc2, ⟨rfl, rfl, hc⟩ | ⟨rfl, rfl, rfl⟩⟩
    · have hcl := fun k => z9k n false c k
      simp (maxSteps := 2000000) (disch := first | omega | (simp only [lenS]; try omega)) only [go_sem, reduceAdd, reduceEqDiff, reduceLeDiff, reduceSub]
      refine W_for n.tr.length (fun k s => s = ⟨[.any, .any, .ptr 0 0, .any, .any, .ref 1 1 0 n.pl.toNat, .ref 2 1 0 n.tr.length, .bool (clK n false c k).ch, .any, .any, .any, .any, .any, .any, trs n.tr, I n.tr.length, I k, .any, .any, .any, .any, .any, .any, .any, .any, .any, .any], [.box wgm [I n.pl, trs n.tr], .row wgj true 1 ((clK n false c k).pl.map PV.bool), .row wgj true 1 ((clK n false c k).tr.map PV.bool)]⟩) ?_ ?_ ?_
      · simp (maxSteps := 2000000) (disch := first | omega | (simp only [lenS]; try omega)) only [go_sem, reduceAdd, reduceEqDiff, reduceLeDiff, reduceSub]
        rfl
      · rintro k s hk rfl
        have hT := hb.2.2.2 _ (List.getElem_mem hk)
        have hLs := zj1 hT (by omega)
        obtain ⟨_, g1, g2, g3⟩ := zj5 hT
        have p1 := z10i g1
        have p2 := z10i g2
        have hd := hcl k
        have hstep := z9m n false c k
        have htr : n.tr[k] = trN n k := (z1ej hk).symm
        rw [htr] at hLs p1 p2
        have s1 : (clK n false c k).tr.getD k false = true → clK n false c (k + 1) = clK n false c k := fun h => hstep.trans (z9w (.inl h))
        have s2 : hitB (clK n false c k).pl (sideI false (trN n k)) = false → clK n false c (k + 1) = clK n false c k := fun h => hstep.trans (z9w (.inr h))
        have s3 : (clK n false c k).tr.getD k false = false → hitB (clK n false c k).pl (sideI false (trN n k)) = true → clK n false c (k + 1) = ⟨markB (clK n false c k).pl (sideO false (trN n k)), (clK n false c k).tr.set k true, true⟩ := fun h h2 => hstep.trans (z9x h h2)
        simp only [sideI, sideO, Bool.false_eq_true, if_false, if_true] at s2 s3
        clear hstep
        generalize clK n false c k = d at *
        generalize clK n false c (k + 1) = d' at *
        simp (maxSteps := 2000000) (disch := first | omega | (simp only [lenS]; try omega)) only [go_sem, reduceAdd, reduceEqDiff, reduceLeDiff, reduceSub]
        simp only [htr]
        generalize trN n k = tr at *
        refine W_for tr.inn.length (fun j s => s = ⟨[.any, .any, .ptr 0 0, .any, .any, .ref 1 1 0 n.pl.toNat, .ref 2 1 0 n.tr.length, .bool d.ch, I k, .ptr 3 0, .bool ((tr.inn.take j).any fun p => d.pl.getD p.toNat false), .any, .any, .any, trs n.tr, I n.tr.length, I k, .any, ints tr.inn, I tr.inn.length, I j, .any, .any, .any, .any, .any, .any], [.box wgm [I n.pl, trs n.tr], .row wgj true 1 (d.pl.map PV.bool), .row wgj true 1 (d.tr.map PV.bool), .box wgo [ints tr.inn, ints tr.out, ints tr.rst]]⟩) ?_ ?_ ?_
        · simp (maxSteps := 2000000) (disch := first | omega | (simp only [lenS]; try omega)) only [go_sem, reduceAdd, reduceEqDiff, reduceLeDiff, reduceSub]
          rfl
        · rintro j s hj rfl
          have h1 := p1 _ (List.getElem_mem hj)
          have h2 : tr.inn[j].toNat < d.pl.length := by omega
          simp (maxSteps := 2000000) (disch := first | omega | (simp only [lenS]; try omega)) only [go_sem, reduceAdd, reduceEqDiff, reduceLeDiff, reduceSub]
          refine ⟨fun h => ?_, fun h => ⟨fun h3 => ?_, fun h3 => ?_⟩⟩
          · rw [z3b hj h]; rfl
          · rw [z39 hj (by rw [← zi1 h2]; exact h3)]; rfl
          · rw [z3e hj h (by rw [← zi1 h2]; exact h3)]; rfl
        · rintro s rfl
          have hkd : k < d.tr.length := by omega
          simp (maxSteps := 2000000) (disch := first | omega | (simp only [lenS]; try omega)) only [go_sem, reduceAdd, reduceEqDiff, reduceLeDiff, reduceSub, List.take_length]
          refine ⟨fun h => ⟨fun h3 => ?_, fun h3 => ?_⟩, fun h => ?_⟩
          · rw [s1 (by rw [← zi1 hkd]; exact h3)]; rfl
          · have e := s3 (by rw [← zi1 hkd]; exact h3) h
            subst e
            refine W_for tr.out.length (fun j s => s = ⟨[.any, .any, .ptr 0 0, .any, .any, .ref 1 1 0 n.pl.toNat, .ref 2 1 0 n.tr.length, .bool true, .any, .any, .any, .any, .any, .any, trs n.tr, I n.tr.length, I k, .any, .any, .any, .any, .any, .any, ints tr.out, I tr.out.length, I j, .any], [.box wgm [I n.pl, trs n.tr], .row wgj true 1 ((markB d.pl (tr.out.take j)).map PV.bool), .row wgj true 1 ((d.tr.set k true).map PV.bool)]⟩) ?_ ?_ ?_
            · simp (maxSteps := 2000000) (disch := first | omega | (simp only [lenS]; try omega)) only [go_sem, reduceAdd, reduceEqDiff, reduceLeDiff, reduceSub]
              rfl
            · rintro j s hj rfl
              have h1 := p2 _ (List.getElem_mem hj)
              have h2 : tr.out[j].toNat < d.pl.length := by omega
              have h4 := zrg d.pl (tr.out.take j)
              simp (maxSteps := 2000000) (disch := first | omega | (simp only [lenS]; try omega)) only [go_sem, reduceAdd, reduceEqDiff, reduceLeDiff, reduceSub]
              rw [zrh hj]; rfl
            · rintro s rfl
              simp (maxSteps := 2000000) (disch := first | omega | (simp only [lenS]; try omega)) only [go_sem, reduceAdd, reduceEqDiff, reduceLeDiff, reduceSub, List.take_length]
              rfl
          · rw [s2 h]; rfl
      · rintro s rfl
        simp (maxSteps := 2000000) (disch := first | omega | (simp only [lenS]; try omega)) only [go_sem, reduceAdd, reduceEqDiff, reduceLeDiff, reduceSub]
        have hn := z9s (n := n) (bk := false) hc2
        rw [hc] at hn
        cases e : (z9n n false c).ch with
        | true =>
          have h1 := (z9j (n := n) (bk := false) (s := c) (k := n.tr.length) (by omega)).2 e
          simp only [e, if_true] at hn
          refine ⟨cntF (z9n n false c).tr + 1, by unfold z9n; omega, z9n n false c, by unfold z9n; have := hcl n.tr.length; omega, by unfold z9n; have := hcl n.tr.length; omega, .inl ⟨rfl, ?_, hn.symm⟩⟩
          unfold z9n at e ⊢
          rw [e]
        | false =>
          simp only [e, Bool.false_eq_true, if_false] at hn
          refine ⟨0, by omega, z9n n false c, by unfold z9n; have := hcl n.tr.length; omega, by unfold z9n; have := hcl n.tr.length; omega, .inr ⟨rfl, ?_, hn.symm⟩⟩
          unfold z9n at e ⊢
          rw [e]
    · simp (maxSteps := 2000000) (disch := first | omega | (simp only [lenS]; try omega)) only [go_sem, reduceAdd, reduceEqDiff, reduceLeDiff, reduceSub]
theorem wga (n : Net) (p : Int) (hg : goodN n = true) (hp : 0 ≤ p ∧ p < n.pl) : C w9o [encN n, I p] [] = some (.tup [.un wgj true 1 ((z12i n true p).pl.map PV.bool), .un wgj true 1 ((z12i n true p).tr.map PV.bool)], []) := by
  have hb := ziv hg
  have hlen := z12l n true p
  rw [z12j] at hlen ⊢
  refine w26 ?_
  simp (maxSteps := 2000000) (disch := first | omega | (simp only [lenS]; try omega)) only [wdq, go_sem, reduceAdd, reduceEqDiff, reduceLeDiff, reduceSub]
  simp (maxSteps := 2000000) (disch := first | omega | (simp only [lenS]; try omega)) only [go_sem, reduceAdd, reduceEqDiff, reduceLeDiff, reduceSub, List.getElem_replicate]
  generalize hR : clRun n true (cntF (List.replicate n.tr.length false) + 1) ⟨(List.replicate n.pl.toNat false).set p.toNat true, List.replicate n.tr.length false, true⟩ = R at *
  refine z1a (fun k s => ∃ c : Cl, c.pl.length = n.pl.toNat ∧ c.tr.length = n.tr.length ∧ ((k = cntF c.tr + 1 ∧ s = ⟨[.any, .any, .ptr 0 0, .any, .any, .ref 1 1 0 n.pl.toNat, .ref 2 1 0 n.tr.length, .bool true, .any, .any, .any, .any, .any, .any, .any, .any, .any, .any, .any, .any, .any, .any, .any, .any, .any, .any, .any], [.box wgm [I n.pl, trs n.tr], .row wgj true 1 (c.pl.map PV.bool), .row wgj true 1 (c.tr.map PV.bool)]⟩ ∧ clRun n true (cntF c.tr + 1) c = R) ∨ (k = 0 ∧ s = ⟨[.any, .any, .ptr 0 0, .any, .any, .ref 1 1 0 n.pl.toNat, .ref 2 1 0 n.tr.length, .bool false, .any, .any, .any, .any, .any, .any, .any, .any, .any, .any, .any, .any, .any, .any, .any, .any, .any, .any, .any], [.box wgm [I n.pl, trs n.tr], .row wgj true 1 (c.pl.map PV.bool), .row wgj true 1 (c.tr.map PV.bool)]⟩ ∧ c = R))) (cntF (List.replicate n.tr.length false) + 1) ?_ ?_
  · refine ⟨⟨(List.replicate n.pl.toNat false).set p.toNat true, List.replicate n.tr.length false, true⟩, by simp, by simp, .inl ⟨rfl, ?_, hR⟩⟩
    simp (maxSteps := 2000000) (disch := first | omega | (simp only [lenS]; try omega)) only [go_sem, reduceAdd, reduceEqDiff, reduceLeDiff, reduceSub]
    simp
  · rintro k0 s ⟨c, hc1, hc2, ⟨rfl, rfl, hc⟩ | ⟨rfl, rfl, rfl⟩⟩
    · have hcl := fun k => z9k n true c k
      simp (maxSteps := 2000000) (disch := first | omega | (simp only [lenS]; try omega)) only [go_sem, reduceAdd, reduceEqDiff, reduceLeDiff, reduceSub]
      refine W_for n.tr.length (fun k s => s = ⟨[.any, .any, .ptr 0 0, .any, .any, .ref 1 1 0 n.pl.toNat, .ref 2 1 0 n.tr.length, .bool (clK n true c k).ch, .any, .any, .any, .any, .any, .any, trs n.tr, I n.tr.length, I k, .any, .any, .any, .any, .any, .any, .any, .any, .any, .any], [.box wgm [I n.pl, trs n.tr], .row wgj true 1 ((clK n true c k).pl.map PV.bool), .row wgj true 1 ((clK n true c k).tr.map PV.bool)]⟩) ?_ ?_ ?_
      · simp (maxSteps := 2000000) (disch := first | omega | (simp only [lenS]; try omega)) only [go_sem, reduceAdd, reduceEqDiff, reduceLeDiff, reduceSub]
        rfl
      · rintro k s hk rfl
        have hT := hb.2.2.2 _ (List.getElem_mem hk)
        have hLs := zj1 hT (by omega)
        obtain ⟨_, g1, g2, g3⟩ := zj5 hT
        have p1 := z10i g2
        have p2 := z10i g1
        have hd := hcl k
        have hstep := z9m n true c k
        have htr : n.tr[k] = trN n k := (z1ej hk).symm
        rw [htr] at hLs p1 p2
        have s1 : (clK n true c k).tr.getD k false = true → clK n true c (k + 1) = clK n true c k := fun h => hstep.trans (z9w (.inl h))
        have s2 : hitB (clK n true c k).pl (sideI true (trN n k)) = false → clK n true c (k + 1) = clK n true c k := fun h => hstep.trans (z9w (.inr h))
        have s3 : (clK n true c k).tr.getD k false = false → hitB (clK n true c k).pl (sideI true (trN n k)) = true → clK n true c (k + 1) = ⟨markB (clK n true c k).pl (sideO true (trN n k)), (clK n true c k).tr.set k true, true⟩ := fun h h2 => hstep.trans (z9x h h2)
        simp only [sideI, sideO, Bool.false_eq_true, if_false, if_true] at s2 s3
        clear hstep
        generalize clK n true c k = d at *
        generalize clK n true c (k + 1) = d' at *
        simp (maxSteps := 2000000) (disch := first | omega | (simp only [lenS]; try omega)) only [go_sem, reduceAdd, reduceEqDiff, reduceLeDiff, reduceSub]
        simp only [htr]
        generalize trN n k = tr at *
        refine W_for tr.out.length (fun j s => s = ⟨[.any, .any, .ptr 0 0, .any, .any, .ref 1 1 0 n.pl.toNat, .ref 2 1 0 n.tr.length, .bool d.ch, I k, .ptr 3 0, .bool ((tr.out.take j).any fun p => d.pl.getD p.toNat false), .any, .any, .any, trs n.tr, I n.tr.length, I k, .any, ints tr.out, I tr.out.length, I j, .any, .any, .any, .any, .any, .any], [.box wgm [I n.pl, trs n.tr], .row wgj true 1 (d.pl.map PV.bool), .row wgj true 1 (d.tr.map PV.bool), .box wgo [ints tr.inn, ints tr.out, ints tr.rst]]⟩) ?_ ?_ ?_
        · simp (maxSteps := 2000000) (disch := first | omega | (simp only [lenS]; try omega)) only [go_sem, reduceAdd, reduceEqDiff, reduceLeDiff, reduceSub]
          rfl
        · rintro j s hj rfl
          have h1 := p1 _ (List.getElem_mem hj)
          have h2 : tr.out[j].toNat < d.pl.length := by omega
          simp (maxSteps := 2000000) (disch := first | omega | (simp only [lenS]; try omega)) only [go_sem, reduceAdd, reduceEqDiff, reduceLeDiff, reduceSub]
          refine ⟨fun h => ?_, fun h => ⟨fun h3 => ?_, fun h3 => ?_⟩⟩
          · rw [z3b hj h]; rfl
          · rw [z39 hj (by rw [← zi1 h2]; exact h3)]; rfl
          · rw [z3e hj h (by rw [← zi1 h2]; exact h3)]; rfl
        · rintro s rfl
          have hkd : k < d.tr.length := by omega
          simp (maxSteps := 2000000) (disch := first | omega | (simp only [lenS]; try omega)) only [go_sem, reduceAdd, reduceEqDiff, reduceLeDiff, reduceSub, List.take_length]
          refine ⟨fun h => ⟨fun h3 => ?_, fun h3 => ?_⟩, fun h => ?_⟩
          · rw [s1 (by rw [← zi1 hkd]; exact h3)]; rfl
          · have e := s3 (by rw [← zi1 hkd]; exact h3) h
            subst e
            refine W_for tr.inn.length (fun j s => s = ⟨[.any, .any, .ptr 0 0, .any, .any, .ref 1 1 0 n.pl.toNat, .ref 2 1 0 n.tr.length, .bool true, .any, .any, .any, .any, .any, .any, trs n.tr, I n.tr.length, I k, .any, .any, .any, .any, .any, .any, ints tr.inn, I tr.inn.length, I j, .any], [.box wgm [I n.pl, trs n.tr], .row wgj true 1 ((markB d.pl (tr.inn.take j)).map PV.bool), .row wgj true 1 ((d.tr.set k true).map PV.bool)]⟩) ?_ ?_ ?_
            · simp (maxSteps := 2000000) (disch := first | omega | (simp only [lenS]; try omega)) only [go_sem, reduceAdd, reduceEqDiff, reduceLeDiff, reduceSub]
              rfl
            · rintro j s hj rfl
              have h1 := p2 _ (List.getElem_mem hj)
              have h2 : tr.inn[j].toNat < d.pl.length := by omega
              have h4 := zrg d.pl (tr.inn.take j)
              simp (maxSteps := 2000000) (disch := first | omega | (simp only [lenS]; try omega)) only [go_sem, reduceAdd, reduceEqDiff, reduceLeDiff, reduceSub]
              rw [zrh hj]; rfl
            · rintro s rfl
              simp (maxSteps := 2000000) (disch := first | omega | (simp only [lenS]; try omega)) only [go_sem, reduceAdd, reduceEqDiff, reduceLeDiff, reduceSub, List.take_length]
              rfl
          · rw [s2 h]; rfl
      · rintro s rfl
        simp (maxSteps := 2000000) (disch := first | omega | (simp only [lenS]; try omega)) only [go_sem, reduceAdd, reduceEqDiff, reduceLeDiff, reduceSub]
        have hn := z9s (n := n) (bk := true) hc2
        rw [hc] at hn
        cases e : (z9n n true c).ch with
        | true =>
          have h1 := (z9j (n := n) (bk := true) (s := c) (k := n.tr.length) (by omega)).2 e
          simp only [e, if_true] at hn
          refine ⟨cntF (z9n n true c).tr + 1, by unfold z9n; omega, z9n n true c, by unfold z9n; have := hcl n.tr.length; omega, by unfold z9n; have := hcl n.tr.length; omega, .inl ⟨rfl, ?_, hn.symm⟩⟩
          unfold z9n at e ⊢
          rw [e]
        | false =>
          simp only [e, Bool.false_eq_true, if_false] at hn
          refine ⟨0, by omega, z9n n true c, by unfold z9n; have := hcl n.tr.length; omega, by unfold z9n; have := hcl n.tr.length; omega, .inr ⟨rfl, ?_, hn.symm⟩⟩
          unfold z9n at e ⊢
          rw [e]
    · simp (maxSteps := 2000000) (disch := first | omega | (simp only [lenS]; try omega)) only [go_sem, reduceAdd, reduceEqDiff, reduceLeDiff, reduceSub]
theorem wgb (a b : List Bool) (ha : a.length < 2^30) (hab : a.length ≤ b.length) : C w9p [bls a, bls b] [] = some (.un t_int true 1 ((bothL a b).map I), []) := by
  refine w27 ?_
  simp (maxSteps := 2000000) (disch := first | omega | (simp only [lenS]; try omega)) only [wdr, go_sem, reduceAdd, reduceEqDiff, reduceLeDiff, reduceSub]
  refine W_for a.length (fun k s => s = ⟨[bls a, bls b, .any, .ref 0 1 0 (bothK a b k).length, .any, I a.length, I k, .any, .any], [.row t_int true 1 ((bothK a b k).map I)]⟩) ?_ ?_ ?_
  · simp (maxSteps := 2000000) (disch := first | omega | (simp only [lenS]; try omega)) only [go_sem, reduceAdd, reduceEqDiff, reduceLeDiff, reduceSub]
    rfl
  · rintro k s hk rfl
    have h2 := z72 a b k
    have hkb : k < b.length := by omega
    have e1 := zi1 hk
    have e2 := zi1 hkb
    simp (maxSteps := 2000000) (disch := first | omega | (simp only [lenS]; try omega)) only [go_sem, reduceAdd, reduceEqDiff, reduceLeDiff, reduceSub]
    rw [e1, e2]
    refine ⟨fun h => ⟨fun h3 => ?_, fun h3 => ?_⟩, fun h => ?_⟩
    · rw [z73 h h3, List.map_append]; simp
    · rw [z71 (by rw [h, h3]; rfl)]; rfl
    · rw [z71 (by rw [h]; rfl)]; rfl
  · rintro s rfl
    simp (maxSteps := 2000000) (disch := first | omega | (simp only [lenS]; try omega)) only [go_sem, reduceAdd, reduceEqDiff, reduceLeDiff, reduceSub]
    rfl
theorem wfc (n : Net) (a b : Int) (hn : smN n) : C w8t [encN n, I a, I b] [] = some (.tup [.un t_int true 1 ((if okWay n a b then wayP n a b else []).map I), .un t_int true 1 ((if okWay n a b then wayT n a b else []).map I), .bool (okWay n a b)], []) := by
  refine w1p ?_
  simp (maxSteps := 2000000) (disch := first | omega | (simp only [lenS]; try omega)) only [wcv, go_sem, reduceAdd, reduceEqDiff, reduceLeDiff, reduceSub]
  simp (maxSteps := 2000000) (disch := first | omega | (simp only [lenS]; try omega)) only [go_sem, reduceAdd, reduceEqDiff, reduceLeDiff, reduceSub, wfb n hn, wfw]
  cases hg : goodN n with
  | false => simp [okWay, hg]
  | true =>
    have hb := ziv hg
    cases h1 : inB 0 (n.pl - 1) a with
    | false => simp (maxSteps := 2000000) (disch := first | omega | (simp only [lenS]; try omega)) only [go_sem, reduceAdd, reduceEqDiff, reduceLeDiff, reduceSub, h1]; simp [okWay, hg, h1]
    | true =>
      cases h2 : inB 0 (n.pl - 1) b with
      | false => simp (maxSteps := 2000000) (disch := first | omega | (simp only [lenS]; try omega)) only [go_sem, reduceAdd, reduceEqDiff, reduceLeDiff, reduceSub, h1, h2]; simp [okWay, hg, h1, h2]
      | true =>
        have hok : okWay n a b = true := by simp [okWay, hg, h1, h2]
        have ha : 0 ≤ a ∧ a < n.pl := by simp [inB] at h1; omega
        have hb2 : 0 ≤ b ∧ b < n.pl := by simp [inB] at h2; omega
        have l1 := z12l n false a
        have l2 := z12l n true b
        simp (maxSteps := 2000000) (disch := first | omega | (simp only [lenS]; try omega)) only [go_sem, reduceAdd, reduceEqDiff, reduceLeDiff, reduceSub, h1, h2, wgc n a hg ha, wga n b hg hb2, hok]
        simp (maxSteps := 2000000) (disch := first | omega | (simp only [lenS]; try omega)) only [go_sem, reduceAdd, reduceEqDiff, reduceLeDiff, reduceSub, wgb (z12i n false a).pl (z12i n true b).pl (by omega) (by omega), wgb (z12i n false a).tr (z12i n true b).tr (by omega) (by omega)]
        rfl
theorem wfu (l : List Int) (x : Int) (hl : l.length < 2^62) : C w9a [ints l, I x] [] = some (.bool (hasB l x), []) := by
  refine w1u ?_
  simp (maxSteps := 2000000) (disch := first | omega | (simp only [lenS]; try omega)) only [wdc, go_sem, reduceAdd, reduceEqDiff, reduceLeDiff, reduceSub]
  refine W_for l.length (fun k s => s = ⟨[.any, I x, .any, .any, ints l, I l.length, I k, .any, .any], []⟩ ∧ (l.take k).any (fun y => y == x) = false) ?_ ?_ ?_
  · simp (maxSteps := 2000000) (disch := first | omega | (simp only [lenS]; try omega)) only [go_sem, reduceAdd, reduceEqDiff, reduceLeDiff, reduceSub]
    rfl
  · rintro k s hk ⟨rfl, hall⟩
    simp (maxSteps := 2000000) (disch := first | omega | (simp only [lenS]; try omega)) only [go_sem, reduceAdd, reduceEqDiff, reduceLeDiff, reduceSub]
    refine ⟨fun h => ?_, fun h => ⟨rfl, z3e hk hall (by simpa using h)⟩⟩
    rw [zjm hk h]
  · rintro s ⟨rfl, hall⟩
    simp (maxSteps := 2000000) (disch := first | omega | (simp only [lenS]; try omega)) only [go_sem, reduceAdd, reduceEqDiff, reduceLeDiff, reduceSub]
    rw [List.take_length] at hall
    rw [zjl hall]
theorem wf9 (f : Fl) (hf : smN f.net) : C w8q [encF f] [] = some (.bool (zie f), []) := by
  have hl := hf.1
  have hw := wfc f.net f.src f.dst hf
  have hP : (wayP f.net f.src f.dst).length < 2^62 ∨ goodN f.net = false := by
    cases hg : goodN f.net with
    | false => exact .inr rfl
    | true =>
      have := ziv hg
      have h1 := z72 (z12i f.net false f.src).pl (z12i f.net true f.dst).pl (z12i f.net false f.src).pl.length
      have h2 := z12l f.net false f.src
      exact .inl (by unfold wayP bothL; omega)
  have hT : (wayT f.net f.src f.dst).length < 2^62 := by
    have h1 := z72 (z12i f.net false f.src).tr (z12i f.net true f.dst).tr (z12i f.net false f.src).tr.length
    have h2 := z12l f.net false f.src
    unfold wayT bothL; omega
  refine w1m ?_
  simp (maxSteps := 2000000) (disch := first | omega | (simp only [lenS]; try omega)) only [wcs, go_sem, reduceAdd, reduceEqDiff, reduceLeDiff, reduceSub]
  cases hok : okWay f.net f.src f.dst with
  | false =>
    simp only [hok] at hw
    simp (maxSteps := 2000000) (disch := first | omega | (simp only [lenS]; try omega)) only [go_sem, reduceAdd, reduceEqDiff, reduceLeDiff, reduceSub, hw]
    simp [zie, hok]
  | true =>
    have hg : goodN f.net = true := by simp only [okWay, Bool.and_eq_true] at hok; exact hok.1.1
    have hb := ziv hg
    have hP : (wayP f.net f.src f.dst).length < 2^62 := by
      rcases hP with h | h
      · exact h
      · rw [hg] at h; cases h
    simp only [hok, if_true] at hw
    simp (maxSteps := 2000000) (disch := first | omega | (simp only [lenS]; try omega)) only [go_sem, reduceAdd, reduceEqDiff, reduceLeDiff, reduceSub, hw]
    refine ⟨fun h => by simp [zie, h], fun h => ⟨fun h2 => by simp [zie, h2], fun h2 => ⟨fun h3 => ?_, fun h3 => ?_⟩⟩⟩
    · have : ¬ (wayT f.net f.src f.dst).length = f.net.tr.length := by omega
      simp [zie, this]
    refine W_for f.net.tr.length (fun k s => s = ⟨[.any, .ptr 0 0, .any, .any, .any, .any, .any, .any, trs f.net.tr, I f.net.tr.length, I k, .any, .any], [.box wgl [I f.net.pl, trs f.net.tr, I f.src, I f.dst]]⟩ ∧ (f.net.tr.take k).all (fun t => !z1b5 f t) = true) ?_ ?_ ?_
    · simp (maxSteps := 2000000) (disch := first | omega | (simp only [lenS]; try omega)) only [go_sem, reduceAdd, reduceEqDiff, reduceLeDiff, reduceSub]
      rfl
    · rintro k s hk ⟨rfl, hall⟩
      have hT := hb.2.2.2 _ (List.getElem_mem hk)
      have hLs := zj1 hT (by omega)
      simp (maxSteps := 2000000) (disch := first | omega | (simp only [lenS]; try omega)) only [go_sem, reduceAdd, reduceEqDiff, reduceLeDiff, reduceSub, wfu]
      have gs : z1b5 f f.net.tr[k] = true → zie f = false := fun hs => by
        have : (f.net.tr.all fun t => !z1b5 f t) = false := z2y hk (by simp [hs])
        simp [zie, this]
      exact ⟨fun a => by rw [gs (by simp [z1b5, a])], fun a => ⟨fun b => by rw [gs (by simp [z1b5, b])], fun b => ⟨fun c => by rw [gs (by simp [z1b5, c])], fun c => ⟨fun d => by rw [gs (by simp [z1b5, d])], fun d => ⟨rfl, z2z hk hall (by simp [z1b5, a, b, c, d])⟩⟩⟩⟩⟩
    · rintro s ⟨rfl, hall⟩
      simp (maxSteps := 2000000) (disch := first | omega | (simp only [lenS]; try omega)) only [go_sem, reduceAdd, reduceEqDiff, reduceLeDiff, reduceSub]
      rw [List.take_length] at hall
      have h4 : (wayT f.net f.src f.dst).length = f.net.tr.length := by omega
      simp [zie, hok, h, h2, h4]
      simpa using hall
theorem wgd (n p : Int) (hn : 0 ≤ n ∧ n < 2^30) (hp : 0 ≤ p ∧ p < n) : C w9r [I n, I p] [] = some (.un t_int true 1 ((oneM n.toNat p).map I), []) := by
  refine w29 ?_
  simp (maxSteps := 2000000) (disch := first | omega | (simp only [lenS]; try omega)) only [wdt, go_sem, reduceAdd, reduceEqDiff, reduceLeDiff, reduceSub]
  simp (maxSteps := 2000000) (disch := first | omega | (simp only [lenS]; try omega)) only [go_sem, reduceAdd, reduceEqDiff, reduceLeDiff, reduceSub, List.getElem_replicate]
  simp [oneM, List.map_set]
theorem wfd (f : Fl) (hf : smN f.net) : C w8u [encF f] [] = some (.tup [.un t_int true 1 ((if zie f then oneM f.net.pl.toNat f.src else []).map I), .bool (zie f)], []) := by
  refine w1q ?_
  simp (maxSteps := 2000000) (disch := first | omega | (simp only [lenS]; try omega)) only [wcw, go_sem, reduceAdd, reduceEqDiff, reduceLeDiff, reduceSub]
  simp (maxSteps := 2000000) (disch := first | omega | (simp only [lenS]; try omega)) only [go_sem, reduceAdd, reduceEqDiff, reduceLeDiff, reduceSub, wf9 f hf]
  cases h : zie f with
  | false => simp
  | true =>
    obtain ⟨h1, h2, h3, _⟩ := zii h
    have hb := ziv h1
    simp (maxSteps := 2000000) (disch := first | omega | (simp only [lenS]; try omega)) only [go_sem, reduceAdd, reduceEqDiff, reduceLeDiff, reduceSub, wgd f.net.pl f.src (by omega) (by omega)]
theorem wfn (rs : Bool) (bs : List Int) (at_ sd : Int) (h0 : 0 ≤ at_) (h1 : at_ < 2^59) (hl : bs.length < 2^62) (hb : ∀ x ∈ bs, 0 ≤ x ∧ x < 256) :
    Lw (C w94 [.ptr 0 0, .bool rs] [.box wgr [bys bs, I at_, .int .u64 sd]]) fun r => ∃ (n : Net) (at' sd' : Int), r = (.agg [I n.pl, .un wgo false 3 (n.tr.map encT)], [.box wgr [bys bs, I at', .int .u64 sd']]) ∧ at_ ≤ at' ∧ at' ≤ at_ + 1000 ∧ smNet n := by
  refine w2v ?_
  simp (maxSteps := 2000000) (disch := first | omega | (simp only [lenS]; try omega)) only [wd6, go_sem, reduceAdd, reduceEqDiff, reduceLeDiff, reduceSub]
  obtain ⟨_, e1, x1, a1, s1, rfl, h3, h4, h5, h6⟩ := wfq 4 bs at_ sd h0 (by omega) hl hb
  simp (maxSteps := 2000000) (disch := first | omega | (simp only [lenS]; try omega)) only [go_sem, reduceAdd, reduceEqDiff, reduceLeDiff, reduceSub, e1]
  obtain ⟨_, e2, x2, a2, s2, rfl, h7, h8, h9, h10⟩ := wfq 5 bs a1 s1 (by omega) (by omega) hl hb
  simp (maxSteps := 2000000) (disch := first | omega | (simp only [lenS]; try omega)) only [go_sem, reduceAdd, reduceEqDiff, reduceLeDiff, reduceSub, e2]
  refine W_for (1 + x2).toNat (fun k s => ∃ (tr : List Tr) (at' sd' : Int), (s = ⟨[.ptr 0 0, .bool rs, .ptr 1 0, .ptr 2 0, I (1 + x2 - k), .any, .any, .any, .any, .any, .any, .any], [.box wgr [bys bs, I at', .int .u64 sd'], .box wgm [I 0, .nil false 3], .box wgm [I (2 + x1), .ref 3 3 0 tr.length], .row wgo false 3 (tr.map encT)]⟩ ∨ (s = ⟨[.ptr 0 0, .bool rs, .ptr 1 0, .ptr 2 0, I (1 + x2 - k), .any, .any, .any, .any, .any, .any, .any], [.box wgr [bys bs, I at', .int .u64 sd'], .box wgm [I 0, .nil false 3], .box wgm [I (2 + x1), .nil false 3]]⟩ ∧ tr = [])) ∧ tr.length = k ∧ at_ ≤ at' ∧ at' ≤ at_ + 10 + 152 * k ∧ ∀ t ∈ tr, t.inn.length ≤ 20 ∧ t.out.length ≤ 20 ∧ t.rst.length ≤ 20) ?_ ?_ ?_
  · refine ⟨[], a2, s2, .inr ⟨?_, rfl⟩, rfl, by omega, by omega, by simp⟩
    simp (maxSteps := 2000000) (disch := first | omega | (simp only [lenS]; try omega)) only [go_sem, reduceAdd, reduceEqDiff, reduceLeDiff, reduceSub]
    rw [show 1 + x2 - ((0 : Nat) : Int) = 1 + x2 by omega]
  · rintro k s hk ⟨tr, a, sd, hs, rfl, h12, h13, h14⟩
    obtain ⟨_, f1, l1, a3, s3, rfl, g1, g2, g3, g4⟩ := wfr (2 + x1) 1 2 (by omega) bs a sd (by omega) (by omega) hl hb
    obtain ⟨_, f2, l2, a4, s4, rfl, g5, g6, g7, g8⟩ := wfr (2 + x1) 0 2 (by omega) bs a3 s3 (by omega) (by omega) hl hb
    obtain ⟨_, f3, b5, a5, s5, rfl, g9, g10⟩ := wfp 5 bs a4 s4 (by omega) (by omega) hl hb
    obtain ⟨_, f4, l6, a6, s6, rfl, g11, g12, g13, g14⟩ := wfr (2 + x1) 1 2 (by omega) bs a5 s5 (by omega) (by omega) hl hb
    have e : 1 + x2 - ((tr.length + 1 : Nat) : Int) = 1 + x2 - tr.length - 1 := by omega
    rcases hs with rfl | ⟨rfl, rfl⟩
    · simp (maxSteps := 2000000) (disch := first | omega | (simp only [lenS]; try omega)) only [go_sem, reduceAdd, reduceEqDiff, reduceLeDiff, reduceSub, f1, f2, f3, f4]
      have hs : ∀ (t : Tr), t.inn.length ≤ 20 ∧ t.out.length ≤ 20 ∧ t.rst.length ≤ 20 → ∀ u ∈ tr ++ [t], u.inn.length ≤ 20 ∧ u.out.length ≤ 20 ∧ u.rst.length ≤ 20 := by
        intro t ht u hu
        rcases List.mem_append.1 hu with hu | hu
        · exact h14 u hu
        · simp only [List.mem_singleton] at hu; subst hu; exact ht
      refine ⟨fun _ => ⟨fun _ => ⟨tr ++ [⟨l1, l2, l6⟩], a6, s6, .inl ?_, by simp, by omega, by simp at h13 ⊢; omega, hs _ ⟨g3, g7, g13⟩⟩, fun _ => ⟨tr ++ [⟨l1, l2, []⟩], a5, s5, .inl ?_, by simp, by omega, by simp at h13 ⊢; omega, hs _ ⟨g3, g7, by simp⟩⟩⟩, fun _ => ⟨tr ++ [⟨l1, l2, []⟩], a4, s4, .inl ?_, by simp, by omega, by simp at h13 ⊢; omega, hs _ ⟨g3, g7, by simp⟩⟩⟩ <;> (rw [e]; simp)
    · simp (maxSteps := 2000000) (disch := first | omega | (simp only [lenS]; try omega)) only [go_sem, reduceAdd, reduceEqDiff, reduceLeDiff, reduceSub, f1, f2, f3, f4]
      have hs : ∀ (t : Tr), t.inn.length ≤ 20 ∧ t.out.length ≤ 20 ∧ t.rst.length ≤ 20 → ∀ u ∈ ([] : List Tr) ++ [t], u.inn.length ≤ 20 ∧ u.out.length ≤ 20 ∧ u.rst.length ≤ 20 := by
        intro t ht u hu
        rcases List.mem_append.1 hu with hu | hu
        · exact h14 u hu
        · simp only [List.mem_singleton] at hu; subst hu; exact ht
      refine ⟨fun _ => ⟨fun _ => ⟨([] : List Tr) ++ [⟨l1, l2, l6⟩], a6, s6, .inl ?_, by simp, by omega, by simp at h13 ⊢; omega, hs _ ⟨g3, g7, g13⟩⟩, fun _ => ⟨([] : List Tr) ++ [⟨l1, l2, []⟩], a5, s5, .inl ?_, by simp, by omega, by simp at h13 ⊢; omega, hs _ ⟨g3, g7, by simp⟩⟩⟩, fun _ => ⟨([] : List Tr) ++ [⟨l1, l2, []⟩], a4, s4, .inl ?_, by simp, by omega, by simp at h13 ⊢; omega, hs _ ⟨g3, g7, by simp⟩⟩⟩ <;> (simp <;> omega)
  · rintro s ⟨tr, a, sd, hs, h11, h12, h13, h14⟩
    have hne : 0 < tr.length := by omega
    rcases hs with rfl | ⟨rfl, rfl⟩
    · obtain ⟨_, f1, x7, a7, s7, rfl, g1, g2, g3, g4⟩ := wfq 40 bs a sd (by omega) (by omega) hl hb
      obtain ⟨_, f2, x8, a8, s8, rfl, g5, g6, g7⟩ := wfh [0, 1, 17] t_int (by decide) (by decide) bs a7 s7 (by omega) (by omega) hl hb
      simp only [go_sem, Nat.reduceAdd] at f2
      simp (maxSteps := 2000000) (disch := first | omega | (simp only [lenS]; try omega)) only [go_sem, reduceAdd, reduceEqDiff, reduceLeDiff, reduceSub, f1, f2]
      simp only [List.mem_cons, List.not_mem_nil, or_false] at g7
      have h15 := h14 tr[0] (List.getElem_mem hne)
      have hs : ∀ (t : Tr), t.inn.length ≤ 20 ∧ t.out.length ≤ 20 ∧ t.rst.length ≤ 20 → ∀ u ∈ tr.set 0 t, u.inn.length ≤ 20 ∧ u.out.length ≤ 20 ∧ u.rst.length ≤ 20 := by
        intro t ht u hu
        rcases List.mem_or_eq_of_mem_set hu with hu | rfl
        · exact h14 u hu
        · exact ht
      refine ⟨fun _ => ⟨⟨x8, tr⟩, a8, s8, rfl, by omega, by omega, by simp only [smNet]; omega, by simp only; omega, h14⟩, fun _ => ⟨fun _ => ?_, fun _ => ⟨fun _ => ?_, fun _ => ?_⟩⟩⟩
      · exact ⟨⟨2 + x1, tr.set 0 ⟨[], tr[0].out, tr[0].rst⟩⟩, a7, s7, by simp [List.map_set]; rfl, by omega, by omega, by simp; omega, by simp only; omega, hs _ ⟨by simp, h15.2.1, h15.2.2⟩⟩
      · exact ⟨⟨2 + x1, tr.set 0 ⟨tr[0].inn, [1, 0], tr[0].rst⟩⟩, a7, s7, by simp [List.map_set]; rfl, by omega, by omega, by simp; omega, by simp only; omega, hs _ ⟨h15.1, by simp, h15.2.2⟩⟩
      · exact ⟨⟨2 + x1, tr⟩, a7, s7, rfl, by omega, by omega, by simp only; omega, by simp only; omega, h14⟩
    · simp at hne
theorem wfy (a b : Int) : C w9e [I a, I b] [] = some (I (max a b), []) := by
  refine w1w ?_
  simp (maxSteps := 2000000) (disch := first | omega | (simp only [lenS]; try omega)) only [wdg, go_sem, reduceAdd, reduceEqDiff, reduceLeDiff, reduceSub]
  exact ⟨fun h => by rw [Int.max_eq_left (by omega)], fun h => by rw [Int.max_eq_right (by omega)]⟩
theorem wfl (n : Net) (hn : n.pl ≤ 20) (bs : List Int) (at_ sd : Int) (h0 : 0 ≤ at_) (h1 : at_ < 2^59) (hl : bs.length < 2^62) (hb : ∀ x ∈ bs, 0 ≤ x ∧ x < 256) :
    Lw (C w92 [.ptr 0 0, .agg [I n.pl, .ref 1 3 0 n.tr.length]] [.box wgr [bys bs, I at_, .int .u64 sd], .row wgo false 3 (n.tr.map encT)]) fun r => ∃ (l : List Int) (at' sd' : Int), r = (.un t_int true 1 (l.map I), [.box wgr [bys bs, I at', .int .u64 sd'], .row wgo false 3 (n.tr.map encT)]) ∧ at_ ≤ at' ∧ at' ≤ at_ + 100 ∧ l.length ≤ 20 ∧ ∀ x ∈ l, -1 ≤ x ∧ x ≤ 51 := by
  refine w2t ?_
  simp (maxSteps := 2000000) (disch := first | omega | (simp only [lenS]; try omega)) only [wd4, go_sem, reduceAdd, reduceEqDiff, reduceLeDiff, reduceSub]
  refine W_for n.pl.toNat (fun k s => ∃ (l : List Int) (at' sd' : Int), s = ⟨[.ptr 0 0, .any, .ptr 2 0, .any, .ref 3 1 0 l.length, I k, .any, .any], [.box wgr [bys bs, I at', .int .u64 sd'], .row wgo false 3 (n.tr.map encT), .box wgm [I n.pl, .ref 1 3 0 n.tr.length], .row t_int true 1 (l.map I)]⟩ ∧ l.length = k ∧ at_ ≤ at' ∧ at' ≤ at_ + 2 * k ∧ ∀ x ∈ l, 0 ≤ x ∧ x ≤ 3) ?_ ?_ ?_
  · refine ⟨[], at_, sd, ?_, rfl, by omega, by omega, by simp⟩
    simp (maxSteps := 2000000) (disch := first | omega | (simp only [lenS]; try omega)) only [go_sem, reduceAdd, reduceEqDiff, reduceLeDiff, reduceSub]
    rfl
  · rintro k s hk ⟨l, a, sd, rfl, rfl, h8, h9, h10⟩
    obtain ⟨_, e2, x2, a2, s2, rfl, h11, h12, h13, h14⟩ := wfq 4 bs a sd (by omega) (by omega) hl hb
    simp (maxSteps := 2000000) (disch := first | omega | (simp only [lenS]; try omega)) only [go_sem, reduceAdd, reduceEqDiff, reduceLeDiff, reduceSub, e2, wfy]
    refine ⟨l ++ [max 0 (x2 - 1)], a2, s2, by rw [List.map_append]; simp, by simp, by omega, by omega, ?_⟩
    intro x hx
    rcases List.mem_append.1 hx with hx | hx
    · exact h10 x hx
    · simp only [List.mem_cons, List.not_mem_nil, or_false] at hx; omega
  · rintro s ⟨l, a, sd, rfl, h7, h8, h9, h10⟩
    obtain ⟨_, e1, x1, a1, s1, rfl, h5, h6⟩ := wfp 30 bs a sd (by omega) (by omega) hl hb
    simp (maxSteps := 2000000) (disch := first | omega | (simp only [lenS]; try omega)) only [go_sem, reduceAdd, reduceEqDiff, reduceLeDiff, reduceSub, e1]
    obtain ⟨_, e3, x3, a3, s3, rfl, h11, h12, h13⟩ := wfh [50, 51, -1] t_int (by decide) (by decide) bs a1 s1 (by omega) (by omega) hl hb
    simp only [go_sem, Nat.reduceAdd] at e3
    simp (maxSteps := 2000000) (disch := first | omega | (simp only [lenS]; try omega)) only [go_sem, reduceAdd, reduceEqDiff, reduceLeDiff, reduceSub, e3]
    simp only [List.mem_cons, List.not_mem_nil, or_false] at h13
    refine ⟨fun h => ⟨fun h2 => ?_, fun h2 => ?_⟩, fun h => ?_⟩
    · simp (maxSteps := 2000000) (disch := first | omega | (simp only [lenS]; try omega)) only [go_sem, reduceAdd, reduceEqDiff, reduceLeDiff, reduceSub]
      refine ⟨l.set 0 x3, a3, s3, rfl, by omega, by omega, by simp; omega, fun x hx => ?_⟩
      rcases List.mem_or_eq_of_mem_set hx with hx | rfl
      · have := h10 x hx; omega
      · omega
    · exact ⟨l, a1, s1, rfl, by omega, by omega, by omega, fun x hx => by have := h10 x hx; omega⟩
    · exact ⟨l, a1, s1, rfl, by omega, by omega, by omega, fun x hx => by have := h10 x hx; omega⟩
theorem wft (bs : List Int) (at_ sd : Int) (h0 : 0 ≤ at_) (h1 : at_ < 2^58) (hl : bs.length < 2^62) (hb : ∀ x ∈ bs, 0 ≤ x ∧ x < 256) :
    Lw (C w99 [.ptr 0 0] [.box wgr [bys bs, I at_, .int .u64 sd]]) fun r => ∃ (n : Net) (m : List Int) (at' sd' : Int), r = (.tup [.agg [I n.pl, .un wgo false 3 (n.tr.map encT)], .un t_int true 1 (m.map I)], [.box wgr [bys bs, I at', .int .u64 sd']]) ∧ at_ ≤ at' ∧ at' ≤ at_ + 2000 ∧ smNet n ∧ m.length ≤ 20 := by
  obtain ⟨_, e1, b1, a1, s1, rfl, h3, h4⟩ := wfp 3 bs at_ sd h0 (by omega) hl hb
  obtain ⟨_, e2, f, a2, s2, rfl, h5, h6, h7⟩ := wfj true bs a1 s1 (by omega) (by omega) hl hb
  have e3 := wfd f h7.smN
  have netw : ∀ a0 s0 : Int, at_ ≤ a0 → a0 ≤ at_ + 300 → ∃ (n : Net) (a2 s2 : Int), C w94 [.ptr 0 0, .bool true] [.box wgr [bys bs, I a0, .int .u64 s0]] = some (.agg [I n.pl, .un wgo false 3 (n.tr.map encT)], [.box wgr [bys bs, I a2, .int .u64 s2]]) ∧ a0 ≤ a2 ∧ a2 ≤ a0 + 1000 ∧ smNet n := by
    intro a0 s0 g1 g2
    obtain ⟨_, f1, n, a2, s2, rfl, g3, g4, g5⟩ := wfn true bs a0 s0 (by omega) (by omega) hl hb
    exact ⟨n, a2, s2, f1, g3, g4, g5⟩
  have main : ∀ (n : Net) (a2 : Int), at_ ≤ a2 → a2 ≤ at_ + 1400 → smNet n → True := fun _ _ _ _ _ => trivial
  cases b1 with
  | true =>
    cases hg : zie f with
    | true =>
      simp only [hg, if_true] at e3
      have hlen : (oneM f.net.pl.toNat f.src).length ≤ 20 := by have := h7.2.1; simp [oneM]; omega
      refine w30 ?_
      simp (maxSteps := 2000000) (disch := first | omega | (simp only [lenS]; try omega)) only [wdb, go_sem, reduceAdd, reduceEqDiff, reduceLeDiff, reduceSub]
      simp (maxSteps := 2000000) (disch := first | omega | (simp only [lenS]; try omega)) only [go_sem, reduceAdd, reduceEqDiff, reduceLeDiff, reduceSub, e1, e2, e3]
      exact ⟨f.net, _, a2, s2, rfl, by omega, by omega, h7, hlen⟩
    | false =>
      simp only [hg, Bool.false_eq_true, if_false, List.map_nil] at e3
      obtain ⟨n, a4, s4, f1, g1, g2, g3⟩ := netw a2 s2 (by omega) (by omega)
      refine w30 ?_
      simp (maxSteps := 2000000) (disch := first | omega | (simp only [lenS]; try omega)) only [wdb, go_sem, reduceAdd, reduceEqDiff, reduceLeDiff, reduceSub]
      simp (maxSteps := 2000000) (disch := first | omega | (simp only [lenS]; try omega)) only [go_sem, reduceAdd, reduceEqDiff, reduceLeDiff, reduceSub, e1, e2, e3, f1]
      refine W_for n.tr.length (fun k s => ∃ (tr : List Tr) (a sd : Int), s = ⟨[.ptr 0 0, .ptr 1 0, .any, .any, .any, .any, .ptr 2 0, .any, .any, .any, .any, .ref 3 3 0 n.tr.length, I n.tr.length, I k, .any, .any], [.box wgr [bys bs, I a, .int .u64 sd], .box wgm [I 0, .nil false 3], .box wgm [I n.pl, .ref 3 3 0 n.tr.length], .row wgo false 3 (tr.map encT)]⟩ ∧ tr.length = n.tr.length ∧ a4 ≤ a ∧ a ≤ a4 + 2 * k ∧ smq 20 tr) ?_ ?_ ?_
      · refine ⟨n.tr, a4, s4, ?_, rfl, by omega, by omega, g3.2.2⟩
        simp (maxSteps := 2000000) (disch := first | omega | (simp only [lenS]; try omega)) only [go_sem, reduceAdd, reduceEqDiff, reduceLeDiff, reduceSub]
        rfl
      · rintro k s hk ⟨tr, a, sd, rfl, hl2, ha1, ha2, hq⟩
        have hk2 : k < tr.length := by omega
        have hqk := hq _ (List.getElem_mem hk2)
        have hn30 := g3.1
        obtain ⟨_, k1, x5, a5, s5, rfl, k2, k3⟩ := wfp 6 bs a sd (by omega) (by omega) hl hb
        simp (maxSteps := 2000000) (disch := first | omega | (simp only [lenS]; try omega)) only [go_sem, reduceAdd, reduceEqDiff, reduceLeDiff, reduceSub, k1]
        refine ⟨fun hgt => ⟨fun _ => ⟨tr, a5, s5, by simp, hl2, by omega, by omega, hq⟩, fun _ => ?_⟩, fun _ => ⟨tr, a, sd, by simp, hl2, by omega, by omega, hq⟩⟩
        rw [if_pos ⟨by simp, by simp, by omega⟩]
        simp (maxSteps := 2000000) (disch := first | omega | (simp only [lenS]; try omega)) only [go_sem, reduceAdd, reduceEqDiff, reduceLeDiff, reduceSub]
        exact ⟨tr.set k ⟨tr[k].inn, tr[k].out.take tr[k].inn.length, tr[k].rst⟩, a5, s5, by simp [List.map_set, List.map_take, encT, ints], by simpa using hl2, by omega, by omega, z1ao hq ⟨hqk.1, by simp only [List.length_take]; omega, hqk.2.2⟩⟩
      · rintro s ⟨tr, a, sd, rfl, hl2, ha1, ha2, hq⟩
        have hn30 := g3.1
        have hn20 := g3.2.1
        obtain ⟨_, k1, m, a5, s5, rfl, k2, k3, k4, k5⟩ := wfl ⟨n.pl, tr⟩ g3.2.1 bs a sd (by omega) (by omega) hl hb
        simp only [hl2] at k1
        simp (maxSteps := 2000000) (disch := first | omega | (simp only [lenS]; try omega)) only [go_sem, reduceAdd, reduceEqDiff, reduceLeDiff, reduceSub, k1]
        exact ⟨rfl, ⟨n.pl, tr⟩, m, a5, s5, by simp [hl2], by omega, by omega, ⟨by simp only; omega, g3.2.1, hq⟩, by omega⟩
  | false =>
    obtain ⟨n, a4, s4, f1, g1, g2, g3⟩ := netw a1 s1 (by omega) (by omega)
    refine w30 ?_
    simp (maxSteps := 2000000) (disch := first | omega | (simp only [lenS]; try omega)) only [wdb, go_sem, reduceAdd, reduceEqDiff, reduceLeDiff, reduceSub]
    simp (maxSteps := 2000000) (disch := first | omega | (simp only [lenS]; try omega)) only [go_sem, reduceAdd, reduceEqDiff, reduceLeDiff, reduceSub, e1, f1]
    refine W_for n.tr.length (fun k s => ∃ (tr : List Tr) (a sd : Int), s = ⟨[.ptr 0 0, .ptr 1 0, .any, .any, .any, .any, .ptr 2 0, .any, .any, .any, .any, .ref 3 3 0 n.tr.length, I n.tr.length, I k, .any, .any], [.box wgr [bys bs, I a, .int .u64 sd], .box wgm [I 0, .nil false 3], .box wgm [I n.pl, .ref 3 3 0 n.tr.length], .row wgo false 3 (tr.map encT)]⟩ ∧ tr.length = n.tr.length ∧ a4 ≤ a ∧ a ≤ a4 + 2 * k ∧ smq 20 tr) ?_ ?_ ?_
    · refine ⟨n.tr, a4, s4, ?_, rfl, by omega, by omega, g3.2.2⟩
      simp (maxSteps := 2000000) (disch := first | omega | (simp only [lenS]; try omega)) only [go_sem, reduceAdd, reduceEqDiff, reduceLeDiff, reduceSub]
      rfl
    · rintro k s hk ⟨tr, a, sd, rfl, hl2, ha1, ha2, hq⟩
      have hk2 : k < tr.length := by omega
      have hqk := hq _ (List.getElem_mem hk2)
      have hn30 := g3.1
      obtain ⟨_, k1, x5, a5, s5, rfl, k2, k3⟩ := wfp 6 bs a sd (by omega) (by omega) hl hb
      simp (maxSteps := 2000000) (disch := first | omega | (simp only [lenS]; try omega)) only [go_sem, reduceAdd, reduceEqDiff, reduceLeDiff, reduceSub, k1]
      refine ⟨fun hgt => ⟨fun _ => ⟨tr, a5, s5, by simp, hl2, by omega, by omega, hq⟩, fun _ => ?_⟩, fun _ => ⟨tr, a, sd, by simp, hl2, by omega, by omega, hq⟩⟩
      rw [if_pos ⟨by simp, by simp, by omega⟩]
      simp (maxSteps := 2000000) (disch := first | omega | (simp only [lenS]; try omega)) only [go_sem, reduceAdd, reduceEqDiff, reduceLeDiff, reduceSub]
      exact ⟨tr.set k ⟨tr[k].inn, tr[k].out.take tr[k].inn.length, tr[k].rst⟩, a5, s5, by simp [List.map_set, List.map_take, encT, ints], by simpa using hl2, by omega, by omega, z1ao hq ⟨hqk.1, by simp only [List.length_take]; omega, hqk.2.2⟩⟩
    · rintro s ⟨tr, a, sd, rfl, hl2, ha1, ha2, hq⟩
      have hn30 := g3.1
      have hn20 := g3.2.1
      obtain ⟨_, k1, m, a5, s5, rfl, k2, k3, k4, k5⟩ := wfl ⟨n.pl, tr⟩ g3.2.1 bs a sd (by omega) (by omega) hl hb
      simp only [hl2] at k1
      simp (maxSteps := 2000000) (disch := first | omega | (simp only [lenS]; try omega)) only [go_sem, reduceAdd, reduceEqDiff, reduceLeDiff, reduceSub, k1]
      exact ⟨rfl, ⟨n.pl, tr⟩, m, a5, s5, by simp [hl2], by omega, by omega, ⟨by simp only; omega, g3.2.1, hq⟩, by omega⟩
theorem wfz (l : List Int) (h : l.length < 2^36) : C w9f [ints l] [] = some (.un t_int true 1 (l.map I), []) := by
  refine w1x ?_
  simp (maxSteps := 2000000) (disch := first | omega | (simp only [lenS]; try omega)) only [wdh, go_sem, reduceAdd, reduceEqDiff, reduceLeDiff, reduceSub]
theorem wfe (l : List Int) (lo hi : Int) (hl : l.length < 2^62) : C w8v [ints l, I lo, I hi] [] = some (.bool (l.all (inB lo hi)), []) := by
  refine w1r ?_
  simp (maxSteps := 2000000) (disch := first | omega | (simp only [lenS]; try omega)) only [wcx, go_sem, reduceAdd, reduceEqDiff, reduceLeDiff, reduceSub]
  refine W_for l.length (fun k s => s = ⟨[.any, I lo, I hi, .any, .any, ints l, I l.length, I k, .any, .any], []⟩ ∧ (l.take k).all (inB lo hi) = true) ?_ ?_ ?_
  · simp (maxSteps := 2000000) (disch := first | omega | (simp only [lenS]; try omega)) only [go_sem, reduceAdd, reduceEqDiff, reduceLeDiff, reduceSub]
    rfl
  · rintro k s hk ⟨rfl, hall⟩
    simp (maxSteps := 2000000) (disch := first | omega | (simp only [lenS]; try omega)) only [go_sem, reduceAdd, reduceEqDiff, reduceLeDiff, reduceSub, wfw]
    exact ⟨fun h => ⟨rfl, z2z hk hall h⟩, fun h => by rw [z2y hk h]⟩
  · rintro s ⟨rfl, hall⟩
    simp (maxSteps := 2000000) (disch := first | omega | (simp only [lenS]; try omega)) only [go_sem, reduceAdd, reduceEqDiff, reduceLeDiff, reduceSub]
    rw [List.take_length] at hall
    rw [hall]
theorem wfa (p : Int) (m : List Int) (hl : m.length < 2^62) : C w8r [I p, ints m] [] = some (.bool (goodM p m), []) := by
  refine w1n ?_
  simp (maxSteps := 2000000) (disch := first | omega | (simp only [lenS]; try omega)) only [wct, go_sem, reduceAdd, reduceEqDiff, reduceLeDiff, reduceSub]
  simp (maxSteps := 2000000) (disch := first | omega | (simp only [lenS]; try omega)) only [go_sem, reduceAdd, reduceEqDiff, reduceLeDiff, reduceSub, wg0, wfe m _ _ hl]
  unfold goodM; grind
theorem wg9 (n : Net) (m : List Int) (hn : smN n) (hm : m.length < 2^62) : C w9n [encN n, ints m] [] = some (.bool (zrn n m), []) := by
  refine w25 ?_
  simp (maxSteps := 2000000) (disch := first | omega | (simp only [lenS]; try omega)) only [wdp, go_sem, reduceAdd, reduceEqDiff, reduceLeDiff, reduceSub]
  simp (maxSteps := 2000000) (disch := first | omega | (simp only [lenS]; try omega)) only [go_sem, reduceAdd, reduceEqDiff, reduceLeDiff, reduceSub, wfb n hn, wfa n.pl m hm]
  unfold zrn; grind
theorem wg6 (t : Tr) (m : List Int) (ht : ∀ q ∈ t.inn, 0 ≤ q ∧ q.toNat < m.length) (hl : t.inn.length < 2^62) : C w9k [encT t, ints m] [] = some (.bool (canT t m), []) := by
  refine w22 ?_
  simp (maxSteps := 2000000) (disch := first | omega | (simp only [lenS]; try omega)) only [wdm, go_sem, reduceAdd, reduceEqDiff, reduceLeDiff, reduceSub]
  refine W_for t.inn.length (fun k s => s = ⟨[.any, ints m, .any, .any, .any, ints t.inn, I t.inn.length, I k, .any, .any], []⟩ ∧ (t.inn.take k).all (fun p => !(at_ m p == 0)) = true) ?_ ?_ ?_
  · simp (maxSteps := 2000000) (disch := first | omega | (simp only [lenS]; try omega)) only [go_sem, reduceAdd, reduceEqDiff, reduceLeDiff, reduceSub]
    rfl
  · rintro k s hk ⟨rfl, hall⟩
    obtain ⟨h1, h2⟩ := ht _ (List.getElem_mem hk)
    simp (maxSteps := 2000000) (disch := first | omega | (simp only [lenS]; try omega)) only [go_sem, reduceAdd, reduceEqDiff, reduceLeDiff, reduceSub]
    refine ⟨fun h => ?_, fun h => ⟨rfl, z2z hk hall ?_⟩⟩
    · have : canT t m = false := z2y hk (by rw [at_eq h2] at h; simp [h])
      rw [this]
    · rw [at_eq h2] at h; simp [h]
  · rintro s ⟨rfl, hall⟩
    simp (maxSteps := 2000000) (disch := first | omega | (simp only [lenS]; try omega)) only [go_sem, reduceAdd, reduceEqDiff, reduceLeDiff, reduceSub]
    rw [List.take_length] at hall
    unfold canT; rw [hall]
theorem wg7 (n : Net) (m : List Int) (hg : goodN n = true) (hm : (m.length : Int) = n.pl) : C w9l [encN n, ints m] [] = some (.un t_int true 1 ((enabL n m).map I), []) := by
  have hb := ziv hg
  refine w23 ?_
  simp (maxSteps := 2000000) (disch := first | omega | (simp only [lenS]; try omega)) only [wdn, go_sem, reduceAdd, reduceEqDiff, reduceLeDiff, reduceSub]
  refine W_for n.tr.length (fun k s => s = ⟨[.any, ints m, .any, .any, .ref 0 1 0 (enabK n m k).length, .any, .any, trs n.tr, I n.tr.length, I k, .any, .any], [.row t_int true 1 ((enabK n m k).map I)]⟩) ?_ ?_ ?_
  · simp (maxSteps := 2000000) (disch := first | omega | (simp only [lenS]; try omega)) only [go_sem, reduceAdd, reduceEqDiff, reduceLeDiff, reduceSub]
    rfl
  · rintro k s hk rfl
    have hT := hb.2.2.2 _ (List.getElem_mem hk)
    have h2 := zcs n m k
    simp (maxSteps := 2000000) (disch := first | omega | (simp only [lenS]; try omega)) only [go_sem, reduceAdd, reduceEqDiff, reduceLeDiff, reduceSub, wg6 _ m (zj2 hT hm).1 (by have := (zj1 hT (by omega)).1; omega)]
    refine ⟨fun h => ?_, fun h => ?_⟩
    · rw [zct hk h, List.map_append]; simp
    · rw [zcr hk h]; rfl
  · rintro s rfl
    simp (maxSteps := 2000000) (disch := first | omega | (simp only [lenS]; try omega)) only [go_sem, reduceAdd, reduceEqDiff, reduceLeDiff, reduceSub]
    rfl
theorem wf7 (n : Net) (m : List Int) (hn : smN n) (hm : m.length < 2^62) : C w8o [encN n, ints m] [] = some (.tup [.un t_int true 1 ((if zrn n m then enabL n m else []).map I), .bool (zrn n m)], []) := by
  refine w1k ?_
  simp (maxSteps := 2000000) (disch := first | omega | (simp only [lenS]; try omega)) only [wcq, go_sem, reduceAdd, reduceEqDiff, reduceLeDiff, reduceSub]
  simp (maxSteps := 2000000) (disch := first | omega | (simp only [lenS]; try omega)) only [go_sem, reduceAdd, reduceEqDiff, reduceLeDiff, reduceSub, wg9 n m hn hm]
  refine ⟨fun h => ?_, fun h => by simp [h]⟩
  obtain ⟨h1, h2⟩ := zro h
  simp (maxSteps := 2000000) (disch := first | omega | (simp only [lenS]; try omega)) only [go_sem, reduceAdd, reduceEqDiff, reduceLeDiff, reduceSub, wg7 n m h1 (zim h2).2.2.1, h]
theorem wg8 (t : Tr) (m : List Int) (h1 : ∀ q ∈ t.inn, 0 ≤ q ∧ q.toNat < m.length) (h2 : ∀ q ∈ t.out, 0 ≤ q ∧ q.toNat < m.length) (h3 : ∀ q ∈ t.rst, 0 ≤ q ∧ q.toNat < m.length) (hl : smT t) (hm : m.length < 2^30) (hb : ∀ x ∈ m, 0 ≤ x ∧ x ≤ 50) :
    C w9m [encT t, ints m] [] = some (.un t_int true 1 ((zg1 t m).map I), []) := by
  obtain ⟨g1, g2, g3⟩ := hl
  refine w24 ?_
  simp (maxSteps := 2000000) (disch := first | omega | (simp only [lenS]; try omega)) only [wdo, go_sem, reduceAdd, reduceEqDiff, reduceLeDiff, reduceSub]
  simp (maxSteps := 2000000) (disch := first | omega | (simp only [lenS]; try omega)) only [go_sem, reduceAdd, reduceEqDiff, reduceLeDiff, reduceSub, wfz m (by omega)]
  refine W_for t.inn.length (fun k s => s = ⟨[.any, .any, .ptr 0 0, .any, .ref 1 1 0 m.length, .any, .any, .any, ints t.inn, I t.inn.length, I k, .any, .any, .any, .any, .any, .any, .any, .any, .any], [.box wgo [ints t.inn, ints t.out, ints t.rst], .row t_int true 1 ((decL m (t.inn.take k)).map I)]⟩) ?_ ?_ ?_
  · simp (maxSteps := 2000000) (disch := first | omega | (simp only [lenS]; try omega)) only [go_sem, reduceAdd, reduceEqDiff, reduceLeDiff, reduceSub]
    rfl
  · rintro k s hk rfl
    obtain ⟨h4, h5⟩ := h1 _ (List.getElem_mem hk)
    have h6 := zbu m (t.inn.take k)
    have h7 := z4k (p := t.inn[k]) (zbt (l := t.inn.take k) hb (fun p hp => (h1 p (List.mem_of_mem_take hp)).2)) (by omega)
    have h8 : (t.inn.take k).length = k := by simp; omega
    simp (maxSteps := 2000000) (disch := first | omega | (simp only [lenS]; try omega)) only [go_sem, reduceAdd, reduceEqDiff, reduceLeDiff, reduceSub, at_eq]
    rw [zbv hk]; rfl
  · rintro s rfl
    simp (maxSteps := 2000000) (disch := first | omega | (simp only [lenS]; try omega)) only [go_sem, reduceAdd, reduceEqDiff, reduceLeDiff, reduceSub, List.take_length]
    have b1 := zbt (l := t.inn) hb (fun p hp => (h1 p hp).2)
    have l1 := zbu m t.inn
    generalize e1 : decL m t.inn = m1 at b1 l1 ⊢
    refine W_for t.rst.length (fun k s => s = ⟨[.any, .any, .ptr 0 0, .any, .ref 1 1 0 m.length, .any, .any, .any, .any, .any, .any, .any, ints t.rst, I t.rst.length, I k, .any, .any, .any, .any, .any], [.box wgo [ints t.inn, ints t.out, ints t.rst], .row t_int true 1 ((zerL m1 (t.rst.take k)).map I)]⟩) ?_ ?_ ?_
    · simp (maxSteps := 2000000) (disch := first | omega | (simp only [lenS]; try omega)) only [go_sem, reduceAdd, reduceEqDiff, reduceLeDiff, reduceSub]
      rfl
    · rintro k s hk rfl
      obtain ⟨h4, h5⟩ := h3 _ (List.getElem_mem hk)
      have h6 := z1gn m1 (t.rst.take k)
      simp (maxSteps := 2000000) (disch := first | omega | (simp only [lenS]; try omega)) only [go_sem, reduceAdd, reduceEqDiff, reduceLeDiff, reduceSub]
      rw [z1go hk]; rfl
    · rintro s rfl
      simp (maxSteps := 2000000) (disch := first | omega | (simp only [lenS]; try omega)) only [go_sem, reduceAdd, reduceEqDiff, reduceLeDiff, reduceSub, List.take_length]
      have b2 := z1gm (l := t.rst) b1 (by omega)
      have l2 := z1gn m1 t.rst
      generalize e2 : zerL m1 t.rst = m2 at b2 l2 ⊢
      refine W_for t.out.length (fun k s => s = ⟨[.any, .any, .any, .any, .ref 0 1 0 m.length, .any, .any, .any, .any, .any, .any, .any, .any, .any, .any, .any, ints t.out, I t.out.length, I k, .any], [.row t_int true 1 ((incL m2 (t.out.take k)).map I)]⟩) ?_ ?_ ?_
      · simp (maxSteps := 2000000) (disch := first | omega | (simp only [lenS]; try omega)) only [go_sem, reduceAdd, reduceEqDiff, reduceLeDiff, reduceSub]
        rfl
      · rintro k s hk rfl
        obtain ⟨h4, h5⟩ := h2 _ (List.getElem_mem hk)
        have h6 := zlz m2 (t.out.take k)
        have h7 := z4k (p := t.out[k]) (zly (l := t.out.take k) b2 (fun p hp => by have := (h2 p (List.mem_of_mem_take hp)).2; omega)) (by omega)
        have h8 : (t.out.take k).length = k := by simp; omega
        simp (maxSteps := 2000000) (disch := first | omega | (simp only [lenS]; try omega)) only [go_sem, reduceAdd, reduceEqDiff, reduceLeDiff, reduceSub, at_eq]
        rw [zm0 hk]; rfl
      · rintro s rfl
        have h6 := zlz m2 t.out
        simp (maxSteps := 2000000) (disch := first | omega | (simp only [lenS]; try omega)) only [go_sem, reduceAdd, reduceEqDiff, reduceLeDiff, reduceSub, List.take_length]
        subst e2 e1; rfl
theorem wf8 (n : Net) (m : List Int) (t : Int) (hn : smN n) (hm : m.length < 2^62) : C w8p [encN n, ints m, I t] [] = some (.tup [.un t_int true 1 ((if zvg n m t then zg1 (trAt n t) m else []).map I), .bool (zvg n m t)], []) := by
  have h0 := hn.1
  refine w1l ?_
  simp (maxSteps := 2000000) (disch := first | omega | (simp only [lenS]; try omega)) only [wcr, go_sem, reduceAdd, reduceEqDiff, reduceLeDiff, reduceSub]
  simp (maxSteps := 2000000) (disch := first | omega | (simp only [lenS]; try omega)) only [go_sem, reduceAdd, reduceEqDiff, reduceLeDiff, reduceSub, wg9 n m hn hm, wfw]
  refine ⟨fun h1 => ⟨fun h2 => ?_, fun h2 => by simp [zvg, canN, h2]⟩, fun h1 => by simp [zvg, canN, h1]⟩
  obtain ⟨h3, h4⟩ := zro h1
  have h6 : 0 ≤ t ∧ t.toNat < n.tr.length := by simp [inB] at h2; omega
  have h8 := (ziv h3).2.2.2 _ (List.getElem_mem h6.2)
  rw [z1ed h6.2] at h8
  have hx := zj2 h8 (zim h4).2.2.1
  have hy := zj1 h8 (by have := ziv h3; omega)
  have hm := (zim h4).2.2
  have hz := zg3 (trAt n t) m
  simp (maxSteps := 2000000) (disch := first | omega | (simp only [lenS]; try omega)) only [go_sem, reduceAdd, reduceEqDiff, reduceLeDiff, reduceSub, z1ed, wg6 (trAt n t) m hx.1 (by omega)]
  refine ⟨fun h7 => ?_, fun h7 => by simp [zvg, canN, h7]⟩
  have hg : goodM n.pl (zg1 (trAt n t) m) = zvg n m t := by
    have h9 : inB 1 16 n.pl = true := by have := ziv h3; simp [inB]; omega
    have h10 : (((zg1 (trAt n t) m).length : Int) == n.pl) = true := by simp [hz]; omega
    simp only [goodM, zvg, canN, h1, h2, h7, h9, h10, Bool.true_and, Bool.and_self]
  simp (maxSteps := 2000000) (disch := first | omega | (simp only [lenS]; try omega)) only [go_sem, reduceAdd, reduceEqDiff, reduceLeDiff, reduceSub, z1ed, wg8 (trAt n t) m hx.1 hx.2.1 hx.2.2 ⟨by omega, by omega, by omega⟩ (by omega) hm.2.2, wfa n.pl (zg1 (trAt n t) m) (by omega), hg]
  refine ⟨fun h => by simp [h], fun h => by simp [h]⟩
theorem wfm (n : Net) (m : List Int) (hn : smNet n) (hm : m.length ≤ 20) (bs : List Int) (at_ sd : Int) (h0 : 0 ≤ at_) (h1 : at_ < 2^58) (hl : bs.length < 2^62) (hb : ∀ x ∈ bs, 0 ≤ x ∧ x < 256) :
    Lw (C w93 [.ptr 0 0, .agg [I n.pl, .ref 1 3 0 n.tr.length], .ref 2 1 0 m.length] [.box wgr [bys bs, I at_, .int .u64 sd], .row wgo false 3 (n.tr.map encT), .row t_int true 1 (m.map I)]) fun r => ∃ (l : List Int) (at' sd' : Int), r = (.un t_int true 1 (l.map I), [.box wgr [bys bs, I at', .int .u64 sd'], .row wgo false 3 (n.tr.map encT), .row t_int true 1 (m.map I)]) ∧ at_ ≤ at' ∧ at' ≤ at_ + 200 ∧ l.length ≤ 20 := by
  have hsn := hn.smN
  have eo := wfz m (by omega)
  obtain ⟨_, e1, x1, a1, s1, rfl, h3, h4, h5, h6⟩ := wfq 6 bs at_ sd h0 (by omega) hl hb
  obtain ⟨K, rfl⟩ : ∃ K : Nat, x1 = K := ⟨x1.toNat, by omega⟩
  refine w2u ?_
  simp (maxSteps := 2000000) (disch := first | omega | (simp only [lenS]; try omega)) only [wd5, go_sem, reduceAdd, reduceEqDiff, reduceLeDiff, reduceSub]
  simp (maxSteps := 2000000) (disch := first | omega | (simp only [lenS]; try omega)) only [go_sem, reduceAdd, reduceEqDiff, reduceLeDiff, reduceSub, eo, e1]
  refine z1a (fun k s => ∃ (M : List Int) (a sd : Int), s = ⟨[.ptr 0 0, .any, .any, .ptr 3 0, .any, .ref 4 1 0 M.length, I k, .any, .any, .any, .any, .any, .any, .any, .any], [.box wgr [bys bs, I a, .int .u64 sd], .row wgo false 3 (n.tr.map encT), .row t_int true 1 (m.map I), .box wgm [I n.pl, .ref 1 3 0 n.tr.length], .row t_int true 1 (M.map I)]⟩ ∧ M.length ≤ 20 ∧ a1 ≤ a ∧ a + 2 * k ≤ a1 + 12) K ?_ ?_
  · refine ⟨m, a1, s1, ?_, hm, by omega, by omega⟩
    simp (maxSteps := 2000000) (disch := first | omega | (simp only [lenS]; try omega)) only [go_sem, reduceAdd, reduceEqDiff, reduceLeDiff, reduceSub]
    first | done | rfl
  · rintro k s ⟨M, a, sd, rfl, hM, ha1, ha2⟩
    by_cases h0 : 0 < k
    · have en := wf7 n M hsn (by omega)
      have hEl : (enabL n M).length ≤ n.tr.length := zcs ..
      have hn30 := hn.1
      cases hmk : zrn n M with
      | false =>
        simp only [hmk, Bool.false_eq_true, if_false] at en
        simp (maxSteps := 2000000) (disch := first | omega | (simp only [lenS]; try omega)) only [go_sem, reduceAdd, reduceEqDiff, reduceLeDiff, reduceSub, en]
        exact ⟨k - 1, by omega, M, a, sd, by rw [show ((k - 1 : Nat) : Int) = k - 1 by omega], hM, by omega, by omega⟩
      | true =>
        simp only [hmk, if_true] at en
        have fr := fun t => wf8 n M t hsn (by omega)
        generalize enabL n M = E at *
        obtain ⟨_, e2, x2, a2, s2, rfl, g3, g4, g5, g6⟩ := wfq E.length bs a sd (by omega) (by omega) hl hb
        by_cases hE : 0 < E.length
        · have hx2 : x2.toNat < E.length := by omega
          obtain ⟨q, rfl⟩ : ∃ q : Nat, x2 = q := ⟨x2.toNat, by omega⟩
          rw [Int.toNat_natCast] at hx2
          have fr2 := fr E[q]
          have hfl := zg3 (trAt n E[q]) M
          have e3 : E[q]? = some E[q] := List.getElem?_eq_getElem hx2
          generalize E[q] = t at *
          cases hfo : zvg n M t with
          | true =>
            simp only [hfo, if_true] at fr2
            simp (maxSteps := 2000000) (disch := first | omega | (simp only [lenS]; try omega)) only [go_sem, reduceAdd, reduceEqDiff, reduceLeDiff, reduceSub, en, e2, e3, fr2]
            exact ⟨k - 1, by omega, zg1 (trAt n t) M, a2, s2, by rw [show ((k - 1 : Nat) : Int) = k - 1 by omega], by omega, by omega, by omega⟩
          | false =>
            simp only [hfo, Bool.false_eq_true, if_false] at fr2
            simp (maxSteps := 2000000) (disch := first | omega | (simp only [lenS]; try omega)) only [go_sem, reduceAdd, reduceEqDiff, reduceLeDiff, reduceSub, en, e2, e3, fr2]
            exact ⟨k - 1, by omega, M, a2, s2, by rw [show ((k - 1 : Nat) : Int) = k - 1 by omega], hM, by omega, by omega⟩
        · simp (maxSteps := 2000000) (disch := first | omega | (simp only [lenS]; try omega)) only [go_sem, reduceAdd, reduceEqDiff, reduceLeDiff, reduceSub, en, e2, hE]
          exact ⟨k - 1, by omega, M, a, sd, by rw [show ((k - 1 : Nat) : Int) = k - 1 by omega], hM, by omega, by omega⟩
    · have : k = 0 := by omega
      subst this
      obtain ⟨_, e2, x2, a2, s2, rfl, g3, g4⟩ := wfp 4 bs a sd (by omega) (by omega) hl hb
      obtain ⟨_, e3, l3, a3, s3, rfl, g5, g6, g7, g8⟩ := wfl n hn.2.1 bs a2 s2 (by omega) (by omega) hl hb
      simp (maxSteps := 2000000) (disch := first | omega | (simp only [lenS]; try omega)) only [go_sem, reduceAdd, reduceEqDiff, reduceLeDiff, reduceSub, e2, e3]
      exact ⟨fun _ => ⟨l3, a3, s3, rfl, by omega, by omega, g7⟩, fun _ => ⟨M, a2, s2, rfl, by omega, by omega, hM⟩⟩
theorem wfi (bs : List Int) (at_ sd : Int) (h0 : 0 ≤ at_) (h1 : at_ < 2^60) (hl : bs.length < 2^62) (hb : ∀ x ∈ bs, 0 ≤ x ∧ x < 256) :
    Lw (C w8z [.ptr 0 0] [.box wgr [bys bs, I at_, .int .u64 sd]]) fun r => ∃ (x at' sd' : Int), r = (I x, [.box wgr [bys bs, I at', .int .u64 sd']]) ∧ at_ ≤ at' ∧ at' ≤ at_ + 2 ∧ 0 ≤ x ∧ x ≤ 61 := by
  obtain ⟨_, e3, x3, a3, s3, rfl, h11, h12, h13⟩ := wfh [1, 4, 20, 60, 60, 60, 61, 0] t_int (by decide) (by decide) bs at_ sd h0 (by omega) hl hb
  simp only [go_sem, Nat.reduceAdd] at e3
  refine w2q ?_
  simp (maxSteps := 2000000) (disch := first | omega | (simp only [lenS]; try omega)) only [wd1, go_sem, reduceAdd, reduceEqDiff, reduceLeDiff, reduceSub]
  simp (maxSteps := 2000000) (disch := first | omega | (simp only [lenS]; try omega)) only [go_sem, reduceAdd, reduceEqDiff, reduceLeDiff, reduceSub, e3]
  simp only [List.mem_cons, List.not_mem_nil, or_false] at h13
  exact ⟨_, _, _, rfl, h11, h12, by omega, by omega⟩
theorem wf6 (bs : List Int) (hl : bs.length < 2^62) (hb : ∀ x ∈ bs, 0 ≤ x ∧ x < 256) :
    Lw (C w8n [bys bs] []) fun r => ∃ (n : Net) (m : List Int) (k : List Int) (b : Int), r = (.tup [.agg [I n.pl, .un wgo false 3 (n.tr.map encT)], .un t_int true 1 (m.map I), .un t_int true 1 (k.map I), I b], []) ∧ smNet n ∧ m.length ≤ 20 ∧ k.length ≤ 20 ∧ 0 ≤ b ∧ b ≤ 61 := by
  obtain ⟨_, e1, n, m, a1, s1, rfl, h3, h4, h5, h6⟩ := wft bs 0 0 (by omega) (by omega) hl hb
  obtain ⟨_, e3, k, a3, s3, rfl, g5, g6, g7⟩ := wfm n m h5 h6 bs a1 s1 (by omega) (by omega) hl hb
  obtain ⟨_, e2, x2, a2, s2, rfl, g1, g2, g3, g4⟩ := wfi bs a3 s3 (by omega) (by omega) hl hb
  refine w2o ?_
  simp (maxSteps := 2000000) (disch := first | omega | (simp only [lenS]; try omega)) only [wcp, go_sem, reduceAdd, reduceEqDiff, reduceLeDiff, reduceSub]
  simp (maxSteps := 2000000) (disch := first | omega | (simp only [lenS]; try omega)) only [go_sem, reduceAdd, reduceEqDiff, reduceLeDiff, reduceSub, e1, e2, e3]
  first | exact ⟨n, m, k, x2, rfl, h5, h6, g7, g3, g4⟩ | exact ⟨rfl, n, m, k, x2, rfl, h5, h6, g7, g3, g4⟩
theorem wan (n lo hi : Int) : C w7i [I n, I lo, I hi] [] = some (.bool (inB lo hi n), []) := by
  refine w0t ?_
  simp (maxSteps := 2000000) (disch := first | omega | (simp only [lenS]; try omega)) only [wbm, go_sem, reduceAdd, reduceEqDiff, reduceLeDiff, reduceSub]
  unfold inB; grind
theorem wah (l : List Int) (hl : l.length < 2^62) : C w7c [ints l] [] = some (.bool (incr l), []) := by
  refine w0n ?_
  simp (maxSteps := 2000000) (disch := first | omega | (simp only [lenS]; try omega)) only [wbg, go_sem, reduceAdd, reduceEqDiff, reduceLeDiff, reduceSub]
  refine W_for (l.length - 1) (fun k s => s = ⟨[ints l, .any, I (k + 1 : Int), .any, .any], []⟩ ∧ (l.take (k + 1)).Pairwise (· < ·)) ?_ ?_ ?_
  · simp (maxSteps := 2000000) (disch := first | omega | (simp only [lenS]; try omega)) only [go_sem, reduceAdd, reduceEqDiff, reduceLeDiff, reduceSub]
    exact ⟨rfl, zm5⟩
  · rintro k s hk ⟨rfl, hp⟩
    simp (maxSteps := 2000000) (disch := first | omega | (simp only [lenS]; try omega)) only [go_sem, reduceAdd, reduceEqDiff, reduceLeDiff, reduceSub]
    have e1 : ((k : Int) + 1).toNat = k + 1 := by omega
    have e2 : ((k : Int) + 1 - 1).toNat = k := by omega
    simp only [e1, e2]
    refine ⟨fun h => by rw [zm4 (k := k) (by omega) (by omega)], fun h => ⟨rfl, zm7 (by omega) hp h⟩⟩
  · rintro s ⟨rfl, hp⟩
    simp (maxSteps := 2000000) (disch := first | omega | (simp only [lenS]; try omega)) only [go_sem, reduceAdd, reduceEqDiff, reduceLeDiff, reduceSub]
    rw [z1dw (by omega)] at hp
    rw [show incr l = true by simpa [incr] using hp]
theorem wa8 (l : List Int) (lo hi : Int) (hl : l.length < 2^62) : C w73 [ints l, I lo, I hi] [] = some (.bool (l.all (inB lo hi)), []) := by
  refine w0e ?_
  simp (maxSteps := 2000000) (disch := first | omega | (simp only [lenS]; try omega)) only [wb7, go_sem, reduceAdd, reduceEqDiff, reduceLeDiff, reduceSub]
  refine W_for l.length (fun k s => s = ⟨[.any, I lo, I hi, .any, .any, ints l, I l.length, I k, .any, .any], []⟩ ∧ (l.take k).all (inB lo hi) = true) ?_ ?_ ?_
  · simp (maxSteps := 2000000) (disch := first | omega | (simp only [lenS]; try omega)) only [go_sem, reduceAdd, reduceEqDiff, reduceLeDiff, reduceSub]
    rfl
  · rintro k s hk ⟨rfl, hall⟩
    simp (maxSteps := 2000000) (disch := first | omega | (simp only [lenS]; try omega)) only [go_sem, reduceAdd, reduceEqDiff, reduceLeDiff, reduceSub, wan]
    exact ⟨fun h => ⟨rfl, z2z hk hall h⟩, fun h => by rw [z2y hk h]⟩
  · rintro s ⟨rfl, hall⟩
    simp (maxSteps := 2000000) (disch := first | omega | (simp only [lenS]; try omega)) only [go_sem, reduceAdd, reduceEqDiff, reduceLeDiff, reduceSub]
    rw [List.take_length] at hall
    rw [hall]
theorem wab (n : Net) (l : List Int) (h : 1 ≤ n.pl ∧ n.pl ≤ 16) (hl : l.length < 2^62) : C w76 [encN n, ints l] [] = some (.bool (z10g n.pl l), []) := by
  refine w0h ?_
  simp (maxSteps := 2000000) (disch := first | omega | (simp only [lenS]; try omega)) only [wba, go_sem, reduceAdd, reduceEqDiff, reduceLeDiff, reduceSub]
  simp (maxSteps := 2000000) (disch := first | omega | (simp only [lenS]; try omega)) only [go_sem, reduceAdd, reduceEqDiff, reduceLeDiff, reduceSub, wah l hl, wa8 l _ _ hl]
  unfold z10g; grind
theorem wa3 (n : Net) (t : Tr) (h : 1 ≤ n.pl ∧ n.pl ≤ 16) (ht : smT t) : C w6z [encT t, .pv (encN n) 0] [] = some (.bool (!goodT n.pl t), []) := by
  obtain ⟨h1, h2, h3⟩ := ht
  refine w0a ?_
  simp (maxSteps := 2000000) (disch := first | omega | (simp only [lenS]; try omega)) only [wb3, go_sem, reduceAdd, reduceEqDiff, reduceLeDiff, reduceSub]
  simp (maxSteps := 2000000) (disch := first | omega | (simp only [lenS]; try omega)) only [go_sem, reduceAdd, reduceEqDiff, reduceLeDiff, reduceSub, wab n _ h]
  refine ⟨fun h6 => by rw [zj4 (by omega)]; rfl, fun h6 => ⟨fun h7 => ⟨fun h8 => ⟨fun h9 => by rw [ziy (by omega) h7 h8 h9]; rfl, fun h9 => by simp [goodT, h9]⟩, fun h8 => by simp [goodT, h8]⟩, fun h7 => by simp [goodT, h7]⟩⟩
theorem weh (l : List Tr) (g : FuncId) (caps : List PV) (hc : refsL caps = []) (hcv : ∀ m h, z1fh [] m h caps = some caps) (p : Tr → Bool) (hp : ∀ x ∈ l, C g (encT x :: caps) [] = some (.bool (p x), [])) (hl : l.length < 2^62) :
    C w80 [trs l, .clo g caps] [] = some (I (idxI l p), []) := by
  refine w17 ?_
  simp (maxSteps := 2000000) (disch := first | omega | (simp only [lenS]; try omega)) only [wc2, go_sem, reduceAdd, reduceEqDiff, reduceLeDiff, reduceSub]
  refine W_for l.length (fun k s => s = ⟨[trs l, .clo g caps, .any, .any, I l.length, I k, .any, .any], []⟩ ∧ (l.take k).any p = false) ?_ ?_ ?_
  · simp (maxSteps := 2000000) (disch := first | omega | (simp only [lenS]; try omega)) only [go_sem, reduceAdd, reduceEqDiff, reduceLeDiff, reduceSub, hc]
    rfl
  · rintro k s hk ⟨rfl, hall⟩
    simp (maxSteps := 2000000) (disch := first | omega | (simp only [lenS]; try omega)) only [go_sem, reduceAdd, reduceEqDiff, reduceLeDiff, reduceSub, hc, hcv, hp _ (List.getElem_mem hk)]
    exact ⟨fun h => by rw [zk1 hk hall h], fun h => ⟨rfl, z3e hk hall h⟩⟩
  · rintro s ⟨rfl, hall⟩
    simp (maxSteps := 2000000) (disch := first | omega | (simp only [lenS]; try omega)) only [go_sem, reduceAdd, reduceEqDiff, reduceLeDiff, reduceSub]
    rw [List.take_length] at hall
    rw [zk0 hall]
theorem web (l : List Tr) (g : FuncId) (caps : List PV) (hc : refsL caps = []) (hcv : ∀ m h, z1fh [] m h caps = some caps) (p : Tr → Bool) (hp : ∀ x ∈ l, C g (encT x :: caps) [] = some (.bool (p x), [])) (hl : l.length < 2^62) :
    C w7u [trs l, .clo g caps] [] = some (.bool (l.any p), []) := by
  refine w11 ?_
  simp (maxSteps := 2000000) (disch := first | omega | (simp only [lenS]; try omega)) only [wbw, go_sem, reduceAdd, reduceEqDiff, reduceLeDiff, reduceSub]
  simp (maxSteps := 2000000) (disch := first | omega | (simp only [lenS]; try omega)) only [go_sem, reduceAdd, reduceEqDiff, reduceLeDiff, reduceSub, hc, hcv, weh l g caps hc hcv p hp hl]
  have := zjx l p
  grind
theorem wa4 (n : Net) (hn : smN n) : C w6y [encN n] [] = some (.bool (goodN n), []) := by
  have h0 := hn.1
  refine w09 ?_
  simp (maxSteps := 2000000) (disch := first | omega | (simp only [lenS]; try omega)) only [wb2, go_sem, reduceAdd, reduceEqDiff, reduceLeDiff, reduceSub]
  simp (maxSteps := 2000000) (disch := first | omega | (simp only [lenS]; try omega)) only [go_sem, reduceAdd, reduceEqDiff, reduceLeDiff, reduceSub, wan]
  refine ⟨fun h => ⟨fun h2 => ?_, fun h2 => ?_⟩, fun h => by simp [goodN, h]⟩
  · have hb : 1 ≤ n.pl ∧ n.pl ≤ 16 := by simpa [inB] using h
    have h3 := web n.tr w6z [.pv (encN n) 0] rfl (fun _ _ => rfl) (fun t => !goodT n.pl t) (fun x hx => wa3 n x hb (hn.2 x hx)) (by omega)
    simp (maxSteps := 2000000) (disch := first | omega | (simp only [lenS]; try omega)) only [go_sem, reduceAdd, reduceEqDiff, reduceLeDiff, reduceSub, h3]
    have : (n.tr.any fun t => !goodT n.pl t) = !n.tr.all (goodT n.pl) := by rw [List.any_eq_not_all_not]; simp
    have h4 : n.tr.length ≤ 24 := by omega
    simp only [this]
    simp [goodN, h, h4]
  · have : ¬ n.tr.length ≤ 24 := by omega
    simp [goodN, this]
theorem wa2 (p : Int) (m : List Int) (hl : m.length < 2^62) : C w6x [I p, ints m] [] = some (.bool (goodM p m), []) := by
  refine w08 ?_
  simp (maxSteps := 2000000) (disch := first | omega | (simp only [lenS]; try omega)) only [wb1, go_sem, reduceAdd, reduceEqDiff, reduceLeDiff, reduceSub]
  simp (maxSteps := 2000000) (disch := first | omega | (simp only [lenS]; try omega)) only [go_sem, reduceAdd, reduceEqDiff, reduceLeDiff, reduceSub, wan, wa8 m _ _ hl]
  unfold goodM; grind
theorem wak (n : Net) (m : List Int) (hn : smN n) (hm : m.length < 2^62) : C w7f [encN n, ints m] [] = some (.bool (zrn n m), []) := by
  refine w0q ?_
  simp (maxSteps := 2000000) (disch := first | omega | (simp only [lenS]; try omega)) only [wbj, go_sem, reduceAdd, reduceEqDiff, reduceLeDiff, reduceSub]
  simp (maxSteps := 2000000) (disch := first | omega | (simp only [lenS]; try omega)) only [go_sem, reduceAdd, reduceEqDiff, reduceLeDiff, reduceSub, wa4 n hn, wa2 n.pl m hm]
  unfold zrn; grind
theorem wek (l : List Int) (x : Int) (hl : l.length < 2^62) : C w83 [ints l, I x] [] = some (I (idxI l (fun y => y == x)), []) := by
  refine w1a ?_
  simp (maxSteps := 2000000) (disch := first | omega | (simp only [lenS]; try omega)) only [wc5, go_sem, reduceAdd, reduceEqDiff, reduceLeDiff, reduceSub]
  refine W_for l.length (fun k s => s = ⟨[ints l, I x, .any, .any, I l.length, I k, .any, .any], []⟩ ∧ (l.take k).any (fun y => y == x) = false) ?_ ?_ ?_
  · simp (maxSteps := 2000000) (disch := first | omega | (simp only [lenS]; try omega)) only [go_sem, reduceAdd, reduceEqDiff, reduceLeDiff, reduceSub]
    rfl
  · rintro k s hk ⟨rfl, hall⟩
    simp (maxSteps := 2000000) (disch := first | omega | (simp only [lenS]; try omega)) only [go_sem, reduceAdd, reduceEqDiff, reduceLeDiff, reduceSub]
    refine ⟨fun h => ?_, fun h => ⟨rfl, z3e hk hall (by simpa using fun e => h e.symm)⟩⟩
    rw [zk1 hk hall (by simpa using h.symm)]
  · rintro s ⟨rfl, hall⟩
    simp (maxSteps := 2000000) (disch := first | omega | (simp only [lenS]; try omega)) only [go_sem, reduceAdd, reduceEqDiff, reduceLeDiff, reduceSub]
    rw [List.take_length] at hall
    rw [zk0 hall]
theorem wee (l : List Int) (x : Int) (hl : l.length < 2^62) : C w7x [ints l, I x] [] = some (.bool (hasB l x), []) := by
  refine w14 ?_
  simp (maxSteps := 2000000) (disch := first | omega | (simp only [lenS]; try omega)) only [wbz, go_sem, reduceAdd, reduceEqDiff, reduceLeDiff, reduceSub]
  simp (maxSteps := 2000000) (disch := first | omega | (simp only [lenS]; try omega)) only [go_sem, reduceAdd, reduceEqDiff, reduceLeDiff, reduceSub, wek l x hl]
  have := zjx l (fun y => y == x)
  rw [zjj, this]
  exact ⟨fun h => by simp [h], fun h => by rw [decide_eq_false (by omega)]⟩
theorem wam (t : Tr) (m : List Int) (ht : smT t) (hm : m.length < 2^30) (hb : ∀ x ∈ m, 0 ≤ x ∧ x ≤ 50) : C w7h [encT t, ints m] [] = some (.tup [.un t_int true 1 ((if okB t m then backM t m else []).map I), .bool (okB t m)], []) := by
  obtain ⟨g1, g2, g3⟩ := ht
  refine w0s ?_
  simp (maxSteps := 2000000) (disch := first | omega | (simp only [lenS]; try omega)) only [wbl, go_sem, reduceAdd, reduceEqDiff, reduceLeDiff, reduceSub]
  refine W_for m.length (fun k s => s = ⟨[.any, .any, .ptr 0 0, .any, .any, .ref 1 1 0 m.length, .any, .any, ints m, I m.length, I k, .any, .any, .any, .any], [.box wgo [ints t.inn, ints t.out, ints t.rst], .row t_int true 1 (((backM t m).take k ++ List.replicate (m.length - k) 0).map I)]⟩ ∧ ∀ j, j < k → z1cp t m j = false) ?_ ?_ ?_
  · refine ⟨?_, fun j hj => by omega⟩
    simp (maxSteps := 2000000) (disch := first | omega | (simp only [lenS]; try omega)) only [go_sem, reduceAdd, reduceEqDiff, reduceLeDiff, reduceSub]
    simp
  · rintro k s hk ⟨rfl, hall⟩
    have hbl := z54 t m
    have hx := hb _ (List.getElem_mem hk)
    have eb : (backM t m)[k]? = some (backX t m k) := by simp [backM, backK, List.getElem?_map, List.getElem?_range, hk]
    have ea : at_ m k = m[k] := by rw [← at_eq (by simpa using hk)]; simp
    have nx : z1cp t m k = false → ∀ j, j < k + 1 → z1cp t m j = false := fun h j hj => by
      by_cases hjk : j < k
      · exact hall j hjk
      · have : j = k := by omega
        subst this; exact h
    have st : ∀ o r, hasB t.out k = o → hasB t.rst k = r → z1cp t m k = (r && decide (0 < m[k] - one o)) := by
      rintro _ _ rfl rfl; simp only [z1cp, ea]
    simp (maxSteps := 2000000) (disch := first | omega | (simp only [lenS]; try omega)) only [go_sem, reduceAdd, reduceEqDiff, reduceLeDiff, reduceSub, wee, List.getElem_set_self, List.set_set]
    exact ⟨fun ho => ⟨fun hr => ⟨fun hp => by rw [zur hk (by rw [st _ _ ho hr]; simp only [one, if_true, if_false, Bool.false_eq_true, Bool.true_and, decide_eq_true_eq]; omega)]; simp, fun hp => ⟨fun hi => ⟨by rw [zfh (backM t m) 0 m.length k hbl hk _ (by rw [eb]; congr 1; simp only [backX, one, ho, hi, ea, if_true, if_false, Bool.false_eq_true] <;> omega)]; rfl, nx (by rw [st _ _ ho hr]; first | rfl | (simp only [one, if_true, if_false, Bool.false_eq_true, Bool.true_and, decide_eq_false_iff_not]; omega))⟩, fun hi => ⟨by rw [zfh (backM t m) 0 m.length k hbl hk _ (by rw [eb]; congr 1; simp only [backX, one, ho, hi, ea, if_true, if_false, Bool.false_eq_true] <;> omega)]; rfl, nx (by rw [st _ _ ho hr]; first | rfl | (simp only [one, if_true, if_false, Bool.false_eq_true, Bool.true_and, decide_eq_false_iff_not]; omega))⟩⟩⟩, fun hr => ⟨fun hi => ⟨by rw [zfh (backM t m) 0 m.length k hbl hk _ (by rw [eb]; congr 1; simp only [backX, one, ho, hi, ea, if_true, if_false, Bool.false_eq_true] <;> omega)]; rfl, nx (by rw [st _ _ ho hr]; first | rfl | (simp only [one, if_true, if_false, Bool.false_eq_true, Bool.true_and, decide_eq_false_iff_not]; omega))⟩, fun hi => ⟨by rw [zfh (backM t m) 0 m.length k hbl hk _ (by rw [eb]; congr 1; simp only [backX, one, ho, hi, ea, if_true, if_false, Bool.false_eq_true] <;> omega)]; rfl, nx (by rw [st _ _ ho hr]; first | rfl | (simp only [one, if_true, if_false, Bool.false_eq_true, Bool.true_and, decide_eq_false_iff_not]; omega))⟩⟩⟩, fun ho => ⟨fun hr => ⟨fun hp => by rw [zur hk (by rw [st _ _ ho hr]; simp only [one, if_true, if_false, Bool.false_eq_true, Bool.true_and, decide_eq_true_eq]; omega)]; simp, fun hp => ⟨fun hi => ⟨by rw [zfh (backM t m) 0 m.length k hbl hk _ (by rw [eb]; congr 1; simp only [backX, one, ho, hi, ea, if_true, if_false, Bool.false_eq_true] <;> omega)]; rfl, nx (by rw [st _ _ ho hr]; first | rfl | (simp only [one, if_true, if_false, Bool.false_eq_true, Bool.true_and, decide_eq_false_iff_not]; omega))⟩, fun hi => ⟨by rw [zfh (backM t m) 0 m.length k hbl hk _ (by rw [eb]; congr 1; simp only [backX, one, ho, hi, ea, if_true, if_false, Bool.false_eq_true] <;> omega)]; rfl, nx (by rw [st _ _ ho hr]; first | rfl | (simp only [one, if_true, if_false, Bool.false_eq_true, Bool.true_and, decide_eq_false_iff_not]; omega))⟩⟩⟩, fun hr => ⟨fun hi => ⟨by rw [zfh (backM t m) 0 m.length k hbl hk _ (by rw [eb]; congr 1; simp only [backX, one, ho, hi, ea, if_true, if_false, Bool.false_eq_true] <;> omega)]; rfl, nx (by rw [st _ _ ho hr]; first | rfl | (simp only [one, if_true, if_false, Bool.false_eq_true, Bool.true_and, decide_eq_false_iff_not]; omega))⟩, fun hi => ⟨by rw [zfh (backM t m) 0 m.length k hbl hk _ (by rw [eb]; congr 1; simp only [backX, one, ho, hi, ea, if_true, if_false, Bool.false_eq_true] <;> omega)]; rfl, nx (by rw [st _ _ ho hr]; first | rfl | (simp only [one, if_true, if_false, Bool.false_eq_true, Bool.true_and, decide_eq_false_iff_not]; omega))⟩⟩⟩⟩
  · rintro s ⟨rfl, hall⟩
    have hok : okB t m = true := zus hall
    have hbl := z54 t m
    rw [List.take_of_length_le (by omega)]
    simp (maxSteps := 2000000) (disch := first | omega | (simp only [lenS]; try omega)) only [go_sem, reduceAdd, reduceEqDiff, reduceLeDiff, reduceSub, hok, List.replicate_zero]
theorem we1 : ∀ k : Fin 256, (⟨#[0, 1, 2, 2, 3, 3, 3, 3, 4, 4, 4, 4, 4, 4, 4, 4, 5, 5, 5, 5, 5, 5, 5, 5, 5, 5, 5, 5, 5, 5, 5, 5, 6, 6, 6, 6, 6, 6, 6, 6, 6, 6, 6, 6, 6, 6, 6, 6, 6, 6, 6, 6, 6, 6, 6, 6, 6, 6, 6, 6, 6, 6, 6, 6, 7, 7, 7, 7, 7, 7, 7, 7, 7, 7, 7, 7, 7, 7, 7, 7, 7, 7, 7, 7, 7, 7, 7, 7, 7, 7, 7, 7, 7, 7, 7, 7, 7, 7, 7, 7, 7, 7, 7, 7, 7, 7, 7, 7, 7, 7, 7, 7, 7, 7, 7, 7, 7, 7, 7, 7, 7, 7, 7, 7, 7, 7, 7, 7, 8, 8, 8, 8, 8, 8, 8, 8, 8, 8, 8, 8, 8, 8, 8, 8, 8, 8, 8, 8, 8, 8, 8, 8, 8, 8, 8, 8, 8, 8, 8, 8, 8, 8, 8, 8, 8, 8, 8, 8, 8, 8, 8, 8, 8, 8, 8, 8, 8, 8, 8, 8, 8, 8, 8, 8, 8, 8, 8, 8, 8, 8, 8, 8, 8, 8, 8, 8, 8, 8, 8, 8, 8, 8, 8, 8, 8, 8, 8, 8, 8, 8, 8, 8, 8, 8, 8, 8, 8, 8, 8, 8, 8, 8, 8, 8, 8, 8, 8, 8, 8, 8, 8, 8, 8, 8, 8, 8, 8, 8, 8, 8, 8, 8, 8, 8, 8, 8, 8, 8, 8, 8, 8, 8, 8, 8, 8, 8]⟩ : ByteArray)[k.val]? = some (UInt8.ofNat (Sort.bitsLen k.val)) := by decide +kernel
theorem we2 : ∀ k : Fin 256, (UInt8.ofNat (Sort.bitsLen k.val)).toNat = Sort.bitsLen k.val ∧ Sort.bitsLen k.val ≤ 8 := by decide +kernel
theorem we3 (n : Nat) (hn : n < 65536) : C w7p [.int .u64 n] [] = some (I (Sort.bitsLen n), []) := by
  refine w0z ?_
  simp (maxSteps := 2000000) (disch := first | omega | (simp only [lenS]; try omega)) only [wbt, go_sem, reduceAdd, reduceEqDiff, reduceLeDiff, reduceSub]
  by_cases h : (256 : Int) ≤ n
  · have e1 := we1 ⟨n / 256, by omega⟩
    have e2 := we2 ⟨n / 256, by omega⟩
    have e3 := z6r (n := n) (by omega)
    simp only at e1 e2
    have hd : (n : Int) / 2 ^ min (Int.toNat 8) 64 = ((n / 256 : Nat) : Int) := by show (n : Int) / 256 = _; omega
    have e4 : (IntKind.u8.wrap ((n / 256 : Nat) : Int)).toNat = n / 256 := by rw [IntKind.wrap_u8]; omega
    have h2 : ¬ (n : Int) < 256 := by omega
    rw [e3]
    generalize Sort.bitsLen (n / 256) = z at *
    simp (maxSteps := 2000000) (disch := first | omega | (simp only [lenS]; try omega)) only [go_sem, reduceAdd, reduceEqDiff, reduceLeDiff, reduceSub, h, h2, e1, hd, e4, e2.1, false_implies, and_true]
    rw [show ((8 + z : Nat) : Int) = 0 + 8 + (z : Int) by omega]
  · have e1 := we1 ⟨n, by omega⟩
    have e2 := we2 ⟨n, by omega⟩
    simp only at e1 e2
    have e4 : (IntKind.u8.wrap (n : Int)).toNat = n := by rw [IntKind.wrap_u8]; omega
    have h2 : (n : Int) < 256 := by omega
    generalize Sort.bitsLen n = z at *
    simp (maxSteps := 2000000) (disch := first | omega | (simp only [lenS]; try omega)) only [go_sem, reduceAdd, reduceEqDiff, reduceLeDiff, reduceSub, h, h2, e1, e4, e2.1, false_implies, true_and, forall_const]
    rw [show (0 : Int) + (z : Int) = z by omega]
theorem we4 (n : Nat) (hn : n < 65536) : C w7n [.int .u64 n] [] = some (I (Sort.bitsLen n), []) := by
  have h := we3 n hn
  refine w0y ?_
  simp (maxSteps := 2000000) (disch := first | omega | (simp only [lenS]; try omega)) only [wbr, go_sem, reduceAdd, reduceEqDiff, reduceLeDiff, reduceSub]
  simp (maxSteps := 2000000) (disch := first | omega | (simp only [lenS]; try omega)) only [go_sem, reduceAdd, reduceEqDiff, reduceLeDiff, reduceSub, h]
theorem wep {α : Type} [Inhabited α] (g : α → List Int) (cm : α → α → Int) (H : ∀ x y, C w7t [ints (g x), ints (g y)] [] = some (I (cm x y), [])) (t : TypeId) (d : Array α) (a b : Nat) (hab : a ≤ b) (hb : b ≤ d.size) (hs : d.size < 2^40) :
    C w88 [.ref 0 1 0 d.size, I a, I b, .clo w7t []] (.row t false 1 (d.toList.map fun x => ints (g x)) :: []) = some (.tup [], .row t false 1 ((Sort.insertionSort (ltC cm) d a b).toList.map fun x => ints (g x)) :: []) := by
  unfold Sort.insertionSort
  refine w1c ?_
  simp (maxSteps := 2000000) (disch := first | omega | (simp only [lenS]; try omega)) only [wca, go_sem, reduceAdd, reduceEqDiff, reduceLeDiff, reduceSub]
  refine z1a (fun k s => ∃ (i : Nat) (D : Array α), a < i ∧ k = b + 1 - i ∧ i ≤ b + 1 ∧ D.size = d.size ∧ Sort.insOuter (ltC cm) a b i D = Sort.insOuter (ltC cm) a b (a + 1) d ∧ s = ⟨[.ref 0 1 0 d.size, I a, I b, .clo w7t [], I i, .any, .any, .any], .row t false 1 (D.toList.map fun x => ints (g x)) :: []⟩) (b - a) ?_ ?_
  · simp (maxSteps := 2000000) (disch := first | omega | (simp only [lenS]; try omega)) only [go_sem, reduceAdd, reduceEqDiff, reduceLeDiff, reduceSub]
    exact ⟨a + 1, d, by omega, by omega, by omega, rfl, rfl, by simp⟩
  · rintro k s ⟨i, D, h1, rfl, h2, h3, h4, rfl⟩
    simp (maxSteps := 2000000) (disch := first | omega | (simp only [lenS]; try omega)) only [go_sem, reduceAdd, reduceEqDiff, reduceLeDiff, reduceSub]
    refine ⟨fun hi => ?_, fun hi => ?_⟩
    · refine z1a (fun k s => ∃ (E : Array α), a ≤ k ∧ k ≤ i ∧ E.size = d.size ∧ Sort.insInner (ltC cm) a k E = Sort.insInner (ltC cm) a i D ∧ s = ⟨[.ref 0 1 0 d.size, I a, I b, .clo w7t [], I i, I k, .any, .any], .row t false 1 (E.toList.map fun x => ints (g x)) :: []⟩) i ?_ ?_
      · simp (maxSteps := 2000000) (disch := first | omega | (simp only [lenS]; try omega)) only [go_sem, reduceAdd, reduceEqDiff, reduceLeDiff, reduceSub]
        exact ⟨D, by omega, h3, rfl, rfl⟩
      · rintro k s ⟨E, k1, k2, k3, k4, rfl⟩
        have e0 := zmb (ltC cm) (a := a) (j := k) E
        have e1 := zmc (ltC cm) (a := a) (j := k) E
        have e2 := z176 E (i := k) (by omega)
        have e3 := z176 E (i := k - 1) (by omega)
        have e4 := z17a (fun x => ints (g x)) E k (k - 1)
        have e5 : ((k : Int) - 1).toNat = k - 1 := by omega
        have e6 : (E.toList.map fun x => ints (g x)).length = d.size := by simp [k3]
        have e7 : E.toList.length = d.size := by simp [k3]
        simp only [ltC] at e0 e1
        generalize E[k]! = x at *
        generalize E[k - 1]! = y at *
        have hout := zmh (ltC cm) (a := a) D (show i < b by omega)
        by_cases hak : (a : Int) < k
        · by_cases hlt : cm x y < 0
          · simp (maxSteps := 2000000) (disch := first | omega | (simp only [lenS]; try omega)) only [go_sem, reduceAdd, reduceEqDiff, reduceLeDiff, reduceSub, H, e2, e3, e5, e7, hlt, List.getElem?_set_ne, List.getElem_set_ne, List.getElem_map]
            refine ⟨k - 1, by omega, Sort.swp E k (k - 1), by omega, by omega, ?_, ?_, ?_⟩
            · rw [Sort.size_swp]; exact k3
            · rw [← k4, e1 (by omega) (by simp [hlt])]
            · rw [e4, show ((k : Int) - 1) = ((k - 1 : Nat) : Int) by omega]
          · simp (maxSteps := 2000000) (disch := first | omega | (simp only [lenS]; try omega)) only [go_sem, reduceAdd, reduceEqDiff, reduceLeDiff, reduceSub, H, e2, e3, e5, e7, hlt, List.getElem?_set_ne, List.getElem_set_ne, List.getElem_map]
            refine ⟨b + 1 - (i + 1), by omega, i + 1, E, by omega, rfl, by omega, k3, ?_, ?_⟩
            · rw [← h4, hout, ← k4, e0 (.inr (by simp [hlt]))]
            · rfl
        · simp (maxSteps := 2000000) (disch := first | omega | (simp only [lenS]; try omega)) only [go_sem, reduceAdd, reduceEqDiff, reduceLeDiff, reduceSub]
          refine ⟨b + 1 - (i + 1), by omega, i + 1, E, by omega, rfl, by omega, k3, ?_, ?_⟩
          · rw [← h4, hout, ← k4, e0 (.inl (by omega))]
          · rfl
    · rw [← h4, zmg _ _ (by omega)]
theorem wez {α : Type} [Inhabited α] (g : α → List Int) (cm : α → α → Int) (H : ∀ x y, C w7t [ints (g x), ints (g y)] [] = some (I (cm x y), [])) (t : TypeId) (d : Array α) (lo hi f : Nat) (hlo : lo ≤ d.size) (hb : f + hi ≤ d.size) (hs : d.size < 2^40) :
    C w8i [.ref 0 1 0 d.size, I lo, I hi, I f, .clo w7t []] (.row t false 1 (d.toList.map fun x => ints (g x)) :: []) = some (.tup [], .row t false 1 ((Sort.siftDown (ltC cm) hi f lo d).toList.map fun x => ints (g x)) :: []) := by
  refine w1h ?_
  simp (maxSteps := 2000000) (disch := first | omega | (simp only [lenS]; try omega)) only [wck, go_sem, reduceAdd, reduceEqDiff, reduceLeDiff, reduceSub]
  refine z1a (fun k s => ∃ (r : Nat) (E : Array α), k = hi - r ∧ r ≤ d.size ∧ E.size = d.size ∧ Sort.siftDown (ltC cm) hi f r E = Sort.siftDown (ltC cm) hi f lo d ∧ s = ⟨[.ref 0 1 0 d.size, .any, I hi, I f, .clo w7t [], I r, .any, .any, .any, .any], .row t false 1 (E.toList.map fun x => ints (g x)) :: []⟩) (hi - lo) ?_ ?_
  · simp (maxSteps := 2000000) (disch := first | omega | (simp only [lenS]; try omega)) only [go_sem, reduceAdd, reduceEqDiff, reduceLeDiff, reduceSub]
    exact ⟨lo, d, rfl, by omega, rfl, rfl, rfl⟩
  · rintro k s ⟨r, E, rfl, k1, k3, k4, rfl⟩
    have e7 : E.toList.length = d.size := by simp [k3]
    obtain ⟨c1, hc1⟩ : ∃ c : Nat, 2 * (r : Int) + 1 = c := ⟨2 * r + 1, by omega⟩
    obtain ⟨c2, hc2⟩ : ∃ c : Nat, (c1 : Int) + 1 = c := ⟨2 * r + 2, by omega⟩
    by_cases h1 : (c1 : Int) < hi
    · obtain ⟨p1, hp1⟩ : ∃ p : Nat, (f : Int) + (c1 : Int) = p := ⟨f + c1, by omega⟩
      have z1 : f + (2 * r + 1) = p1 := by omega
      have e2 := z176 E (i := p1) (by omega)
      by_cases h2 : (c2 : Int) < hi
      · obtain ⟨p2, hp2⟩ : ∃ p : Nat, (f : Int) + (c2 : Int) = p := ⟨f + c2, by omega⟩
        have hp3 : (p1 : Int) + 1 = p2 := by omega
        have z2 : f + (2 * r + 2) = p2 := by omega
        have e3 := z176 E (i := p2) (by omega)
        by_cases hlt : cm E[p1]! E[p2]! < 0
        · have hcc : (c2 = 2 * r + 2 ∧ 2 * r + 2 < hi ∧ ltC cm E[f + (2 * r + 1)]! E[f + (2 * r + 2)]! = true) ∨ (c2 = 2 * r + 1 ∧ ¬ (2 * r + 2 < hi ∧ ltC cm E[f + (2 * r + 1)]! E[f + (2 * r + 2)]! = true)) := .inl ⟨by omega, by omega, by rw [z1, z2]; simpa [ltC] using hlt⟩
          generalize E[p1]! = a1 at *
          have hq := hp2
          generalize c2 = c at *
          generalize p2 = q at *
          obtain ⟨p, hp⟩ : ∃ p : Nat, (f : Int) + (r : Int) = p := ⟨f + r, by omega⟩
          have hs0 := z196 (ltC cm) (f := f) (c := c) E (show 2 * r + 1 < hi by omega) hcc
          have hs1 := z194 (ltC cm) (f := f) (c := c) E (show 2 * r + 1 < hi by omega) hcc
          have hcl : r < c ∧ c < hi := by rcases hcc with ⟨h, _⟩ | ⟨h, _⟩ <;> omega
          clear hcc
          rw [show f + c = q by omega, show f + r = p by omega] at hs0 hs1
          have w3 := z176 E (i := p) (by omega)
          have w4 := z17a (fun x => ints (g x)) E p q
          simp only [ltC] at hs0 hs1
          generalize E[q]! = y at *
          generalize E[p]! = x at *
          by_cases hs2 : cm x y < 0
          simp (maxSteps := 2000000) (disch := first | omega | (simp only [lenS]; try omega)) only [go_sem, reduceAdd, reduceEqDiff, reduceLeDiff, reduceSub, H, e2, e3, w3, e7, hc1, hc2, hp1, hp2, hp3, hp, hlt, hs2, List.getElem?_set_ne, List.getElem_set_ne, List.getElem_map]
          rotate_left
          simp (maxSteps := 2000000) (disch := first | omega | (simp only [lenS]; try omega)) only [go_sem, reduceAdd, reduceEqDiff, reduceLeDiff, reduceSub, H, e2, e3, w3, e7, hc1, hc2, hp1, hp2, hp3, hp, hlt, hs2, List.getElem?_set_ne, List.getElem_set_ne, List.getElem_map]
          rotate_left
          · refine ⟨hi - c, by omega, c, Sort.swp E p q, rfl, by omega, ?_, ?_, ?_⟩
            · rw [Sort.size_swp]; exact k3
            · rw [← k4, hs1 (by simp [hs2])]
            · rw [w4]
          · rw [← k4, hs0 (by simp [hs2])]
        · have hcc : (c1 = 2 * r + 2 ∧ 2 * r + 2 < hi ∧ ltC cm E[f + (2 * r + 1)]! E[f + (2 * r + 2)]! = true) ∨ (c1 = 2 * r + 1 ∧ ¬ (2 * r + 2 < hi ∧ ltC cm E[f + (2 * r + 1)]! E[f + (2 * r + 2)]! = true)) := .inr ⟨by omega, by rw [z1, z2]; simpa [ltC] using fun _ => hlt⟩
          generalize E[p2]! = a2 at *
          have hq := hp1
          generalize c1 = c at *
          generalize p1 = q at *
          obtain ⟨p, hp⟩ : ∃ p : Nat, (f : Int) + (r : Int) = p := ⟨f + r, by omega⟩
          have hs0 := z196 (ltC cm) (f := f) (c := c) E (show 2 * r + 1 < hi by omega) hcc
          have hs1 := z194 (ltC cm) (f := f) (c := c) E (show 2 * r + 1 < hi by omega) hcc
          have hcl : r < c ∧ c < hi := by rcases hcc with ⟨h, _⟩ | ⟨h, _⟩ <;> omega
          clear hcc
          rw [show f + c = q by omega, show f + r = p by omega] at hs0 hs1
          have w3 := z176 E (i := p) (by omega)
          have w4 := z17a (fun x => ints (g x)) E p q
          simp only [ltC] at hs0 hs1
          generalize E[q]! = y at *
          generalize E[p]! = x at *
          by_cases hs2 : cm x y < 0
          simp (maxSteps := 2000000) (disch := first | omega | (simp only [lenS]; try omega)) only [go_sem, reduceAdd, reduceEqDiff, reduceLeDiff, reduceSub, H, e2, e3, w3, e7, hc1, hc2, hp1, hp2, hp3, hp, hlt, hs2, List.getElem?_set_ne, List.getElem_set_ne, List.getElem_map]
          rotate_left
          simp (maxSteps := 2000000) (disch := first | omega | (simp only [lenS]; try omega)) only [go_sem, reduceAdd, reduceEqDiff, reduceLeDiff, reduceSub, H, e2, e3, w3, e7, hc1, hc2, hp1, hp2, hp3, hp, hlt, hs2, List.getElem?_set_ne, List.getElem_set_ne, List.getElem_map]
          rotate_left
          · refine ⟨hi - c, by omega, c, Sort.swp E p q, rfl, by omega, ?_, ?_, ?_⟩
            · rw [Sort.size_swp]; exact k3
            · rw [← k4, hs1 (by simp [hs2])]
            · rw [w4]
          · rw [← k4, hs0 (by simp [hs2])]
      · have hcc : (c1 = 2 * r + 2 ∧ 2 * r + 2 < hi ∧ ltC cm E[f + (2 * r + 1)]! E[f + (2 * r + 2)]! = true) ∨ (c1 = 2 * r + 1 ∧ ¬ (2 * r + 2 < hi ∧ ltC cm E[f + (2 * r + 1)]! E[f + (2 * r + 2)]! = true)) := .inr ⟨by omega, by omega⟩
        have hq := hp1
        generalize c1 = c at *
        generalize p1 = q at *
        obtain ⟨p, hp⟩ : ∃ p : Nat, (f : Int) + (r : Int) = p := ⟨f + r, by omega⟩
        have hs0 := z196 (ltC cm) (f := f) (c := c) E (show 2 * r + 1 < hi by omega) hcc
        have hs1 := z194 (ltC cm) (f := f) (c := c) E (show 2 * r + 1 < hi by omega) hcc
        have hcl : r < c ∧ c < hi := by rcases hcc with ⟨h, _⟩ | ⟨h, _⟩ <;> omega
        clear hcc
        rw [show f + c = q by omega, show f + r = p by omega] at hs0 hs1
        have w3 := z176 E (i := p) (by omega)
        have w4 := z17a (fun x => ints (g x)) E p q
        simp only [ltC] at hs0 hs1
        generalize E[q]! = y at *
        generalize E[p]! = x at *
        by_cases hs2 : cm x y < 0
        simp (maxSteps := 2000000) (disch := first | omega | (simp only [lenS]; try omega)) only [go_sem, reduceAdd, reduceEqDiff, reduceLeDiff, reduceSub, H, e2, w3, e7, hc1, hc2, hp1, hp, hs2, List.getElem?_set_ne, List.getElem_set_ne, List.getElem_map]
        rotate_left
        simp (maxSteps := 2000000) (disch := first | omega | (simp only [lenS]; try omega)) only [go_sem, reduceAdd, reduceEqDiff, reduceLeDiff, reduceSub, H, e2, w3, e7, hc1, hc2, hp1, hp, hs2, List.getElem?_set_ne, List.getElem_set_ne, List.getElem_map]
        rotate_left
        · refine ⟨hi - c, by omega, c, Sort.swp E p q, rfl, by omega, ?_, ?_, ?_⟩
          · rw [Sort.size_swp]; exact k3
          · rw [← k4, hs1 (by simp [hs2])]
          · rw [w4]
        · rw [← k4, hs0 (by simp [hs2])]
    · simp (maxSteps := 2000000) (disch := first | omega | (simp only [lenS]; try omega)) only [go_sem, reduceAdd, reduceEqDiff, reduceLeDiff, reduceSub, hc1]
      rw [← k4, z193 _ _ (by omega)]
theorem weo {α : Type} [Inhabited α] (g : α → List Int) (cm : α → α → Int) (H : ∀ x y, C w7t [ints (g x), ints (g y)] [] = some (I (cm x y), [])) (t : TypeId) (d : Array α) (a b : Nat) (hab : a ≤ b) (hb : b ≤ d.size) (hs : d.size < 2^40) :
    C w87 [.ref 0 1 0 d.size, I a, I b, .clo w7t []] (.row t false 1 (d.toList.map fun x => ints (g x)) :: []) = some (.tup [], .row t false 1 ((Sort.heapSort (ltC cm) d a b).toList.map fun x => ints (g x)) :: []) := by
  obtain ⟨n, hn⟩ : ∃ n : Nat, (b : Int) - (a : Int) = n := ⟨b - a, by omega⟩
  obtain ⟨K, hK⟩ : ∃ K : Nat, ((n : Int) - 1).tdiv 2 = (K : Int) - 1 ∧ K = (b - a - 1) / 2 + 1 ∧ K ≤ n + 1 := by
    rcases Nat.eq_zero_or_pos n with h | h
    · subst h; exact ⟨1, by decide, by omega, by omega⟩
    · obtain ⟨q, rfl⟩ : ∃ q, n = q + 1 := ⟨n - 1, by omega⟩
      have : (((q + 1 : Nat) : Int) - 1).tdiv 2 = ((q / 2 : Nat) : Int) := by
        rw [show (((q + 1 : Nat) : Int) - 1) = (q : Int) by omega]
        exact (Int.ofNat_tdiv q 2).symm
      refine ⟨q / 2 + 1, by rw [this]; omega, by omega, by omega⟩
  unfold Sort.heapSort
  rw [← hK.2.1, show b - a = n by omega]
  have hK1 := hK.1
  have hK2 := hK.2.2
  refine w1b ?_
  simp (maxSteps := 2000000) (disch := first | omega | (simp only [lenS]; try omega)) only [wc9, go_sem, reduceAdd, reduceEqDiff, reduceLeDiff, reduceSub]
  simp (maxSteps := 2000000) (disch := first | omega | (simp only [lenS]; try omega)) only [go_sem, reduceAdd, reduceEqDiff, reduceLeDiff, reduceSub, hn, hK1]
  refine z1a (fun k s => ∃ (E : Array α), k ≤ K ∧ E.size = d.size ∧ Sort.heapBuild (ltC cm) n a k E = Sort.heapBuild (ltC cm) n a K d ∧ s = ⟨[.ref 0 1 0 d.size, .any, .any, .clo w7t [], I a, I 0, I n, I ((k : Int) - 1), .any, .any, .any], .row t false 1 (E.toList.map fun x => ints (g x)) :: []⟩) K ?_ ?_
  · simp (maxSteps := 2000000) (disch := first | omega | (simp only [lenS]; try omega)) only [go_sem, reduceAdd, reduceEqDiff, reduceLeDiff, reduceSub]
    exact ⟨d, rfl, rfl, rfl⟩
  · rintro k s ⟨E, k1, k3, k4, rfl⟩
    rcases Nat.eq_zero_or_pos k with rfl | hk
    · simp (maxSteps := 2000000) (disch := first | omega | (simp only [lenS]; try omega)) only [go_sem, reduceAdd, reduceEqDiff, reduceLeDiff, reduceSub]
      rw [← show E = _ from k4]
      refine z1a (fun k s => ∃ (G : Array α), k ≤ n ∧ G.size = d.size ∧ Sort.heapPop (ltC cm) a k G = Sort.heapPop (ltC cm) a n E ∧ s = ⟨[.ref 0 1 0 d.size, .any, .any, .clo w7t [], I a, I 0, .any, .any, I ((k : Int) - 1), .any, .any], .row t false 1 (G.toList.map fun x => ints (g x)) :: []⟩) n ?_ ?_
      · simp (maxSteps := 2000000) (disch := first | omega | (simp only [lenS]; try omega)) only [go_sem, reduceAdd, reduceEqDiff, reduceLeDiff, reduceSub]
        exact ⟨E, k3, rfl, rfl⟩
      · rintro k s ⟨G, g1, g3, g4, rfl⟩
        rcases Nat.eq_zero_or_pos k with rfl | hk
        · simp (maxSteps := 2000000) (disch := first | omega | (simp only [lenS]; try omega)) only [go_sem, reduceAdd, reduceEqDiff, reduceLeDiff, reduceSub]
          rw [← g4]; rfl
        · obtain ⟨j, hj⟩ : ∃ j : Nat, (k : Int) - 1 = j := ⟨k - 1, by omega⟩
          obtain ⟨q, hq⟩ : ∃ q : Nat, (a : Int) + (j : Int) = q := ⟨a + j, by omega⟩
          obtain rfl : k = j + 1 := by omega
          have h1 := wez g cm H t (Sort.swp G a q) 0 j a (by omega) (by rw [Sort.size_swp]; omega) (by rw [Sort.size_swp]; omega)
          rw [Sort.size_swp, g3, z17a, show ((0 : Nat) : Int) = 0 from rfl] at h1
          have e7 : G.toList.length = d.size := by simp [g3]
          have w2 := z176 G (i := a) (by omega)
          have w3 := z176 G (i := q) (by omega)
          have e5 := z179 (fun x => ints (g x)) G (i := a) (j := q) G[q]! (by omega) (by omega)
          have e6 : Sort.heapPop (ltC cm) a (j + 1) G = Sort.heapPop (ltC cm) a j (Sort.siftDown (ltC cm) j a 0 (Sort.swp G a q)) := by rw [Sort.heapPop, show a + j = q by omega]
          have e8 : (Sort.siftDown (ltC cm) j a 0 (Sort.swp G a q)).size = d.size := by rw [z195 _ _ _ _ _ _ (Nat.le_refl _), Sort.size_swp, g3]
          generalize Sort.siftDown (ltC cm) j a 0 (Sort.swp G a q) = Z at *
          generalize (if a = q then G[q]! else G[q]!) = z at *
          generalize G[q]! = y at *
          generalize G[a]! = x at *
          simp (maxSteps := 2000000) (disch := first | omega | (simp only [lenS]; try omega)) only [go_sem, reduceAdd, reduceEqDiff, reduceLeDiff, reduceSub, hj, hq, w2, w3, e5, e7, h1]
          exact ⟨j, by omega, Z, by omega, e8, by rw [← e6, g4], rfl⟩
    · obtain ⟨j, hj⟩ : ∃ j : Nat, (k : Int) - 1 = j := ⟨k - 1, by omega⟩
      have h1 := wez g cm H t E j n a (by omega) (by omega) (by omega)
      rw [k3] at h1
      obtain rfl : k = j + 1 := by omega
      simp (maxSteps := 2000000) (disch := first | omega | (simp only [lenS]; try omega)) only [go_sem, reduceAdd, reduceEqDiff, reduceLeDiff, reduceSub, hj, h1]
      refine ⟨j, by omega, Sort.siftDown (ltC cm) n a j E, by omega, ?_, k4, rfl⟩
      rw [z195 _ _ _ _ _ _ (Nat.le_refl _), k3]
theorem wes (n : Nat) (hn : n < 65536) : C w8b [I n] [] = some (.int .u64 ((2 ^ Sort.bitsLen n : Nat) : Int), []) := by
  have h := we4 n hn
  have h1 := (Sort.bitsLen_le_iff n 16).2 (by omega)
  have h3 : (2 : Nat) ^ Sort.bitsLen n ≤ 2 ^ 16 := Nat.pow_le_pow_right (by decide) h1
  have h2 : IntKind.u64.wrap (1 * (2 : Int) ^ min (Sort.bitsLen n) 64) = ((2 ^ Sort.bitsLen n : Nat) : Int) := by
    rw [Nat.min_eq_left (by omega), Int.one_mul, IntKind.wrap_u64, show (2 : Int) ^ Sort.bitsLen n = ((2 ^ Sort.bitsLen n : Nat) : Int) by simp]
    generalize (2 : Nat) ^ Sort.bitsLen n = w at *
    omega
  have h0 : IntKind.u64.wrap (n : Int) = n := by rw [IntKind.wrap_u64]; omega
  refine w1d ?_
  simp (maxSteps := 2000000) (disch := first | omega | (simp only [lenS]; try omega)) only [wcd, go_sem, reduceAdd, reduceEqDiff, reduceLeDiff, reduceSub]
  generalize Sort.bitsLen n = z at *
  simp (maxSteps := 2000000) (disch := first | omega | (simp only [lenS]; try omega)) only [go_sem, reduceAdd, reduceEqDiff, reduceLeDiff, reduceSub, h0, h, h2]
theorem wf2 (x : Int) (hx : 0 ≤ x ∧ x < 18446744073709551616) : Lw (C w8j [.ptr 0 0] [.box wgq [.int .u64 x]]) fun r => ∃ y : Int, r = (.int .u64 y, [.box wgq [.int .u64 y]]) ∧ 0 ≤ y ∧ y < 18446744073709551616 := by
  refine w2m ?_
  simp (maxSteps := 2000000) (disch := first | omega | (simp only [lenS]; try omega)) only [wcl, go_sem, reduceAdd, reduceEqDiff, reduceLeDiff, reduceSub]
  have h1 := z1gl hx (z1f5 (x * 2 ^ min (Int.toNat 13) 64))
  have h2 := z1gl h1 (z18w (min (Int.toNat 7) 64) h1)
  exact ⟨_, rfl, z1gl h2 (z1f5 _)⟩
theorem wem {α : Type} [Inhabited α] (g : α → List Int) (cm : α → α → Int) (H : ∀ x y, C w7t [ints (g x), ints (g y)] [] = some (I (cm x y), [])) (t : TypeId) (d : Array α) (a b : Nat) (hab : a < b) (hb : b ≤ d.size) (hs : d.size < 65536) :
    Lw (C w85 [.ref 0 1 0 d.size, I a, I b, .clo w7t []] (.row t false 1 (d.toList.map fun x => ints (g x)) :: [])) fun r => ∃ E : Array α, r = (.tup [], .row t false 1 (E.toList.map fun x => ints (g x)) :: []) ∧ Sort.PermIn a b d E := by
  obtain ⟨n, hn⟩ : ∃ n : Nat, (b : Int) - (a : Int) = n := ⟨b - a, by omega⟩
  obtain ⟨q, hq, hq2⟩ : ∃ q : Nat, (n : Int).tdiv 4 = q ∧ q = n / 4 := ⟨n / 4, (Int.ofNat_tdiv n 4).symm, rfl⟩
  have hp := wes n (by omega)
  have hp1 := Sort.lt_two_pow_bitsLen n
  have hp2 := fun h => Sort.two_pow_bitsLen_le (n := n) h
  obtain ⟨i, hi⟩ : ∃ i : Nat, (a : Int) + (q : Int) * 2 = i := ⟨a + q * 2, by omega⟩
  refine w2f ?_
  simp (maxSteps := 2000000) (disch := first | omega | (simp only [lenS]; try omega)) only [wc7, go_sem, reduceAdd, reduceEqDiff, reduceLeDiff, reduceSub]
  by_cases h8 : (8 : Int) ≤ n
  · have hp3 := hp2 (by omega)
    clear hp2
    generalize 2 ^ Sort.bitsLen n = p at *
    obtain ⟨m, hm⟩ : ∃ m : Nat, (p : Int) - 1 = m := ⟨p - 1, by omega⟩
    have e0 : IntKind.u64.wrap (n : Int) = n := by rw [IntKind.wrap_u64]; omega
    simp (maxSteps := 2000000) (disch := first | omega | (simp only [lenS]; try omega)) only [go_sem, reduceAdd, reduceEqDiff, reduceLeDiff, reduceSub, hn, hq, hi, h8, Int.not_lt.2 h8, hp, e0, false_implies, and_true]
    refine z1a (fun k s => ∃ (j : Nat) (E : Array α) (x : Int), i ≤ j + 1 ∧ j ≤ i + 2 ∧ k = i + 2 - j ∧ (0 ≤ x ∧ x < 18446744073709551616) ∧ Sort.PermIn a b d E ∧ s = ⟨[.ref 0 1 0 d.size, I a, .any, I n, .ptr 1 0, .int .u64 p, I j, .any, .any, .any, .any], .row t false 1 (E.toList.map fun x => ints (g x)) :: [.box wgq [.int .u64 x]]⟩) 3 ?_ ?_
    · simp (maxSteps := 2000000) (disch := first | omega | (simp only [lenS]; try omega)) only [go_sem, reduceAdd, reduceEqDiff, reduceLeDiff, reduceSub]
      exact ⟨i - 1, d, n, by omega, by omega, by omega, by omega, Sort.permIn_refl d a b, by rw [show ((i - 1 : Nat) : Int) = (i : Int) - 1 by omega]⟩
    · rintro k s ⟨j, E, x, h1, h2, rfl, h3, h4, rfl⟩
      have k3 := z10d h4
      have e7 : E.toList.length = d.size := by simp [k3]
      by_cases hj : (j : Int) ≤ (i : Int) + 1
      · obtain ⟨_, e1, y, rfl, y1, y2⟩ := wf2 x h3
        have ha := z37 (x := y) (y := m) (by omega) (by omega)
        have e5 : IntKind.u64.wrap ((p : Int) - 1) = m := by rw [IntKind.wrap_u64]; omega
        have e6 : IntKind.i64.wrap (bits .and .u64 y m) = bits .and .u64 y m := by rw [IntKind.wrap_i64]; omega
        obtain ⟨o, ho⟩ : ∃ o : Nat, bits .and .u64 y m = o := ⟨(bits .and .u64 y m).toNat, by omega⟩
        rw [ho] at ha e6
        obtain ⟨u, hu⟩ : ∃ u : Nat, (a : Int) + (o : Int) = u := ⟨a + o, by omega⟩
        have w2 := z176 E (i := j) (by omega)
        by_cases hon : (n : Int) ≤ o
        · obtain ⟨o2, ho2⟩ : ∃ o2 : Nat, (o : Int) - n = o2 := ⟨o - n, by omega⟩
          obtain ⟨v, hv⟩ : ∃ v : Nat, (a : Int) + (o2 : Int) = v := ⟨a + o2, by omega⟩
          have w3 := z176 E (i := v) (by omega)
          have w4 := z17a (fun x => ints (g x)) E j v
          have w5 := Sort.permIn_trans d E (Sort.swp E j v) a b h4 (Sort.swp_permIn E a b j v (by omega) (by omega) (by omega) (by omega) (by omega))
          have w6 := z179 (fun x => ints (g x)) E (i := j) (j := v) E[v]! (by omega) (by omega)
          generalize (if j = v then E[v]! else E[v]!) = z at *
          generalize E[j]! = x at *
          generalize E[v]! = w at *
          simp (maxSteps := 2000000) (disch := first | omega | (simp only [lenS]; try omega)) only [go_sem, reduceAdd, reduceEqDiff, reduceLeDiff, reduceSub, hq, hi, e1, e5, ho, e6, hon, Int.not_lt.2 hon, ho2, hv, w2, w3, w6, e7, false_implies, and_true]
          exact ⟨i + 2 - (j + 1), by omega, j + 1, Sort.swp E j v, y, by omega, by omega, rfl, ⟨y1, y2⟩, w5, by rw [w4]; rfl⟩
        · obtain ⟨v, hv⟩ : ∃ v : Nat, (a : Int) + (o : Int) = v := ⟨a + o, by omega⟩
          have w3 := z176 E (i := v) (by omega)
          have w4 := z17a (fun x => ints (g x)) E j v
          have w5 := Sort.permIn_trans d E (Sort.swp E j v) a b h4 (Sort.swp_permIn E a b j v (by omega) (by omega) (by omega) (by omega) (by omega))
          have w6 := z179 (fun x => ints (g x)) E (i := j) (j := v) E[v]! (by omega) (by omega)
          generalize (if j = v then E[v]! else E[v]!) = z at *
          generalize E[j]! = x at *
          generalize E[v]! = w at *
          simp (maxSteps := 2000000) (disch := first | omega | (simp only [lenS]; try omega)) only [go_sem, reduceAdd, reduceEqDiff, reduceLeDiff, reduceSub, hq, hi, e1, e5, ho, e6, hon, Int.not_le.1 hon, hv, w2, w3, w6, e7, false_implies, true_and, forall_const]
          exact ⟨i + 2 - (j + 1), by omega, j + 1, Sort.swp E j v, y, by omega, by omega, rfl, ⟨y1, y2⟩, w5, by rw [w4]; rfl⟩
      · simp (maxSteps := 2000000) (disch := first | omega | (simp only [lenS]; try omega)) only [go_sem, reduceAdd, reduceEqDiff, reduceLeDiff, reduceSub, hq, hi]
        exact ⟨E, rfl, h4⟩
  · simp (maxSteps := 2000000) (disch := first | omega | (simp only [lenS]; try omega)) only [go_sem, reduceAdd, reduceEqDiff, reduceLeDiff, reduceSub, hn, hq, hi, h8, Int.not_le.1 h8, false_implies, true_and, forall_const]
    exact ⟨d, rfl, Sort.permIn_refl d a b⟩
theorem wet {α : Type} [Inhabited α] (g : α → List Int) (cm : α → α → Int) (H : ∀ x y, C w7t [ints (g x), ints (g y)] [] = some (I (cm x y), [])) (t : TypeId) (d : Array α) (a b : Nat) (k : Int) (ha : a < d.size) (hb : b < d.size) (hk : 0 ≤ k ∧ k < 2^40) (hs : d.size < 2^40) :
    Lw (C w8c [.ref 0 1 0 d.size, I a, I b, .ptr 1 0, .clo w7t []] (.row t false 1 (d.toList.map fun x => ints (g x)) :: .box t_int [I k] :: [])) fun r => ∃ (x y : Nat) (k' : Int), r = (.tup [I x, I y], .row t false 1 (d.toList.map fun x => ints (g x)) :: .box t_int [I k'] :: []) ∧ ((x = a ∧ y = b) ∨ (x = b ∧ y = a)) ∧ k ≤ k' ∧ k' ≤ k + 1 := by
  have e7 : d.toList.length = d.size := by simp
  refine w2j ?_
  simp (maxSteps := 2000000) (disch := first | omega | (simp only [lenS]; try omega)) only [wce, go_sem, reduceAdd, reduceEqDiff, reduceLeDiff, reduceSub]
  simp (maxSteps := 2000000) (disch := first | omega | (simp only [lenS]; try omega)) only [go_sem, reduceAdd, reduceEqDiff, reduceLeDiff, reduceSub, H, e7]
  exact ⟨fun _ => ⟨b, a, k + 1, rfl, by omega⟩, fun _ => ⟨a, b, k, rfl, by omega⟩⟩
theorem wer {α : Type} [Inhabited α] (g : α → List Int) (cm : α → α → Int) (H : ∀ x y, C w7t [ints (g x), ints (g y)] [] = some (I (cm x y), [])) (t : TypeId) (d : Array α) (a b c : Nat) (k : Int) (ha : a < d.size) (hb : b < d.size) (hc : c < d.size) (hk : 0 ≤ k ∧ k < 2^39) (hs : d.size < 2^40) :
    Lw (C w8a [.ref 0 1 0 d.size, I a, I b, I c, .ptr 1 0, .clo w7t []] (.row t false 1 (d.toList.map fun x => ints (g x)) :: .box t_int [I k] :: [])) fun r => ∃ (x : Nat) (k' : Int), r = (I x, .row t false 1 (d.toList.map fun x => ints (g x)) :: .box t_int [I k'] :: []) ∧ (x = a ∨ x = b ∨ x = c) ∧ k ≤ k' ∧ k' ≤ k + 3 := by
  obtain ⟨_, e1, x1, y1, k1, rfl, h1, h2, h3⟩ := wet g cm H t d a b k ha hb (by omega) hs
  obtain ⟨_, e2, x2, y2, k2, rfl, g1, g2, g3⟩ := wet g cm H t d y1 c k1 (by omega) hc (by omega) hs
  obtain ⟨_, e3, x3, y3, k3, rfl, f1, f2, f3⟩ := wet g cm H t d x1 x2 k2 (by omega) (by omega) (by omega) hs
  refine w2i ?_
  simp (maxSteps := 2000000) (disch := first | omega | (simp only [lenS]; try omega)) only [wcc, go_sem, reduceAdd, reduceEqDiff, reduceLeDiff, reduceSub]
  simp (maxSteps := 2000000) (disch := first | omega | (simp only [lenS]; try omega)) only [go_sem, reduceAdd, reduceEqDiff, reduceLeDiff, reduceSub, e1, e2, e3]
  exact ⟨y3, k3, rfl, by omega⟩
theorem weq {α : Type} [Inhabited α] (g : α → List Int) (cm : α → α → Int) (H : ∀ x y, C w7t [ints (g x), ints (g y)] [] = some (I (cm x y), [])) (t : TypeId) (d : Array α) (a : Nat) (k : Int) (ha : 0 < a ∧ a + 1 < d.size) (hk : 0 ≤ k ∧ k < 2^39) (hs : d.size < 2^40) :
    Lw (C w89 [.ref 0 1 0 d.size, I a, .ptr 1 0, .clo w7t []] (.row t false 1 (d.toList.map fun x => ints (g x)) :: .box t_int [I k] :: [])) fun r => ∃ (x : Nat) (k' : Int), r = (I x, .row t false 1 (d.toList.map fun x => ints (g x)) :: .box t_int [I k'] :: []) ∧ (a ≤ x + 1 ∧ x ≤ a + 1) ∧ k ≤ k' ∧ k' ≤ k + 3 := by
  obtain ⟨_, e1, x1, k1, rfl, h1, h2, h3⟩ := wer g cm H t d (a - 1) a (a + 1) k (by omega) (by omega) (by omega) hk hs
  rw [show ((a - 1 : Nat) : Int) = (a : Int) - 1 by omega, show ((a + 1 : Nat) : Int) = (a : Int) + 1 by omega] at e1
  refine w2h ?_
  simp (maxSteps := 2000000) (disch := first | omega | (simp only [lenS]; try omega)) only [wcb, go_sem, reduceAdd, reduceEqDiff, reduceLeDiff, reduceSub]
  simp (maxSteps := 2000000) (disch := first | omega | (simp only [lenS]; try omega)) only [go_sem, reduceAdd, reduceEqDiff, reduceLeDiff, reduceSub, e1]
  exact ⟨x1, k1, rfl, by omega⟩
theorem wen {α : Type} [Inhabited α] (g : α → List Int) (cm : α → α → Int) (H : ∀ x y, C w7t [ints (g x), ints (g y)] [] = some (I (cm x y), [])) (t : TypeId) (d : Array α) (a b : Nat) (hab : a < b) (hb : b ≤ d.size) (hs : d.size < 2^40) :
    Lw (C w86 [.ref 0 1 0 d.size, I a, I b, .clo w7t []] (.row t false 1 (d.toList.map fun x => ints (g x)) :: [])) fun r => ∃ (x : Nat) (h : Int), r = (.tup [I x, I h], .row t false 1 (d.toList.map fun x => ints (g x)) :: []) ∧ a ≤ x ∧ x < b ∧ 0 ≤ h ∧ h ≤ 2 := by
  obtain ⟨n, hn⟩ : ∃ n : Nat, (b : Int) - (a : Int) = n := ⟨b - a, by omega⟩
  obtain ⟨q, hq, hq2⟩ : ∃ q : Nat, (n : Int).tdiv 4 = q ∧ q = n / 4 := ⟨n / 4, (Int.ofNat_tdiv n 4).symm, rfl⟩
  obtain ⟨i, hi⟩ : ∃ i : Nat, (a : Int) + (q : Int) = i := ⟨a + q, by omega⟩
  obtain ⟨j, hj⟩ : ∃ j : Nat, (a : Int) + (q : Int) * 2 = j := ⟨a + q * 2, by omega⟩
  obtain ⟨k, hk⟩ : ∃ k : Nat, (a : Int) + (q : Int) * 3 = k := ⟨a + q * 3, by omega⟩
  refine w2g ?_
  simp (maxSteps := 2000000) (disch := first | omega | (simp only [lenS]; try omega)) only [wc8, go_sem, reduceAdd, reduceEqDiff, reduceLeDiff, reduceSub]
  by_cases h8 : (8 : Int) ≤ n
  · by_cases h50 : (50 : Int) ≤ n
    · obtain ⟨_, e1, x1, k1, rfl, h1, h2, h3⟩ := weq g cm H t d i 0 (by omega) (by omega) hs
      obtain ⟨_, e2, x2, k2, rfl, g1, g2, g3⟩ := weq g cm H t d j k1 (by omega) (by omega) hs
      obtain ⟨_, e3, x3, k3, rfl, f1, f2, f3⟩ := weq g cm H t d k k2 (by omega) (by omega) hs
      obtain ⟨_, e4, x4, k4, rfl, d1, d2, d3⟩ := wer g cm H t d x1 x2 x3 k3 (by omega) (by omega) (by omega) (by omega) hs
      have hlo : a ≤ x4 ∧ x4 < b := by omega
      simp (maxSteps := 2000000) (disch := first | omega | (simp only [lenS]; try omega)) only [go_sem, reduceAdd, reduceEqDiff, reduceLeDiff, reduceSub, hn, hq, hi, hj, hk, Int.mul_one, e1, e2, e3, e4, h8, h50, Int.not_lt.2 h8, Int.not_lt.2 h50]
      exact ⟨fun _ => ⟨x4, _, rfl, by omega⟩, fun _ => ⟨fun _ => ⟨x4, _, rfl, by omega⟩, fun _ => ⟨x4, _, rfl, by omega⟩⟩⟩
    · obtain ⟨_, e4, x4, k4, rfl, d1, d2, d3⟩ := wer g cm H t d i j k 0 (by omega) (by omega) (by omega) (by omega) hs
      have hlo : a ≤ x4 ∧ x4 < b := by omega
      simp (maxSteps := 2000000) (disch := first | omega | (simp only [lenS]; try omega)) only [go_sem, reduceAdd, reduceEqDiff, reduceLeDiff, reduceSub, hn, hq, hi, hj, hk, Int.mul_one, e4, h8, h50, Int.not_lt.2 h8, Int.not_le.1 h50]
      exact ⟨fun _ => ⟨x4, _, rfl, by omega⟩, fun _ => ⟨x4, _, rfl, by omega⟩⟩
  · simp (maxSteps := 2000000) (disch := first | omega | (simp only [lenS]; try omega)) only [go_sem, reduceAdd, reduceEqDiff, reduceLeDiff, reduceSub, hn, hq, hi, hj, hk, Int.mul_one, h8, Int.not_le.1 h8]
    exact ⟨j, 1, rfl, by omega⟩
theorem wey {α : Type} [Inhabited α] (g : α → List Int) (cm : α → α → Int) (H : ∀ x y, C w7t [ints (g x), ints (g y)] [] = some (I (cm x y), [])) (t : TypeId) (d : Array α) (a b : Nat) (hab : a < b) (hb : b ≤ d.size) (hs : d.size < 2^40) :
    Lw (C w8h [.ref 0 1 0 d.size, I a, I b, .clo w7t []] (.row t false 1 (d.toList.map fun x => ints (g x)) :: [])) fun r => ∃ E : Array α, r = (.tup [], .row t false 1 (E.toList.map fun x => ints (g x)) :: []) ∧ Sort.PermIn a b d E := by
  obtain ⟨n, hn⟩ : ∃ n : Nat, (b : Int) - 1 = n := ⟨b - 1, by omega⟩
  refine w2l ?_
  simp (maxSteps := 2000000) (disch := first | omega | (simp only [lenS]; try omega)) only [wcj, go_sem, reduceAdd, reduceEqDiff, reduceLeDiff, reduceSub]
  simp (maxSteps := 2000000) (disch := first | omega | (simp only [lenS]; try omega)) only [go_sem, reduceAdd, reduceEqDiff, reduceLeDiff, reduceSub, hn]
  refine z1a (fun k s => ∃ (i j : Nat) (E : Array α), a ≤ i ∧ j < b ∧ i ≤ b ∧ k = b - i ∧ Sort.PermIn a b d E ∧ s = ⟨[.ref 0 1 0 d.size, .any, .any, I i, I j, .any], .row t false 1 (E.toList.map fun x => ints (g x)) :: []⟩) (b - a) ?_ ?_
  · simp (maxSteps := 2000000) (disch := first | omega | (simp only [lenS]; try omega)) only [go_sem, reduceAdd, reduceEqDiff, reduceLeDiff, reduceSub]
    exact ⟨a, n, d, by omega, by omega, by omega, rfl, Sort.permIn_refl d a b, rfl⟩
  · rintro k s ⟨i, j, E, h1, h2, h3, rfl, h4, rfl⟩
    have k3 := z10d h4
    have e7 : E.toList.length = d.size := by simp [k3]
    by_cases hij : (i : Int) < j
    · obtain ⟨m, hm⟩ : ∃ m : Nat, (j : Int) - 1 = m := ⟨j - 1, by omega⟩
      have w2 := z176 E (i := i) (by omega)
      have w3 := z176 E (i := j) (by omega)
      have w4 := z17a (fun x => ints (g x)) E i j
      have w5 := Sort.permIn_trans d E (Sort.swp E i j) a b h4 (Sort.swp_permIn E a b i j h1 (by omega) (by omega) h2 (by omega))
      generalize E[i]! = x at *
      generalize E[j]! = y at *
      simp (maxSteps := 2000000) (disch := first | omega | (simp only [lenS]; try omega)) only [go_sem, reduceAdd, reduceEqDiff, reduceLeDiff, reduceSub, w2, w3, e7, hm, List.getElem?_set_ne, List.getElem_set_ne, List.getElem_map]
      exact ⟨b - (i + 1), by omega, i + 1, m, Sort.swp E i j, by omega, by omega, by omega, rfl, w5, by rw [w4]; rfl⟩
    · simp (maxSteps := 2000000) (disch := first | omega | (simp only [lenS]; try omega)) only [go_sem, reduceAdd, reduceEqDiff, reduceLeDiff, reduceSub]
      exact ⟨E, rfl, h4⟩
theorem weu {α : Type} [Inhabited α] (g : α → List Int) (cm : α → α → Int) (H : ∀ x y, C w7t [ints (g x), ints (g y)] [] = some (I (cm x y), [])) (t : TypeId) (d : Array α) (a b : Nat) (hab : a < b) (hb : b ≤ d.size) (hs : d.size < 2^40) :
    C w8d [.ref 0 1 0 d.size, I a, I b, .clo w7t []] (.row t false 1 (d.toList.map fun x => ints (g x)) :: []) = some (.bool (Sort.partialInsertionSort (ltC cm) d a b).2, .row t false 1 ((Sort.partialInsertionSort (ltC cm) d a b).1.toList.map fun x => ints (g x)) :: []) := by
  unfold Sort.partialInsertionSort
  refine w1e ?_
  simp (maxSteps := 2000000) (disch := first | omega | (simp only [lenS]; try omega)) only [wcf, go_sem, reduceAdd, reduceEqDiff, reduceLeDiff, reduceSub]
  refine z1a (fun k s => ∃ (i : Nat) (D : Array α), k ≤ 5 ∧ a < i ∧ i ≤ b ∧ D.size = d.size ∧ Sort.partialIns (ltC cm) a b k i D = Sort.partialIns (ltC cm) a b 5 (a + 1) d ∧ s = ⟨[.ref 0 1 0 d.size, I a, I b, .clo w7t [], .any, I i, I (5 - (k : Int)), .any, .any, .any, .any, .any, .any, .any, .any, .any, .any, .any, .any], .row t false 1 (D.toList.map fun x => ints (g x)) :: []⟩) 5 ?_ ?_
  · simp (maxSteps := 2000000) (disch := first | omega | (simp only [lenS]; try omega)) only [go_sem, reduceAdd, reduceEqDiff, reduceLeDiff, reduceSub]
    exact ⟨a + 1, d, by omega, by omega, rfl, rfl, rfl⟩
  · rintro k s ⟨i, D, d0, d1, d2, d3, d4, rfl⟩
    have e7 : D.toList.length = d.size := by simp [d3]
    rcases Nat.eq_zero_or_pos k with rfl | hk
    · simp (maxSteps := 2000000) (disch := first | omega | (simp only [lenS]; try omega)) only [go_sem, reduceAdd, reduceEqDiff, reduceLeDiff, reduceSub]
      rw [← d4]; rfl
    · obtain ⟨u, rfl⟩ : ∃ u, k = u + 1 := ⟨k - 1, by omega⟩
      simp (maxSteps := 2000000) (disch := first | omega | (simp only [lenS]; try omega)) only [go_sem, reduceAdd, reduceEqDiff, reduceLeDiff, reduceSub]
      refine z1a (fun q s => ∃ m : Nat, i ≤ m ∧ m ≤ b ∧ q = b - m ∧ Sort.scanSorted (ltC cm) D b m = Sort.scanSorted (ltC cm) D b i ∧ s = ⟨[.ref 0 1 0 d.size, I a, I b, .clo w7t [], .any, I m, I (5 - ((u + 1 : Nat) : Int)), .any, .any, .any, .any, .any, .any, .any, .any, .any, .any, .any, .any], .row t false 1 (D.toList.map fun x => ints (g x)) :: []⟩) (b - i) ?_ ?_
      · simp (maxSteps := 2000000) (disch := first | omega | (simp only [lenS]; try omega)) only [go_sem, reduceAdd, reduceEqDiff, reduceLeDiff, reduceSub]
        exact ⟨i, by omega, d2, rfl, rfl, rfl⟩
      · rintro q s ⟨m, m1, m2, rfl, m4, rfl⟩
        have s0 := z17l (ltC cm) D (b := b) (i := m)
        have s1 := z17m (ltC cm) D (b := b) (i := m)
        simp only [ltC] at s0 s1
        obtain ⟨m', hm'⟩ : ∃ m' : Nat, (m : Int) - 1 = m' := ⟨m - 1, by omega⟩
        have hm1 : m - 1 = m' := by omega
        rw [hm1] at s0 s1
        by_cases hmb : (m : Int) < b
        · have w2 := z176 D (i := m) (by omega)
          have w3 := z176 D (i := m') (by omega)
          have w4 := z17a (fun x => ints (g x)) D m m'
          generalize D[m]! = x at *
          generalize D[m']! = y at *
          by_cases hlt : cm x y < 0
          · have hscan : m = Sort.scanSorted (ltC cm) D b i := by rw [← m4]; exact (s0 (.inr (by simp [hlt]))).symm
            clear s0 s1 m4
            by_cases h50 : (b : Int) - a < 50
            · have e5 : Sort.partialIns (ltC cm) a b 5 (a + 1) d = (D, false) := by rw [← d4, Sort.partialIns_succ, ← hscan, if_neg (by omega), if_pos (by omega)]
              simp (maxSteps := 2000000) (disch := first | omega | (simp only [lenS]; try omega)) only [go_sem, reduceAdd, reduceEqDiff, reduceLeDiff, reduceSub, H, w2, w3, e7, hm', hmb, hlt, h50, Int.not_le.2 h50, false_implies, and_true, true_and, forall_const]
              rw [e5]
            · by_cases hma : (2 : Int) ≤ (m : Int) - a
              · simp (maxSteps := 2000000) (disch := first | omega | (simp only [lenS]; try omega)) only [go_sem, reduceAdd, reduceEqDiff, reduceLeDiff, reduceSub, H, w2, w3, e7, hm', hmb, hlt, h50, Int.not_lt.1 h50, hma, Int.not_lt.2 hma, List.getElem?_set_ne, List.getElem_set_ne, List.getElem_map, false_implies, and_true, true_and, forall_const]
                refine z1a (fun q s => ∃ (G2 : Array α), q ≤ m' ∧ G2.size = d.size ∧ Sort.shiftDown (ltC cm) q G2 = Sort.shiftDown (ltC cm) m' (Sort.swp D m m') ∧ s = ⟨[.ref 0 1 0 d.size, I a, I b, .clo w7t [], .any, I m, I (5 - ((u + 1 : Nat) : Int)), I q, .any, .any, .any, .any, .any, .any, .any, .any, .any, .any, .any], .row t false 1 (G2.toList.map fun x => ints (g x)) :: []⟩) m' ?_ ?_
                · simp (maxSteps := 2000000) (disch := first | omega | (simp only [lenS]; try omega)) only [go_sem, reduceAdd, reduceEqDiff, reduceLeDiff, reduceSub]
                  first | exact ⟨Sort.swp D m m', by rw [Sort.size_swp]; exact d3, rfl, by rw [w4]⟩ | exact ⟨Sort.swp D m m', by omega, by rw [Sort.size_swp]; exact d3, rfl, by rw [w4]⟩
                · rintro q s ⟨G2, c1, k5, c2, rfl⟩
                  have z0 := z18i (ltC cm) G2 (j := q)
                  have z1 := z18j (ltC cm) G2 (j := q)
                  simp only [ltC] at z0 z1
                  have e9 : G2.toList.length = d.size := by simp [k5]
                  have hG : Sort.fixDown (ltC cm) a m (Sort.swp D m m') = Sort.shiftDown (ltC cm) m' (Sort.swp D m m') := by unfold Sort.fixDown; rw [if_pos (by omega), hm1]
                  by_cases hq : (1 : Int) ≤ q
                  · obtain ⟨q', hq'⟩ : ∃ q' : Nat, (q : Int) - 1 = q' := ⟨q - 1, by omega⟩
                    rw [show q - 1 = q' by omega] at z0 z1
                    have v2 := z176 G2 (i := q) (by omega)
                    have v3 := z176 G2 (i := q') (by omega)
                    have v4 := z17a (fun x => ints (g x)) G2 q q'
                    generalize G2[q]! = x2 at *
                    generalize G2[q']! = y2 at *
                    by_cases hl2 : cm x2 y2 < 0
                    · have z2 := z1 (by omega) (by simp [hl2])
                      simp (maxSteps := 2000000) (disch := first | omega | (simp only [lenS]; try omega)) only [go_sem, reduceAdd, reduceEqDiff, reduceLeDiff, reduceSub, H, v2, v3, e9, hq', hq, Int.not_lt.2 hq, hl2, List.getElem?_set_ne, List.getElem_set_ne, List.getElem_map]
                      exact ⟨q', by omega, Sort.swp G2 q q', by omega, by rw [Sort.size_swp]; exact k5, by rw [← c2, z2], by rw [v4]⟩
                    · have z2 := z0 (.inr (by simp [hl2]))
                      have hG2 : Sort.fixDown (ltC cm) a m (Sort.swp D m m') = G2 := by rw [hG, ← c2]; exact z2
                      by_cases hbm : (2 : Int) ≤ (b : Int) - (m : Int)
                      · have h2' : Sort.fixUp (ltC cm) b m G2 = Sort.shiftUp (ltC cm) b (m + 1) G2 := by unfold Sort.fixUp; rw [if_pos (by omega)]
                        simp (maxSteps := 2000000) (disch := first | omega | (simp only [lenS]; try omega)) only [go_sem, reduceAdd, reduceEqDiff, reduceLeDiff, reduceSub, H, v2, v3, e9, hq', hq, Int.not_lt.2 hq, hl2, hbm, Int.not_lt.2 hbm, false_implies, and_true, true_and, forall_const]
                        clear v2 v3 v4 z0 z1 z2 w2 w3 w4 hl2 hlt
                        refine z1a (fun q s => ∃ (w : Nat) (G3 : Array α), m < w ∧ w ≤ b ∧ q = b - w ∧ G3.size = d.size ∧ Sort.shiftUp (ltC cm) b w G3 = Sort.shiftUp (ltC cm) b (m + 1) G2 ∧ s = ⟨[.ref 0 1 0 d.size, I a, I b, .clo w7t [], .any, I m, I (5 - ((u + 1 : Nat) : Int)), .any, I w, .any, .any, .any, .any, .any, .any, .any, .any, .any, .any], .row t false 1 (G3.toList.map fun x => ints (g x)) :: []⟩) (b - (m + 1)) ?_ ?_
                        · simp (maxSteps := 2000000) (disch := first | omega | (simp only [lenS]; try omega)) only [go_sem, reduceAdd, reduceEqDiff, reduceLeDiff, reduceSub]
                          exact ⟨m + 1, G2, by omega, by omega, rfl, k5, rfl, rfl⟩
                        · rintro q s ⟨w, G3, c1, c2, rfl, c3, c4, rfl⟩
                          have z0 := z18z (ltC cm) G3 (b := b) (j := w)
                          have z1 := z190 (ltC cm) G3 (b := b) (j := w)
                          simp only [ltC] at z0 z1
                          have e8 : G3.toList.length = d.size := by simp [c3]
                          obtain ⟨w', hw'⟩ : ∃ w' : Nat, (w : Int) - 1 = w' := ⟨w - 1, by omega⟩
                          rw [show w - 1 = w' by omega] at z0 z1
                          by_cases hwb : (w : Int) < b
                          · have v2 := z176 G3 (i := w) (by omega)
                            have v3 := z176 G3 (i := w') (by omega)
                            have v4 := z17a (fun x => ints (g x)) G3 w w'
                            generalize G3[w]! = x3 at *
                            generalize G3[w']! = y3 at *
                            by_cases hl3 : cm x3 y3 < 0
                            · have z2 := z1 (by omega) (by simp [hl3])
                              simp (maxSteps := 2000000) (disch := first | omega | (simp only [lenS]; try omega)) only [go_sem, reduceAdd, reduceEqDiff, reduceLeDiff, reduceSub, H, v2, v3, e8, hw', hwb, hl3, List.getElem?_set_ne, List.getElem_set_ne, List.getElem_map]
                              exact ⟨b - (w + 1), by omega, w + 1, Sort.swp G3 w w', by omega, by omega, rfl, by rw [Sort.size_swp]; exact c3, by rw [← c4, z2], by rw [v4]; rfl⟩
                            · have z2 := z0 (.inr (by simp [hl3]))
                              simp (maxSteps := 2000000) (disch := first | omega | (simp only [lenS]; try omega)) only [go_sem, reduceAdd, reduceEqDiff, reduceLeDiff, reduceSub, H, v2, v3, e8, hw', hwb, hl3]
                              refine ⟨u, by omega, m, G3, by omega, by omega, by omega, c3, ?_, ?_⟩
                              · rw [← d4, Sort.partialIns_succ, ← hscan, if_neg (by omega), if_neg (by omega), hm1, hG2, h2', ← c4]
                                exact congrArg _ z2.symm
                              · rw [show (5 : Int) - ((u + 1 : Nat) : Int) + 1 = 5 - (u : Int) by omega]
                          · have z2 := z0 (.inl (by omega))
                            simp (maxSteps := 2000000) (disch := first | omega | (simp only [lenS]; try omega)) only [go_sem, reduceAdd, reduceEqDiff, reduceLeDiff, reduceSub, hwb]
                            refine ⟨u, by omega, m, G3, by omega, by omega, by omega, c3, ?_, ?_⟩
                            · rw [← d4, Sort.partialIns_succ, ← hscan, if_neg (by omega), if_neg (by omega), hm1, hG2, h2', ← c4]
                              exact congrArg _ z2.symm
                            · rw [show (5 : Int) - ((u + 1 : Nat) : Int) + 1 = 5 - (u : Int) by omega]
                      · have h2' : Sort.fixUp (ltC cm) b m G2 = G2 := by unfold Sort.fixUp; rw [if_neg (by omega)]
                        simp (maxSteps := 2000000) (disch := first | omega | (simp only [lenS]; try omega)) only [go_sem, reduceAdd, reduceEqDiff, reduceLeDiff, reduceSub, H, v2, v3, e9, hq', hq, Int.not_lt.2 hq, hl2, hbm, Int.not_le.1 hbm, false_implies, and_true, true_and, forall_const]
                        refine ⟨u, by omega, m, G2, by omega, by omega, by omega, k5, ?_, ?_⟩
                        · rw [← d4, Sort.partialIns_succ, ← hscan, if_neg (by omega), if_neg (by omega), hm1, hG2, h2']
                        · rw [show (5 : Int) - ((u + 1 : Nat) : Int) + 1 = 5 - (u : Int) by omega]
                  · have z2 := z0 (.inl (by omega))
                    have hG2 : Sort.fixDown (ltC cm) a m (Sort.swp D m m') = G2 := by rw [hG, ← c2]; exact z2
                    by_cases hbm : (2 : Int) ≤ (b : Int) - (m : Int)
                    · have h2' : Sort.fixUp (ltC cm) b m G2 = Sort.shiftUp (ltC cm) b (m + 1) G2 := by unfold Sort.fixUp; rw [if_pos (by omega)]
                      simp (maxSteps := 2000000) (disch := first | omega | (simp only [lenS]; try omega)) only [go_sem, reduceAdd, reduceEqDiff, reduceLeDiff, reduceSub, hq, Int.not_le.1 hq, hbm, Int.not_lt.2 hbm, false_implies, and_true, true_and, forall_const]
                      clear z0 z1 z2 w2 w3 w4 hlt
                      refine z1a (fun q s => ∃ (w : Nat) (G3 : Array α), m < w ∧ w ≤ b ∧ q = b - w ∧ G3.size = d.size ∧ Sort.shiftUp (ltC cm) b w G3 = Sort.shiftUp (ltC cm) b (m + 1) G2 ∧ s = ⟨[.ref 0 1 0 d.size, I a, I b, .clo w7t [], .any, I m, I (5 - ((u + 1 : Nat) : Int)), .any, I w, .any, .any, .any, .any, .any, .any, .any, .any, .any, .any], .row t false 1 (G3.toList.map fun x => ints (g x)) :: []⟩) (b - (m + 1)) ?_ ?_
                      · simp (maxSteps := 2000000) (disch := first | omega | (simp only [lenS]; try omega)) only [go_sem, reduceAdd, reduceEqDiff, reduceLeDiff, reduceSub]
                        exact ⟨m + 1, G2, by omega, by omega, rfl, k5, rfl, rfl⟩
                      · rintro q s ⟨w, G3, c1, c2, rfl, c3, c4, rfl⟩
                        have z0 := z18z (ltC cm) G3 (b := b) (j := w)
                        have z1 := z190 (ltC cm) G3 (b := b) (j := w)
                        simp only [ltC] at z0 z1
                        have e8 : G3.toList.length = d.size := by simp [c3]
                        obtain ⟨w', hw'⟩ : ∃ w' : Nat, (w : Int) - 1 = w' := ⟨w - 1, by omega⟩
                        rw [show w - 1 = w' by omega] at z0 z1
                        by_cases hwb : (w : Int) < b
                        · have v2 := z176 G3 (i := w) (by omega)
                          have v3 := z176 G3 (i := w') (by omega)
                          have v4 := z17a (fun x => ints (g x)) G3 w w'
                          generalize G3[w]! = x3 at *
                          generalize G3[w']! = y3 at *
                          by_cases hl3 : cm x3 y3 < 0
                          · have z2 := z1 (by omega) (by simp [hl3])
                            simp (maxSteps := 2000000) (disch := first | omega | (simp only [lenS]; try omega)) only [go_sem, reduceAdd, reduceEqDiff, reduceLeDiff, reduceSub, H, v2, v3, e8, hw', hwb, hl3, List.getElem?_set_ne, List.getElem_set_ne, List.getElem_map]
                            exact ⟨b - (w + 1), by omega, w + 1, Sort.swp G3 w w', by omega, by omega, rfl, by rw [Sort.size_swp]; exact c3, by rw [← c4, z2], by rw [v4]; rfl⟩
                          · have z2 := z0 (.inr (by simp [hl3]))
                            simp (maxSteps := 2000000) (disch := first | omega | (simp only [lenS]; try omega)) only [go_sem, reduceAdd, reduceEqDiff, reduceLeDiff, reduceSub, H, v2, v3, e8, hw', hwb, hl3]
                            refine ⟨u, by omega, m, G3, by omega, by omega, by omega, c3, ?_, ?_⟩
                            · rw [← d4, Sort.partialIns_succ, ← hscan, if_neg (by omega), if_neg (by omega), hm1, hG2, h2', ← c4]
                              exact congrArg _ z2.symm
                            · rw [show (5 : Int) - ((u + 1 : Nat) : Int) + 1 = 5 - (u : Int) by omega]
                        · have z2 := z0 (.inl (by omega))
                          simp (maxSteps := 2000000) (disch := first | omega | (simp only [lenS]; try omega)) only [go_sem, reduceAdd, reduceEqDiff, reduceLeDiff, reduceSub, hwb]
                          refine ⟨u, by omega, m, G3, by omega, by omega, by omega, c3, ?_, ?_⟩
                          · rw [← d4, Sort.partialIns_succ, ← hscan, if_neg (by omega), if_neg (by omega), hm1, hG2, h2', ← c4]
                            exact congrArg _ z2.symm
                          · rw [show (5 : Int) - ((u + 1 : Nat) : Int) + 1 = 5 - (u : Int) by omega]
                    · have h2' : Sort.fixUp (ltC cm) b m G2 = G2 := by unfold Sort.fixUp; rw [if_neg (by omega)]
                      simp (maxSteps := 2000000) (disch := first | omega | (simp only [lenS]; try omega)) only [go_sem, reduceAdd, reduceEqDiff, reduceLeDiff, reduceSub, hq, Int.not_le.1 hq, hbm, Int.not_le.1 hbm, false_implies, and_true, true_and, forall_const]
                      refine ⟨u, by omega, m, G2, by omega, by omega, by omega, k5, ?_, ?_⟩
                      · rw [← d4, Sort.partialIns_succ, ← hscan, if_neg (by omega), if_neg (by omega), hm1, hG2, h2']
                      · rw [show (5 : Int) - ((u + 1 : Nat) : Int) + 1 = 5 - (u : Int) by omega]
              · have hG0 : Sort.fixDown (ltC cm) a m (Sort.swp D m m') = Sort.swp D m m' := by unfold Sort.fixDown; rw [if_neg (by omega)]
                have k5' : (Sort.swp D m m').size = d.size := by rw [Sort.size_swp]; exact d3
                obtain ⟨G2, hGG⟩ : ∃ G2, Sort.swp D m m' = G2 := ⟨_, rfl⟩
                have hG2 : Sort.fixDown (ltC cm) a m (Sort.swp D m m') = G2 := by rw [hG0, hGG]
                have k5 : G2.size = d.size := by rw [← hGG]; exact k5'
                rw [hGG] at w4
                by_cases hbm : (2 : Int) ≤ (b : Int) - (m : Int)
                · have h2' : Sort.fixUp (ltC cm) b m G2 = Sort.shiftUp (ltC cm) b (m + 1) G2 := by unfold Sort.fixUp; rw [if_pos (by omega)]
                  simp (maxSteps := 2000000) (disch := first | omega | (simp only [lenS]; try omega)) only [go_sem, reduceAdd, reduceEqDiff, reduceLeDiff, reduceSub, H, w2, w3, e7, hm', hmb, hlt, h50, Int.not_lt.1 h50, hma, Int.not_le.1 hma, hbm, Int.not_lt.2 hbm, List.getElem?_set_ne, List.getElem_set_ne, List.getElem_map, false_implies, and_true, true_and, forall_const]
                  rw [← w4]
                  clear w2 w3 w4 hlt
                  refine z1a (fun q s => ∃ (w : Nat) (G3 : Array α), m < w ∧ w ≤ b ∧ q = b - w ∧ G3.size = d.size ∧ Sort.shiftUp (ltC cm) b w G3 = Sort.shiftUp (ltC cm) b (m + 1) G2 ∧ s = ⟨[.ref 0 1 0 d.size, I a, I b, .clo w7t [], .any, I m, I (5 - ((u + 1 : Nat) : Int)), .any, I w, .any, .any, .any, .any, .any, .any, .any, .any, .any, .any], .row t false 1 (G3.toList.map fun x => ints (g x)) :: []⟩) (b - (m + 1)) ?_ ?_
                  · simp (maxSteps := 2000000) (disch := first | omega | (simp only [lenS]; try omega)) only [go_sem, reduceAdd, reduceEqDiff, reduceLeDiff, reduceSub]
                    exact ⟨m + 1, G2, by omega, by omega, rfl, k5, rfl, rfl⟩
                  · rintro q s ⟨w, G3, c1, c2, rfl, c3, c4, rfl⟩
                    have z0 := z18z (ltC cm) G3 (b := b) (j := w)
                    have z1 := z190 (ltC cm) G3 (b := b) (j := w)
                    simp only [ltC] at z0 z1
                    have e8 : G3.toList.length = d.size := by simp [c3]
                    obtain ⟨w', hw'⟩ : ∃ w' : Nat, (w : Int) - 1 = w' := ⟨w - 1, by omega⟩
                    rw [show w - 1 = w' by omega] at z0 z1
                    by_cases hwb : (w : Int) < b
                    · have v2 := z176 G3 (i := w) (by omega)
                      have v3 := z176 G3 (i := w') (by omega)
                      have v4 := z17a (fun x => ints (g x)) G3 w w'
                      generalize G3[w]! = x3 at *
                      generalize G3[w']! = y3 at *
                      by_cases hl3 : cm x3 y3 < 0
                      · have z2 := z1 (by omega) (by simp [hl3])
                        simp (maxSteps := 2000000) (disch := first | omega | (simp only [lenS]; try omega)) only [go_sem, reduceAdd, reduceEqDiff, reduceLeDiff, reduceSub, H, v2, v3, e8, hw', hwb, hl3, List.getElem?_set_ne, List.getElem_set_ne, List.getElem_map]
                        exact ⟨b - (w + 1), by omega, w + 1, Sort.swp G3 w w', by omega, by omega, rfl, by rw [Sort.size_swp]; exact c3, by rw [← c4, z2], by rw [v4]; rfl⟩
                      · have z2 := z0 (.inr (by simp [hl3]))
                        simp (maxSteps := 2000000) (disch := first | omega | (simp only [lenS]; try omega)) only [go_sem, reduceAdd, reduceEqDiff, reduceLeDiff, reduceSub, H, v2, v3, e8, hw', hwb, hl3]
                        refine ⟨u, by omega, m, G3, by omega, by omega, by omega, c3, ?_, ?_⟩
                        · rw [← d4, Sort.partialIns_succ, ← hscan, if_neg (by omega), if_neg (by omega), hm1, hG2, h2', ← c4]
                          exact congrArg _ z2.symm
                        · rw [show (5 : Int) - ((u + 1 : Nat) : Int) + 1 = 5 - (u : Int) by omega]
                    · have z2 := z0 (.inl (by omega))
                      simp (maxSteps := 2000000) (disch := first | omega | (simp only [lenS]; try omega)) only [go_sem, reduceAdd, reduceEqDiff, reduceLeDiff, reduceSub, hwb]
                      refine ⟨u, by omega, m, G3, by omega, by omega, by omega, c3, ?_, ?_⟩
                      · rw [← d4, Sort.partialIns_succ, ← hscan, if_neg (by omega), if_neg (by omega), hm1, hG2, h2', ← c4]
                        exact congrArg _ z2.symm
                      · rw [show (5 : Int) - ((u + 1 : Nat) : Int) + 1 = 5 - (u : Int) by omega]
                · exfalso
                  omega
          · have s2 := s1 (by omega) (by simp [hlt])
            simp (maxSteps := 2000000) (disch := first | omega | (simp only [lenS]; try omega)) only [go_sem, reduceAdd, reduceEqDiff, reduceLeDiff, reduceSub, H, w2, w3, e7, hm', hmb, hlt]
            exact ⟨b - (m + 1), by omega, m + 1, by omega, by omega, rfl, by rw [← m4, s2], rfl⟩
        · have hscan : m = Sort.scanSorted (ltC cm) D b i := by rw [← m4]; exact (s0 (.inl (by omega))).symm
          have e5 : Sort.partialIns (ltC cm) a b 5 (a + 1) d = (D, true) := by rw [← d4, Sort.partialIns_succ, ← hscan, if_pos (by omega)]
          simp (maxSteps := 2000000) (disch := first | omega | (simp only [lenS]; try omega)) only [go_sem, reduceAdd, reduceEqDiff, reduceLeDiff, reduceSub, hmb]
          rw [e5]
theorem wew {α : Type} [Inhabited α] (g : α → List Int) (cm : α → α → Int) (H : ∀ x y, C w7t [ints (g x), ints (g y)] [] = some (I (cm x y), [])) (t : TypeId) (d : Array α) (a b pv : Nat) (h1 : a ≤ pv) (h2 : pv < b) (hb : b ≤ d.size) (hs : d.size < 2^40) :
    C w8f [.ref 0 1 0 d.size, I a, I b, I pv, .clo w7t []] (.row t false 1 (d.toList.map fun x => ints (g x)) :: []) = some (I (Sort.partitionEqual (ltC cm) d a b pv).1, .row t false 1 ((Sort.partitionEqual (ltC cm) d a b pv).2.toList.map fun x => ints (g x)) :: []) := by
  obtain ⟨n, hn⟩ : ∃ n : Nat, (b : Int) - 1 = n := ⟨b - 1, by omega⟩
  have w2 := z176 d (i := a) (by omega)
  have w3 := z176 d (i := pv) (by omega)
  have w4 := z17a (fun x => ints (g x)) d a pv
  have w6 := z179 (fun x => ints (g x)) d (i := a) (j := pv) d[pv]! (by omega) (by omega)
  generalize (if a = pv then d[pv]! else d[pv]!) = z at *
  generalize d[a]! = x at *
  generalize d[pv]! = y at *
  unfold Sort.partitionEqual
  rw [show b - 1 = n by omega]
  refine w1g ?_
  simp (maxSteps := 2000000) (disch := first | omega | (simp only [lenS]; try omega)) only [wch, go_sem, reduceAdd, reduceEqDiff, reduceLeDiff, reduceSub]
  have e7 : d.toList.length = d.size := by simp
  simp (maxSteps := 2000000) (disch := first | omega | (simp only [lenS]; try omega)) only [go_sem, reduceAdd, reduceEqDiff, reduceLeDiff, reduceSub, w2, w3, w6, e7, hn]
  rw [← w4]
  have k0 : (Sort.swp d a pv).size = d.size := Sort.size_swp _ _ _
  generalize Sort.swp d a pv = D at *
  clear w2 w3 w4 w6 x y z e7
  refine z1a (fun k s => ∃ (i j : Nat) (E : Array α), a < i ∧ i ≤ j + 2 ∧ j < b ∧ k = j + 1 - i ∧ E.size = d.size ∧ Sort.partEqLoop (ltC cm) a i j E = Sort.partEqLoop (ltC cm) a (a + 1) n D ∧ s = ⟨[.ref 0 1 0 d.size, I a, .any, .any, .clo w7t [], .any, I i, I j, .any, .any, .any], .row t false 1 (E.toList.map fun x => ints (g x)) :: []⟩) (n + 1 - (a + 1)) ?_ ?_
  · simp (maxSteps := 2000000) (disch := first | omega | (simp only [lenS]; try omega)) only [go_sem, reduceAdd, reduceEqDiff, reduceLeDiff, reduceSub]
    exact ⟨a + 1, n, D, by omega, by omega, by omega, rfl, k0, rfl, rfl⟩
  · rintro k s ⟨i, j, E, c1, c2, c3, rfl, c4, c5, rfl⟩
    have hq := Sort.partEqLoop_eq (ltC cm) a i j E
    rw [c5] at hq
    have e7 : E.toList.length = d.size := by simp [c4]
    have w1 := z176 E (i := a) (by omega)
    simp (maxSteps := 2000000) (disch := first | omega | (simp only [lenS]; try omega)) only [go_sem, reduceAdd, reduceEqDiff, reduceLeDiff, reduceSub]
    refine z1a (fun q s => ∃ u : Nat, i ≤ u ∧ u ≤ j + 2 ∧ q = j + 2 - u ∧ Sort.scanUp (fun x => !ltC cm E[a]! x) E j u = Sort.scanUp (fun x => !ltC cm E[a]! x) E j i ∧ s = ⟨[.ref 0 1 0 d.size, I a, .any, .any, .clo w7t [], .any, I u, I j, .any, .any, .any], .row t false 1 (E.toList.map fun x => ints (g x)) :: []⟩) (j + 2 - i) ?_ ?_
    · simp (maxSteps := 2000000) (disch := first | omega | (simp only [lenS]; try omega)) only [go_sem, reduceAdd, reduceEqDiff, reduceLeDiff, reduceSub]
      exact ⟨i, by omega, c2, rfl, rfl, rfl⟩
    · rintro q s ⟨u, u1, u2, rfl, u4, rfl⟩
      have s0 := z1fd (fun x => !ltC cm E[a]! x) E (i := u) (j := j)
      have s1 := up_go (fun x => !ltC cm E[a]! x) E (i := u) (j := j)
      by_cases huj : (u : Int) ≤ j
      · have w2 := z176 E (i := u) (by omega)
        by_cases hlt : cm E[a]! E[u]! < 0
        · have hup : Sort.scanUp (fun x => !ltC cm E[a]! x) E j i = u := by rw [← u4]; exact s0 (.inr (by simp [hlt]))
          rw [hup] at hq
          clear s0 s1 u4 hup
          generalize hA : E[a]! = A at *
          generalize E[u]! = x at *
          simp (maxSteps := 2000000) (disch := first | omega | (simp only [lenS]; try omega)) only [go_sem, reduceAdd, reduceEqDiff, reduceLeDiff, reduceSub, H, w1, w2, e7, huj, hlt]
          clear w2 hlt x
          refine z1a (fun q s => ∃ v : Nat, v ≤ j ∧ u ≤ v + 2 ∧ q = v ∧ Sort.scanDown (fun x => ltC cm A x) E u v = Sort.scanDown (fun x => ltC cm A x) E u j ∧ s = ⟨[.ref 0 1 0 d.size, I a, .any, .any, .clo w7t [], .any, I u, I v, .any, .any, .any], .row t false 1 (E.toList.map fun x => ints (g x)) :: []⟩) j ?_ ?_
          · simp (maxSteps := 2000000) (disch := first | omega | (simp only [lenS]; try omega)) only [go_sem, reduceAdd, reduceEqDiff, reduceLeDiff, reduceSub]
            exact ⟨j, by omega, u2, rfl, rfl, rfl⟩
          · rintro q s ⟨v, v1, v2, rfl, v4, rfl⟩
            have s0 := zcd (fun x => ltC cm A x) E (i := u) (j := q)
            have s1 := zce (fun x => ltC cm A x) E (i := u) (j := q)
            by_cases huv : (u : Int) ≤ q
            · have w2 := z176 E (i := q) (by omega)
              obtain ⟨q', hq'⟩ : ∃ q' : Nat, (q : Int) - 1 = q' := ⟨q - 1, by omega⟩
              by_cases hl2 : cm A E[q]! < 0
              · have s2 := s1 (by omega) (by omega) (by simp [hl2])
                rw [show q - 1 = q' by omega] at s2
                generalize E[q]! = y at *
                simp (maxSteps := 2000000) (disch := first | omega | (simp only [lenS]; try omega)) only [go_sem, reduceAdd, reduceEqDiff, reduceLeDiff, reduceSub, H, w1, w2, e7, huv, hl2, hq']
                exact ⟨q', by omega, q', by omega, by omega, rfl, by rw [← v4, s2], rfl⟩
              · have hdn : Sort.scanDown (fun x => ltC cm A x) E u j = q := by rw [← v4]; exact s0 (.inr (by simp [hl2]))
                rw [hdn, if_neg (by omega), show q - 1 = q' by omega] at hq
                have w3 := z176 E (i := u) (by omega)
                have w4 := z17a (fun x => ints (g x)) E u q
                have w6 := z179 (fun x => ints (g x)) E (i := u) (j := q) E[q]! (by omega) (by omega)
                generalize (if u = q then E[q]! else E[q]!) = z at *
                generalize E[u]! = x at *
                generalize E[q]! = y at *
                simp (maxSteps := 2000000) (disch := first | omega | (simp only [lenS]; try omega)) only [go_sem, reduceAdd, reduceEqDiff, reduceLeDiff, reduceSub, H, w1, w2, w3, w6, e7, huv, hl2, hq']
                exact ⟨q' + 1 - (u + 1), by omega, u + 1, q', Sort.swp E u q, by omega, by omega, by omega, rfl, by rw [Sort.size_swp]; exact c4, hq.symm, by rw [w4]; rfl⟩
            · have hdn : Sort.scanDown (fun x => ltC cm A x) E u j = q := by rw [← v4]; exact s0 (.inl (by omega))
              rw [hdn, if_pos (by omega)] at hq
              simp (maxSteps := 2000000) (disch := first | omega | (simp only [lenS]; try omega)) only [go_sem, reduceAdd, reduceEqDiff, reduceLeDiff, reduceSub, huv]
              rw [hq]
        · have s2 := s1 (by omega) (by simp [hlt])
          generalize hA : E[a]! = A at *
          generalize E[u]! = x at *
          simp (maxSteps := 2000000) (disch := first | omega | (simp only [lenS]; try omega)) only [go_sem, reduceAdd, reduceEqDiff, reduceLeDiff, reduceSub, H, w1, w2, e7, huj, hlt]
          exact ⟨j + 2 - (u + 1), by omega, u + 1, by omega, by omega, rfl, by rw [← u4, s2], rfl⟩
      · have hup : Sort.scanUp (fun x => !ltC cm E[a]! x) E j i = u := by rw [← u4]; exact s0 (.inl (by omega))
        rw [hup] at hq
        clear s0 s1 u4 hup
        simp (maxSteps := 2000000) (disch := first | omega | (simp only [lenS]; try omega)) only [go_sem, reduceAdd, reduceEqDiff, reduceLeDiff, reduceSub, huj]
        generalize hA : E[a]! = A at *
        refine z1a (fun q s => ∃ v : Nat, v ≤ j ∧ q = v ∧ Sort.scanDown (fun x => ltC cm A x) E u v = Sort.scanDown (fun x => ltC cm A x) E u j ∧ s = ⟨[.ref 0 1 0 d.size, I a, .any, .any, .clo w7t [], .any, I u, I v, .any, .any, .any], .row t false 1 (E.toList.map fun x => ints (g x)) :: []⟩) j ?_ ?_
        · simp (maxSteps := 2000000) (disch := first | omega | (simp only [lenS]; try omega)) only [go_sem, reduceAdd, reduceEqDiff, reduceLeDiff, reduceSub]
          exact ⟨j, by omega, rfl, rfl, rfl⟩
        · rintro q s ⟨v, v1, rfl, v4, rfl⟩
          have s0 := zcd (fun x => ltC cm A x) E (i := u) (j := q)
          have huv : ¬ (u : Int) ≤ q := by omega
          have hdn : Sort.scanDown (fun x => ltC cm A x) E u j = q := by rw [← v4]; exact s0 (.inl (by omega))
          rw [hdn, if_pos (by omega)] at hq
          simp (maxSteps := 2000000) (disch := first | omega | (simp only [lenS]; try omega)) only [go_sem, reduceAdd, reduceEqDiff, reduceLeDiff, reduceSub, huv]
          rw [hq]
end Go.Proofs.YtbaclnecajkknaaGreat.Pi
