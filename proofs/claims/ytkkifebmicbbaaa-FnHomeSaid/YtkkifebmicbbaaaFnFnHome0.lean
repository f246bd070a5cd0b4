/- The functions that the law reaches: what they answer. Conditions: those that each theorem names. -/
import Derived.Test.YtkkifebmicbbaaaIrFnHome
import Derived.Test.YtkkifebmicbbaaaPlBase
import Derived.Test.YtkkifebmicbbaaaPlNet
import Derived.Test.YtkkifebmicbbaaaPlFire
import Derived.Test.YtkkifebmicbbaaaPlTurn
import Derived.Test.YtkkifebmicbbaaaPlBack
import Derived.Test.YtkkifebmicbbaaaPlFlow
import Derived.Test.YtkkifebmicbbaaaPlSpace
import Derived.Test.YtkkifebmicbbaaaPlWay
import Derived.Test.YtkkifebmicbbaaaPlReach
import Derived.Test.YtkkifebmicbbaaaPlDist
import Derived.Test.YtkkifebmicbbaaaPlFar
namespace Go.Proofs.Ytkkifebmicbbaaa.Pi
open Go
set_option linter.all false
set_option maxHeartbeats 4000000
set_option maxRecDepth 20000
/-- Lengths, all at once. -/
theorem lenS : (∀ {α : Type} (a b : List α), (a ++ b).length = a.length + b.length) ∧ (∀ {α : Type} (n : Nat) (l : List α), (l.take n).length = min n l.length) ∧ (∀ {α : Type} (n : Nat) (x : α), (List.replicate n x).length = n) ∧ (∀ {α β : Type} (f : α → β) (l : List α), (l.map f).length = l.length) ∧ (∀ {α : Type} (l : List α) (n : Nat) (x : α), (l.set n x).length = l.length) ∧ (∀ {α : Type} (x : α) (l : List α), (x :: l).length = l.length + 1) ∧ (∀ {α : Type}, ([] : List α).length = 0) ∧ (∀ {α β γ : Type} (f : α → β → γ) (a : List α) (b : List β), (List.zipWith f a b).length = min a.length b.length) ∧ (∀ {α : Type} (n : Nat) (l : List α), (l.drop n).length = l.length - n) ∧ (∀ (n : Nat), (List.range n).length = n) :=
  ⟨fun _ _ => List.length_append, fun _ _ => List.length_take, fun _ _ => List.length_replicate, fun _ _ => List.length_map _, fun _ _ _ => List.length_set, fun _ _ => List.length_cons, List.length_nil, fun _ _ _ => List.length_zipWith, fun _ _ => List.length_drop, fun _ => List.length_range⟩
theorem laws_big_ok (a b : List Int) : C f_laws_big [bys a, bys b] [] = some (.bool (decide (1048576 < (a.length : Int)) || decide (1048576 - (a.length : Int) < b.length)), []) := by
  refine C_laws_big ?_
  simp (maxSteps := 2000000) (disch := (first | omega | (simp only [lenS]; first | done | omega))) only [ir_laws_big, go_sem, Nat.reduceAdd, Nat.reduceEqDiff, Nat.reduceLeDiff, Nat.reduceSub]
  refine ⟨fun h => by simp [h], fun h => ?_⟩
  simp (maxSteps := 2000000) (disch := (first | omega | (simp only [lenS]; first | done | omega))) only [go_sem, Nat.reduceAdd, Nat.reduceEqDiff, Nat.reduceLeDiff, Nat.reduceSub]
  grind
theorem spec_l1Cur_next_ok (bs : List Int) (at_ sd : Int) (h0 : 0 ≤ at_) (h1 : at_ < 2^62) (hl : bs.length < 2^62) (hb : ∀ x ∈ bs, 0 ≤ x ∧ x < 256) :
    Lw (C f_spec_l1Cur_next [.ptr 0 0] [.box t_spec_l1Cur [bys bs, I at_, .int .u64 sd]]) fun r => ∃ x sd', r = (I x, [.box t_spec_l1Cur [bys bs, I (at_ + 1), .int .u64 sd']]) ∧ 0 ≤ x ∧ x < 256 := by
  refine E_spec_l1Cur_next ?_
  simp (maxSteps := 2000000) (disch := (first | omega | (simp only [lenS]; first | done | omega))) only [ir_spec_l1Cur_next, go_sem, Nat.reduceAdd, Nat.reduceEqDiff, Nat.reduceLeDiff, Nat.reduceSub]
  refine ⟨fun h => ?_, fun h => ?_⟩
  · have h2 : at_.toNat < bs.length := by omega
    have h3 := hb _ (List.getElem_mem h2)
    simp (maxSteps := 2000000) (disch := (first | omega | (simp only [lenS]; first | done | omega))) only [go_sem, Nat.reduceAdd, Nat.reduceEqDiff, Nat.reduceLeDiff, Nat.reduceSub]
    exact ⟨_, _, rfl, h3⟩
  · refine ⟨fun _ => ⟨_, _, rfl, by omega, by omega⟩, fun _ => ?_⟩
    generalize hw : IntKind.u64.wrap (IntKind.u64.wrap (IntKind.u64.wrap (sd * 6364136223846793005) + IntKind.u64.wrap 0) + 1442695040888963407) = w
    have hb := u64_bound (IntKind.u64.wrap (IntKind.u64.wrap (sd * 6364136223846793005) + IntKind.u64.wrap 0) + 1442695040888963407)
    rw [hw] at hb
    have h3 := and255 (x := w / 2 ^ min (Int.toNat 40) 64) (Int.ediv_nonneg hb.1 (by decide)) (Int.lt_of_le_of_lt (Int.ediv_le_self _ hb.1) hb.2)
    rw [wrap_i64 (by omega) (by omega)]
    exact ⟨_, _, rfl, h3⟩
theorem spec_l1Cur_pick_ok (n : Int) (bs : List Int) (at_ sd : Int) (h0 : 0 ≤ at_) (h1 : at_ < 2^61) (hl : bs.length < 2^62) (hb : ∀ x ∈ bs, 0 ≤ x ∧ x < 256) :
    Lw (C f_spec_l1Cur_pick [.ptr 0 0, I n] [.box t_spec_l1Cur [bys bs, I at_, .int .u64 sd]]) fun r => ∃ x at' sd', r = (I x, [.box t_spec_l1Cur [bys bs, I at', .int .u64 sd']]) ∧ at_ ≤ at' ∧ at' ≤ at_ + 2 ∧ 0 ≤ x ∧ (x = 0 ∨ x < n) := by
  refine E_spec_l1Cur_pick ?_
  simp (maxSteps := 2000000) (disch := (first | omega | (simp only [lenS]; first | done | omega))) only [ir_spec_l1Cur_pick, go_sem, Nat.reduceAdd, Nat.reduceEqDiff, Nat.reduceLeDiff, Nat.reduceSub]
  refine ⟨fun h => ⟨_, _, _, rfl, by omega, by omega, by omega, by omega⟩, fun h => ?_⟩
  obtain ⟨_, e1, x1, s1, rfl, h3, h4⟩ := spec_l1Cur_next_ok bs at_ sd h0 (by omega) hl hb
  obtain ⟨_, e2, x2, s2, rfl, h5, h6⟩ := spec_l1Cur_next_ok bs (at_ + 1) s1 (by omega) (by omega) hl hb
  simp (maxSteps := 2000000) (disch := (first | omega | (simp only [lenS]; first | done | omega))) only [go_sem, Nat.reduceAdd, Nat.reduceEqDiff, Nat.reduceLeDiff, Nat.reduceSub, e1, e2]
  refine ⟨fun _ => ⟨_, _, _, rfl, by omega, by omega, Int.tmod_nonneg _ (by omega), .inr (Int.tmod_lt_of_pos _ (by omega))⟩, fun _ => ⟨_, _, _, rfl, by omega, by omega, Int.tmod_nonneg _ (by omega), .inr (Int.tmod_lt_of_pos _ (by omega))⟩⟩
theorem spec_l1Cur_one_ok (n : Int) (bs : List Int) (at_ sd : Int) (h0 : 0 ≤ at_) (h1 : at_ < 2^61) (hl : bs.length < 2^62) (hb : ∀ x ∈ bs, 0 ≤ x ∧ x < 256) :
    Lw (C f_spec_l1Cur_one [.ptr 0 0, I n] [.box t_spec_l1Cur [bys bs, I at_, .int .u64 sd]]) fun r => ∃ x at' sd', r = (.bool x, [.box t_spec_l1Cur [bys bs, I at', .int .u64 sd']]) ∧ at_ ≤ at' ∧ at' ≤ at_ + 2 := by
  refine E_spec_l1Cur_one ?_
  simp (maxSteps := 2000000) (disch := (first | omega | (simp only [lenS]; first | done | omega))) only [ir_spec_l1Cur_one, go_sem, Nat.reduceAdd, Nat.reduceEqDiff, Nat.reduceLeDiff, Nat.reduceSub]
  obtain ⟨_, e1, x1, a1, s1, rfl, h3, h4, h5⟩ := spec_l1Cur_pick_ok n bs at_ sd h0 h1 hl hb
  simp (maxSteps := 2000000) (disch := (first | omega | (simp only [lenS]; first | done | omega))) only [go_sem, Nat.reduceAdd, Nat.reduceEqDiff, Nat.reduceLeDiff, Nat.reduceSub, e1]
  exact ⟨fun _ => ⟨_, _, _, rfl, h3, h4⟩, fun _ => ⟨_, _, _, rfl, h3, h4⟩⟩
theorem spec_l1Put_ok (l : List Int) (x : Int) (hl : l.length < 2^30) : Lw (C f_spec_l1Put [.ref 0 1 0 l.length, I x] [.row t_int true 1 (l.map I)]) fun r => r = (.un t_int true 1 ((putI l x).map I), [.row t_int true 1 (l.map I)]) ∨ (r = (.ref 0 1 0 l.length, [.row t_int true 1 (l.map I)]) ∧ putI l x = l) := by
  refine E_spec_l1Put ?_
  simp (maxSteps := 2000000) (disch := (first | omega | (simp only [lenS]; first | done | omega))) only [ir_spec_l1Put, go_sem, Nat.reduceAdd, Nat.reduceEqDiff, Nat.reduceLeDiff, Nat.reduceSub]
  refine W_for l.length (fun k s => s = ⟨[.ref 0 1 0 l.length, I x, .any, I k, .any, .any, .any], [.row t_int true 1 (l.map I)]⟩ ∧ (l.take k).all (fun y => decide (y < x)) = true) ?_ ?_ ?_
  · simp (maxSteps := 2000000) (disch := (first | omega | (simp only [lenS]; first | done | omega))) only [go_sem, Nat.reduceAdd, Nat.reduceEqDiff, Nat.reduceLeDiff, Nat.reduceSub]
    rfl
  · rintro k s hk ⟨rfl, hall⟩
    simp (maxSteps := 2000000) (disch := (first | omega | (simp only [lenS]; first | done | omega))) only [go_sem, Nat.reduceAdd, Nat.reduceEqDiff, Nat.reduceLeDiff, Nat.reduceSub]
    refine ⟨fun h => ⟨rfl, all_take hk hall (by simpa using h)⟩, fun h => ⟨fun h2 => .inr (putI_eq hk hall h2), fun h2 => .inl ?_⟩⟩
    rw [putI_gt hall (fun _ => by omega) (by omega)]
    simp
  · rintro s ⟨rfl, hall⟩
    simp (maxSteps := 2000000) (disch := (first | omega | (simp only [lenS]; first | done | omega))) only [go_sem, Nat.reduceAdd, Nat.reduceEqDiff, Nat.reduceLeDiff, Nat.reduceSub]
    have e := putI_gt hall (fun h => by omega) (by omega)
    refine ⟨fun h => .inl ?_, fun h => .inl ?_⟩
    · rw [e]; simp
    · have : l = [] := List.eq_nil_of_length_eq_zero (by omega)
      subst this; rfl
theorem spec_l1Put_nil (x : Int) : C f_spec_l1Put [.nil true 1, I x] [] = some (.un t_int true 1 [I x], []) := by
  refine C_spec_l1Put ?_
  simp (maxSteps := 2000000) (disch := (first | omega | (simp only [lenS]; first | done | omega))) only [ir_spec_l1Put, go_sem, Nat.reduceAdd, Nat.reduceEqDiff, Nat.reduceLeDiff, Nat.reduceSub]
  refine W_for 0 (fun k s => s = ⟨[.nil true 1, I x, .any, I 0, .any, .any, .any], []⟩) ?_ ?_ ?_
  · simp (maxSteps := 2000000) (disch := (first | omega | (simp only [lenS]; first | done | omega))) only [go_sem, Nat.reduceAdd, Nat.reduceEqDiff, Nat.reduceLeDiff, Nat.reduceSub]
  · intro k s hk; omega
  · rintro s rfl
    simp (maxSteps := 2000000) (disch := (first | omega | (simp only [lenS]; first | done | omega))) only [go_sem, Nat.reduceAdd, Nat.reduceEqDiff, Nat.reduceLeDiff, Nat.reduceSub]
theorem spec_l1Put_sl (l : List Int) (x : Int) (hl : l.length < 2^30) : Lw (C f_spec_l1Put [ints l, I x] []) fun r => r = (.un t_int true 1 ((putI l x).map I), []) ∨ (r = (ints l, []) ∧ putI l x = l) := by
  refine E_spec_l1Put ?_
  simp (maxSteps := 2000000) (disch := (first | omega | (simp only [lenS]; first | done | omega))) only [ir_spec_l1Put, go_sem, Nat.reduceAdd, Nat.reduceEqDiff, Nat.reduceLeDiff, Nat.reduceSub]
  refine W_for l.length (fun k s => s = ⟨[ints l, I x, .any, I k, .any, .any, .any], []⟩ ∧ (l.take k).all (fun y => decide (y < x)) = true) ?_ ?_ ?_
  · simp (maxSteps := 2000000) (disch := (first | omega | (simp only [lenS]; first | done | omega))) only [go_sem, Nat.reduceAdd, Nat.reduceEqDiff, Nat.reduceLeDiff, Nat.reduceSub]
    rfl
  · rintro k s hk ⟨rfl, hall⟩
    simp (maxSteps := 2000000) (disch := (first | omega | (simp only [lenS]; first | done | omega))) only [go_sem, Nat.reduceAdd, Nat.reduceEqDiff, Nat.reduceLeDiff, Nat.reduceSub]
    refine ⟨fun h => ⟨rfl, all_take hk hall (by simpa using h)⟩, fun h => ⟨fun h2 => .inr (putI_eq hk hall h2), fun h2 => .inl ?_⟩⟩
    rw [putI_gt hall (fun _ => by omega) (by omega)]
    simp
  · rintro s ⟨rfl, hall⟩
    simp (maxSteps := 2000000) (disch := (first | omega | (simp only [lenS]; first | done | omega))) only [go_sem, Nat.reduceAdd, Nat.reduceEqDiff, Nat.reduceLeDiff, Nat.reduceSub]
    have e := putI_gt hall (fun h => by omega) (by omega)
    refine .inl ?_
    rw [e]; simp
theorem spec_l1Cur_grow_all (bs : List Int) (hl : bs.length < 2^62) (hb : ∀ x ∈ bs, 0 ≤ x ∧ x < 256) : ∀ d : Nat,
    (∀ (D a b pl at_ sd : Int), D = d → 0 ≤ pl → pl ≤ 13 → 0 ≤ at_ → at_ + growC d < 2^60 → growT d ≤ 1000 →
      Lw (C f_spec_l1Cur_grow [.ptr 0 0, .ptr 1 0, I a, I b, I D] [.box t_spec_l1Cur [bys bs, I at_, .int .u64 sd], .box t_impl_Net [I pl, .nil false 3]]) fun r => ∃ (pl' : Int) (tr' : List Tr) (at' sd' : Int), r = (.tup [], [.box t_spec_l1Cur [bys bs, I at', .int .u64 sd'], .box t_impl_Net [I pl', .ref 2 3 0 tr'.length], .row t_impl_Trans false 3 (tr'.map encT)]) ∧ pl ≤ pl' ∧ pl' ≤ 13 ∧ 0 < tr'.length ∧ tr'.length ≤ growT d ∧ smq 10 tr' ∧ at_ ≤ at' ∧ at' ≤ at_ + growC d) ∧
    (∀ (D a b pl at_ sd : Int) (tr : List Tr), D = d → 0 ≤ pl → pl ≤ 13 → 0 ≤ at_ → at_ + growC d < 2^60 → tr.length + growT d ≤ 1000 → smq 10 tr →
      Lw (C f_spec_l1Cur_grow [.ptr 0 0, .ptr 1 0, I a, I b, I D] [.box t_spec_l1Cur [bys bs, I at_, .int .u64 sd], .box t_impl_Net [I pl, .ref 2 3 0 tr.length], .row t_impl_Trans false 3 (tr.map encT)]) fun r => ∃ (pl' : Int) (tr' : List Tr) (at' sd' : Int), r = (.tup [], [.box t_spec_l1Cur [bys bs, I at', .int .u64 sd'], .box t_impl_Net [I pl', .ref 3 3 0 tr'.length], .dead, .row t_impl_Trans false 3 (tr'.map encT)]) ∧ pl ≤ pl' ∧ pl' ≤ 13 ∧ tr.length < tr'.length ∧ tr'.length ≤ tr.length + growT d ∧ smq 10 tr' ∧ at_ ≤ at' ∧ at' ≤ at_ + growC d) := by
  intro d
  induction d with
  | zero =>
    have c0 : growT 0 = 1 := rfl
    refine ⟨fun D a b pl at_ sd hD h1 h2 h3 h4 h5 => ?_, fun D a b pl at_ sd tr hD h1 h2 h3 h4 h5 h6 => ?_⟩
    · obtain rfl : D = 0 := by omega
      refine E_spec_l1Cur_grow ?_
      simp (maxSteps := 2000000) (disch := (first | omega | (simp only [lenS]; first | done | omega))) only [ir_spec_l1Cur_grow, go_sem, Nat.reduceAdd, Nat.reduceEqDiff, Nat.reduceLeDiff, Nat.reduceSub]
      exact ⟨pl, [⟨[a], [b], []⟩], at_, sd, by simp, by omega, by omega, by simp, by simp only [List.length_append, List.length_cons, List.length_nil]; omega, smq_snoc smq_nil (by simp), by omega, by omega⟩
    · obtain rfl : D = 0 := by omega
      refine E_spec_l1Cur_grow ?_
      simp (maxSteps := 2000000) (disch := (first | omega | (simp only [lenS]; first | done | omega))) only [ir_spec_l1Cur_grow, go_sem, Nat.reduceAdd, Nat.reduceEqDiff, Nat.reduceLeDiff, Nat.reduceSub]
      exact ⟨pl, tr ++ [⟨[a], [b], []⟩], at_, sd, by rw [List.map_append]; simp, by omega, by omega, by simp, by simp only [List.length_append, List.length_cons, List.length_nil]; omega, smq_snoc h6 (by simp), by omega, by omega⟩
  | succ d ih =>
    obtain ⟨ih1, ih2⟩ := ih
    have c1 : growC (d + 1) = 2 + 2 * growC d := rfl
    have c0 : growT (d + 1) = 2 + 2 * growT d := rfl
    refine ⟨fun D a b pl at_ sd hD h1 h2 h3 h4 h5 => ?_, fun D a b pl at_ sd tr hD h1 h2 h3 h4 h5 h6 => ?_⟩
    · have hD0 : ¬ D = 0 := by omega
      have hDT := growT_ge d
      have hD1 : D ≤ 1000 := by omega
      refine E_spec_l1Cur_grow ?_
      simp (maxSteps := 2000000) (disch := (first | omega | (simp only [lenS]; first | done | omega))) only [ir_spec_l1Cur_grow, go_sem, Nat.reduceAdd, Nat.reduceEqDiff, Nat.reduceLeDiff, Nat.reduceSub]
      refine ⟨fun h => ⟨pl, [⟨[a], [b], []⟩], at_, sd, by simp, by omega, by omega, by simp, by simp only [List.length_append, List.length_cons, List.length_nil]; omega, smq_snoc smq_nil (by simp), by omega, by omega⟩, fun hp9 => ?_⟩
      obtain ⟨_, e1, x1, a1, s1, rfl, h7, h8, h9, h10⟩ := spec_l1Cur_pick_ok 5 bs at_ sd (by omega) (by omega) hl hb
      obtain ⟨_, fA, pA, tA, aA, sA, rfl, kA1, kA2, kA3, kA4, kA5, kA6, kA7⟩ := ih1 (D - 1) a pl (pl + 1) a1 s1 (by omega) (by omega) (by omega) (by omega) (by omega) (by omega)
      obtain ⟨_, gA, pA', tA', aA', sA', rfl, lA1, lA2, lA3, lA4, lA5, lA6, lA7⟩ := ih2 (D - 1) pl b pA aA sA tA (by omega) (by omega) (by omega) (by omega) (by omega) (by omega) kA5
      obtain ⟨_, fB, pB, tB, aB, sB, rfl, kB1, kB2, kB3, kB4, kB5, kB6, kB7⟩ := ih1 (D - 1) a b pl a1 s1 (by omega) (by omega) (by omega) (by omega) (by omega) (by omega)
      obtain ⟨_, gB, pB', tB', aB', sB', rfl, lB1, lB2, lB3, lB4, lB5, lB6, lB7⟩ := ih2 (D - 1) a b pB aB sB tB (by omega) (by omega) (by omega) (by omega) (by omega) (by omega) kB5
      obtain ⟨_, fC, pC, tC, aC, sC, rfl, kC1, kC2, kC3, kC4, kC5, kC6, kC7⟩ := ih2 (D - 1) pl (pl + 2) (pl + 4) a1 s1 ([] ++ [⟨[a], [pl, pl + 1], []⟩, ⟨[pl + 2, pl + 3], [b], []⟩]) (by omega) (by omega) (by omega) (by omega) (by omega) (by simp only [List.length_append, List.length_cons, List.length_nil]; omega) (by have := smq_snoc (q := 10) (smq_snoc (q := 10) smq_nil (t := ⟨[a], [pl, pl + 1], []⟩) (by simp)) (t := ⟨[pl + 2, pl + 3], [b], []⟩) (by simp); simpa using this)
      obtain ⟨_, gC, pC', tC', aC', sC', rfl, lC1, lC2, lC3, lC4, lC5, lC6, lC7⟩ := ih2 (D - 1) (pl + 1) (pl + 3) pC aC sC tC (by omega) (by omega) (by omega) (by omega) (by omega) (by simp only [List.length_append, List.length_cons, List.length_nil] at kC4; omega) kC5
      obtain ⟨_, fE, pE, tE, aE, sE, rfl, kE1, kE2, kE3, kE4, kE5, kE6, kE7⟩ := ih2 (D - 1) pl (pl + 1) (pl + 2) a1 s1 ([] ++ [⟨[a], [pl], []⟩, ⟨[pl + 1], [b], []⟩]) (by omega) (by omega) (by omega) (by omega) (by omega) (by simp only [List.length_append, List.length_cons, List.length_nil]; omega) (by have := smq_snoc (q := 10) (smq_snoc (q := 10) smq_nil (t := ⟨[a], [pl], []⟩) (by simp)) (t := ⟨[pl + 1], [b], []⟩) (by simp); simpa using this)
      obtain ⟨_, gE, pE', tE', aE', sE', rfl, lE1, lE2, lE3, lE4, lE5, lE6, lE7⟩ := ih2 (D - 1) (pl + 1) pl pE aE sE tE (by omega) (by omega) (by omega) (by omega) (by omega) (by simp only [List.length_append, List.length_cons, List.length_nil] at kE4; omega) kE5
      simp only [List.length_append, List.length_cons, List.length_nil] at kC3 kC4 kE3 kE4
      simp only [encT, ints, List.map_append, List.map_cons, List.map_nil, List.length_append, List.length_cons, List.length_nil, List.nil_append, Nat.reduceAdd, Nat.zero_add] at fC fE
      simp (maxSteps := 2000000) (disch := (first | omega | (simp only [lenS]; first | done | omega))) only [go_sem, Nat.reduceAdd, Nat.reduceEqDiff, Nat.reduceLeDiff, Nat.reduceSub, e1, fA, gA, fB, gB, fC, gC, fE, gE, spec_l1Put_nil]
      exact ⟨fun _ => ⟨pA', tA', aA', sA', rfl, by omega, by omega, by omega, by omega, lA5, by omega, by omega⟩, fun _ => ⟨fun _ => ⟨pA', tA', aA', sA', rfl, by omega, by omega, by omega, by omega, lA5, by omega, by omega⟩, fun _ => ⟨fun _ => ⟨pB', tB', aB', sB', rfl, by omega, by omega, by omega, by omega, lB5, by omega, by omega⟩, fun _ => ⟨fun _ => ⟨rfl, ⟨pC', tC', aC', sC', rfl, by omega, by omega, by omega, by omega, lC5, by omega, by omega⟩⟩, fun _ => ⟨pE', tE', aE', sE', rfl, by omega, by omega, by omega, by omega, lE5, by omega, by omega⟩⟩⟩⟩⟩

    · have hD0 : ¬ D = 0 := by omega
      have hDT := growT_ge d
      have hD1 : D ≤ 1000 := by omega
      refine E_spec_l1Cur_grow ?_
      simp (maxSteps := 2000000) (disch := (first | omega | (simp only [lenS]; first | done | omega))) only [ir_spec_l1Cur_grow, go_sem, Nat.reduceAdd, Nat.reduceEqDiff, Nat.reduceLeDiff, Nat.reduceSub]
      refine ⟨fun h => ⟨pl, tr ++ [⟨[a], [b], []⟩], at_, sd, by rw [List.map_append]; simp, by omega, by omega, by simp, by simp only [List.length_append, List.length_cons, List.length_nil]; omega, smq_snoc h6 (by simp), by omega, by omega⟩, fun hp9 => ⟨fun h => ⟨pl, tr ++ [⟨[a], [b], []⟩], at_, sd, by rw [List.map_append]; simp, by omega, by omega, by simp, by simp only [List.length_append, List.length_cons, List.length_nil]; omega, smq_snoc h6 (by simp), by omega, by omega⟩, fun hp12 => ?_⟩⟩
      obtain ⟨_, e1, x1, a1, s1, rfl, h7, h8, h9, h10⟩ := spec_l1Cur_pick_ok 5 bs at_ sd (by omega) (by omega) hl hb
      obtain ⟨_, fA, pA, tA, aA, sA, rfl, kA1, kA2, kA3, kA4, kA5, kA6, kA7⟩ := ih2 (D - 1) a pl (pl + 1) a1 s1 tr (by omega) (by omega) (by omega) (by omega) (by omega) (by omega) h6
      obtain ⟨_, gA, pA', tA', aA', sA', rfl, lA1, lA2, lA3, lA4, lA5, lA6, lA7⟩ := ih2 (D - 1) pl b pA aA sA tA (by omega) (by omega) (by omega) (by omega) (by omega) (by omega) kA5
      obtain ⟨_, fB, pB, tB, aB, sB, rfl, kB1, kB2, kB3, kB4, kB5, kB6, kB7⟩ := ih2 (D - 1) a b pl a1 s1 tr (by omega) (by omega) (by omega) (by omega) (by omega) (by omega) h6
      obtain ⟨_, gB, pB', tB', aB', sB', rfl, lB1, lB2, lB3, lB4, lB5, lB6, lB7⟩ := ih2 (D - 1) a b pB aB sB tB (by omega) (by omega) (by omega) (by omega) (by omega) (by omega) kB5
      obtain ⟨_, fC, pC, tC, aC, sC, rfl, kC1, kC2, kC3, kC4, kC5, kC6, kC7⟩ := ih2 (D - 1) pl (pl + 2) (pl + 4) a1 s1 (tr ++ [⟨[a], [pl, pl + 1], []⟩, ⟨[pl + 2, pl + 3], [b], []⟩]) (by omega) (by omega) (by omega) (by omega) (by omega) (by simp only [List.length_append, List.length_cons, List.length_nil]; omega) (by have := smq_snoc (q := 10) (smq_snoc (q := 10) h6 (t := ⟨[a], [pl, pl + 1], []⟩) (by simp)) (t := ⟨[pl + 2, pl + 3], [b], []⟩) (by simp); simpa using this)
      obtain ⟨_, gC, pC', tC', aC', sC', rfl, lC1, lC2, lC3, lC4, lC5, lC6, lC7⟩ := ih2 (D - 1) (pl + 1) (pl + 3) pC aC sC tC (by omega) (by omega) (by omega) (by omega) (by omega) (by simp only [List.length_append, List.length_cons, List.length_nil] at kC4; omega) kC5
      obtain ⟨_, fE, pE, tE, aE, sE, rfl, kE1, kE2, kE3, kE4, kE5, kE6, kE7⟩ := ih2 (D - 1) pl (pl + 1) (pl + 2) a1 s1 (tr ++ [⟨[a], [pl], []⟩, ⟨[pl + 1], [b], []⟩]) (by omega) (by omega) (by omega) (by omega) (by omega) (by simp only [List.length_append, List.length_cons, List.length_nil]; omega) (by have := smq_snoc (q := 10) (smq_snoc (q := 10) h6 (t := ⟨[a], [pl], []⟩) (by simp)) (t := ⟨[pl + 1], [b], []⟩) (by simp); simpa using this)
      obtain ⟨_, gE, pE', tE', aE', sE', rfl, lE1, lE2, lE3, lE4, lE5, lE6, lE7⟩ := ih2 (D - 1) (pl + 1) pl pE aE sE tE (by omega) (by omega) (by omega) (by omega) (by omega) (by simp only [List.length_append, List.length_cons, List.length_nil] at kE4; omega) kE5
      simp only [List.length_append, List.length_cons, List.length_nil] at kC3 kC4 kE3 kE4
      simp only [encT, ints, List.map_append, List.map_cons, List.map_nil, List.length_append, List.length_cons, List.length_nil, List.nil_append, Nat.reduceAdd, Nat.zero_add] at fC fE
      simp (maxSteps := 2000000) (disch := (first | omega | (simp only [lenS]; first | done | omega))) only [go_sem, Nat.reduceAdd, Nat.reduceEqDiff, Nat.reduceLeDiff, Nat.reduceSub, e1, fA, gA, fB, gB, fC, gC, fE, gE, spec_l1Put_nil]
      exact ⟨fun _ => ⟨pA', tA', aA', sA', rfl, by omega, by omega, by omega, by omega, lA5, by omega, by omega⟩, fun _ => ⟨fun _ => ⟨pA', tA', aA', sA', rfl, by omega, by omega, by omega, by omega, lA5, by omega, by omega⟩, fun _ => ⟨fun _ => ⟨pB', tB', aB', sB', rfl, by omega, by omega, by omega, by omega, lB5, by omega, by omega⟩, fun _ => ⟨fun _ => ⟨rfl, ⟨pC', tC', aC', sC', rfl, by omega, by omega, by omega, by omega, lC5, by omega, by omega⟩⟩, fun _ => ⟨pE', tE', aE', sE', rfl, by omega, by omega, by omega, by omega, lE5, by omega, by omega⟩⟩⟩⟩⟩
theorem spec_l1Cur_someOf_ok (n least most : Int) (hlm : 0 ≤ least ∧ least ≤ most ∧ most ≤ 20) (bs : List Int) (at_ sd : Int) (h0 : 0 ≤ at_) (h1 : at_ < 2^60) (hl : bs.length < 2^62) (hb : ∀ x ∈ bs, 0 ≤ x ∧ x < 256) :
    Lw (C f_spec_l1Cur_someOf [.ptr 0 0, I n, I least, I most] [.box t_spec_l1Cur [bys bs, I at_, .int .u64 sd]]) fun r => ∃ (l : List Int) (at' sd' : Int), r = (.un t_int true 1 (l.map I), [.box t_spec_l1Cur [bys bs, I at', .int .u64 sd']]) ∧ at_ ≤ at' ∧ at' ≤ at_ + 50 ∧ l.length ≤ 20 ∧ ∀ x ∈ l, 0 ≤ x ∧ (x = 0 ∨ x < n) := by
  refine E_spec_l1Cur_someOf ?_
  simp (maxSteps := 2000000) (disch := (first | omega | (simp only [lenS]; first | done | omega))) only [ir_spec_l1Cur_someOf, go_sem, Nat.reduceAdd, Nat.reduceEqDiff, Nat.reduceLeDiff, Nat.reduceSub]
  obtain ⟨_, e1, x1, a1, s1, rfl, h3, h4, h5, h6⟩ := spec_l1Cur_pick_ok (most - least + 1) bs at_ sd h0 (by omega) hl hb
  simp (maxSteps := 2000000) (disch := (first | omega | (simp only [lenS]; first | done | omega))) only [go_sem, Nat.reduceAdd, Nat.reduceEqDiff, Nat.reduceLeDiff, Nat.reduceSub, e1]
  refine W_for (least + x1).toNat (fun k s => ∃ (l : List Int) (at' sd' : Int), s = ⟨[.ptr 0 0, I n, .any, .any, .any, .ref 1 1 0 l.length, I (least + x1 - k), .any], [.box t_spec_l1Cur [bys bs, I at', .int .u64 sd'], .row t_int true 1 (l.map I)]⟩ ∧ l.length ≤ k ∧ at_ ≤ at' ∧ at' ≤ at_ + 2 + 2 * k ∧ ∀ x ∈ l, 0 ≤ x ∧ (x = 0 ∨ x < n)) ?_ ?_ ?_
  · refine ⟨[], a1, s1, ?_, by simp, by omega, by omega, by simp⟩
    simp (maxSteps := 2000000) (disch := (first | omega | (simp only [lenS]; first | done | omega))) only [go_sem, Nat.reduceAdd, Nat.reduceEqDiff, Nat.reduceLeDiff, Nat.reduceSub]
    rw [show least + x1 - ((0 : Nat) : Int) = least + x1 by omega]
  · rintro k s hk ⟨l, a, sd, rfl, h7, h8, h9, h10⟩
    obtain ⟨_, e2, x2, a2, s2, rfl, h11, h12, h13, h14⟩ := spec_l1Cur_pick_ok n bs a sd (by omega) (by omega) hl hb
    have e : least + x1 - ((k + 1 : Nat) : Int) = least + x1 - k - 1 := by omega
    obtain ⟨_, e3, rfl | ⟨rfl, e4⟩⟩ := spec_l1Put_ok l x2 (by omega)
    · simp (maxSteps := 2000000) (disch := (first | omega | (simp only [lenS]; first | done | omega))) only [go_sem, Nat.reduceAdd, Nat.reduceEqDiff, Nat.reduceLeDiff, Nat.reduceSub, e2, e3]
      have := putI_len l x2
      refine ⟨putI l x2, a2, s2, by rw [e], by omega, by omega, by omega, fun y hy => ?_⟩
      rcases putI_mem hy with hy | rfl
      · exact h10 y hy
      · exact ⟨h13, h14⟩
    · simp (maxSteps := 2000000) (disch := (first | omega | (simp only [lenS]; first | done | omega))) only [go_sem, Nat.reduceAdd, Nat.reduceEqDiff, Nat.reduceLeDiff, Nat.reduceSub, e2, e3]
      exact ⟨l, a2, s2, by rw [e], by omega, by omega, by omega, h10⟩
  · rintro s ⟨l, a, sd, rfl, h7, h8, h9, h10⟩
    simp (maxSteps := 2000000) (disch := (first | omega | (simp only [lenS]; first | done | omega))) only [go_sem, Nat.reduceAdd, Nat.reduceEqDiff, Nat.reduceLeDiff, Nat.reduceSub]
    exact ⟨l, a, sd, rfl, by omega, by omega, by omega, h10⟩
theorem spec_l1Cur_among_ok (l : List Int) (t : TypeId) (hne : 0 < l.length) (hln : l.length < 2^30) (bs : List Int) (at_ sd : Int) (h0 : 0 ≤ at_) (h1 : at_ < 2^61) (hl : bs.length < 2^62) (hb : ∀ x ∈ bs, 0 ≤ x ∧ x < 256) :
    Lw (C f_spec_l1Cur_among [.ptr 0 0, .ref 1 1 0 l.length] [.box t_spec_l1Cur [bys bs, I at_, .int .u64 sd], .row t true 1 (l.map I)]) fun r => ∃ x at' sd', r = (I x, [.box t_spec_l1Cur [bys bs, I at', .int .u64 sd'], .row t true 1 (l.map I)]) ∧ at_ ≤ at' ∧ at' ≤ at_ + 2 ∧ x ∈ l := by
  refine E_spec_l1Cur_among ?_
  simp (maxSteps := 2000000) (disch := (first | omega | (simp only [lenS]; first | done | omega))) only [ir_spec_l1Cur_among, go_sem, Nat.reduceAdd, Nat.reduceEqDiff, Nat.reduceLeDiff, Nat.reduceSub]
  obtain ⟨_, e1, x1, a1, s1, rfl, h3, h4, h5, h6⟩ := spec_l1Cur_pick_ok l.length bs at_ sd h0 h1 hl hb
  have h7 : x1.toNat < l.length := by omega
  simp (maxSteps := 2000000) (disch := (first | omega | (simp only [lenS]; first | done | omega))) only [go_sem, Nat.reduceAdd, Nat.reduceEqDiff, Nat.reduceLeDiff, Nat.reduceSub, e1]
  exact ⟨_, _, _, rfl, h3, h4, List.getElem_mem h7⟩
theorem spec_l1Cur_flow_ok (rs : Bool) (bs : List Int) (at_ sd : Int) (h0 : 0 ≤ at_) (h1 : at_ < 2^59) (hl : bs.length < 2^62) (hb : ∀ x ∈ bs, 0 ≤ x ∧ x < 256) :
    Lw (C f_spec_l1Cur_flow [.ptr 0 0, .bool rs] [.box t_spec_l1Cur [bys bs, I at_, .int .u64 sd]]) fun r => ∃ (f : Fl) (at' sd' : Int), r = (.agg [I f.net.pl, .un t_impl_Trans false 3 (f.net.tr.map encT), I f.src, I f.dst], [.box t_spec_l1Cur [bys bs, I at', .int .u64 sd']]) ∧ at_ ≤ at' ∧ at' ≤ at_ + 200 ∧ smNet f.net := by
  obtain ⟨_, e1, x1, a1, s1, rfl, h3, h4, h5, h6⟩ := spec_l1Cur_pick_ok 3 bs at_ sd h0 (by omega) hl hb
  obtain ⟨d, hd⟩ : ∃ d : Nat, 1 + x1 = d := ⟨(1 + x1).toNat, by omega⟩
  have hd3 := growT_le3 (d := d) (by omega)
  obtain ⟨_, e2, pl, tr, a2, s2, rfl, g1, g2, g3, g4, g5, g6, g7⟩ := (spec_l1Cur_grow_all bs hl hb d).1 (1 + x1) 0 1 2 a1 s1 hd (by omega) (by omega) (by omega) (by omega) (by omega)
  obtain ⟨_, e3, x3, a3, s3, rfl, k1, k2, k3, k4⟩ := spec_l1Cur_pick_ok tr.length bs a2 s2 (by omega) (by omega) hl hb
  obtain ⟨_, e4, x4, a4, s4, rfl, k5, k6, k7, k8⟩ := spec_l1Cur_pick_ok 9 bs a3 s3 (by omega) (by omega) hl hb
  have hx3 : x3.toNat < tr.length := by omega
  have hk := g5 _ (List.getElem_mem hx3)
  have g8 : smq 20 tr := smq_mono (by decide) g5
  have fin : ∀ (a sd : Int), a4 ≤ a → a ≤ a4 + 150 → ∃ (b : Bool) (y z : Int) (a' s' a'' s'' : Int), C f_spec_l1Cur_one [.ptr 0 0, I 30] [.box t_spec_l1Cur [bys bs, I a, .int .u64 sd]] = some (.bool b, [.box t_spec_l1Cur [bys bs, I a', .int .u64 s']]) ∧ C f_spec_l1Cur_among [.ptr 0 0, .ref 1 1 0 4] [.box t_spec_l1Cur [bys bs, I a', .int .u64 s'], .row t_int true 1 [I 0, I (-1), I 2, I 17]] = some (I z, [.box t_spec_l1Cur [bys bs, I a'', .int .u64 s''], .row t_int true 1 [I 0, I (-1), I 2, I 17]]) ∧ a ≤ a' ∧ a' ≤ a + 2 ∧ a' ≤ a'' ∧ a'' ≤ a' + 2 := by
    intro a sd ha1 ha2
    obtain ⟨_, f1, b, a', s', rfl, j1, j2⟩ := spec_l1Cur_one_ok 30 bs a sd (by omega) (by omega) hl hb
    obtain ⟨_, f2, z, a'', s'', rfl, j3, j4, j5⟩ := spec_l1Cur_among_ok [0, -1, 2, 17] t_int (by decide) (by decide) bs a' s' (by omega) (by omega) hl hb
    exact ⟨b, 0, z, a', s', a'', s'', f1, f2, j1, j2, j3, j4⟩
  refine E_spec_l1Cur_flow ?_
  simp (maxSteps := 2000000) (disch := (first | omega | (simp only [lenS]; first | done | omega))) only [ir_spec_l1Cur_flow, go_sem, Nat.reduceAdd, Nat.reduceEqDiff, Nat.reduceLeDiff, Nat.reduceSub]
  simp (maxSteps := 2000000) (disch := (first | omega | (simp only [lenS]; first | done | omega))) only [go_sem, Nat.reduceAdd, Nat.reduceEqDiff, Nat.reduceLeDiff, Nat.reduceSub, e1, e2, e3, e4]
  refine ⟨fun hx => ?_, fun hx0 => ⟨fun hx => ?_, fun hx1 => ⟨fun hx => ?_, fun hx2 => ⟨fun hx => ⟨fun hr => ?_, fun hr => ?_⟩, fun hx3' => ?_⟩⟩⟩⟩
  · obtain ⟨_, f5, x5, a5, s5, rfl, j1, j2, j3, j4⟩ := spec_l1Cur_pick_ok pl bs a4 s4 (by omega) (by omega) hl hb
    obtain ⟨_, f6, x6, a6, s6, rfl, j5, j6, j7, j8⟩ := spec_l1Cur_pick_ok pl bs a5 s5 (by omega) (by omega) hl hb
    obtain ⟨b, y, z, a', s', a'', s'', t1, t2, t3, t4, t5, t6⟩ := fin a6 s6 (by omega) (by omega)
    simp (maxSteps := 2000000) (disch := (first | omega | (simp only [lenS]; first | done | omega))) only [go_sem, Nat.reduceAdd, Nat.reduceEqDiff, Nat.reduceLeDiff, Nat.reduceSub, f5, f6, t1, t2]
    refine ⟨rfl, ?_⟩
    exact ⟨fun _ => ⟨⟨⟨pl, tr ++ [⟨[x5], [x6], []⟩]⟩, 0, z⟩, a'', s'', by simp [List.map_set]; try rfl, by omega, by omega, ⟨by simp; try omega, by simp only; omega, smq_snoc g8 (by simp)⟩⟩, fun _ => ⟨⟨⟨pl, tr ++ [⟨[x5], [x6], []⟩]⟩, 0, 1⟩, a', s', by simp [List.map_set]; try rfl, by omega, by omega, ⟨by simp; try omega, by simp only; omega, smq_snoc g8 (by simp)⟩⟩⟩
  · obtain ⟨_, f5, x5, a5, s5, rfl, j1, j2, j3, j4⟩ := spec_l1Cur_pick_ok pl bs a4 s4 (by omega) (by omega) hl hb
    obtain ⟨b, y, z, a', s', a'', s'', t1, t2, t3, t4, t5, t6⟩ := fin a5 s5 (by omega) (by omega)
    have hpl := putI_len tr[x3.toNat].out x5
    obtain ⟨_, f6, rfl | ⟨rfl, f7⟩⟩ := spec_l1Put_sl tr[x3.toNat].out x5 (by omega)
    · simp (maxSteps := 2000000) (disch := (first | omega | (simp only [lenS]; first | done | omega))) only [go_sem, Nat.reduceAdd, Nat.reduceEqDiff, Nat.reduceLeDiff, Nat.reduceSub, f5, f6, t1, t2]
      refine ⟨rfl, ?_⟩
      exact ⟨fun _ => ⟨⟨⟨pl, tr.set x3.toNat ⟨tr[x3.toNat].inn, putI tr[x3.toNat].out x5, tr[x3.toNat].rst⟩⟩, 0, z⟩, a'', s'', by simp [List.map_set]; try rfl, by omega, by omega, ⟨by simp; try omega, by simp only; omega, smq_set g8 (by simp only; omega)⟩⟩, fun _ => ⟨⟨⟨pl, tr.set x3.toNat ⟨tr[x3.toNat].inn, putI tr[x3.toNat].out x5, tr[x3.toNat].rst⟩⟩, 0, 1⟩, a', s', by simp [List.map_set]; try rfl, by omega, by omega, ⟨by simp; try omega, by simp only; omega, smq_set g8 (by simp only; omega)⟩⟩⟩
    · simp (maxSteps := 2000000) (disch := (first | omega | (simp only [lenS]; first | done | omega))) only [go_sem, Nat.reduceAdd, Nat.reduceEqDiff, Nat.reduceLeDiff, Nat.reduceSub, f5, f6, t1, t2]
      refine ⟨rfl, ?_⟩
      exact ⟨fun _ => ⟨⟨⟨pl, tr.set x3.toNat ⟨tr[x3.toNat].inn, tr[x3.toNat].out, tr[x3.toNat].rst⟩⟩, 0, z⟩, a'', s'', by simp [List.map_set]; try rfl, by omega, by omega, ⟨by simp; try omega, by simp only; omega, smq_set g8 (by simp only; omega)⟩⟩, fun _ => ⟨⟨⟨pl, tr.set x3.toNat ⟨tr[x3.toNat].inn, tr[x3.toNat].out, tr[x3.toNat].rst⟩⟩, 0, 1⟩, a', s', by simp [List.map_set]; try rfl, by omega, by omega, ⟨by simp; try omega, by simp only; omega, smq_set g8 (by simp only; omega)⟩⟩⟩
  · obtain ⟨_, f5, x5, a5, s5, rfl, j1, j2, j3, j4⟩ := spec_l1Cur_pick_ok pl bs a4 s4 (by omega) (by omega) hl hb
    obtain ⟨b, y, z, a', s', a'', s'', t1, t2, t3, t4, t5, t6⟩ := fin a5 s5 (by omega) (by omega)
    have hpl := putI_len tr[x3.toNat].inn x5
    obtain ⟨_, f6, rfl | ⟨rfl, f7⟩⟩ := spec_l1Put_sl tr[x3.toNat].inn x5 (by omega)
    · simp (maxSteps := 2000000) (disch := (first | omega | (simp only [lenS]; first | done | omega))) only [go_sem, Nat.reduceAdd, Nat.reduceEqDiff, Nat.reduceLeDiff, Nat.reduceSub, f5, f6, t1, t2]
      refine ⟨rfl, ?_⟩
      exact ⟨fun _ => ⟨⟨⟨pl, tr.set x3.toNat ⟨putI tr[x3.toNat].inn x5, tr[x3.toNat].out, tr[x3.toNat].rst⟩⟩, 0, z⟩, a'', s'', by simp [List.map_set]; try rfl, by omega, by omega, ⟨by simp; try omega, by simp only; omega, smq_set g8 (by simp only; omega)⟩⟩, fun _ => ⟨⟨⟨pl, tr.set x3.toNat ⟨putI tr[x3.toNat].inn x5, tr[x3.toNat].out, tr[x3.toNat].rst⟩⟩, 0, 1⟩, a', s', by simp [List.map_set]; try rfl, by omega, by omega, ⟨by simp; try omega, by simp only; omega, smq_set g8 (by simp only; omega)⟩⟩⟩
    · simp (maxSteps := 2000000) (disch := (first | omega | (simp only [lenS]; first | done | omega))) only [go_sem, Nat.reduceAdd, Nat.reduceEqDiff, Nat.reduceLeDiff, Nat.reduceSub, f5, f6, t1, t2]
      refine ⟨rfl, ?_⟩
      exact ⟨fun _ => ⟨⟨⟨pl, tr.set x3.toNat ⟨tr[x3.toNat].inn, tr[x3.toNat].out, tr[x3.toNat].rst⟩⟩, 0, z⟩, a'', s'', by simp [List.map_set]; try rfl, by omega, by omega, ⟨by simp; try omega, by simp only; omega, smq_set g8 (by simp only; omega)⟩⟩, fun _ => ⟨⟨⟨pl, tr.set x3.toNat ⟨tr[x3.toNat].inn, tr[x3.toNat].out, tr[x3.toNat].rst⟩⟩, 0, 1⟩, a', s', by simp [List.map_set]; try rfl, by omega, by omega, ⟨by simp; try omega, by simp only; omega, smq_set g8 (by simp only; omega)⟩⟩⟩
  · obtain ⟨_, f5, l5, a5, s5, rfl, j1, j2, j3, j4⟩ := spec_l1Cur_someOf_ok pl 1 2 (by omega) bs a4 s4 (by omega) (by omega) hl hb
    obtain ⟨b, y, z, a', s', a'', s'', t1, t2, t3, t4, t5, t6⟩ := fin a5 s5 (by omega) (by omega)
    simp (maxSteps := 2000000) (disch := (first | omega | (simp only [lenS]; first | done | omega))) only [go_sem, Nat.reduceAdd, Nat.reduceEqDiff, Nat.reduceLeDiff, Nat.reduceSub, f5, t1, t2]
    exact ⟨fun _ => ⟨⟨⟨pl, tr.set x3.toNat ⟨tr[x3.toNat].inn, tr[x3.toNat].out, l5⟩⟩, 0, z⟩, a'', s'', by simp [List.map_set]; try rfl, by omega, by omega, ⟨by simp; try omega, by simp only; omega, smq_set g8 (by simp only; omega)⟩⟩, fun _ => ⟨⟨⟨pl, tr.set x3.toNat ⟨tr[x3.toNat].inn, tr[x3.toNat].out, l5⟩⟩, 0, 1⟩, a', s', by simp [List.map_set]; try rfl, by omega, by omega, ⟨by simp; try omega, by simp only; omega, smq_set g8 (by simp only; omega)⟩⟩⟩
  · obtain ⟨b, y, z, a', s', a'', s'', t1, t2, t3, t4, t5, t6⟩ := fin a4 s4 (by omega) (by omega)
    simp (maxSteps := 2000000) (disch := (first | omega | (simp only [lenS]; first | done | omega))) only [go_sem, Nat.reduceAdd, Nat.reduceEqDiff, Nat.reduceLeDiff, Nat.reduceSub, t1, t2]
    exact ⟨fun _ => ⟨⟨⟨pl, tr⟩, 0, z⟩, a'', s'', by simp [List.map_set]; try rfl, by omega, by omega, ⟨by simp; try omega, by simp only; omega, g8⟩⟩, fun _ => ⟨⟨⟨pl, tr⟩, 0, 1⟩, a', s', by simp [List.map_set]; try rfl, by omega, by omega, ⟨by simp; try omega, by simp only; omega, g8⟩⟩⟩
  · obtain ⟨b, y, z, a', s', a'', s'', t1, t2, t3, t4, t5, t6⟩ := fin a4 s4 (by omega) (by omega)
    simp (maxSteps := 2000000) (disch := (first | omega | (simp only [lenS]; first | done | omega))) only [go_sem, Nat.reduceAdd, Nat.reduceEqDiff, Nat.reduceLeDiff, Nat.reduceSub, t1, t2]
    exact ⟨fun _ => ⟨⟨⟨pl, tr⟩, 0, z⟩, a'', s'', by simp [List.map_set]; try rfl, by omega, by omega, ⟨by simp; try omega, by simp only; omega, g8⟩⟩, fun _ => ⟨⟨⟨pl, tr⟩, 0, 1⟩, a', s', by simp [List.map_set]; try rfl, by omega, by omega, ⟨by simp; try omega, by simp only; omega, g8⟩⟩⟩
theorem spec_l1In_ok (n lo hi : Int) : C f_spec_l1In [I n, I lo, I hi] [] = some (.bool (inB lo hi n), []) := by
  refine C_spec_l1In ?_
  simp (maxSteps := 2000000) (disch := (first | omega | (simp only [lenS]; first | done | omega))) only [ir_spec_l1In, go_sem, Nat.reduceAdd, Nat.reduceEqDiff, Nat.reduceLeDiff, Nat.reduceSub]
  unfold inB; grind
theorem spec_l1Places_ok (n : Int) : C f_spec_l1Places [I n] [] = some (.bool (inB 1 16 n), []) := by
  refine C_spec_l1Places ?_
  simp (maxSteps := 2000000) (disch := (first | omega | (simp only [lenS]; first | done | omega))) only [ir_spec_l1Places, go_sem, Nat.reduceAdd, Nat.reduceEqDiff, Nat.reduceLeDiff, Nat.reduceSub]
  simp (maxSteps := 2000000) (disch := (first | omega | (simp only [lenS]; first | done | omega))) only [go_sem, Nat.reduceAdd, Nat.reduceEqDiff, Nat.reduceLeDiff, Nat.reduceSub, spec_l1In_ok]
  grind
theorem spec_l1Rising_ok (l : List Int) (lo hi : Int) (hl : l.length < 2^62) : C f_spec_l1Rising [ints l, I lo, I hi] [] = some (.bool (incr l && l.all (inB lo hi)), []) := by
  refine C_spec_l1Rising ?_
  simp (maxSteps := 2000000) (disch := (first | omega | (simp only [lenS]; first | done | omega))) only [ir_spec_l1Rising, go_sem, Nat.reduceAdd, Nat.reduceEqDiff, Nat.reduceLeDiff, Nat.reduceSub]
  refine W_for l.length (fun k s => s = ⟨[ints l, I lo, I hi, .any, .any, .any, ints l, I l.length, I k, .any, .any], []⟩ ∧ (l.take k).Pairwise (· < ·) ∧ (l.take k).all (inB lo hi) = true) ?_ ?_ ?_
  · simp (maxSteps := 2000000) (disch := (first | omega | (simp only [lenS]; first | done | omega))) only [go_sem, Nat.reduceAdd, Nat.reduceEqDiff, Nat.reduceLeDiff, Nat.reduceSub]
    exact ⟨rfl, List.Pairwise.nil⟩
  · rintro k s hk ⟨rfl, hp, hall⟩
    simp (maxSteps := 2000000) (disch := (first | omega | (simp only [lenS]; first | done | omega))) only [go_sem, Nat.reduceAdd, Nat.reduceEqDiff, Nat.reduceLeDiff, Nat.reduceSub, spec_l1In_ok]
    refine ⟨fun h => ⟨fun h2 => ?_, fun h2 => ?_⟩, fun h => by rw [all_false hk h]; simp⟩
    · simp (maxSteps := 2000000) (disch := (first | omega | (simp only [lenS]; first | done | omega))) only [go_sem, Nat.reduceAdd, Nat.reduceEqDiff, Nat.reduceLeDiff, Nat.reduceSub]
      obtain ⟨j, rfl⟩ : ∃ j, k = j + 1 := ⟨k - 1, by omega⟩
      have e : (((j + 1 : Nat) : Int) - 1).toNat = j := by omega
      refine ⟨fun h3 => ?_, fun h3 => ⟨rfl, ?_, all_take hk hall h⟩⟩
      · rw [incr_not hk (by simp only [e] at h3; omega)]; rfl
      · exact incr_step hk hp (by simp only [e] at h3; omega)
    · obtain rfl : k = 0 := by omega
      exact ⟨rfl, incr_one, all_take hk hall h⟩
  · rintro s ⟨rfl, hp, hall⟩
    simp (maxSteps := 2000000) (disch := (first | omega | (simp only [lenS]; first | done | omega))) only [go_sem, Nat.reduceAdd, Nat.reduceEqDiff, Nat.reduceLeDiff, Nat.reduceSub]
    rw [List.take_length] at hp hall
    rw [hall, show incr l = true by simpa [incr] using hp]
    rfl
theorem spec_GoodNet_ok (n : Net) (hn : smN n) : C f_spec_GoodNet [encN n] [] = some (.bool (goodN n), []) := by
  have h0 := hn.1
  refine C_spec_GoodNet ?_
  simp (maxSteps := 2000000) (disch := (first | omega | (simp only [lenS]; first | done | omega))) only [ir_spec_GoodNet, go_sem, Nat.reduceAdd, Nat.reduceEqDiff, Nat.reduceLeDiff, Nat.reduceSub]
  simp (maxSteps := 2000000) (disch := (first | omega | (simp only [lenS]; first | done | omega))) only [go_sem, Nat.reduceAdd, Nat.reduceEqDiff, Nat.reduceLeDiff, Nat.reduceSub, spec_l1Places_ok]
  refine ⟨fun h => ⟨fun h2 => ?_, fun h2 => ?_⟩, fun h => by simp [goodN, h]⟩
  · have : ¬ n.tr.length ≤ 24 := by omega
    simp [goodN, this]
  have hb : 1 ≤ n.pl ∧ n.pl ≤ 16 := by simpa [inB] using h
  refine W_for n.tr.length (fun k s => s = ⟨[.any, .ptr 0 0, .any, .any, .any, trs n.tr, I n.tr.length, I k, .any, .any], [.box t_impl_Net [I n.pl, trs n.tr]]⟩ ∧ (n.tr.take k).all (goodT n.pl) = true) ?_ ?_ ?_
  · simp (maxSteps := 2000000) (disch := (first | omega | (simp only [lenS]; first | done | omega))) only [go_sem, Nat.reduceAdd, Nat.reduceEqDiff, Nat.reduceLeDiff, Nat.reduceSub]
    rfl
  · rintro k s hk ⟨rfl, hall⟩
    obtain ⟨h3, h4, h5⟩ := hn.2 _ (List.getElem_mem hk)
    simp (maxSteps := 2000000) (disch := (first | omega | (simp only [lenS]; first | done | omega))) only [go_sem, Nat.reduceAdd, Nat.reduceEqDiff, Nat.reduceLeDiff, Nat.reduceSub, spec_l1Rising_ok]
    simp only [places_eq]
    refine ⟨fun h6 => by rw [goodN_not hk (goodT_nil (by omega))], fun h6 => ⟨fun h7 => ⟨fun h8 => ⟨fun h9 => ⟨rfl, all_take hk hall (goodT_all (by omega) h7 h8 h9)⟩, fun h9 => by rw [goodN_not hk (by simp [goodT, h9])]⟩, fun h8 => by rw [goodN_not hk (by simp [goodT, h8])]⟩, fun h7 => by rw [goodN_not hk (by simp [goodT, h7])]⟩⟩
  · rintro s ⟨rfl, hall⟩
    simp (maxSteps := 2000000) (disch := (first | omega | (simp only [lenS]; first | done | omega))) only [go_sem, Nat.reduceAdd, Nat.reduceEqDiff, Nat.reduceLeDiff, Nat.reduceSub]
    rw [List.take_length] at hall
    simp [goodN, hall, h, show n.tr.length ≤ 24 by omega]
theorem spec_l3Forward_ok (n : Net) (p : Int) (hg : goodN n = true) (hp : 0 ≤ p ∧ p < n.pl) : C f_spec_l3Forward [encN n, I p] [] = some (.tup [.un t_bool true 1 ((reachC n false p).pl.map PV.bool), .un t_bool true 1 ((reachC n false p).tr.map PV.bool)], []) := by
  have hb := goodN_parts hg
  have hlen := reachC_len n false p
  rw [reachC_eq] at hlen ⊢
  refine C_spec_l3Forward ?_
  simp (maxSteps := 2000000) (disch := (first | omega | (simp only [lenS]; first | done | omega))) only [ir_spec_l3Forward, go_sem, Nat.reduceAdd, Nat.reduceEqDiff, Nat.reduceLeDiff, Nat.reduceSub]
  simp (maxSteps := 2000000) (disch := (first | omega | (simp only [lenS]; first | done | omega))) only [go_sem, Nat.reduceAdd, Nat.reduceEqDiff, Nat.reduceLeDiff, Nat.reduceSub, List.getElem_replicate]
  generalize hR : clRun n false (cntF (List.replicate n.tr.length false) + 1) ⟨(List.replicate n.pl.toNat false).set p.toNat true, List.replicate n.tr.length false, true⟩ = R at *
  refine W_down (fun k s => ∃ c : Cl, c.pl.length = n.pl.toNat ∧ c.tr.length = n.tr.length ∧ ((k = cntF c.tr + 1 ∧ s = ⟨[.any, .any, .ptr 0 0, .any, .any, .ref 1 1 0 n.pl.toNat, .ref 2 1 0 n.tr.length, .bool true, .any, .any, .any, .any, .any, .any, .any, .any, .any, .any, .any, .any, .any, .any, .any, .any, .any, .any, .any], [.box t_impl_Net [I n.pl, trs n.tr], .row t_bool true 1 (c.pl.map PV.bool), .row t_bool true 1 (c.tr.map PV.bool)]⟩ ∧ clRun n false (cntF c.tr + 1) c = R) ∨ (k = 0 ∧ s = ⟨[.any, .any, .ptr 0 0, .any, .any, .ref 1 1 0 n.pl.toNat, .ref 2 1 0 n.tr.length, .bool false, .any, .any, .any, .any, .any, .any, .any, .any, .any, .any, .any, .any, .any, .any, .any, .any, .any, .any, .any], [.box t_impl_Net [I n.pl, trs n.tr], .row t_bool true 1 (c.pl.map PV.bool), .row t_bool true 1 (c.tr.map PV.bool)]⟩ ∧ c = R))) (cntF (List.replicate n.tr.length false) + 1) ?_ ?_
  · refine ⟨⟨(List.replicate n.pl.toNat false).set p.toNat true, List.replicate n.tr.length false, true⟩, by simp, by simp, .inl ⟨rfl, ?_, hR⟩⟩
    simp (maxSteps := 2000000) (disch := (first | omega | (simp only [lenS]; first | done | omega))) only [go_sem, Nat.reduceAdd, Nat.reduceEqDiff, Nat.reduceLeDiff, Nat.reduceSub]
    simp
  · rintro k0 s ⟨c, hc1, hc2, ⟨rfl, rfl, hc⟩ | ⟨rfl, rfl, rfl⟩⟩
    · have hcl := fun k => clK_len n false c k
      simp (maxSteps := 2000000) (disch := (first | omega | (simp only [lenS]; first | done | omega))) only [go_sem, Nat.reduceAdd, Nat.reduceEqDiff, Nat.reduceLeDiff, Nat.reduceSub]
      refine W_for n.tr.length (fun k s => s = ⟨[.any, .any, .ptr 0 0, .any, .any, .ref 1 1 0 n.pl.toNat, .ref 2 1 0 n.tr.length, .bool (clK n false c k).ch, .any, .any, .any, .any, .any, .any, trs n.tr, I n.tr.length, I k, .any, .any, .any, .any, .any, .any, .any, .any, .any, .any], [.box t_impl_Net [I n.pl, trs n.tr], .row t_bool true 1 ((clK n false c k).pl.map PV.bool), .row t_bool true 1 ((clK n false c k).tr.map PV.bool)]⟩) ?_ ?_ ?_
      · simp (maxSteps := 2000000) (disch := (first | omega | (simp only [lenS]; first | done | omega))) only [go_sem, Nat.reduceAdd, Nat.reduceEqDiff, Nat.reduceLeDiff, Nat.reduceSub]
        rfl
      · rintro k s hk rfl
        have hT := hb.2.2.2 _ (List.getElem_mem hk)
        have hLs := goodT_lens hT (by omega)
        obtain ⟨_, g1, g2, g3⟩ := goodT_parts hT
        have p1 := places_in g1
        have p2 := places_in g2
        have hd := hcl k
        have hstep := clK_succ n false c k
        have htr : n.tr[k] = trN n k := (trN_eq hk).symm
        rw [htr] at hLs p1 p2
        have s1 : (clK n false c k).tr.getD k false = true → clK n false c (k + 1) = clK n false c k := fun h => hstep.trans (clStep_no (.inl h))
        have s2 : hitB (clK n false c k).pl (sideI false (trN n k)) = false → clK n false c (k + 1) = clK n false c k := fun h => hstep.trans (clStep_no (.inr h))
        have s3 : (clK n false c k).tr.getD k false = false → hitB (clK n false c k).pl (sideI false (trN n k)) = true → clK n false c (k + 1) = ⟨markB (clK n false c k).pl (sideO false (trN n k)), (clK n false c k).tr.set k true, true⟩ := fun h h2 => hstep.trans (clStep_yes h h2)
        simp only [sideI, sideO, Bool.false_eq_true, if_false, if_true] at s2 s3
        clear hstep
        generalize clK n false c k = d at *
        generalize clK n false c (k + 1) = d' at *
        simp (maxSteps := 2000000) (disch := (first | omega | (simp only [lenS]; first | done | omega))) only [go_sem, Nat.reduceAdd, Nat.reduceEqDiff, Nat.reduceLeDiff, Nat.reduceSub]
        simp only [htr]
        generalize trN n k = tr at *
        refine W_for tr.inn.length (fun j s => s = ⟨[.any, .any, .ptr 0 0, .any, .any, .ref 1 1 0 n.pl.toNat, .ref 2 1 0 n.tr.length, .bool d.ch, I k, .ptr 3 0, .bool ((tr.inn.take j).any fun p => d.pl.getD p.toNat false), .any, .any, .any, trs n.tr, I n.tr.length, I k, .any, ints tr.inn, I tr.inn.length, I j, .any, .any, .any, .any, .any, .any], [.box t_impl_Net [I n.pl, trs n.tr], .row t_bool true 1 (d.pl.map PV.bool), .row t_bool true 1 (d.tr.map PV.bool), .box t_impl_Trans [ints tr.inn, ints tr.out, ints tr.rst]]⟩) ?_ ?_ ?_
        · simp (maxSteps := 2000000) (disch := (first | omega | (simp only [lenS]; first | done | omega))) only [go_sem, Nat.reduceAdd, Nat.reduceEqDiff, Nat.reduceLeDiff, Nat.reduceSub]
          rfl
        · rintro j s hj rfl
          have h1 := p1 _ (List.getElem_mem hj)
          have h2 : tr.inn[j].toNat < d.pl.length := by omega
          simp (maxSteps := 2000000) (disch := (first | omega | (simp only [lenS]; first | done | omega))) only [go_sem, Nat.reduceAdd, Nat.reduceEqDiff, Nat.reduceLeDiff, Nat.reduceSub]
          refine ⟨fun h => ?_, fun h => ⟨fun h3 => ?_, fun h3 => ?_⟩⟩
          · rw [any_more hj h]; rfl
          · rw [any_here hj (by rw [← getD_eq h2]; exact h3)]; rfl
          · rw [any_take hj h (by rw [← getD_eq h2]; exact h3)]; rfl
        · rintro s rfl
          have hkd : k < d.tr.length := by omega
          simp (maxSteps := 2000000) (disch := (first | omega | (simp only [lenS]; first | done | omega))) only [go_sem, Nat.reduceAdd, Nat.reduceEqDiff, Nat.reduceLeDiff, Nat.reduceSub, List.take_length]
          refine ⟨fun h => ⟨fun h3 => ?_, fun h3 => ?_⟩, fun h => ?_⟩
          · rw [s1 (by rw [← getD_eq hkd]; exact h3)]; rfl
          · have e := s3 (by rw [← getD_eq hkd]; exact h3) h
            subst e
            refine W_for tr.out.length (fun j s => s = ⟨[.any, .any, .ptr 0 0, .any, .any, .ref 1 1 0 n.pl.toNat, .ref 2 1 0 n.tr.length, .bool true, .any, .any, .any, .any, .any, .any, trs n.tr, I n.tr.length, I k, .any, .any, .any, .any, .any, .any, ints tr.out, I tr.out.length, I j, .any], [.box t_impl_Net [I n.pl, trs n.tr], .row t_bool true 1 ((markB d.pl (tr.out.take j)).map PV.bool), .row t_bool true 1 ((d.tr.set k true).map PV.bool)]⟩) ?_ ?_ ?_
            · simp (maxSteps := 2000000) (disch := (first | omega | (simp only [lenS]; first | done | omega))) only [go_sem, Nat.reduceAdd, Nat.reduceEqDiff, Nat.reduceLeDiff, Nat.reduceSub]
              rfl
            · rintro j s hj rfl
              have h1 := p2 _ (List.getElem_mem hj)
              have h2 : tr.out[j].toNat < d.pl.length := by omega
              have h4 := markB_len d.pl (tr.out.take j)
              simp (maxSteps := 2000000) (disch := (first | omega | (simp only [lenS]; first | done | omega))) only [go_sem, Nat.reduceAdd, Nat.reduceEqDiff, Nat.reduceLeDiff, Nat.reduceSub]
              rw [markB_take hj]; rfl
            · rintro s rfl
              simp (maxSteps := 2000000) (disch := (first | omega | (simp only [lenS]; first | done | omega))) only [go_sem, Nat.reduceAdd, Nat.reduceEqDiff, Nat.reduceLeDiff, Nat.reduceSub, List.take_length]
              rfl
          · rw [s2 h]; rfl
      · rintro s rfl
        simp (maxSteps := 2000000) (disch := (first | omega | (simp only [lenS]; first | done | omega))) only [go_sem, Nat.reduceAdd, Nat.reduceEqDiff, Nat.reduceLeDiff, Nat.reduceSub]
        have hn := clRun_next (n := n) (bk := false) hc2
        rw [hc] at hn
        cases e : (clRound n false c).ch with
        | true =>
          have h1 := (clK_cnt (n := n) (bk := false) (s := c) (k := n.tr.length) (by omega)).2 e
          simp only [e, if_true] at hn
          refine ⟨cntF (clRound n false c).tr + 1, by unfold clRound; omega, clRound n false c, by unfold clRound; have := hcl n.tr.length; omega, by unfold clRound; have := hcl n.tr.length; omega, .inl ⟨rfl, ?_, hn.symm⟩⟩
          unfold clRound at e ⊢
          rw [e]
        | false =>
          simp only [e, Bool.false_eq_true, if_false] at hn
          refine ⟨0, by omega, clRound n false c, by unfold clRound; have := hcl n.tr.length; omega, by unfold clRound; have := hcl n.tr.length; omega, .inr ⟨rfl, ?_, hn.symm⟩⟩
          unfold clRound at e ⊢
          rw [e]
    · simp (maxSteps := 2000000) (disch := (first | omega | (simp only [lenS]; first | done | omega))) only [go_sem, Nat.reduceAdd, Nat.reduceEqDiff, Nat.reduceLeDiff, Nat.reduceSub]
theorem spec_l3Back_ok (n : Net) (p : Int) (hg : goodN n = true) (hp : 0 ≤ p ∧ p < n.pl) : C f_spec_l3Back [encN n, I p] [] = some (.tup [.un t_bool true 1 ((reachC n true p).pl.map PV.bool), .un t_bool true 1 ((reachC n true p).tr.map PV.bool)], []) := by
  have hb := goodN_parts hg
  have hlen := reachC_len n true p
  rw [reachC_eq] at hlen ⊢
  refine C_spec_l3Back ?_
  simp (maxSteps := 2000000) (disch := (first | omega | (simp only [lenS]; first | done | omega))) only [ir_spec_l3Back, go_sem, Nat.reduceAdd, Nat.reduceEqDiff, Nat.reduceLeDiff, Nat.reduceSub]
  simp (maxSteps := 2000000) (disch := (first | omega | (simp only [lenS]; first | done | omega))) only [go_sem, Nat.reduceAdd, Nat.reduceEqDiff, Nat.reduceLeDiff, Nat.reduceSub, List.getElem_replicate]
  generalize hR : clRun n true (cntF (List.replicate n.tr.length false) + 1) ⟨(List.replicate n.pl.toNat false).set p.toNat true, List.replicate n.tr.length false, true⟩ = R at *
  refine W_down (fun k s => ∃ c : Cl, c.pl.length = n.pl.toNat ∧ c.tr.length = n.tr.length ∧ ((k = cntF c.tr + 1 ∧ s = ⟨[.any, .any, .ptr 0 0, .any, .any, .ref 1 1 0 n.pl.toNat, .ref 2 1 0 n.tr.length, .bool true, .any, .any, .any, .any, .any, .any, .any, .any, .any, .any, .any, .any, .any, .any, .any, .any, .any, .any, .any], [.box t_impl_Net [I n.pl, trs n.tr], .row t_bool true 1 (c.pl.map PV.bool), .row t_bool true 1 (c.tr.map PV.bool)]⟩ ∧ clRun n true (cntF c.tr + 1) c = R) ∨ (k = 0 ∧ s = ⟨[.any, .any, .ptr 0 0, .any, .any, .ref 1 1 0 n.pl.toNat, .ref 2 1 0 n.tr.length, .bool false, .any, .any, .any, .any, .any, .any, .any, .any, .any, .any, .any, .any, .any, .any, .any, .any, .any, .any, .any], [.box t_impl_Net [I n.pl, trs n.tr], .row t_bool true 1 (c.pl.map PV.bool), .row t_bool true 1 (c.tr.map PV.bool)]⟩ ∧ c = R))) (cntF (List.replicate n.tr.length false) + 1) ?_ ?_
  · refine ⟨⟨(List.replicate n.pl.toNat false).set p.toNat true, List.replicate n.tr.length false, true⟩, by simp, by simp, .inl ⟨rfl, ?_, hR⟩⟩
    simp (maxSteps := 2000000) (disch := (first | omega | (simp only [lenS]; first | done | omega))) only [go_sem, Nat.reduceAdd, Nat.reduceEqDiff, Nat.reduceLeDiff, Nat.reduceSub]
    simp
  · rintro k0 s ⟨c, hc1, hc2, ⟨rfl, rfl, hc⟩ | ⟨rfl, rfl, rfl⟩⟩
    · have hcl := fun k => clK_len n true c k
      simp (maxSteps := 2000000) (disch := (first | omega | (simp only [lenS]; first | done | omega))) only [go_sem, Nat.reduceAdd, Nat.reduceEqDiff, Nat.reduceLeDiff, Nat.reduceSub]
      refine W_for n.tr.length (fun k s => s = ⟨[.any, .any, .ptr 0 0, .any, .any, .ref 1 1 0 n.pl.toNat, .ref 2 1 0 n.tr.length, .bool (clK n true c k).ch, .any, .any, .any, .any, .any, .any, trs n.tr, I n.tr.length, I k, .any, .any, .any, .any, .any, .any, .any, .any, .any, .any], [.box t_impl_Net [I n.pl, trs n.tr], .row t_bool true 1 ((clK n true c k).pl.map PV.bool), .row t_bool true 1 ((clK n true c k).tr.map PV.bool)]⟩) ?_ ?_ ?_
      · simp (maxSteps := 2000000) (disch := (first | omega | (simp only [lenS]; first | done | omega))) only [go_sem, Nat.reduceAdd, Nat.reduceEqDiff, Nat.reduceLeDiff, Nat.reduceSub]
        rfl
      · rintro k s hk rfl
        have hT := hb.2.2.2 _ (List.getElem_mem hk)
        have hLs := goodT_lens hT (by omega)
        obtain ⟨_, g1, g2, g3⟩ := goodT_parts hT
        have p1 := places_in g2
        have p2 := places_in g1
        have hd := hcl k
        have hstep := clK_succ n true c k
        have htr : n.tr[k] = trN n k := (trN_eq hk).symm
        rw [htr] at hLs p1 p2
        have s1 : (clK n true c k).tr.getD k false = true → clK n true c (k + 1) = clK n true c k := fun h => hstep.trans (clStep_no (.inl h))
        have s2 : hitB (clK n true c k).pl (sideI true (trN n k)) = false → clK n true c (k + 1) = clK n true c k := fun h => hstep.trans (clStep_no (.inr h))
        have s3 : (clK n true c k).tr.getD k false = false → hitB (clK n true c k).pl (sideI true (trN n k)) = true → clK n true c (k + 1) = ⟨markB (clK n true c k).pl (sideO true (trN n k)), (clK n true c k).tr.set k true, true⟩ := fun h h2 => hstep.trans (clStep_yes h h2)
        simp only [sideI, sideO, Bool.false_eq_true, if_false, if_true] at s2 s3
        clear hstep
        generalize clK n true c k = d at *
        generalize clK n true c (k + 1) = d' at *
        simp (maxSteps := 2000000) (disch := (first | omega | (simp only [lenS]; first | done | omega))) only [go_sem, Nat.reduceAdd, Nat.reduceEqDiff, Nat.reduceLeDiff, Nat.reduceSub]
        simp only [htr]
        generalize trN n k = tr at *
        refine W_for tr.out.length (fun j s => s = ⟨[.any, .any, .ptr 0 0, .any, .any, .ref 1 1 0 n.pl.toNat, .ref 2 1 0 n.tr.length, .bool d.ch, I k, .ptr 3 0, .bool ((tr.out.take j).any fun p => d.pl.getD p.toNat false), .any, .any, .any, trs n.tr, I n.tr.length, I k, .any, ints tr.out, I tr.out.length, I j, .any, .any, .any, .any, .any, .any], [.box t_impl_Net [I n.pl, trs n.tr], .row t_bool true 1 (d.pl.map PV.bool), .row t_bool true 1 (d.tr.map PV.bool), .box t_impl_Trans [ints tr.inn, ints tr.out, ints tr.rst]]⟩) ?_ ?_ ?_
        · simp (maxSteps := 2000000) (disch := (first | omega | (simp only [lenS]; first | done | omega))) only [go_sem, Nat.reduceAdd, Nat.reduceEqDiff, Nat.reduceLeDiff, Nat.reduceSub]
          rfl
        · rintro j s hj rfl
          have h1 := p1 _ (List.getElem_mem hj)
          have h2 : tr.out[j].toNat < d.pl.length := by omega
          simp (maxSteps := 2000000) (disch := (first | omega | (simp only [lenS]; first | done | omega))) only [go_sem, Nat.reduceAdd, Nat.reduceEqDiff, Nat.reduceLeDiff, Nat.reduceSub]
          refine ⟨fun h => ?_, fun h => ⟨fun h3 => ?_, fun h3 => ?_⟩⟩
          · rw [any_more hj h]; rfl
          · rw [any_here hj (by rw [← getD_eq h2]; exact h3)]; rfl
          · rw [any_take hj h (by rw [← getD_eq h2]; exact h3)]; rfl
        · rintro s rfl
          have hkd : k < d.tr.length := by omega
          simp (maxSteps := 2000000) (disch := (first | omega | (simp only [lenS]; first | done | omega))) only [go_sem, Nat.reduceAdd, Nat.reduceEqDiff, Nat.reduceLeDiff, Nat.reduceSub, List.take_length]
          refine ⟨fun h => ⟨fun h3 => ?_, fun h3 => ?_⟩, fun h => ?_⟩
          · rw [s1 (by rw [← getD_eq hkd]; exact h3)]; rfl
          · have e := s3 (by rw [← getD_eq hkd]; exact h3) h
            subst e
            refine W_for tr.inn.length (fun j s => s = ⟨[.any, .any, .ptr 0 0, .any, .any, .ref 1 1 0 n.pl.toNat, .ref 2 1 0 n.tr.length, .bool true, .any, .any, .any, .any, .any, .any, trs n.tr, I n.tr.length, I k, .any, .any, .any, .any, .any, .any, ints tr.inn, I tr.inn.length, I j, .any], [.box t_impl_Net [I n.pl, trs n.tr], .row t_bool true 1 ((markB d.pl (tr.inn.take j)).map PV.bool), .row t_bool true 1 ((d.tr.set k true).map PV.bool)]⟩) ?_ ?_ ?_
            · simp (maxSteps := 2000000) (disch := (first | omega | (simp only [lenS]; first | done | omega))) only [go_sem, Nat.reduceAdd, Nat.reduceEqDiff, Nat.reduceLeDiff, Nat.reduceSub]
              rfl
            · rintro j s hj rfl
              have h1 := p2 _ (List.getElem_mem hj)
              have h2 : tr.inn[j].toNat < d.pl.length := by omega
              have h4 := markB_len d.pl (tr.inn.take j)
              simp (maxSteps := 2000000) (disch := (first | omega | (simp only [lenS]; first | done | omega))) only [go_sem, Nat.reduceAdd, Nat.reduceEqDiff, Nat.reduceLeDiff, Nat.reduceSub]
              rw [markB_take hj]; rfl
            · rintro s rfl
              simp (maxSteps := 2000000) (disch := (first | omega | (simp only [lenS]; first | done | omega))) only [go_sem, Nat.reduceAdd, Nat.reduceEqDiff, Nat.reduceLeDiff, Nat.reduceSub, List.take_length]
              rfl
          · rw [s2 h]; rfl
      · rintro s rfl
        simp (maxSteps := 2000000) (disch := (first | omega | (simp only [lenS]; first | done | omega))) only [go_sem, Nat.reduceAdd, Nat.reduceEqDiff, Nat.reduceLeDiff, Nat.reduceSub]
        have hn := clRun_next (n := n) (bk := true) hc2
        rw [hc] at hn
        cases e : (clRound n true c).ch with
        | true =>
          have h1 := (clK_cnt (n := n) (bk := true) (s := c) (k := n.tr.length) (by omega)).2 e
          simp only [e, if_true] at hn
          refine ⟨cntF (clRound n true c).tr + 1, by unfold clRound; omega, clRound n true c, by unfold clRound; have := hcl n.tr.length; omega, by unfold clRound; have := hcl n.tr.length; omega, .inl ⟨rfl, ?_, hn.symm⟩⟩
          unfold clRound at e ⊢
          rw [e]
        | false =>
          simp only [e, Bool.false_eq_true, if_false] at hn
          refine ⟨0, by omega, clRound n true c, by unfold clRound; have := hcl n.tr.length; omega, by unfold clRound; have := hcl n.tr.length; omega, .inr ⟨rfl, ?_, hn.symm⟩⟩
          unfold clRound at e ⊢
          rw [e]
    · simp (maxSteps := 2000000) (disch := (first | omega | (simp only [lenS]; first | done | omega))) only [go_sem, Nat.reduceAdd, Nat.reduceEqDiff, Nat.reduceLeDiff, Nat.reduceSub]
theorem spec_l3Both_ok (a b : List Bool) (ha : a.length < 2^30) (hab : a.length ≤ b.length) : C f_spec_l3Both [bls a, bls b] [] = some (.un t_int true 1 ((bothL a b).map I), []) := by
  refine C_spec_l3Both ?_
  simp (maxSteps := 2000000) (disch := (first | omega | (simp only [lenS]; first | done | omega))) only [ir_spec_l3Both, go_sem, Nat.reduceAdd, Nat.reduceEqDiff, Nat.reduceLeDiff, Nat.reduceSub]
  refine W_for a.length (fun k s => s = ⟨[bls a, bls b, .any, .ref 0 1 0 (bothK a b k).length, .any, I a.length, I k, .any, .any], [.row t_int true 1 ((bothK a b k).map I)]⟩) ?_ ?_ ?_
  · simp (maxSteps := 2000000) (disch := (first | omega | (simp only [lenS]; first | done | omega))) only [go_sem, Nat.reduceAdd, Nat.reduceEqDiff, Nat.reduceLeDiff, Nat.reduceSub]
    rfl
  · rintro k s hk rfl
    have h2 := bothK_len a b k
    have hkb : k < b.length := by omega
    have e1 := getD_eq hk
    have e2 := getD_eq hkb
    simp (maxSteps := 2000000) (disch := (first | omega | (simp only [lenS]; first | done | omega))) only [go_sem, Nat.reduceAdd, Nat.reduceEqDiff, Nat.reduceLeDiff, Nat.reduceSub]
    rw [e1, e2]
    refine ⟨fun h => ⟨fun h3 => ?_, fun h3 => ?_⟩, fun h => ?_⟩
    · rw [bothK_t h h3, List.map_append]; simp
    · rw [bothK_f (by rw [h, h3]; rfl)]; rfl
    · rw [bothK_f (by rw [h]; rfl)]; rfl
  · rintro s rfl
    simp (maxSteps := 2000000) (disch := (first | omega | (simp only [lenS]; first | done | omega))) only [go_sem, Nat.reduceAdd, Nat.reduceEqDiff, Nat.reduceLeDiff, Nat.reduceSub]
    rfl
theorem spec_OnWay_ok (n : Net) (a b : Int) (hn : smN n) : C f_spec_OnWay [encN n, I a, I b] [] = some (.tup [.un t_int true 1 ((if okWay n a b then wayP n a b else []).map I), .un t_int true 1 ((if okWay n a b then wayT n a b else []).map I), .bool (okWay n a b)], []) := by
  refine C_spec_OnWay ?_
  simp (maxSteps := 2000000) (disch := (first | omega | (simp only [lenS]; first | done | omega))) only [ir_spec_OnWay, go_sem, Nat.reduceAdd, Nat.reduceEqDiff, Nat.reduceLeDiff, Nat.reduceSub]
  simp (maxSteps := 2000000) (disch := (first | omega | (simp only [lenS]; first | done | omega))) only [go_sem, Nat.reduceAdd, Nat.reduceEqDiff, Nat.reduceLeDiff, Nat.reduceSub, spec_GoodNet_ok n hn, spec_l1In_ok]
  cases hg : goodN n with
  | false => simp [okWay, hg]
  | true =>
    have hb := goodN_parts hg
    cases h1 : inB 0 (n.pl - 1) a with
    | false => simp (maxSteps := 2000000) (disch := (first | omega | (simp only [lenS]; first | done | omega))) only [go_sem, Nat.reduceAdd, Nat.reduceEqDiff, Nat.reduceLeDiff, Nat.reduceSub, h1]; simp [okWay, hg, h1]
    | true =>
      cases h2 : inB 0 (n.pl - 1) b with
      | false => simp (maxSteps := 2000000) (disch := (first | omega | (simp only [lenS]; first | done | omega))) only [go_sem, Nat.reduceAdd, Nat.reduceEqDiff, Nat.reduceLeDiff, Nat.reduceSub, h1, h2]; simp [okWay, hg, h1, h2]
      | true =>
        have hok : okWay n a b = true := by simp [okWay, hg, h1, h2]
        have ha : 0 ≤ a ∧ a < n.pl := by simp [inB] at h1; omega
        have hb2 : 0 ≤ b ∧ b < n.pl := by simp [inB] at h2; omega
        have l1 := reachC_len n false a
        have l2 := reachC_len n true b
        simp (maxSteps := 2000000) (disch := (first | omega | (simp only [lenS]; first | done | omega))) only [go_sem, Nat.reduceAdd, Nat.reduceEqDiff, Nat.reduceLeDiff, Nat.reduceSub, h1, h2, spec_l3Forward_ok n a hg ha, spec_l3Back_ok n b hg hb2, hok]
        simp (maxSteps := 2000000) (disch := (first | omega | (simp only [lenS]; first | done | omega))) only [go_sem, Nat.reduceAdd, Nat.reduceEqDiff, Nat.reduceLeDiff, Nat.reduceSub, spec_l3Both_ok (reachC n false a).pl (reachC n true b).pl (by omega) (by omega), spec_l3Both_ok (reachC n false a).tr (reachC n true b).tr (by omega) (by omega)]
        rfl
theorem spec_l1Has_ok (l : List Int) (x : Int) (hl : l.length < 2^62) : C f_spec_l1Has [ints l, I x] [] = some (.bool (hasB l x), []) := by
  refine C_spec_l1Has ?_
  simp (maxSteps := 2000000) (disch := (first | omega | (simp only [lenS]; first | done | omega))) only [ir_spec_l1Has, go_sem, Nat.reduceAdd, Nat.reduceEqDiff, Nat.reduceLeDiff, Nat.reduceSub]
  refine W_for l.length (fun k s => s = ⟨[.any, I x, .any, .any, ints l, I l.length, I k, .any, .any], []⟩ ∧ (l.take k).any (fun y => y == x) = false) ?_ ?_ ?_
  · simp (maxSteps := 2000000) (disch := (first | omega | (simp only [lenS]; first | done | omega))) only [go_sem, Nat.reduceAdd, Nat.reduceEqDiff, Nat.reduceLeDiff, Nat.reduceSub]
    rfl
  · rintro k s hk ⟨rfl, hall⟩
    simp (maxSteps := 2000000) (disch := (first | omega | (simp only [lenS]; first | done | omega))) only [go_sem, Nat.reduceAdd, Nat.reduceEqDiff, Nat.reduceLeDiff, Nat.reduceSub]
    refine ⟨fun h => ?_, fun h => ⟨rfl, any_take hk hall (by simpa using h)⟩⟩
    rw [hasB_yes hk h]
  · rintro s ⟨rfl, hall⟩
    simp (maxSteps := 2000000) (disch := (first | omega | (simp only [lenS]; first | done | omega))) only [go_sem, Nat.reduceAdd, Nat.reduceEqDiff, Nat.reduceLeDiff, Nat.reduceSub]
    rw [List.take_length] at hall
    rw [hasB_no hall]
theorem spec_GoodFlow_ok (f : Fl) (hf : smN f.net) : C f_spec_GoodFlow [encF f] [] = some (.bool (goodFl f), []) := by
  have hl := hf.1
  have hw := spec_OnWay_ok f.net f.src f.dst hf
  have hP : (wayP f.net f.src f.dst).length < 2^62 ∨ goodN f.net = false := by
    cases hg : goodN f.net with
    | false => exact .inr rfl
    | true =>
      have := goodN_parts hg
      have h1 := bothK_len (reachC f.net false f.src).pl (reachC f.net true f.dst).pl (reachC f.net false f.src).pl.length
      have h2 := reachC_len f.net false f.src
      exact .inl (by unfold wayP bothL; omega)
  have hT : (wayT f.net f.src f.dst).length < 2^62 := by
    have h1 := bothK_len (reachC f.net false f.src).tr (reachC f.net true f.dst).tr (reachC f.net false f.src).tr.length
    have h2 := reachC_len f.net false f.src
    unfold wayT bothL; omega
  refine C_spec_GoodFlow ?_
  simp (maxSteps := 2000000) (disch := (first | omega | (simp only [lenS]; first | done | omega))) only [ir_spec_GoodFlow, go_sem, Nat.reduceAdd, Nat.reduceEqDiff, Nat.reduceLeDiff, Nat.reduceSub]
  cases hok : okWay f.net f.src f.dst with
  | false =>
    simp only [hok] at hw
    simp (maxSteps := 2000000) (disch := (first | omega | (simp only [lenS]; first | done | omega))) only [go_sem, Nat.reduceAdd, Nat.reduceEqDiff, Nat.reduceLeDiff, Nat.reduceSub, hw]
    simp [goodFl, hok]
  | true =>
    have hg : goodN f.net = true := by simp only [okWay, Bool.and_eq_true] at hok; exact hok.1.1
    have hb := goodN_parts hg
    have hP : (wayP f.net f.src f.dst).length < 2^62 := by
      rcases hP with h | h
      · exact h
      · rw [hg] at h; cases h
    simp only [hok, if_true] at hw
    simp (maxSteps := 2000000) (disch := (first | omega | (simp only [lenS]; first | done | omega))) only [go_sem, Nat.reduceAdd, Nat.reduceEqDiff, Nat.reduceLeDiff, Nat.reduceSub, hw]
    refine ⟨fun h => by simp [goodFl, h], fun h => ⟨fun h2 => by simp [goodFl, h2], fun h2 => ⟨fun h3 => ?_, fun h3 => ?_⟩⟩⟩
    · have : ¬ (wayT f.net f.src f.dst).length = f.net.tr.length := by omega
      simp [goodFl, this]
    refine W_for f.net.tr.length (fun k s => s = ⟨[.any, .ptr 0 0, .any, .any, .any, .any, .any, .any, trs f.net.tr, I f.net.tr.length, I k, .any, .any], [.box t_impl_Flow [I f.net.pl, trs f.net.tr, I f.src, I f.dst]]⟩ ∧ (f.net.tr.take k).all (fun t => !spoils f t) = true) ?_ ?_ ?_
    · simp (maxSteps := 2000000) (disch := (first | omega | (simp only [lenS]; first | done | omega))) only [go_sem, Nat.reduceAdd, Nat.reduceEqDiff, Nat.reduceLeDiff, Nat.reduceSub]
      rfl
    · rintro k s hk ⟨rfl, hall⟩
      have hT := hb.2.2.2 _ (List.getElem_mem hk)
      have hLs := goodT_lens hT (by omega)
      simp (maxSteps := 2000000) (disch := (first | omega | (simp only [lenS]; first | done | omega))) only [go_sem, Nat.reduceAdd, Nat.reduceEqDiff, Nat.reduceLeDiff, Nat.reduceSub, spec_l1Has_ok]
      have gs : spoils f f.net.tr[k] = true → goodFl f = false := fun hs => by
        have : (f.net.tr.all fun t => !spoils f t) = false := all_false hk (by simp [hs])
        simp [goodFl, this]
      exact ⟨fun a => by rw [gs (by simp [spoils, a])], fun a => ⟨fun b => by rw [gs (by simp [spoils, b])], fun b => ⟨fun c => by rw [gs (by simp [spoils, c])], fun c => ⟨fun d => by rw [gs (by simp [spoils, d])], fun d => ⟨rfl, all_take hk hall (by simp [spoils, a, b, c, d])⟩⟩⟩⟩⟩
    · rintro s ⟨rfl, hall⟩
      simp (maxSteps := 2000000) (disch := (first | omega | (simp only [lenS]; first | done | omega))) only [go_sem, Nat.reduceAdd, Nat.reduceEqDiff, Nat.reduceLeDiff, Nat.reduceSub]
      rw [List.take_length] at hall
      have h4 : (wayT f.net f.src f.dst).length = f.net.tr.length := by omega
      simp [goodFl, hok, h, h2, h4]
      simpa using hall
theorem spec_l3One_ok (n p : Int) (hn : 0 ≤ n ∧ n < 2^30) (hp : 0 ≤ p ∧ p < n) : C f_spec_l3One [I n, I p] [] = some (.un t_int true 1 ((oneM n.toNat p).map I), []) := by
  refine C_spec_l3One ?_
  simp (maxSteps := 2000000) (disch := (first | omega | (simp only [lenS]; first | done | omega))) only [ir_spec_l3One, go_sem, Nat.reduceAdd, Nat.reduceEqDiff, Nat.reduceLeDiff, Nat.reduceSub]
  simp (maxSteps := 2000000) (disch := (first | omega | (simp only [lenS]; first | done | omega))) only [go_sem, Nat.reduceAdd, Nat.reduceEqDiff, Nat.reduceLeDiff, Nat.reduceSub, List.getElem_replicate]
  simp [oneM, List.map_set]
theorem spec_StartOf_ok (f : Fl) (hf : smN f.net) : C f_spec_StartOf [encF f] [] = some (.tup [.un t_int true 1 ((if goodFl f then oneM f.net.pl.toNat f.src else []).map I), .bool (goodFl f)], []) := by
  refine C_spec_StartOf ?_
  simp (maxSteps := 2000000) (disch := (first | omega | (simp only [lenS]; first | done | omega))) only [ir_spec_StartOf, go_sem, Nat.reduceAdd, Nat.reduceEqDiff, Nat.reduceLeDiff, Nat.reduceSub]
  simp (maxSteps := 2000000) (disch := (first | omega | (simp only [lenS]; first | done | omega))) only [go_sem, Nat.reduceAdd, Nat.reduceEqDiff, Nat.reduceLeDiff, Nat.reduceSub, spec_GoodFlow_ok f hf]
  cases h : goodFl f with
  | false => simp
  | true =>
    obtain ⟨h1, h2, h3, _⟩ := goodFl_parts h
    have hb := goodN_parts h1
    simp (maxSteps := 2000000) (disch := (first | omega | (simp only [lenS]; first | done | omega))) only [go_sem, Nat.reduceAdd, Nat.reduceEqDiff, Nat.reduceLeDiff, Nat.reduceSub, spec_l3One_ok f.net.pl f.src (by omega) (by omega)]
theorem spec_l1Cur_net_ok (rs : Bool) (bs : List Int) (at_ sd : Int) (h0 : 0 ≤ at_) (h1 : at_ < 2^59) (hl : bs.length < 2^62) (hb : ∀ x ∈ bs, 0 ≤ x ∧ x < 256) :
    Lw (C f_spec_l1Cur_net [.ptr 0 0, .bool rs] [.box t_spec_l1Cur [bys bs, I at_, .int .u64 sd]]) fun r => ∃ (n : Net) (at' sd' : Int), r = (.agg [I n.pl, .un t_impl_Trans false 3 (n.tr.map encT)], [.box t_spec_l1Cur [bys bs, I at', .int .u64 sd']]) ∧ at_ ≤ at' ∧ at' ≤ at_ + 1000 ∧ smNet n := by
  refine E_spec_l1Cur_net ?_
  simp (maxSteps := 2000000) (disch := (first | omega | (simp only [lenS]; first | done | omega))) only [ir_spec_l1Cur_net, go_sem, Nat.reduceAdd, Nat.reduceEqDiff, Nat.reduceLeDiff, Nat.reduceSub]
  obtain ⟨_, e1, x1, a1, s1, rfl, h3, h4, h5, h6⟩ := spec_l1Cur_pick_ok 4 bs at_ sd h0 (by omega) hl hb
  simp (maxSteps := 2000000) (disch := (first | omega | (simp only [lenS]; first | done | omega))) only [go_sem, Nat.reduceAdd, Nat.reduceEqDiff, Nat.reduceLeDiff, Nat.reduceSub, e1]
  obtain ⟨_, e2, x2, a2, s2, rfl, h7, h8, h9, h10⟩ := spec_l1Cur_pick_ok 5 bs a1 s1 (by omega) (by omega) hl hb
  simp (maxSteps := 2000000) (disch := (first | omega | (simp only [lenS]; first | done | omega))) only [go_sem, Nat.reduceAdd, Nat.reduceEqDiff, Nat.reduceLeDiff, Nat.reduceSub, e2]
  refine W_for (1 + x2).toNat (fun k s => ∃ (tr : List Tr) (at' sd' : Int), (s = ⟨[.ptr 0 0, .bool rs, .ptr 1 0, .ptr 2 0, I (1 + x2 - k), .any, .any, .any, .any, .any, .any, .any], [.box t_spec_l1Cur [bys bs, I at', .int .u64 sd'], .box t_impl_Net [I 0, .nil false 3], .box t_impl_Net [I (2 + x1), .ref 3 3 0 tr.length], .row t_impl_Trans false 3 (tr.map encT)]⟩ ∨ (s = ⟨[.ptr 0 0, .bool rs, .ptr 1 0, .ptr 2 0, I (1 + x2 - k), .any, .any, .any, .any, .any, .any, .any], [.box t_spec_l1Cur [bys bs, I at', .int .u64 sd'], .box t_impl_Net [I 0, .nil false 3], .box t_impl_Net [I (2 + x1), .nil false 3]]⟩ ∧ tr = [])) ∧ tr.length = k ∧ at_ ≤ at' ∧ at' ≤ at_ + 10 + 152 * k ∧ ∀ t ∈ tr, t.inn.length ≤ 20 ∧ t.out.length ≤ 20 ∧ t.rst.length ≤ 20) ?_ ?_ ?_
  · refine ⟨[], a2, s2, .inr ⟨?_, rfl⟩, rfl, by omega, by omega, by simp⟩
    simp (maxSteps := 2000000) (disch := (first | omega | (simp only [lenS]; first | done | omega))) only [go_sem, Nat.reduceAdd, Nat.reduceEqDiff, Nat.reduceLeDiff, Nat.reduceSub]
    rw [show 1 + x2 - ((0 : Nat) : Int) = 1 + x2 by omega]
  · rintro k s hk ⟨tr, a, sd, hs, rfl, h12, h13, h14⟩
    obtain ⟨_, f1, l1, a3, s3, rfl, g1, g2, g3, g4⟩ := spec_l1Cur_someOf_ok (2 + x1) 1 2 (by omega) bs a sd (by omega) (by omega) hl hb
    obtain ⟨_, f2, l2, a4, s4, rfl, g5, g6, g7, g8⟩ := spec_l1Cur_someOf_ok (2 + x1) 0 2 (by omega) bs a3 s3 (by omega) (by omega) hl hb
    obtain ⟨_, f3, b5, a5, s5, rfl, g9, g10⟩ := spec_l1Cur_one_ok 5 bs a4 s4 (by omega) (by omega) hl hb
    obtain ⟨_, f4, l6, a6, s6, rfl, g11, g12, g13, g14⟩ := spec_l1Cur_someOf_ok (2 + x1) 1 2 (by omega) bs a5 s5 (by omega) (by omega) hl hb
    have e : 1 + x2 - ((tr.length + 1 : Nat) : Int) = 1 + x2 - tr.length - 1 := by omega
    rcases hs with rfl | ⟨rfl, rfl⟩
    · simp (maxSteps := 2000000) (disch := (first | omega | (simp only [lenS]; first | done | omega))) only [go_sem, Nat.reduceAdd, Nat.reduceEqDiff, Nat.reduceLeDiff, Nat.reduceSub, f1, f2, f3, f4]
      have hs : ∀ (t : Tr), t.inn.length ≤ 20 ∧ t.out.length ≤ 20 ∧ t.rst.length ≤ 20 → ∀ u ∈ tr ++ [t], u.inn.length ≤ 20 ∧ u.out.length ≤ 20 ∧ u.rst.length ≤ 20 := by
        intro t ht u hu
        rcases List.mem_append.1 hu with hu | hu
        · exact h14 u hu
        · simp only [List.mem_singleton] at hu; subst hu; exact ht
      refine ⟨fun _ => ⟨fun _ => ⟨tr ++ [⟨l1, l2, l6⟩], a6, s6, .inl ?_, by simp, by omega, by simp at h13 ⊢; omega, hs _ ⟨g3, g7, g13⟩⟩, fun _ => ⟨tr ++ [⟨l1, l2, []⟩], a5, s5, .inl ?_, by simp, by omega, by simp at h13 ⊢; omega, hs _ ⟨g3, g7, by simp⟩⟩⟩, fun _ => ⟨tr ++ [⟨l1, l2, []⟩], a4, s4, .inl ?_, by simp, by omega, by simp at h13 ⊢; omega, hs _ ⟨g3, g7, by simp⟩⟩⟩ <;> (rw [e]; simp)
    · simp (maxSteps := 2000000) (disch := (first | omega | (simp only [lenS]; first | done | omega))) only [go_sem, Nat.reduceAdd, Nat.reduceEqDiff, Nat.reduceLeDiff, Nat.reduceSub, f1, f2, f3, f4]
      have hs : ∀ (t : Tr), t.inn.length ≤ 20 ∧ t.out.length ≤ 20 ∧ t.rst.length ≤ 20 → ∀ u ∈ ([] : List Tr) ++ [t], u.inn.length ≤ 20 ∧ u.out.length ≤ 20 ∧ u.rst.length ≤ 20 := by
        intro t ht u hu
        rcases List.mem_append.1 hu with hu | hu
        · exact h14 u hu
        · simp only [List.mem_singleton] at hu; subst hu; exact ht
      refine ⟨fun _ => ⟨fun _ => ⟨([] : List Tr) ++ [⟨l1, l2, l6⟩], a6, s6, .inl ?_, by simp, by omega, by simp at h13 ⊢; omega, hs _ ⟨g3, g7, g13⟩⟩, fun _ => ⟨([] : List Tr) ++ [⟨l1, l2, []⟩], a5, s5, .inl ?_, by simp, by omega, by simp at h13 ⊢; omega, hs _ ⟨g3, g7, by simp⟩⟩⟩, fun _ => ⟨([] : List Tr) ++ [⟨l1, l2, []⟩], a4, s4, .inl ?_, by simp, by omega, by simp at h13 ⊢; omega, hs _ ⟨g3, g7, by simp⟩⟩⟩ <;> (simp <;> omega)
  · rintro s ⟨tr, a, sd, hs, h11, h12, h13, h14⟩
    have hne : 0 < tr.length := by omega
    rcases hs with rfl | ⟨rfl, rfl⟩
    · obtain ⟨_, f1, x7, a7, s7, rfl, g1, g2, g3, g4⟩ := spec_l1Cur_pick_ok 40 bs a sd (by omega) (by omega) hl hb
      obtain ⟨_, f2, x8, a8, s8, rfl, g5, g6, g7⟩ := spec_l1Cur_among_ok [0, 1, 17] t_int (by decide) (by decide) bs a7 s7 (by omega) (by omega) hl hb
      simp only [go_sem, Nat.reduceAdd] at f2
      simp (maxSteps := 2000000) (disch := (first | omega | (simp only [lenS]; first | done | omega))) only [go_sem, Nat.reduceAdd, Nat.reduceEqDiff, Nat.reduceLeDiff, Nat.reduceSub, f1, f2]
      simp only [List.mem_cons, List.not_mem_nil, or_false] at g7
      have h15 := h14 tr[0] (List.getElem_mem hne)
      have hs : ∀ (t : Tr), t.inn.length ≤ 20 ∧ t.out.length ≤ 20 ∧ t.rst.length ≤ 20 → ∀ u ∈ tr.set 0 t, u.inn.length ≤ 20 ∧ u.out.length ≤ 20 ∧ u.rst.length ≤ 20 := by
        intro t ht u hu
        rcases List.mem_or_eq_of_mem_set hu with hu | rfl
        · exact h14 u hu
        · exact ht
      refine ⟨fun _ => ⟨⟨x8, tr⟩, a8, s8, rfl, by omega, by omega, by simp only [smNet]; omega, by simp only; omega, h14⟩, fun _ => ⟨fun _ => ?_, fun _ => ⟨fun _ => ?_, fun _ => ?_⟩⟩⟩
      · exact ⟨⟨2 + x1, tr.set 0 ⟨[], tr[0].out, tr[0].rst⟩⟩, a7, s7, by simp [List.map_set]; rfl, by omega, by omega, by simp; omega, by simp only; omega, hs _ ⟨by simp, h15.2.1, h15.2.2⟩⟩
      · exact ⟨⟨2 + x1, tr.set 0 ⟨tr[0].inn, [1, 0], tr[0].rst⟩⟩, a7, s7, by simp [List.map_set]; rfl, by omega, by omega, by simp; omega, by simp only; omega, hs _ ⟨h15.1, by simp, h15.2.2⟩⟩
      · exact ⟨⟨2 + x1, tr⟩, a7, s7, rfl, by omega, by omega, by simp only; omega, by simp only; omega, h14⟩
    · simp at hne
theorem spec_l1Most_ok (a b : Int) : C f_spec_l1Most [I a, I b] [] = some (I (max a b), []) := by
  refine C_spec_l1Most ?_
  simp (maxSteps := 2000000) (disch := (first | omega | (simp only [lenS]; first | done | omega))) only [ir_spec_l1Most, go_sem, Nat.reduceAdd, Nat.reduceEqDiff, Nat.reduceLeDiff, Nat.reduceSub]
  exact ⟨fun h => by rw [Int.max_eq_left (by omega)], fun h => by rw [Int.max_eq_right (by omega)]⟩
theorem spec_l1Cur_markOf_ok (n : Net) (hn : n.pl ≤ 20) (bs : List Int) (at_ sd : Int) (h0 : 0 ≤ at_) (h1 : at_ < 2^59) (hl : bs.length < 2^62) (hb : ∀ x ∈ bs, 0 ≤ x ∧ x < 256) :
    Lw (C f_spec_l1Cur_markOf [.ptr 0 0, .agg [I n.pl, .ref 1 3 0 n.tr.length]] [.box t_spec_l1Cur [bys bs, I at_, .int .u64 sd], .row t_impl_Trans false 3 (n.tr.map encT)]) fun r => ∃ (l : List Int) (at' sd' : Int), r = (.un t_int true 1 (l.map I), [.box t_spec_l1Cur [bys bs, I at', .int .u64 sd'], .row t_impl_Trans false 3 (n.tr.map encT)]) ∧ at_ ≤ at' ∧ at' ≤ at_ + 100 ∧ l.length ≤ 20 ∧ ∀ x ∈ l, -1 ≤ x ∧ x ≤ 51 := by
  refine E_spec_l1Cur_markOf ?_
  simp (maxSteps := 2000000) (disch := (first | omega | (simp only [lenS]; first | done | omega))) only [ir_spec_l1Cur_markOf, go_sem, Nat.reduceAdd, Nat.reduceEqDiff, Nat.reduceLeDiff, Nat.reduceSub]
  refine W_for n.pl.toNat (fun k s => ∃ (l : List Int) (at' sd' : Int), s = ⟨[.ptr 0 0, .any, .ptr 2 0, .any, .ref 3 1 0 l.length, I k, .any, .any], [.box t_spec_l1Cur [bys bs, I at', .int .u64 sd'], .row t_impl_Trans false 3 (n.tr.map encT), .box t_impl_Net [I n.pl, .ref 1 3 0 n.tr.length], .row t_int true 1 (l.map I)]⟩ ∧ l.length = k ∧ at_ ≤ at' ∧ at' ≤ at_ + 2 * k ∧ ∀ x ∈ l, 0 ≤ x ∧ x ≤ 3) ?_ ?_ ?_
  · refine ⟨[], at_, sd, ?_, rfl, by omega, by omega, by simp⟩
    simp (maxSteps := 2000000) (disch := (first | omega | (simp only [lenS]; first | done | omega))) only [go_sem, Nat.reduceAdd, Nat.reduceEqDiff, Nat.reduceLeDiff, Nat.reduceSub]
    rfl
  · rintro k s hk ⟨l, a, sd, rfl, rfl, h8, h9, h10⟩
    obtain ⟨_, e2, x2, a2, s2, rfl, h11, h12, h13, h14⟩ := spec_l1Cur_pick_ok 4 bs a sd (by omega) (by omega) hl hb
    simp (maxSteps := 2000000) (disch := (first | omega | (simp only [lenS]; first | done | omega))) only [go_sem, Nat.reduceAdd, Nat.reduceEqDiff, Nat.reduceLeDiff, Nat.reduceSub, e2, spec_l1Most_ok]
    refine ⟨l ++ [max 0 (x2 - 1)], a2, s2, by rw [List.map_append]; simp, by simp, by omega, by omega, ?_⟩
    intro x hx
    rcases List.mem_append.1 hx with hx | hx
    · exact h10 x hx
    · simp only [List.mem_cons, List.not_mem_nil, or_false] at hx; omega
  · rintro s ⟨l, a, sd, rfl, h7, h8, h9, h10⟩
    obtain ⟨_, e1, x1, a1, s1, rfl, h5, h6⟩ := spec_l1Cur_one_ok 30 bs a sd (by omega) (by omega) hl hb
    simp (maxSteps := 2000000) (disch := (first | omega | (simp only [lenS]; first | done | omega))) only [go_sem, Nat.reduceAdd, Nat.reduceEqDiff, Nat.reduceLeDiff, Nat.reduceSub, e1]
    obtain ⟨_, e3, x3, a3, s3, rfl, h11, h12, h13⟩ := spec_l1Cur_among_ok [50, 51, -1] t_int (by decide) (by decide) bs a1 s1 (by omega) (by omega) hl hb
    simp only [go_sem, Nat.reduceAdd] at e3
    simp (maxSteps := 2000000) (disch := (first | omega | (simp only [lenS]; first | done | omega))) only [go_sem, Nat.reduceAdd, Nat.reduceEqDiff, Nat.reduceLeDiff, Nat.reduceSub, e3]
    simp only [List.mem_cons, List.not_mem_nil, or_false] at h13
    refine ⟨fun h => ⟨fun h2 => ?_, fun h2 => ?_⟩, fun h => ?_⟩
    · simp (maxSteps := 2000000) (disch := (first | omega | (simp only [lenS]; first | done | omega))) only [go_sem, Nat.reduceAdd, Nat.reduceEqDiff, Nat.reduceLeDiff, Nat.reduceSub]
      refine ⟨l.set 0 x3, a3, s3, rfl, by omega, by omega, by simp; omega, fun x hx => ?_⟩
      rcases List.mem_or_eq_of_mem_set hx with hx | rfl
      · have := h10 x hx; omega
      · omega
    · exact ⟨l, a1, s1, rfl, by omega, by omega, by omega, fun x hx => by have := h10 x hx; omega⟩
    · exact ⟨l, a1, s1, rfl, by omega, by omega, by omega, fun x hx => by have := h10 x hx; omega⟩
theorem spec_l1Cur_walked_ok (bs : List Int) (at_ sd : Int) (h0 : 0 ≤ at_) (h1 : at_ < 2^58) (hl : bs.length < 2^62) (hb : ∀ x ∈ bs, 0 ≤ x ∧ x < 256) :
    Lw (C f_spec_l1Cur_walked [.ptr 0 0] [.box t_spec_l1Cur [bys bs, I at_, .int .u64 sd]]) fun r => ∃ (n : Net) (m : List Int) (at' sd' : Int), r = (.tup [.agg [I n.pl, .un t_impl_Trans false 3 (n.tr.map encT)], .un t_int true 1 (m.map I)], [.box t_spec_l1Cur [bys bs, I at', .int .u64 sd']]) ∧ at_ ≤ at' ∧ at' ≤ at_ + 2000 ∧ smNet n ∧ m.length ≤ 20 := by
  obtain ⟨_, e1, b1, a1, s1, rfl, h3, h4⟩ := spec_l1Cur_one_ok 3 bs at_ sd h0 (by omega) hl hb
  obtain ⟨_, e2, f, a2, s2, rfl, h5, h6, h7⟩ := spec_l1Cur_flow_ok true bs a1 s1 (by omega) (by omega) hl hb
  have e3 := spec_StartOf_ok f h7.smN
  have netw : ∀ a0 s0 : Int, at_ ≤ a0 → a0 ≤ at_ + 300 → ∃ (n : Net) (a2 s2 : Int), C f_spec_l1Cur_net [.ptr 0 0, .bool true] [.box t_spec_l1Cur [bys bs, I a0, .int .u64 s0]] = some (.agg [I n.pl, .un t_impl_Trans false 3 (n.tr.map encT)], [.box t_spec_l1Cur [bys bs, I a2, .int .u64 s2]]) ∧ a0 ≤ a2 ∧ a2 ≤ a0 + 1000 ∧ smNet n := by
    intro a0 s0 g1 g2
    obtain ⟨_, f1, n, a2, s2, rfl, g3, g4, g5⟩ := spec_l1Cur_net_ok true bs a0 s0 (by omega) (by omega) hl hb
    exact ⟨n, a2, s2, f1, g3, g4, g5⟩
  have main : ∀ (n : Net) (a2 : Int), at_ ≤ a2 → a2 ≤ at_ + 1400 → smNet n → True := fun _ _ _ _ _ => trivial
  cases b1 with
  | true =>
    cases hg : goodFl f with
    | true =>
      simp only [hg, if_true] at e3
      have hlen : (oneM f.net.pl.toNat f.src).length ≤ 20 := by have := h7.2.1; simp [oneM]; omega
      refine E_spec_l1Cur_walked ?_
      simp (maxSteps := 2000000) (disch := (first | omega | (simp only [lenS]; first | done | omega))) only [ir_spec_l1Cur_walked, go_sem, Nat.reduceAdd, Nat.reduceEqDiff, Nat.reduceLeDiff, Nat.reduceSub]
      simp (maxSteps := 2000000) (disch := (first | omega | (simp only [lenS]; first | done | omega))) only [go_sem, Nat.reduceAdd, Nat.reduceEqDiff, Nat.reduceLeDiff, Nat.reduceSub, e1, e2, e3]
      exact ⟨f.net, _, a2, s2, rfl, by omega, by omega, h7, hlen⟩
    | false =>
      simp only [hg, Bool.false_eq_true, if_false, List.map_nil] at e3
      obtain ⟨n, a4, s4, f1, g1, g2, g3⟩ := netw a2 s2 (by omega) (by omega)
      refine E_spec_l1Cur_walked ?_
      simp (maxSteps := 2000000) (disch := (first | omega | (simp only [lenS]; first | done | omega))) only [ir_spec_l1Cur_walked, go_sem, Nat.reduceAdd, Nat.reduceEqDiff, Nat.reduceLeDiff, Nat.reduceSub]
      simp (maxSteps := 2000000) (disch := (first | omega | (simp only [lenS]; first | done | omega))) only [go_sem, Nat.reduceAdd, Nat.reduceEqDiff, Nat.reduceLeDiff, Nat.reduceSub, e1, e2, e3, f1]
      refine W_for n.tr.length (fun k s => ∃ (tr : List Tr) (a sd : Int), s = ⟨[.ptr 0 0, .ptr 1 0, .any, .any, .any, .any, .ptr 2 0, .any, .any, .any, .any, .ref 3 3 0 n.tr.length, I n.tr.length, I k, .any, .any], [.box t_spec_l1Cur [bys bs, I a, .int .u64 sd], .box t_impl_Net [I 0, .nil false 3], .box t_impl_Net [I n.pl, .ref 3 3 0 n.tr.length], .row t_impl_Trans false 3 (tr.map encT)]⟩ ∧ tr.length = n.tr.length ∧ a4 ≤ a ∧ a ≤ a4 + 2 * k ∧ smq 20 tr) ?_ ?_ ?_
      · refine ⟨n.tr, a4, s4, ?_, rfl, by omega, by omega, g3.2.2⟩
        simp (maxSteps := 2000000) (disch := (first | omega | (simp only [lenS]; first | done | omega))) only [go_sem, Nat.reduceAdd, Nat.reduceEqDiff, Nat.reduceLeDiff, Nat.reduceSub]
        rfl
      · rintro k s hk ⟨tr, a, sd, rfl, hl2, ha1, ha2, hq⟩
        have hk2 : k < tr.length := by omega
        have hqk := hq _ (List.getElem_mem hk2)
        have hn30 := g3.1
        obtain ⟨_, k1, x5, a5, s5, rfl, k2, k3⟩ := spec_l1Cur_one_ok 6 bs a sd (by omega) (by omega) hl hb
        simp (maxSteps := 2000000) (disch := (first | omega | (simp only [lenS]; first | done | omega))) only [go_sem, Nat.reduceAdd, Nat.reduceEqDiff, Nat.reduceLeDiff, Nat.reduceSub, k1]
        refine ⟨fun hgt => ⟨fun _ => ⟨tr, a5, s5, by simp, hl2, by omega, by omega, hq⟩, fun _ => ?_⟩, fun _ => ⟨tr, a, sd, by simp, hl2, by omega, by omega, hq⟩⟩
        rw [if_pos ⟨by simp, by simp, by omega⟩]
        simp (maxSteps := 2000000) (disch := (first | omega | (simp only [lenS]; first | done | omega))) only [go_sem, Nat.reduceAdd, Nat.reduceEqDiff, Nat.reduceLeDiff, Nat.reduceSub]
        exact ⟨tr.set k ⟨tr[k].inn, tr[k].out.take tr[k].inn.length, tr[k].rst⟩, a5, s5, by simp [List.map_set, List.map_take, encT, ints], by simpa using hl2, by omega, by omega, smq_set hq ⟨hqk.1, by simp only [List.length_take]; omega, hqk.2.2⟩⟩
      · rintro s ⟨tr, a, sd, rfl, hl2, ha1, ha2, hq⟩
        have hn30 := g3.1
        have hn20 := g3.2.1
        obtain ⟨_, k1, m, a5, s5, rfl, k2, k3, k4, k5⟩ := spec_l1Cur_markOf_ok ⟨n.pl, tr⟩ g3.2.1 bs a sd (by omega) (by omega) hl hb
        simp only [hl2] at k1
        simp (maxSteps := 2000000) (disch := (first | omega | (simp only [lenS]; first | done | omega))) only [go_sem, Nat.reduceAdd, Nat.reduceEqDiff, Nat.reduceLeDiff, Nat.reduceSub, k1]
        exact ⟨rfl, ⟨n.pl, tr⟩, m, a5, s5, by simp [hl2], by omega, by omega, ⟨by simp only; omega, g3.2.1, hq⟩, by omega⟩
  | false =>
    obtain ⟨n, a4, s4, f1, g1, g2, g3⟩ := netw a1 s1 (by omega) (by omega)
    refine E_spec_l1Cur_walked ?_
    simp (maxSteps := 2000000) (disch := (first | omega | (simp only [lenS]; first | done | omega))) only [ir_spec_l1Cur_walked, go_sem, Nat.reduceAdd, Nat.reduceEqDiff, Nat.reduceLeDiff, Nat.reduceSub]
    simp (maxSteps := 2000000) (disch := (first | omega | (simp only [lenS]; first | done | omega))) only [go_sem, Nat.reduceAdd, Nat.reduceEqDiff, Nat.reduceLeDiff, Nat.reduceSub, e1, f1]
    refine W_for n.tr.length (fun k s => ∃ (tr : List Tr) (a sd : Int), s = ⟨[.ptr 0 0, .ptr 1 0, .any, .any, .any, .any, .ptr 2 0, .any, .any, .any, .any, .ref 3 3 0 n.tr.length, I n.tr.length, I k, .any, .any], [.box t_spec_l1Cur [bys bs, I a, .int .u64 sd], .box t_impl_Net [I 0, .nil false 3], .box t_impl_Net [I n.pl, .ref 3 3 0 n.tr.length], .row t_impl_Trans false 3 (tr.map encT)]⟩ ∧ tr.length = n.tr.length ∧ a4 ≤ a ∧ a ≤ a4 + 2 * k ∧ smq 20 tr) ?_ ?_ ?_
    · refine ⟨n.tr, a4, s4, ?_, rfl, by omega, by omega, g3.2.2⟩
      simp (maxSteps := 2000000) (disch := (first | omega | (simp only [lenS]; first | done | omega))) only [go_sem, Nat.reduceAdd, Nat.reduceEqDiff, Nat.reduceLeDiff, Nat.reduceSub]
      rfl
    · rintro k s hk ⟨tr, a, sd, rfl, hl2, ha1, ha2, hq⟩
      have hk2 : k < tr.length := by omega
      have hqk := hq _ (List.getElem_mem hk2)
      have hn30 := g3.1
      obtain ⟨_, k1, x5, a5, s5, rfl, k2, k3⟩ := spec_l1Cur_one_ok 6 bs a sd (by omega) (by omega) hl hb
      simp (maxSteps := 2000000) (disch := (first | omega | (simp only [lenS]; first | done | omega))) only [go_sem, Nat.reduceAdd, Nat.reduceEqDiff, Nat.reduceLeDiff, Nat.reduceSub, k1]
      refine ⟨fun hgt => ⟨fun _ => ⟨tr, a5, s5, by simp, hl2, by omega, by omega, hq⟩, fun _ => ?_⟩, fun _ => ⟨tr, a, sd, by simp, hl2, by omega, by omega, hq⟩⟩
      rw [if_pos ⟨by simp, by simp, by omega⟩]
      simp (maxSteps := 2000000) (disch := (first | omega | (simp only [lenS]; first | done | omega))) only [go_sem, Nat.reduceAdd, Nat.reduceEqDiff, Nat.reduceLeDiff, Nat.reduceSub]
      exact ⟨tr.set k ⟨tr[k].inn, tr[k].out.take tr[k].inn.length, tr[k].rst⟩, a5, s5, by simp [List.map_set, List.map_take, encT, ints], by simpa using hl2, by omega, by omega, smq_set hq ⟨hqk.1, by simp only [List.length_take]; omega, hqk.2.2⟩⟩
    · rintro s ⟨tr, a, sd, rfl, hl2, ha1, ha2, hq⟩
      have hn30 := g3.1
      have hn20 := g3.2.1
      obtain ⟨_, k1, m, a5, s5, rfl, k2, k3, k4, k5⟩ := spec_l1Cur_markOf_ok ⟨n.pl, tr⟩ g3.2.1 bs a sd (by omega) (by omega) hl hb
      simp only [hl2] at k1
      simp (maxSteps := 2000000) (disch := (first | omega | (simp only [lenS]; first | done | omega))) only [go_sem, Nat.reduceAdd, Nat.reduceEqDiff, Nat.reduceLeDiff, Nat.reduceSub, k1]
      exact ⟨rfl, ⟨n.pl, tr⟩, m, a5, s5, by simp [hl2], by omega, by omega, ⟨by simp only; omega, g3.2.1, hq⟩, by omega⟩
theorem spec_l1Cur_budget_ok (bs : List Int) (at_ sd : Int) (h0 : 0 ≤ at_) (h1 : at_ < 2^60) (hl : bs.length < 2^62) (hb : ∀ x ∈ bs, 0 ≤ x ∧ x < 256) :
    Lw (C f_spec_l1Cur_budget [.ptr 0 0] [.box t_spec_l1Cur [bys bs, I at_, .int .u64 sd]]) fun r => ∃ (x at' sd' : Int), r = (I x, [.box t_spec_l1Cur [bys bs, I at', .int .u64 sd']]) ∧ at_ ≤ at' ∧ at' ≤ at_ + 2 ∧ 0 ≤ x ∧ x ≤ 401 := by
  obtain ⟨_, e3, x3, a3, s3, rfl, h11, h12, h13⟩ := spec_l1Cur_among_ok [1, 5, 20, 100, 100, 400, 401, 0] t_int (by decide) (by decide) bs at_ sd h0 (by omega) hl hb
  simp only [go_sem, Nat.reduceAdd] at e3
  refine E_spec_l1Cur_budget ?_
  simp (maxSteps := 2000000) (disch := (first | omega | (simp only [lenS]; first | done | omega))) only [ir_spec_l1Cur_budget, go_sem, Nat.reduceAdd, Nat.reduceEqDiff, Nat.reduceLeDiff, Nat.reduceSub]
  simp (maxSteps := 2000000) (disch := (first | omega | (simp only [lenS]; first | done | omega))) only [go_sem, Nat.reduceAdd, Nat.reduceEqDiff, Nat.reduceLeDiff, Nat.reduceSub, e3]
  simp only [List.mem_cons, List.not_mem_nil, or_false] at h13
  exact ⟨_, _, _, rfl, h11, h12, by omega, by omega⟩
theorem spec_l1Own_ok (l : List Int) (h : l.length < 2^36) : C f_spec_l1Own [ints l] [] = some (.un t_int true 1 (l.map I), []) := by
  refine C_spec_l1Own ?_
  simp (maxSteps := 2000000) (disch := (first | omega | (simp only [lenS]; first | done | omega))) only [ir_spec_l1Own, go_sem, Nat.reduceAdd, Nat.reduceEqDiff, Nat.reduceLeDiff, Nat.reduceSub]
theorem spec_l1All_ok (l : List Int) (lo hi : Int) (hl : l.length < 2^62) : C f_spec_l1All [ints l, I lo, I hi] [] = some (.bool (l.all (inB lo hi)), []) := by
  refine C_spec_l1All ?_
  simp (maxSteps := 2000000) (disch := (first | omega | (simp only [lenS]; first | done | omega))) only [ir_spec_l1All, go_sem, Nat.reduceAdd, Nat.reduceEqDiff, Nat.reduceLeDiff, Nat.reduceSub]
  refine W_for l.length (fun k s => s = ⟨[.any, I lo, I hi, .any, .any, ints l, I l.length, I k, .any, .any], []⟩ ∧ (l.take k).all (inB lo hi) = true) ?_ ?_ ?_
  · simp (maxSteps := 2000000) (disch := (first | omega | (simp only [lenS]; first | done | omega))) only [go_sem, Nat.reduceAdd, Nat.reduceEqDiff, Nat.reduceLeDiff, Nat.reduceSub]
    rfl
  · rintro k s hk ⟨rfl, hall⟩
    simp (maxSteps := 2000000) (disch := (first | omega | (simp only [lenS]; first | done | omega))) only [go_sem, Nat.reduceAdd, Nat.reduceEqDiff, Nat.reduceLeDiff, Nat.reduceSub, spec_l1In_ok]
    exact ⟨fun h => ⟨rfl, all_take hk hall h⟩, fun h => by rw [all_false hk h]⟩
  · rintro s ⟨rfl, hall⟩
    simp (maxSteps := 2000000) (disch := (first | omega | (simp only [lenS]; first | done | omega))) only [go_sem, Nat.reduceAdd, Nat.reduceEqDiff, Nat.reduceLeDiff, Nat.reduceSub]
    rw [List.take_length] at hall
    rw [hall]
theorem spec_GoodMark_ok (p : Int) (m : List Int) (hl : m.length < 2^62) : C f_spec_GoodMark [I p, ints m] [] = some (.bool (goodM p m), []) := by
  refine C_spec_GoodMark ?_
  simp (maxSteps := 2000000) (disch := (first | omega | (simp only [lenS]; first | done | omega))) only [ir_spec_GoodMark, go_sem, Nat.reduceAdd, Nat.reduceEqDiff, Nat.reduceLeDiff, Nat.reduceSub]
  simp (maxSteps := 2000000) (disch := (first | omega | (simp only [lenS]; first | done | omega))) only [go_sem, Nat.reduceAdd, Nat.reduceEqDiff, Nat.reduceLeDiff, Nat.reduceSub, spec_l1Places_ok, spec_l1All_ok m _ _ hl]
  unfold goodM; grind
theorem spec_l2Marked_ok (n : Net) (m : List Int) (hn : smN n) (hm : m.length < 2^62) : C f_spec_l2Marked [encN n, ints m] [] = some (.bool (marked n m), []) := by
  refine C_spec_l2Marked ?_
  simp (maxSteps := 2000000) (disch := (first | omega | (simp only [lenS]; first | done | omega))) only [ir_spec_l2Marked, go_sem, Nat.reduceAdd, Nat.reduceEqDiff, Nat.reduceLeDiff, Nat.reduceSub]
  simp (maxSteps := 2000000) (disch := (first | omega | (simp only [lenS]; first | done | omega))) only [go_sem, Nat.reduceAdd, Nat.reduceEqDiff, Nat.reduceLeDiff, Nat.reduceSub, spec_GoodNet_ok n hn, spec_GoodMark_ok n.pl m hm]
  unfold marked; grind
theorem spec_l2Can_ok (t : Tr) (m : List Int) (ht : ∀ q ∈ t.inn, 0 ≤ q ∧ q.toNat < m.length) (hl : t.inn.length < 2^62) : C f_spec_l2Can [encT t, ints m] [] = some (.bool (canT t m), []) := by
  refine C_spec_l2Can ?_
  simp (maxSteps := 2000000) (disch := (first | omega | (simp only [lenS]; first | done | omega))) only [ir_spec_l2Can, go_sem, Nat.reduceAdd, Nat.reduceEqDiff, Nat.reduceLeDiff, Nat.reduceSub]
  refine W_for t.inn.length (fun k s => s = ⟨[.any, ints m, .any, .any, .any, ints t.inn, I t.inn.length, I k, .any, .any], []⟩ ∧ (t.inn.take k).all (fun p => !(at_ m p == 0)) = true) ?_ ?_ ?_
  · simp (maxSteps := 2000000) (disch := (first | omega | (simp only [lenS]; first | done | omega))) only [go_sem, Nat.reduceAdd, Nat.reduceEqDiff, Nat.reduceLeDiff, Nat.reduceSub]
    rfl
  · rintro k s hk ⟨rfl, hall⟩
    obtain ⟨h1, h2⟩ := ht _ (List.getElem_mem hk)
    simp (maxSteps := 2000000) (disch := (first | omega | (simp only [lenS]; first | done | omega))) only [go_sem, Nat.reduceAdd, Nat.reduceEqDiff, Nat.reduceLeDiff, Nat.reduceSub]
    refine ⟨fun h => ?_, fun h => ⟨rfl, all_take hk hall ?_⟩⟩
    · have : canT t m = false := all_false hk (by rw [at_eq h2] at h; simp [h])
      rw [this]
    · rw [at_eq h2] at h; simp [h]
  · rintro s ⟨rfl, hall⟩
    simp (maxSteps := 2000000) (disch := (first | omega | (simp only [lenS]; first | done | omega))) only [go_sem, Nat.reduceAdd, Nat.reduceEqDiff, Nat.reduceLeDiff, Nat.reduceSub]
    rw [List.take_length] at hall
    unfold canT; rw [hall]
theorem spec_l2Enabled_ok (n : Net) (m : List Int) (hg : goodN n = true) (hm : (m.length : Int) = n.pl) : C f_spec_l2Enabled [encN n, ints m] [] = some (.un t_int true 1 ((enabL n m).map I), []) := by
  have hb := goodN_parts hg
  refine C_spec_l2Enabled ?_
  simp (maxSteps := 2000000) (disch := (first | omega | (simp only [lenS]; first | done | omega))) only [ir_spec_l2Enabled, go_sem, Nat.reduceAdd, Nat.reduceEqDiff, Nat.reduceLeDiff, Nat.reduceSub]
  refine W_for n.tr.length (fun k s => s = ⟨[.any, ints m, .any, .any, .ref 0 1 0 (enabK n m k).length, .any, .any, trs n.tr, I n.tr.length, I k, .any, .any], [.row t_int true 1 ((enabK n m k).map I)]⟩) ?_ ?_ ?_
  · simp (maxSteps := 2000000) (disch := (first | omega | (simp only [lenS]; first | done | omega))) only [go_sem, Nat.reduceAdd, Nat.reduceEqDiff, Nat.reduceLeDiff, Nat.reduceSub]
    rfl
  · rintro k s hk rfl
    have hT := hb.2.2.2 _ (List.getElem_mem hk)
    have h2 := enabK_len n m k
    simp (maxSteps := 2000000) (disch := (first | omega | (simp only [lenS]; first | done | omega))) only [go_sem, Nat.reduceAdd, Nat.reduceEqDiff, Nat.reduceLeDiff, Nat.reduceSub, spec_l2Can_ok _ m (goodT_lt hT hm).1 (by have := (goodT_lens hT (by omega)).1; omega)]
    refine ⟨fun h => ?_, fun h => ?_⟩
    · rw [enabK_t hk h, List.map_append]; simp
    · rw [enabK_f hk h]; rfl
  · rintro s rfl
    simp (maxSteps := 2000000) (disch := (first | omega | (simp only [lenS]; first | done | omega))) only [go_sem, Nat.reduceAdd, Nat.reduceEqDiff, Nat.reduceLeDiff, Nat.reduceSub]
    rfl
theorem spec_Enabled_ok (n : Net) (m : List Int) (hn : smN n) (hm : m.length < 2^62) : C f_spec_Enabled [encN n, ints m] [] = some (.tup [.un t_int true 1 ((if marked n m then enabL n m else []).map I), .bool (marked n m)], []) := by
  refine C_spec_Enabled ?_
  simp (maxSteps := 2000000) (disch := (first | omega | (simp only [lenS]; first | done | omega))) only [ir_spec_Enabled, go_sem, Nat.reduceAdd, Nat.reduceEqDiff, Nat.reduceLeDiff, Nat.reduceSub]
  simp (maxSteps := 2000000) (disch := (first | omega | (simp only [lenS]; first | done | omega))) only [go_sem, Nat.reduceAdd, Nat.reduceEqDiff, Nat.reduceLeDiff, Nat.reduceSub, spec_l2Marked_ok n m hn hm]
  refine ⟨fun h => ?_, fun h => by simp [h]⟩
  obtain ⟨h1, h2⟩ := marked_parts h
  simp (maxSteps := 2000000) (disch := (first | omega | (simp only [lenS]; first | done | omega))) only [go_sem, Nat.reduceAdd, Nat.reduceEqDiff, Nat.reduceLeDiff, Nat.reduceSub, spec_l2Enabled_ok n m h1 (goodM_len h2).2.2.1, h]
theorem spec_l2Fire_ok (t : Tr) (m : List Int) (h1 : ∀ q ∈ t.inn, 0 ≤ q ∧ q.toNat < m.length) (h2 : ∀ q ∈ t.out, 0 ≤ q ∧ q.toNat < m.length) (h3 : ∀ q ∈ t.rst, 0 ≤ q ∧ q.toNat < m.length) (hl : smT t) (hm : m.length < 2^30) (hb : ∀ x ∈ m, 0 ≤ x ∧ x ≤ 50) :
    C f_spec_l2Fire [encT t, ints m] [] = some (.un t_int true 1 ((firedM t m).map I), []) := by
  obtain ⟨g1, g2, g3⟩ := hl
  refine C_spec_l2Fire ?_
  simp (maxSteps := 2000000) (disch := (first | omega | (simp only [lenS]; first | done | omega))) only [ir_spec_l2Fire, go_sem, Nat.reduceAdd, Nat.reduceEqDiff, Nat.reduceLeDiff, Nat.reduceSub]
  simp (maxSteps := 2000000) (disch := (first | omega | (simp only [lenS]; first | done | omega))) only [go_sem, Nat.reduceAdd, Nat.reduceEqDiff, Nat.reduceLeDiff, Nat.reduceSub, spec_l1Own_ok m (by omega)]
  refine W_for t.inn.length (fun k s => s = ⟨[.any, .any, .ptr 0 0, .any, .ref 1 1 0 m.length, .any, .any, .any, ints t.inn, I t.inn.length, I k, .any, .any, .any, .any, .any, .any, .any, .any, .any], [.box t_impl_Trans [ints t.inn, ints t.out, ints t.rst], .row t_int true 1 ((decL m (t.inn.take k)).map I)]⟩) ?_ ?_ ?_
  · simp (maxSteps := 2000000) (disch := (first | omega | (simp only [lenS]; first | done | omega))) only [go_sem, Nat.reduceAdd, Nat.reduceEqDiff, Nat.reduceLeDiff, Nat.reduceSub]
    rfl
  · rintro k s hk rfl
    obtain ⟨h4, h5⟩ := h1 _ (List.getElem_mem hk)
    have h6 := decL_len m (t.inn.take k)
    have h7 := at_bound (p := t.inn[k]) (decL_bound (l := t.inn.take k) hb (fun p hp => (h1 p (List.mem_of_mem_take hp)).2)) (by omega)
    have h8 : (t.inn.take k).length = k := by simp; omega
    simp (maxSteps := 2000000) (disch := (first | omega | (simp only [lenS]; first | done | omega))) only [go_sem, Nat.reduceAdd, Nat.reduceEqDiff, Nat.reduceLeDiff, Nat.reduceSub, at_eq]
    rw [decL_take hk]; rfl
  · rintro s rfl
    simp (maxSteps := 2000000) (disch := (first | omega | (simp only [lenS]; first | done | omega))) only [go_sem, Nat.reduceAdd, Nat.reduceEqDiff, Nat.reduceLeDiff, Nat.reduceSub, List.take_length]
    have b1 := decL_bound (l := t.inn) hb (fun p hp => (h1 p hp).2)
    have l1 := decL_len m t.inn
    generalize e1 : decL m t.inn = m1 at b1 l1 ⊢
    refine W_for t.rst.length (fun k s => s = ⟨[.any, .any, .ptr 0 0, .any, .ref 1 1 0 m.length, .any, .any, .any, .any, .any, .any, .any, ints t.rst, I t.rst.length, I k, .any, .any, .any, .any, .any], [.box t_impl_Trans [ints t.inn, ints t.out, ints t.rst], .row t_int true 1 ((zerL m1 (t.rst.take k)).map I)]⟩) ?_ ?_ ?_
    · simp (maxSteps := 2000000) (disch := (first | omega | (simp only [lenS]; first | done | omega))) only [go_sem, Nat.reduceAdd, Nat.reduceEqDiff, Nat.reduceLeDiff, Nat.reduceSub]
      rfl
    · rintro k s hk rfl
      obtain ⟨h4, h5⟩ := h3 _ (List.getElem_mem hk)
      have h6 := zerL_len m1 (t.rst.take k)
      simp (maxSteps := 2000000) (disch := (first | omega | (simp only [lenS]; first | done | omega))) only [go_sem, Nat.reduceAdd, Nat.reduceEqDiff, Nat.reduceLeDiff, Nat.reduceSub]
      rw [zerL_take hk]; rfl
    · rintro s rfl
      simp (maxSteps := 2000000) (disch := (first | omega | (simp only [lenS]; first | done | omega))) only [go_sem, Nat.reduceAdd, Nat.reduceEqDiff, Nat.reduceLeDiff, Nat.reduceSub, List.take_length]
      have b2 := zerL_bound (l := t.rst) b1 (by omega)
      have l2 := zerL_len m1 t.rst
      generalize e2 : zerL m1 t.rst = m2 at b2 l2 ⊢
      refine W_for t.out.length (fun k s => s = ⟨[.any, .any, .any, .any, .ref 0 1 0 m.length, .any, .any, .any, .any, .any, .any, .any, .any, .any, .any, .any, ints t.out, I t.out.length, I k, .any], [.row t_int true 1 ((incL m2 (t.out.take k)).map I)]⟩) ?_ ?_ ?_
      · simp (maxSteps := 2000000) (disch := (first | omega | (simp only [lenS]; first | done | omega))) only [go_sem, Nat.reduceAdd, Nat.reduceEqDiff, Nat.reduceLeDiff, Nat.reduceSub]
        rfl
      · rintro k s hk rfl
        obtain ⟨h4, h5⟩ := h2 _ (List.getElem_mem hk)
        have h6 := incL_len m2 (t.out.take k)
        have h7 := at_bound (p := t.out[k]) (incL_bound (l := t.out.take k) b2 (fun p hp => by have := (h2 p (List.mem_of_mem_take hp)).2; omega)) (by omega)
        have h8 : (t.out.take k).length = k := by simp; omega
        simp (maxSteps := 2000000) (disch := (first | omega | (simp only [lenS]; first | done | omega))) only [go_sem, Nat.reduceAdd, Nat.reduceEqDiff, Nat.reduceLeDiff, Nat.reduceSub, at_eq]
        rw [incL_take hk]; rfl
      · rintro s rfl
        have h6 := incL_len m2 t.out
        simp (maxSteps := 2000000) (disch := (first | omega | (simp only [lenS]; first | done | omega))) only [go_sem, Nat.reduceAdd, Nat.reduceEqDiff, Nat.reduceLeDiff, Nat.reduceSub, List.take_length]
        subst e2 e1; rfl
theorem spec_Fire_ok (n : Net) (m : List Int) (t : Int) (hn : smN n) (hm : m.length < 2^62) : C f_spec_Fire [encN n, ints m, I t] [] = some (.tup [.un t_int true 1 ((if okFire n m t then firedM (trAt n t) m else []).map I), .bool (okFire n m t)], []) := by
  have h0 := hn.1
  refine C_spec_Fire ?_
  simp (maxSteps := 2000000) (disch := (first | omega | (simp only [lenS]; first | done | omega))) only [ir_spec_Fire, go_sem, Nat.reduceAdd, Nat.reduceEqDiff, Nat.reduceLeDiff, Nat.reduceSub]
  simp (maxSteps := 2000000) (disch := (first | omega | (simp only [lenS]; first | done | omega))) only [go_sem, Nat.reduceAdd, Nat.reduceEqDiff, Nat.reduceLeDiff, Nat.reduceSub, spec_l2Marked_ok n m hn hm, spec_l1In_ok]
  refine ⟨fun h1 => ⟨fun h2 => ?_, fun h2 => by simp [okFire, canN, h2]⟩, fun h1 => by simp [okFire, canN, h1]⟩
  obtain ⟨h3, h4⟩ := marked_parts h1
  have h6 : 0 ≤ t ∧ t.toNat < n.tr.length := by simp [inB] at h2; omega
  have h8 := (goodN_parts h3).2.2.2 _ (List.getElem_mem h6.2)
  rw [trAt_eq h6.2] at h8
  have hx := goodT_lt h8 (goodM_len h4).2.2.1
  have hy := goodT_lens h8 (by have := goodN_parts h3; omega)
  have hm := (goodM_len h4).2.2
  have hz := firedM_len (trAt n t) m
  simp (maxSteps := 2000000) (disch := (first | omega | (simp only [lenS]; first | done | omega))) only [go_sem, Nat.reduceAdd, Nat.reduceEqDiff, Nat.reduceLeDiff, Nat.reduceSub, trAt_eq, spec_l2Can_ok (trAt n t) m hx.1 (by omega)]
  refine ⟨fun h7 => ?_, fun h7 => by simp [okFire, canN, h7]⟩
  have hg : goodM n.pl (firedM (trAt n t) m) = okFire n m t := by
    have h9 : inB 1 16 n.pl = true := by have := goodN_parts h3; simp [inB]; omega
    have h10 : (((firedM (trAt n t) m).length : Int) == n.pl) = true := by simp [hz]; omega
    simp only [goodM, okFire, canN, h1, h2, h7, h9, h10, Bool.true_and, Bool.and_self]
  simp (maxSteps := 2000000) (disch := (first | omega | (simp only [lenS]; first | done | omega))) only [go_sem, Nat.reduceAdd, Nat.reduceEqDiff, Nat.reduceLeDiff, Nat.reduceSub, trAt_eq, spec_l2Fire_ok (trAt n t) m hx.1 hx.2.1 hx.2.2 ⟨by omega, by omega, by omega⟩ (by omega) hm.2.2, spec_GoodMark_ok n.pl (firedM (trAt n t) m) (by omega), hg]
  refine ⟨fun h => by simp [h], fun h => by simp [h]⟩
theorem spec_l1Cur_metMark_ok (n : Net) (m : List Int) (hn : smNet n) (hm : m.length ≤ 20) (bs : List Int) (at_ sd : Int) (h0 : 0 ≤ at_) (h1 : at_ < 2^58) (hl : bs.length < 2^62) (hb : ∀ x ∈ bs, 0 ≤ x ∧ x < 256) :
    Lw (C f_spec_l1Cur_metMark [.ptr 0 0, .agg [I n.pl, .ref 1 3 0 n.tr.length], .ref 2 1 0 m.length] [.box t_spec_l1Cur [bys bs, I at_, .int .u64 sd], .row t_impl_Trans false 3 (n.tr.map encT), .row t_int true 1 (m.map I)]) fun r => ∃ (l : List Int) (at' sd' : Int), r = (.un t_int true 1 (l.map I), [.box t_spec_l1Cur [bys bs, I at', .int .u64 sd'], .row t_impl_Trans false 3 (n.tr.map encT), .row t_int true 1 (m.map I)]) ∧ at_ ≤ at' ∧ at' ≤ at_ + 200 ∧ l.length ≤ 20 := by
  have hsn := hn.smN
  have eo := spec_l1Own_ok m (by omega)
  obtain ⟨_, e1, x1, a1, s1, rfl, h3, h4, h5, h6⟩ := spec_l1Cur_pick_ok 6 bs at_ sd h0 (by omega) hl hb
  obtain ⟨K, rfl⟩ : ∃ K : Nat, x1 = K := ⟨x1.toNat, by omega⟩
  refine E_spec_l1Cur_metMark ?_
  simp (maxSteps := 2000000) (disch := (first | omega | (simp only [lenS]; first | done | omega))) only [ir_spec_l1Cur_metMark, go_sem, Nat.reduceAdd, Nat.reduceEqDiff, Nat.reduceLeDiff, Nat.reduceSub]
  simp (maxSteps := 2000000) (disch := (first | omega | (simp only [lenS]; first | done | omega))) only [go_sem, Nat.reduceAdd, Nat.reduceEqDiff, Nat.reduceLeDiff, Nat.reduceSub, eo, e1]
  refine W_down (fun k s => ∃ (M : List Int) (a sd : Int), s = ⟨[.ptr 0 0, .any, .any, .ptr 3 0, .any, .ref 4 1 0 M.length, I k, .any, .any, .any, .any, .any, .any, .any, .any], [.box t_spec_l1Cur [bys bs, I a, .int .u64 sd], .row t_impl_Trans false 3 (n.tr.map encT), .row t_int true 1 (m.map I), .box t_impl_Net [I n.pl, .ref 1 3 0 n.tr.length], .row t_int true 1 (M.map I)]⟩ ∧ M.length ≤ 20 ∧ a1 ≤ a ∧ a + 2 * k ≤ a1 + 12) K ?_ ?_
  · refine ⟨m, a1, s1, ?_, hm, by omega, by omega⟩
    simp (maxSteps := 2000000) (disch := (first | omega | (simp only [lenS]; first | done | omega))) only [go_sem, Nat.reduceAdd, Nat.reduceEqDiff, Nat.reduceLeDiff, Nat.reduceSub]
    first | done | rfl
  · rintro k s ⟨M, a, sd, rfl, hM, ha1, ha2⟩
    by_cases h0 : 0 < k
    · have en := spec_Enabled_ok n M hsn (by omega)
      have hEl : (enabL n M).length ≤ n.tr.length := enabK_len ..
      have hn30 := hn.1
      cases hmk : marked n M with
      | false =>
        simp only [hmk, Bool.false_eq_true, if_false] at en
        simp (maxSteps := 2000000) (disch := (first | omega | (simp only [lenS]; first | done | omega))) only [go_sem, Nat.reduceAdd, Nat.reduceEqDiff, Nat.reduceLeDiff, Nat.reduceSub, en]
        exact ⟨k - 1, by omega, M, a, sd, by rw [show ((k - 1 : Nat) : Int) = k - 1 by omega], hM, by omega, by omega⟩
      | true =>
        simp only [hmk, if_true] at en
        have fr := fun t => spec_Fire_ok n M t hsn (by omega)
        generalize enabL n M = E at *
        obtain ⟨_, e2, x2, a2, s2, rfl, g3, g4, g5, g6⟩ := spec_l1Cur_pick_ok E.length bs a sd (by omega) (by omega) hl hb
        by_cases hE : 0 < E.length
        · have hx2 : x2.toNat < E.length := by omega
          obtain ⟨q, rfl⟩ : ∃ q : Nat, x2 = q := ⟨x2.toNat, by omega⟩
          rw [Int.toNat_natCast] at hx2
          have fr2 := fr E[q]
          have hfl := firedM_len (trAt n E[q]) M
          have e3 : E[q]? = some E[q] := List.getElem?_eq_getElem hx2
          generalize E[q] = t at *
          cases hfo : okFire n M t with
          | true =>
            simp only [hfo, if_true] at fr2
            simp (maxSteps := 2000000) (disch := (first | omega | (simp only [lenS]; first | done | omega))) only [go_sem, Nat.reduceAdd, Nat.reduceEqDiff, Nat.reduceLeDiff, Nat.reduceSub, en, e2, e3, fr2]
            exact ⟨k - 1, by omega, firedM (trAt n t) M, a2, s2, by rw [show ((k - 1 : Nat) : Int) = k - 1 by omega], by omega, by omega, by omega⟩
          | false =>
            simp only [hfo, Bool.false_eq_true, if_false] at fr2
            simp (maxSteps := 2000000) (disch := (first | omega | (simp only [lenS]; first | done | omega))) only [go_sem, Nat.reduceAdd, Nat.reduceEqDiff, Nat.reduceLeDiff, Nat.reduceSub, en, e2, e3, fr2]
            exact ⟨k - 1, by omega, M, a2, s2, by rw [show ((k - 1 : Nat) : Int) = k - 1 by omega], hM, by omega, by omega⟩
        · simp (maxSteps := 2000000) (disch := (first | omega | (simp only [lenS]; first | done | omega))) only [go_sem, Nat.reduceAdd, Nat.reduceEqDiff, Nat.reduceLeDiff, Nat.reduceSub, en, e2, hE]
          exact ⟨k - 1, by omega, M, a, sd, by rw [show ((k - 1 : Nat) : Int) = k - 1 by omega], hM, by omega, by omega⟩
    · have : k = 0 := by omega
      subst this
      obtain ⟨_, e2, x2, a2, s2, rfl, g3, g4⟩ := spec_l1Cur_one_ok 4 bs a sd (by omega) (by omega) hl hb
      obtain ⟨_, e3, l3, a3, s3, rfl, g5, g6, g7, g8⟩ := spec_l1Cur_markOf_ok n hn.2.1 bs a2 s2 (by omega) (by omega) hl hb
      simp (maxSteps := 2000000) (disch := (first | omega | (simp only [lenS]; first | done | omega))) only [go_sem, Nat.reduceAdd, Nat.reduceEqDiff, Nat.reduceLeDiff, Nat.reduceSub, e2, e3]
      exact ⟨fun _ => ⟨l3, a3, s3, rfl, by omega, by omega, g7⟩, fun _ => ⟨M, a2, s2, rfl, by omega, by omega, hM⟩⟩
theorem spec_DrawWayTo_ok (bs : List Int) (hl : bs.length < 2^62) (hb : ∀ x ∈ bs, 0 ≤ x ∧ x < 256) :
    Lw (C f_spec_DrawWayTo [bys bs] []) fun r => ∃ (n : Net) (m : List Int) (b : Int) (k : List Int), r = (.tup [.agg [I n.pl, .un t_impl_Trans false 3 (n.tr.map encT)], .un t_int true 1 (m.map I), I b, .un t_int true 1 (k.map I)], []) ∧ smNet n ∧ m.length ≤ 20 ∧ k.length ≤ 20 := by
  obtain ⟨_, e1, n, m, a1, s1, rfl, h3, h4, h5, h6⟩ := spec_l1Cur_walked_ok bs 0 0 (by omega) (by omega) hl hb
  obtain ⟨_, e2, x2, a2, s2, rfl, g1, g2, g3, g4⟩ := spec_l1Cur_budget_ok bs a1 s1 (by omega) (by omega) hl hb
  obtain ⟨_, e3, k, a3, s3, rfl, g5, g6, g7⟩ := spec_l1Cur_metMark_ok n m h5 h6 bs a2 s2 (by omega) (by omega) hl hb
  refine E_spec_DrawWayTo ?_
  simp (maxSteps := 2000000) (disch := (first | omega | (simp only [lenS]; first | done | omega))) only [ir_spec_DrawWayTo, go_sem, Nat.reduceAdd, Nat.reduceEqDiff, Nat.reduceLeDiff, Nat.reduceSub]
  simp (maxSteps := 2000000) (disch := (first | omega | (simp only [lenS]; first | done | omega))) only [go_sem, Nat.reduceAdd, Nat.reduceEqDiff, Nat.reduceLeDiff, Nat.reduceSub, e1, e2, e3]
  first | exact ⟨n, m, x2, k, rfl, h5, h6, g7⟩ | exact ⟨rfl, n, m, x2, k, rfl, h5, h6, g7⟩
theorem spec_DrawIsHome_ok (bs : List Int) (hl : bs.length < 2^62) (hb : ∀ x ∈ bs, 0 ≤ x ∧ x < 256) :
    Lw (C f_spec_DrawIsHome [bys bs] []) fun r => ∃ (n : Net) (m : List Int) (b : Int) (k : List Int), r = (.tup [.agg [I n.pl, .un t_impl_Trans false 3 (n.tr.map encT)], .un t_int true 1 (m.map I), I b, .un t_int true 1 (k.map I)], []) ∧ smNet n ∧ m.length ≤ 20 ∧ k.length ≤ 20 := by
  obtain ⟨_, e1, n, m, b, k, rfl, h1, h2, h3⟩ := spec_DrawWayTo_ok bs hl hb
  refine E_spec_DrawIsHome ?_
  simp (maxSteps := 2000000) (disch := (first | omega | (simp only [lenS]; first | done | omega))) only [ir_spec_DrawIsHome, go_sem, Nat.reduceAdd, Nat.reduceEqDiff, Nat.reduceLeDiff, Nat.reduceSub]
  simp (maxSteps := 2000000) (disch := (first | omega | (simp only [lenS]; first | done | omega))) only [go_sem, Nat.reduceAdd, Nat.reduceEqDiff, Nat.reduceLeDiff, Nat.reduceSub, e1]
  first | exact ⟨n, m, b, k, rfl, h1, h2, h3⟩ | exact ⟨rfl, n, m, b, k, rfl, h1, h2, h3⟩
theorem impl_within_ok (n lo hi : Int) : C f_impl_within [I n, I lo, I hi] [] = some (.bool (inB lo hi n), []) := by
  refine C_impl_within ?_
  simp (maxSteps := 2000000) (disch := (first | omega | (simp only [lenS]; first | done | omega))) only [ir_impl_within, go_sem, Nat.reduceAdd, Nat.reduceEqDiff, Nat.reduceLeDiff, Nat.reduceSub]
  unfold inB; grind
theorem impl_increasing_ok (l : List Int) (hl : l.length < 2^62) : C f_impl_increasing [ints l] [] = some (.bool (incr l), []) := by
  refine C_impl_increasing ?_
  simp (maxSteps := 2000000) (disch := (first | omega | (simp only [lenS]; first | done | omega))) only [ir_impl_increasing, go_sem, Nat.reduceAdd, Nat.reduceEqDiff, Nat.reduceLeDiff, Nat.reduceSub]
  refine W_for (l.length - 1) (fun k s => s = ⟨[ints l, .any, I (k + 1 : Int), .any, .any], []⟩ ∧ (l.take (k + 1)).Pairwise (· < ·)) ?_ ?_ ?_
  · simp (maxSteps := 2000000) (disch := (first | omega | (simp only [lenS]; first | done | omega))) only [go_sem, Nat.reduceAdd, Nat.reduceEqDiff, Nat.reduceLeDiff, Nat.reduceSub]
    exact ⟨rfl, incr_one⟩
  · rintro k s hk ⟨rfl, hp⟩
    simp (maxSteps := 2000000) (disch := (first | omega | (simp only [lenS]; first | done | omega))) only [go_sem, Nat.reduceAdd, Nat.reduceEqDiff, Nat.reduceLeDiff, Nat.reduceSub]
    have e1 : ((k : Int) + 1).toNat = k + 1 := by omega
    have e2 : ((k : Int) + 1 - 1).toNat = k := by omega
    simp only [e1, e2]
    refine ⟨fun h => by rw [incr_not (k := k) (by omega) (by omega)], fun h => ⟨rfl, incr_step (by omega) hp h⟩⟩
  · rintro s ⟨rfl, hp⟩
    simp (maxSteps := 2000000) (disch := (first | omega | (simp only [lenS]; first | done | omega))) only [go_sem, Nat.reduceAdd, Nat.reduceEqDiff, Nat.reduceLeDiff, Nat.reduceSub]
    rw [take_all (by omega)] at hp
    rw [show incr l = true by simpa [incr] using hp]
theorem impl_allWithin_ok (l : List Int) (lo hi : Int) (hl : l.length < 2^62) : C f_impl_allWithin [ints l, I lo, I hi] [] = some (.bool (l.all (inB lo hi)), []) := by
  refine C_impl_allWithin ?_
  simp (maxSteps := 2000000) (disch := (first | omega | (simp only [lenS]; first | done | omega))) only [ir_impl_allWithin, go_sem, Nat.reduceAdd, Nat.reduceEqDiff, Nat.reduceLeDiff, Nat.reduceSub]
  refine W_for l.length (fun k s => s = ⟨[.any, I lo, I hi, .any, .any, ints l, I l.length, I k, .any, .any], []⟩ ∧ (l.take k).all (inB lo hi) = true) ?_ ?_ ?_
  · simp (maxSteps := 2000000) (disch := (first | omega | (simp only [lenS]; first | done | omega))) only [go_sem, Nat.reduceAdd, Nat.reduceEqDiff, Nat.reduceLeDiff, Nat.reduceSub]
    rfl
  · rintro k s hk ⟨rfl, hall⟩
    simp (maxSteps := 2000000) (disch := (first | omega | (simp only [lenS]; first | done | omega))) only [go_sem, Nat.reduceAdd, Nat.reduceEqDiff, Nat.reduceLeDiff, Nat.reduceSub, impl_within_ok]
    exact ⟨fun h => ⟨rfl, all_take hk hall h⟩, fun h => by rw [all_false hk h]⟩
  · rintro s ⟨rfl, hall⟩
    simp (maxSteps := 2000000) (disch := (first | omega | (simp only [lenS]; first | done | omega))) only [go_sem, Nat.reduceAdd, Nat.reduceEqDiff, Nat.reduceLeDiff, Nat.reduceSub]
    rw [List.take_length] at hall
    rw [hall]
theorem impl_arePlaces_ok (n : Net) (l : List Int) (h : 1 ≤ n.pl ∧ n.pl ≤ 16) (hl : l.length < 2^62) : C f_impl_arePlaces [encN n, ints l] [] = some (.bool (places n.pl l), []) := by
  refine C_impl_arePlaces ?_
  simp (maxSteps := 2000000) (disch := (first | omega | (simp only [lenS]; first | done | omega))) only [ir_impl_arePlaces, go_sem, Nat.reduceAdd, Nat.reduceEqDiff, Nat.reduceLeDiff, Nat.reduceSub]
  simp (maxSteps := 2000000) (disch := (first | omega | (simp only [lenS]; first | done | omega))) only [go_sem, Nat.reduceAdd, Nat.reduceEqDiff, Nat.reduceLeDiff, Nat.reduceSub, impl_increasing_ok l hl, impl_allWithin_ok l _ _ hl]
  unfold places; grind
theorem impl_GoodNet_1_ok (n : Net) (t : Tr) (h : 1 ≤ n.pl ∧ n.pl ≤ 16) (ht : smT t) : C f_impl_GoodNet_1 [encT t, .pv (encN n) 0] [] = some (.bool (!goodT n.pl t), []) := by
  obtain ⟨h1, h2, h3⟩ := ht
  refine C_impl_GoodNet_1 ?_
  simp (maxSteps := 2000000) (disch := (first | omega | (simp only [lenS]; first | done | omega))) only [ir_impl_GoodNet_1, go_sem, Nat.reduceAdd, Nat.reduceEqDiff, Nat.reduceLeDiff, Nat.reduceSub]
  simp (maxSteps := 2000000) (disch := (first | omega | (simp only [lenS]; first | done | omega))) only [go_sem, Nat.reduceAdd, Nat.reduceEqDiff, Nat.reduceLeDiff, Nat.reduceSub, impl_arePlaces_ok n _ h]
  refine ⟨fun h6 => by rw [goodT_nil (by omega)]; rfl, fun h6 => ⟨fun h7 => ⟨fun h8 => ⟨fun h9 => by rw [goodT_all (by omega) h7 h8 h9]; rfl, fun h9 => by simp [goodT, h9]⟩, fun h8 => by simp [goodT, h8]⟩, fun h7 => by simp [goodT, h7]⟩⟩
theorem slices_IndexFunc_sl_impl_Trans_impl_Trans_ok (l : List Tr) (g : FuncId) (caps : List PV) (hc : refsL caps = []) (hcv : ∀ m h, viewLWith [] m h caps = some caps) (p : Tr → Bool) (hp : ∀ x ∈ l, C g (encT x :: caps) [] = some (.bool (p x), [])) (hl : l.length < 2^62) :
    C f_slices_IndexFunc_sl_impl_Trans_impl_Trans [trs l, .clo g caps] [] = some (I (idxI l p), []) := by
  refine C_slices_IndexFunc_sl_impl_Trans_impl_Trans ?_
  simp (maxSteps := 2000000) (disch := (first | omega | (simp only [lenS]; first | done | omega))) only [ir_slices_IndexFunc_sl_impl_Trans_impl_Trans, go_sem, Nat.reduceAdd, Nat.reduceEqDiff, Nat.reduceLeDiff, Nat.reduceSub]
  refine W_for l.length (fun k s => s = ⟨[trs l, .clo g caps, .any, .any, I l.length, I k, .any, .any], []⟩ ∧ (l.take k).any p = false) ?_ ?_ ?_
  · simp (maxSteps := 2000000) (disch := (first | omega | (simp only [lenS]; first | done | omega))) only [go_sem, Nat.reduceAdd, Nat.reduceEqDiff, Nat.reduceLeDiff, Nat.reduceSub, hc]
    rfl
  · rintro k s hk ⟨rfl, hall⟩
    simp (maxSteps := 2000000) (disch := (first | omega | (simp only [lenS]; first | done | omega))) only [go_sem, Nat.reduceAdd, Nat.reduceEqDiff, Nat.reduceLeDiff, Nat.reduceSub, hc, hcv, hp _ (List.getElem_mem hk)]
    exact ⟨fun h => by rw [idxI_some hk hall h], fun h => ⟨rfl, any_take hk hall h⟩⟩
  · rintro s ⟨rfl, hall⟩
    simp (maxSteps := 2000000) (disch := (first | omega | (simp only [lenS]; first | done | omega))) only [go_sem, Nat.reduceAdd, Nat.reduceEqDiff, Nat.reduceLeDiff, Nat.reduceSub]
    rw [List.take_length] at hall
    rw [idxI_none hall]
theorem slices_ContainsFunc_sl_impl_Trans_impl_Trans_ok (l : List Tr) (g : FuncId) (caps : List PV) (hc : refsL caps = []) (hcv : ∀ m h, viewLWith [] m h caps = some caps) (p : Tr → Bool) (hp : ∀ x ∈ l, C g (encT x :: caps) [] = some (.bool (p x), [])) (hl : l.length < 2^62) :
    C f_slices_ContainsFunc_sl_impl_Trans_impl_Trans [trs l, .clo g caps] [] = some (.bool (l.any p), []) := by
  refine C_slices_ContainsFunc_sl_impl_Trans_impl_Trans ?_
  simp (maxSteps := 2000000) (disch := (first | omega | (simp only [lenS]; first | done | omega))) only [ir_slices_ContainsFunc_sl_impl_Trans_impl_Trans, go_sem, Nat.reduceAdd, Nat.reduceEqDiff, Nat.reduceLeDiff, Nat.reduceSub]
  simp (maxSteps := 2000000) (disch := (first | omega | (simp only [lenS]; first | done | omega))) only [go_sem, Nat.reduceAdd, Nat.reduceEqDiff, Nat.reduceLeDiff, Nat.reduceSub, hc, hcv, slices_IndexFunc_sl_impl_Trans_impl_Trans_ok l g caps hc hcv p hp hl]
  have := idxI_any l p
  grind
theorem impl_GoodNet_ok (n : Net) (hn : smN n) : C f_impl_GoodNet [encN n] [] = some (.bool (goodN n), []) := by
  have h0 := hn.1
  refine C_impl_GoodNet ?_
  simp (maxSteps := 2000000) (disch := (first | omega | (simp only [lenS]; first | done | omega))) only [ir_impl_GoodNet, go_sem, Nat.reduceAdd, Nat.reduceEqDiff, Nat.reduceLeDiff, Nat.reduceSub]
  simp (maxSteps := 2000000) (disch := (first | omega | (simp only [lenS]; first | done | omega))) only [go_sem, Nat.reduceAdd, Nat.reduceEqDiff, Nat.reduceLeDiff, Nat.reduceSub, impl_within_ok]
  refine ⟨fun h => ⟨fun h2 => ?_, fun h2 => ?_⟩, fun h => by simp [goodN, h]⟩
  · have hb : 1 ≤ n.pl ∧ n.pl ≤ 16 := by simpa [inB] using h
    have h3 := slices_ContainsFunc_sl_impl_Trans_impl_Trans_ok n.tr f_impl_GoodNet_1 [.pv (encN n) 0] rfl (fun _ _ => rfl) (fun t => !goodT n.pl t) (fun x hx => impl_GoodNet_1_ok n x hb (hn.2 x hx)) (by omega)
    simp (maxSteps := 2000000) (disch := (first | omega | (simp only [lenS]; first | done | omega))) only [go_sem, Nat.reduceAdd, Nat.reduceEqDiff, Nat.reduceLeDiff, Nat.reduceSub, h3]
    have : (n.tr.any fun t => !goodT n.pl t) = !n.tr.all (goodT n.pl) := by rw [List.any_eq_not_all_not]; simp
    have h4 : n.tr.length ≤ 24 := by omega
    simp only [this]
    simp [goodN, h, h4]
  · have : ¬ n.tr.length ≤ 24 := by omega
    simp [goodN, this]
theorem impl_GoodMark_ok (p : Int) (m : List Int) (hl : m.length < 2^62) : C f_impl_GoodMark [I p, ints m] [] = some (.bool (goodM p m), []) := by
  refine C_impl_GoodMark ?_
  simp (maxSteps := 2000000) (disch := (first | omega | (simp only [lenS]; first | done | omega))) only [ir_impl_GoodMark, go_sem, Nat.reduceAdd, Nat.reduceEqDiff, Nat.reduceLeDiff, Nat.reduceSub]
  simp (maxSteps := 2000000) (disch := (first | omega | (simp only [lenS]; first | done | omega))) only [go_sem, Nat.reduceAdd, Nat.reduceEqDiff, Nat.reduceLeDiff, Nat.reduceSub, impl_within_ok, impl_allWithin_ok m _ _ hl]
  unfold goodM; grind
theorem impl_isMarked_ok (n : Net) (m : List Int) (hn : smN n) (hm : m.length < 2^62) : C f_impl_isMarked [encN n, ints m] [] = some (.bool (marked n m), []) := by
  refine C_impl_isMarked ?_
  simp (maxSteps := 2000000) (disch := (first | omega | (simp only [lenS]; first | done | omega))) only [ir_impl_isMarked, go_sem, Nat.reduceAdd, Nat.reduceEqDiff, Nat.reduceLeDiff, Nat.reduceSub]
  simp (maxSteps := 2000000) (disch := (first | omega | (simp only [lenS]; first | done | omega))) only [go_sem, Nat.reduceAdd, Nat.reduceEqDiff, Nat.reduceLeDiff, Nat.reduceSub, impl_GoodNet_ok n hn, impl_GoodMark_ok n.pl m hm]
  unfold marked; grind
theorem impl_isEnabled_1_ok (m : List Int) (p : Int) (h : 0 ≤ p ∧ p.toNat < m.length) : C f_impl_isEnabled_1 [I p, .pv (.agg [ints m]) 0] [] = some (.bool (at_ m p == 0), []) := by
  obtain ⟨h1, h2⟩ := h
  refine C_impl_isEnabled_1 ?_
  simp (maxSteps := 2000000) (disch := (first | omega | (simp only [lenS]; first | done | omega))) only [ir_impl_isEnabled_1, go_sem, Nat.reduceAdd, Nat.reduceEqDiff, Nat.reduceLeDiff, Nat.reduceSub]
  simp only [at_eq h2]
  grind
theorem slices_IndexFunc_sl_int_int_ok (l : List Int) (g : FuncId) (caps : List PV) (hc : refsL caps = []) (hcv : ∀ m h, viewLWith [] m h caps = some caps) (p : Int → Bool) (hp : ∀ x ∈ l, C g (I x :: caps) [] = some (.bool (p x), [])) (hl : l.length < 2^62) :
    C f_slices_IndexFunc_sl_int_int [ints l, .clo g caps] [] = some (I (idxI l p), []) := by
  refine C_slices_IndexFunc_sl_int_int ?_
  simp (maxSteps := 2000000) (disch := (first | omega | (simp only [lenS]; first | done | omega))) only [ir_slices_IndexFunc_sl_int_int, go_sem, Nat.reduceAdd, Nat.reduceEqDiff, Nat.reduceLeDiff, Nat.reduceSub]
  refine W_for l.length (fun k s => s = ⟨[ints l, .clo g caps, .any, .any, I l.length, I k, .any, .any], []⟩ ∧ (l.take k).any p = false) ?_ ?_ ?_
  · simp (maxSteps := 2000000) (disch := (first | omega | (simp only [lenS]; first | done | omega))) only [go_sem, Nat.reduceAdd, Nat.reduceEqDiff, Nat.reduceLeDiff, Nat.reduceSub, hc]
    rfl
  · rintro k s hk ⟨rfl, hall⟩
    simp (maxSteps := 2000000) (disch := (first | omega | (simp only [lenS]; first | done | omega))) only [go_sem, Nat.reduceAdd, Nat.reduceEqDiff, Nat.reduceLeDiff, Nat.reduceSub, hc, hcv, hp _ (List.getElem_mem hk)]
    exact ⟨fun h => by rw [idxI_some hk hall h], fun h => ⟨rfl, any_take hk hall h⟩⟩
  · rintro s ⟨rfl, hall⟩
    simp (maxSteps := 2000000) (disch := (first | omega | (simp only [lenS]; first | done | omega))) only [go_sem, Nat.reduceAdd, Nat.reduceEqDiff, Nat.reduceLeDiff, Nat.reduceSub]
    rw [List.take_length] at hall
    rw [idxI_none hall]
theorem slices_ContainsFunc_sl_int_int_ok (l : List Int) (g : FuncId) (caps : List PV) (hc : refsL caps = []) (hcv : ∀ m h, viewLWith [] m h caps = some caps) (p : Int → Bool) (hp : ∀ x ∈ l, C g (I x :: caps) [] = some (.bool (p x), [])) (hl : l.length < 2^62) :
    C f_slices_ContainsFunc_sl_int_int [ints l, .clo g caps] [] = some (.bool (l.any p), []) := by
  refine C_slices_ContainsFunc_sl_int_int ?_
  simp (maxSteps := 2000000) (disch := (first | omega | (simp only [lenS]; first | done | omega))) only [ir_slices_ContainsFunc_sl_int_int, go_sem, Nat.reduceAdd, Nat.reduceEqDiff, Nat.reduceLeDiff, Nat.reduceSub]
  simp (maxSteps := 2000000) (disch := (first | omega | (simp only [lenS]; first | done | omega))) only [go_sem, Nat.reduceAdd, Nat.reduceEqDiff, Nat.reduceLeDiff, Nat.reduceSub, hc, hcv, slices_IndexFunc_sl_int_int_ok l g caps hc hcv p hp hl]
  have := idxI_any l p
  grind
theorem impl_isEnabled_ok (t : Tr) (m : List Int) (ht : ∀ q ∈ t.inn, 0 ≤ q ∧ q.toNat < m.length) (hl : t.inn.length < 2^62) : C f_impl_isEnabled [encT t, ints m] [] = some (.bool (canT t m), []) := by
  refine C_impl_isEnabled ?_
  simp (maxSteps := 2000000) (disch := (first | omega | (simp only [lenS]; first | done | omega))) only [ir_impl_isEnabled, go_sem, Nat.reduceAdd, Nat.reduceEqDiff, Nat.reduceLeDiff, Nat.reduceSub]
  have h := slices_ContainsFunc_sl_int_int_ok t.inn f_impl_isEnabled_1 [.pv (.agg [ints m]) 0] rfl (fun _ _ => rfl) (fun p => at_ m p == 0) (fun x hx => impl_isEnabled_1_ok m x (ht x hx)) hl
  simp (maxSteps := 2000000) (disch := (first | omega | (simp only [lenS]; first | done | omega))) only [go_sem, Nat.reduceAdd, Nat.reduceEqDiff, Nat.reduceLeDiff, Nat.reduceSub, h]
  have : (t.inn.any fun p => at_ m p == 0) = !canT t m := by rw [canT, List.any_eq_not_all_not]
  rw [this]; simp
theorem impl_enabled_ok (n : Net) (m : List Int) (hg : goodN n = true) (hm : (m.length : Int) = n.pl) : C f_impl_enabled [encN n, ints m] [] = some (.un t_int true 1 ((enabL n m).map I), []) := by
  have hb := goodN_parts hg
  refine C_impl_enabled ?_
  simp (maxSteps := 2000000) (disch := (first | omega | (simp only [lenS]; first | done | omega))) only [ir_impl_enabled, go_sem, Nat.reduceAdd, Nat.reduceEqDiff, Nat.reduceLeDiff, Nat.reduceSub]
  refine W_for n.tr.length (fun k s => s = ⟨[.any, ints m, .any, .any, .ref 0 1 0 (enabK n m k).length, .any, .any, trs n.tr, I n.tr.length, I k, .any, .any], [.row t_int true 1 ((enabK n m k).map I)]⟩) ?_ ?_ ?_
  · simp (maxSteps := 2000000) (disch := (first | omega | (simp only [lenS]; first | done | omega))) only [go_sem, Nat.reduceAdd, Nat.reduceEqDiff, Nat.reduceLeDiff, Nat.reduceSub]
    rfl
  · rintro k s hk rfl
    have hT := hb.2.2.2 _ (List.getElem_mem hk)
    have h2 := enabK_len n m k
    simp (maxSteps := 2000000) (disch := (first | omega | (simp only [lenS]; first | done | omega))) only [go_sem, Nat.reduceAdd, Nat.reduceEqDiff, Nat.reduceLeDiff, Nat.reduceSub, impl_isEnabled_ok _ m (goodT_lt hT hm).1 (by have := (goodT_lens hT (by omega)).1; omega)]
    refine ⟨fun h => ?_, fun h => ?_⟩
    · rw [enabK_t hk h, List.map_append]; simp
    · rw [enabK_f hk h]; rfl
  · rintro s rfl
    simp (maxSteps := 2000000) (disch := (first | omega | (simp only [lenS]; first | done | omega))) only [go_sem, Nat.reduceAdd, Nat.reduceEqDiff, Nat.reduceLeDiff, Nat.reduceSub]
    rfl
theorem impl_fired_ok (t : Tr) (m : List Int) (h1 : ∀ q ∈ t.inn, 0 ≤ q ∧ q.toNat < m.length) (h2 : ∀ q ∈ t.out, 0 ≤ q ∧ q.toNat < m.length) (h3 : ∀ q ∈ t.rst, 0 ≤ q ∧ q.toNat < m.length) (hl : smT t) (hm : m.length < 2^30) (hb : ∀ x ∈ m, 0 ≤ x ∧ x ≤ 50) :
    C f_impl_fired [encT t, ints m] [] = some (.un t_int true 1 ((firedM t m).map I), []) := by
  obtain ⟨g1, g2, g3⟩ := hl
  refine C_impl_fired ?_
  simp (maxSteps := 2000000) (disch := (first | omega | (simp only [lenS]; first | done | omega))) only [ir_impl_fired, go_sem, Nat.reduceAdd, Nat.reduceEqDiff, Nat.reduceLeDiff, Nat.reduceSub]
  simp (maxSteps := 2000000) (disch := (first | omega | (simp only [lenS]; first | done | omega))) only [go_sem, Nat.reduceAdd, Nat.reduceEqDiff, Nat.reduceLeDiff, Nat.reduceSub, slices_Clone_sl_int_int_ok]
  refine W_for t.inn.length (fun k s => s = ⟨[.any, .any, .ptr 0 0, .any, .ref 1 1 0 m.length, .any, .any, .any, ints t.inn, I t.inn.length, I k, .any, .any, .any, .any, .any, .any, .any, .any, .any], [.box t_impl_Trans [ints t.inn, ints t.out, ints t.rst], .row t_int true 1 ((decL m (t.inn.take k)).map I)]⟩) ?_ ?_ ?_
  · simp (maxSteps := 2000000) (disch := (first | omega | (simp only [lenS]; first | done | omega))) only [go_sem, Nat.reduceAdd, Nat.reduceEqDiff, Nat.reduceLeDiff, Nat.reduceSub]
    rfl
  · rintro k s hk rfl
    obtain ⟨h4, h5⟩ := h1 _ (List.getElem_mem hk)
    have h6 := decL_len m (t.inn.take k)
    have h7 := at_bound (p := t.inn[k]) (decL_bound (l := t.inn.take k) hb (fun p hp => (h1 p (List.mem_of_mem_take hp)).2)) (by omega)
    have h8 : (t.inn.take k).length = k := by simp; omega
    simp (maxSteps := 2000000) (disch := (first | omega | (simp only [lenS]; first | done | omega))) only [go_sem, Nat.reduceAdd, Nat.reduceEqDiff, Nat.reduceLeDiff, Nat.reduceSub, at_eq]
    rw [decL_take hk]; rfl
  · rintro s rfl
    simp (maxSteps := 2000000) (disch := (first | omega | (simp only [lenS]; first | done | omega))) only [go_sem, Nat.reduceAdd, Nat.reduceEqDiff, Nat.reduceLeDiff, Nat.reduceSub, List.take_length]
    have b1 := decL_bound (l := t.inn) hb (fun p hp => (h1 p hp).2)
    have l1 := decL_len m t.inn
    generalize e1 : decL m t.inn = m1 at b1 l1 ⊢
    refine W_for t.rst.length (fun k s => s = ⟨[.any, .any, .ptr 0 0, .any, .ref 1 1 0 m.length, .any, .any, .any, .any, .any, .any, .any, ints t.rst, I t.rst.length, I k, .any, .any, .any, .any, .any], [.box t_impl_Trans [ints t.inn, ints t.out, ints t.rst], .row t_int true 1 ((zerL m1 (t.rst.take k)).map I)]⟩) ?_ ?_ ?_
    · simp (maxSteps := 2000000) (disch := (first | omega | (simp only [lenS]; first | done | omega))) only [go_sem, Nat.reduceAdd, Nat.reduceEqDiff, Nat.reduceLeDiff, Nat.reduceSub]
      rfl
    · rintro k s hk rfl
      obtain ⟨h4, h5⟩ := h3 _ (List.getElem_mem hk)
      have h6 := zerL_len m1 (t.rst.take k)
      simp (maxSteps := 2000000) (disch := (first | omega | (simp only [lenS]; first | done | omega))) only [go_sem, Nat.reduceAdd, Nat.reduceEqDiff, Nat.reduceLeDiff, Nat.reduceSub]
      rw [zerL_take hk]; rfl
    · rintro s rfl
      simp (maxSteps := 2000000) (disch := (first | omega | (simp only [lenS]; first | done | omega))) only [go_sem, Nat.reduceAdd, Nat.reduceEqDiff, Nat.reduceLeDiff, Nat.reduceSub, List.take_length]
      have b2 := zerL_bound (l := t.rst) b1 (by omega)
      have l2 := zerL_len m1 t.rst
      generalize e2 : zerL m1 t.rst = m2 at b2 l2 ⊢
      refine W_for t.out.length (fun k s => s = ⟨[.any, .any, .any, .any, .ref 0 1 0 m.length, .any, .any, .any, .any, .any, .any, .any, .any, .any, .any, .any, ints t.out, I t.out.length, I k, .any], [.row t_int true 1 ((incL m2 (t.out.take k)).map I)]⟩) ?_ ?_ ?_
      · simp (maxSteps := 2000000) (disch := (first | omega | (simp only [lenS]; first | done | omega))) only [go_sem, Nat.reduceAdd, Nat.reduceEqDiff, Nat.reduceLeDiff, Nat.reduceSub]
        rfl
      · rintro k s hk rfl
        obtain ⟨h4, h5⟩ := h2 _ (List.getElem_mem hk)
        have h6 := incL_len m2 (t.out.take k)
        have h7 := at_bound (p := t.out[k]) (incL_bound (l := t.out.take k) b2 (fun p hp => by have := (h2 p (List.mem_of_mem_take hp)).2; omega)) (by omega)
        have h8 : (t.out.take k).length = k := by simp; omega
        simp (maxSteps := 2000000) (disch := (first | omega | (simp only [lenS]; first | done | omega))) only [go_sem, Nat.reduceAdd, Nat.reduceEqDiff, Nat.reduceLeDiff, Nat.reduceSub, at_eq]
        rw [incL_take hk]; rfl
      · rintro s rfl
        have h6 := incL_len m2 t.out
        simp (maxSteps := 2000000) (disch := (first | omega | (simp only [lenS]; first | done | omega))) only [go_sem, Nat.reduceAdd, Nat.reduceEqDiff, Nat.reduceLeDiff, Nat.reduceSub, List.take_length]
        subst e2 e1; rfl
theorem slices_Equal_sl_int_int_ok (a b : List Int) (hl : a.length < 2^62) : C f_slices_Equal_sl_int_int [ints a, ints b] [] = some (.bool (decide (a = b)), []) := by
  refine C_slices_Equal_sl_int_int ?_
  simp (maxSteps := 2000000) (disch := (first | omega | (simp only [lenS]; first | done | omega))) only [ir_slices_Equal_sl_int_int, go_sem, Nat.reduceAdd, Nat.reduceEqDiff, Nat.reduceLeDiff, Nat.reduceSub]
  refine ⟨fun h => ?_, fun h => ?_⟩
  · have : a ≠ b := fun e => h (by rw [e])
    simp [this]
  refine W_for a.length (fun k s => s = ⟨[ints a, ints b, .any, .any, .any, I a.length, I k, .any, .any], []⟩ ∧ a.take k = b.take k) ?_ ?_ ?_
  · simp (maxSteps := 2000000) (disch := (first | omega | (simp only [lenS]; first | done | omega))) only [go_sem, Nat.reduceAdd, Nat.reduceEqDiff, Nat.reduceLeDiff, Nat.reduceSub]
    rfl
  · rintro k s hk ⟨rfl, hall⟩
    simp (maxSteps := 2000000) (disch := (first | omega | (simp only [lenS]; first | done | omega))) only [go_sem, Nat.reduceAdd, Nat.reduceEqDiff, Nat.reduceLeDiff, Nat.reduceSub]
    refine ⟨fun h => ?_, fun h => ⟨rfl, ?_⟩⟩
    · have : a ≠ b := fun e => h (by simp [e])
      simp [this]
    · rw [take_snoc hk, take_snoc (show k < b.length by omega), hall, h]
  · rintro s ⟨rfl, hall⟩
    simp (maxSteps := 2000000) (disch := (first | omega | (simp only [lenS]; first | done | omega))) only [go_sem, Nat.reduceAdd, Nat.reduceEqDiff, Nat.reduceLeDiff, Nat.reduceSub]
    rw [List.take_length, List.take_of_length_le (by omega)] at hall
    simp [hall]
abbrev encA (a : Arc3) : PV := .agg [I a.src, I a.by_, I a.dst]
def arcPV (l : List Arc3) : PV := if l = [] then .nil true 3 else .un t_impl_Arc true 3 (l.map encA)
def exPV (r : Ex) : PV := if r.code = 0 then .agg [.un t_sl_int false 1 (r.sp.ms.map ints), arcPV r.sp.ar] else .agg [.nil false 1, .nil true 3]
def exCode (r : Ex) : Int := if r.code = 0 then 1 else r.code
theorem exStart_ok {n : Net} {start : List Int} {b : Int} (hm : marked n start = true) (hb : 1 ≤ b) : ExOk n start b ⟨⟨[start], []⟩, 0⟩ := by
  refine ⟨rfl, fun m hm2 => ?_, by simp; omega, by simp, fun a ha => by simp at ha, fun j hj hl => ?_⟩
  · simp only [List.mem_singleton] at hm2; subst hm2; exact hm
  · simp only [List.length_cons, List.length_nil] at hl; omega
theorem impl_Space_find_1_ok (x m : List Int) (hx : x.length < 2^62) : C f_impl_Space_find_1 [ints x, .pv (.agg [ints m]) 0] [] = some (.bool (decide (x = m)), []) := by
  refine C_impl_Space_find_1 ?_
  simp (maxSteps := 2000000) (disch := (first | omega | (simp only [lenS]; first | done | omega))) only [ir_impl_Space_find_1, go_sem, Nat.reduceAdd, Nat.reduceEqDiff, Nat.reduceLeDiff, Nat.reduceSub]
  simp (maxSteps := 2000000) (disch := (first | omega | (simp only [lenS]; first | done | omega))) only [go_sem, Nat.reduceAdd, Nat.reduceEqDiff, Nat.reduceLeDiff, Nat.reduceSub, slices_Equal_sl_int_int_ok]
  grind
theorem slices_IndexFunc_sl_sl_int_sl_int_ok (l : List (List Int)) (g : FuncId) (caps : List PV) (hc : refsL caps = []) (hcv : ∀ m h, viewLWith [] m h caps = some caps) (p : List Int → Bool) (hp : ∀ x ∈ l, C g (ints x :: caps) [] = some (.bool (p x), [])) (hl : l.length < 2^62) :
    C f_slices_IndexFunc_sl_sl_int_sl_int [rows l, .clo g caps] [] = some (I (idxI l p), []) := by
  refine C_slices_IndexFunc_sl_sl_int_sl_int ?_
  simp (maxSteps := 2000000) (disch := (first | omega | (simp only [lenS]; first | done | omega))) only [ir_slices_IndexFunc_sl_sl_int_sl_int, go_sem, Nat.reduceAdd, Nat.reduceEqDiff, Nat.reduceLeDiff, Nat.reduceSub]
  refine W_for l.length (fun k s => s = ⟨[rows l, .clo g caps, .any, .any, I l.length, I k, .any, .any], []⟩ ∧ (l.take k).any p = false) ?_ ?_ ?_
  · simp (maxSteps := 2000000) (disch := (first | omega | (simp only [lenS]; first | done | omega))) only [go_sem, Nat.reduceAdd, Nat.reduceEqDiff, Nat.reduceLeDiff, Nat.reduceSub, hc]
    rfl
  · rintro k s hk ⟨rfl, hall⟩
    simp (maxSteps := 2000000) (disch := (first | omega | (simp only [lenS]; first | done | omega))) only [go_sem, Nat.reduceAdd, Nat.reduceEqDiff, Nat.reduceLeDiff, Nat.reduceSub, hc, hcv, hp _ (List.getElem_mem hk)]
    exact ⟨fun h => by rw [idxI_some hk hall h], fun h => ⟨rfl, any_take hk hall h⟩⟩
  · rintro s ⟨rfl, hall⟩
    simp (maxSteps := 2000000) (disch := (first | omega | (simp only [lenS]; first | done | omega))) only [go_sem, Nat.reduceAdd, Nat.reduceEqDiff, Nat.reduceLeDiff, Nat.reduceSub]
    rw [List.take_length] at hall
    rw [idxI_none hall]
theorem impl_Space_find_ok (ms : List (List Int)) (A : List PV) (m : List Int) (hl : ms.length < 2^62) (hx : ∀ x ∈ ms, x.length < 2^62) : C f_impl_Space_find [.agg [rows ms, .sl true 3 A], ints m] [] = some (I (findM ms m), []) := by
  have h := slices_IndexFunc_sl_sl_int_sl_int_ok ms f_impl_Space_find_1 [.pv (.agg [ints m]) 0] rfl (fun _ _ => rfl) (fun x => decide (x = m)) (fun x h => impl_Space_find_1_ok x m (hx x h)) hl
  refine C_impl_Space_find ?_
  simp (maxSteps := 2000000) (disch := (first | omega | (simp only [lenS]; first | done | omega))) only [ir_impl_Space_find, go_sem, Nat.reduceAdd, Nat.reduceEqDiff, Nat.reduceLeDiff, Nat.reduceSub]
  simp (maxSteps := 2000000) (disch := (first | omega | (simp only [lenS]; first | done | omega))) only [go_sem, Nat.reduceAdd, Nat.reduceEqDiff, Nat.reduceLeDiff, Nat.reduceSub, h]
  rfl
theorem impl_explore_ok (n : Net) (start : List Int) (b : Int) (hm : marked n start = true) (hb : 1 ≤ b ∧ b ≤ 400) : C f_impl_explore [encN n, ints start, I b] [] = some (.tup [exPV (exAll n start b), I (exCode (exAll n start b))], []) := by
  obtain ⟨hg, hmk⟩ := marked_parts hm
  have hn := goodN_parts hg
  have hs := goodM_len hmk
  refine C_impl_explore ?_
  simp (maxSteps := 2000000) (disch := (first | omega | (simp only [lenS]; first | done | omega))) only [ir_impl_explore, go_sem, Nat.reduceAdd, Nat.reduceEqDiff, Nat.reduceLeDiff, Nat.reduceSub]
  simp (maxSteps := 2000000) (disch := (first | omega | (simp only [lenS]; first | done | omega))) only [go_sem, Nat.reduceAdd, Nat.reduceEqDiff, Nat.reduceLeDiff, Nat.reduceSub, slices_Clone_sl_int_int_ok]
  generalize hR : exAll n start b = R
  refine W_down (fun d s => ∃ (k : Nat) (c : Ex), d + k = b.toNat + 1 ∧ ExOk n start b c ∧ c.code = 0 ∧ k ≤ c.sp.ms.length ∧ c.sp.ar.length ≤ 24 * k ∧ exRun n b (d + 1) k c = R ∧ ((s = ⟨[.any, .any, I b, .ptr 0 0, .ptr 1 0, .any, .ptr 2 0, I k, .any, .any, .any, .any, .any, .any, .any, .any, .any, .any, .any], [.box t_impl_Net [I n.pl, trs n.tr], .box t_impl_Space [.nil false 1, .nil true 3], .box t_impl_Space [.ref 3 1 0 c.sp.ms.length, .nil true 3], .row t_sl_int false 1 (c.sp.ms.map ints)]⟩ ∧ c.sp.ar = []) ∨ (s = ⟨[.any, .any, I b, .ptr 0 0, .ptr 1 0, .any, .ptr 2 0, I k, .any, .any, .any, .any, .any, .any, .any, .any, .any, .any, .any], [.box t_impl_Net [I n.pl, trs n.tr], .box t_impl_Space [.nil false 1, .nil true 3], .box t_impl_Space [.ref 3 1 0 c.sp.ms.length, .ref 4 3 0 c.sp.ar.length], .row t_sl_int false 1 (c.sp.ms.map ints), .row t_impl_Arc true 3 (c.sp.ar.map encA)]⟩ ∧ c.sp.ar ≠ []))) (b.toNat + 1) ?_ ?_
  · refine ⟨0, ⟨⟨[start], []⟩, 0⟩, by omega, exStart_ok hm hb.1, rfl, by omega, by simp, hR, .inl ⟨?_, rfl⟩⟩
    simp (maxSteps := 2000000) (disch := (first | omega | (simp only [lenS]; first | done | omega))) only [go_sem, Nat.reduceAdd, Nat.reduceEqDiff, Nat.reduceLeDiff, Nat.reduceSub]
    rfl
  · rintro d s ⟨k, c, hd, hok, hc0, hk, hal, hrun, hcs⟩
    have hlb := hok.lenb
    by_cases hkl : k < c.sp.ms.length
    · have hmem := getD_mem hkl
      have hmg := marked_parts (hok.good _ hmem)
      have hml := goodM_len hmg.2
      have en := impl_enabled_ok n (c.sp.ms.getD k []) hg hml.2.2.1
      have hLl : (enabL n (c.sp.ms.getD k [])).length ≤ n.tr.length := enabK_len ..
      have er : exRun n b (d + 1) k c = exRun n b d (k + 1) (exL n b k c (enabL n (c.sp.ms.getD k []))) := by
        show (if c.code ≠ 0 then c else if k < c.sp.ms.length then _ else c) = _
        rw [if_neg (by omega), if_pos hkl]
      rw [er] at hrun
      have hen : ∀ t ∈ enabL n (c.sp.ms.getD k []), t ∈ enabL n (c.sp.ms.getD k []) := fun t h => h
      generalize hL : enabL n (c.sp.ms.getD k []) = L at *
      rcases hcs with ⟨rfl, har⟩ | ⟨rfl, har⟩
      all_goals
        simp (maxSteps := 2000000) (disch := (first | omega | (simp only [lenS]; first | done | omega))) only [go_sem, Nat.reduceAdd, Nat.reduceEqDiff, Nat.reduceLeDiff, Nat.reduceSub, getD_ms, en]
        refine W_for L.length (fun j s => ∃ c' : Ex, ExOk n start b c' ∧ c'.code = 0 ∧ k < c'.sp.ms.length ∧ enabL n (c'.sp.ms.getD k []) = L ∧ c'.sp.ar.length ≤ 24 * k + j ∧ exRun n b d (k + 1) (exL n b k c' (L.drop j)) = R ∧ ((s = ⟨[.any, .any, I b, .ptr 0 0, .ptr 1 0, .any, .ptr 2 0, I k, .any, .any, .any, .any, .ref 3 1 0 L.length, I L.length, I j, .any, .any, .any, .any], [.box t_impl_Net [I n.pl, trs n.tr], .box t_impl_Space [.nil false 1, .nil true 3], .box t_impl_Space [.ref 4 1 0 c'.sp.ms.length, .nil true 3], .row t_int true 1 (L.map I), .row t_sl_int false 1 (c'.sp.ms.map ints)]⟩ ∧ c'.sp.ar = []) ∨ (s = ⟨[.any, .any, I b, .ptr 0 0, .ptr 1 0, .any, .ptr 2 0, I k, .any, .any, .any, .any, .ref 3 1 0 L.length, I L.length, I j, .any, .any, .any, .any], [.box t_impl_Net [I n.pl, trs n.tr], .box t_impl_Space [.nil false 1, .nil true 3], .box t_impl_Space [.ref 4 1 0 c'.sp.ms.length, .ref 5 3 0 c'.sp.ar.length], .row t_int true 1 (L.map I), .row t_sl_int false 1 (c'.sp.ms.map ints), .row t_impl_Arc true 3 (c'.sp.ar.map encA)]⟩ ∧ c'.sp.ar ≠ []))) ?_ ?_ ?_
        · refine ⟨c, hok, hc0, hkl, hL, by omega, hrun, ?_⟩
          first
          | refine .inl ⟨?_, har⟩
            simp (maxSteps := 2000000) (disch := (first | omega | (simp only [lenS]; first | done | omega))) only [go_sem, Nat.reduceAdd, Nat.reduceEqDiff, Nat.reduceLeDiff, Nat.reduceSub]
            done
          | refine .inl ⟨?_, har⟩
            simp (maxSteps := 2000000) (disch := (first | omega | (simp only [lenS]; first | done | omega))) only [go_sem, Nat.reduceAdd, Nat.reduceEqDiff, Nat.reduceLeDiff, Nat.reduceSub]
            rfl
          | refine .inr ⟨?_, har⟩
            simp (maxSteps := 2000000) (disch := (first | omega | (simp only [lenS]; first | done | omega))) only [go_sem, Nat.reduceAdd, Nat.reduceEqDiff, Nat.reduceLeDiff, Nat.reduceSub]
            done
          | refine .inr ⟨?_, har⟩
            simp (maxSteps := 2000000) (disch := (first | omega | (simp only [lenS]; first | done | omega))) only [go_sem, Nat.reduceAdd, Nat.reduceEqDiff, Nat.reduceLeDiff, Nat.reduceSub]
            rfl
        · rintro j s hj ⟨c', hok', hc0', hkl', hL', hal', hrun', hcs'⟩
          have hlb' := hok'.lenb
          have ht : L[j] ∈ enabL n (c'.sp.ms.getD k []) := by rw [hL']; exact List.getElem_mem hj
          obtain ⟨t1, t2, t3⟩ := enabL_mem.1 ht
          have hT := hn.2.2.2 (trAt n L[j]) (by rw [← trAt_eq t2]; exact List.getElem_mem _)
          have hm2 := goodM_len (marked_parts (hok'.good _ (getD_mem hkl'))).2
          have hx := goodT_lt hT hm2.2.2.1
          have hy := goodT_lens hT (by omega)
          have hfire := impl_fired_ok (trAt n L[j]) (c'.sp.ms.getD k []) hx.1 hx.2.1 hx.2.2 ⟨by omega, by omega, by omega⟩ (by omega) hm2.2.2.2.2
          have hMl := firedM_len (trAt n L[j]) (c'.sp.ms.getD k [])
          have hok2 := exStep_ok hok' hkl' ht
          have hxs : ∀ x ∈ c'.sp.ms, x.length < 2^62 := fun x hx => by have := goodM_len (marked_parts (hok'.good x hx)).2; omega
          rw [exL_drop hj] at hrun'
          have f1 := exStep_tok (n := n) (b := b) (k := k) (s := c') (t := L[j]) hc0'
          have f2 := exStep_old (n := n) (b := b) (k := k) (s := c') (t := L[j]) hc0'
          have f3 := exStep_full (n := n) (b := b) (k := k) (s := c') (t := L[j]) hc0'
          have f4 := exStep_new (n := n) (b := b) (k := k) (s := c') (t := L[j]) hc0'
          generalize hM : firedM (trAt n L[j]) (c'.sp.ms.getD k []) = M at *
          have ck : C f_impl_allWithin [ints M, I 0, I 50] [] = some (.bool (M.all (inB 0 50)), []) := impl_allWithin_ok M 0 50 (by omega)
          have fd := fun A => impl_Space_find_ok c'.sp.ms A M (by omega) hxs
          have hsl : ∀ c2 : Ex, c2.code ≠ 0 → exRun n b d (k + 1) (exL n b k c2 (L.drop (j + 1))) = c2 := fun c2 h => by rw [exL_stop h, exRun_stop h]
          cases ha : M.all (inB 0 50) with
          | false =>
            rw [f1 ha, hsl _ (by simp)] at hrun'
            subst hrun'
            rw [ha] at ck
            rcases hcs' with ⟨rfl, har'⟩ | ⟨rfl, har'⟩ <;> simp (maxSteps := 2000000) (disch := (first | omega | (simp only [lenS]; first | done | omega))) only [go_sem, Nat.reduceAdd, Nat.reduceEqDiff, Nat.reduceLeDiff, Nat.reduceSub, getD_ms, trAt_eq, hfire, ck, exPV, exCode]
          | true =>
            rw [ha] at ck
            by_cases h2 : 0 ≤ findM c'.sp.ms M
            · rw [f2 ha h2] at hrun' hok2
              rcases hcs' with ⟨rfl, har'⟩ | ⟨rfl, har'⟩
              · simp (maxSteps := 2000000) (disch := (first | omega | (simp only [lenS]; first | done | omega))) only [go_sem, Nat.reduceAdd, Nat.reduceEqDiff, Nat.reduceLeDiff, Nat.reduceSub, getD_ms, trAt_eq, hfire, ck, fd]
                refine ⟨_, hok2, rfl, hkl', hL', by simp only [List.length_append, List.length_cons, List.length_nil]; omega, hrun', .inr ⟨?_, by simp⟩⟩
                simp [har']
              · simp (maxSteps := 2000000) (disch := (first | omega | (simp only [lenS]; first | done | omega))) only [go_sem, Nat.reduceAdd, Nat.reduceEqDiff, Nat.reduceLeDiff, Nat.reduceSub, getD_ms, trAt_eq, hfire, ck, fd]
                refine ⟨_, hok2, rfl, hkl', hL', by simp only [List.length_append, List.length_cons, List.length_nil]; omega, hrun', .inr ⟨?_, by simp⟩⟩
                simp
            · by_cases h3 : b ≤ c'.sp.ms.length
              · rw [f3 ha h2 h3, hsl _ (by simp)] at hrun'
                subst hrun'
                rcases hcs' with ⟨rfl, har'⟩ | ⟨rfl, har'⟩ <;> simp (maxSteps := 2000000) (disch := (first | omega | (simp only [lenS]; first | done | omega))) only [go_sem, Nat.reduceAdd, Nat.reduceEqDiff, Nat.reduceLeDiff, Nat.reduceSub, getD_ms, trAt_eq, hfire, ck, fd, exPV, exCode]
              · rw [f4 ha h2 h3] at hrun' hok2
                rcases hcs' with ⟨rfl, har'⟩ | ⟨rfl, har'⟩
                · simp (maxSteps := 2000000) (disch := (first | omega | (simp only [lenS]; first | done | omega))) only [go_sem, Nat.reduceAdd, Nat.reduceEqDiff, Nat.reduceLeDiff, Nat.reduceSub, getD_ms, trAt_eq, hfire, ck, fd]
                  refine ⟨_, hok2, rfl, by simp only [List.length_append]; omega, by simp only; rw [getD_app hkl']; exact hL', by simp only [List.length_append, List.length_cons, List.length_nil]; omega, hrun', .inr ⟨?_, by simp⟩⟩
                  simp [har']
                · simp (maxSteps := 2000000) (disch := (first | omega | (simp only [lenS]; first | done | omega))) only [go_sem, Nat.reduceAdd, Nat.reduceEqDiff, Nat.reduceLeDiff, Nat.reduceSub, getD_ms, trAt_eq, hfire, ck, fd]
                  refine ⟨_, hok2, rfl, by simp only [List.length_append]; omega, by simp only; rw [getD_app hkl']; exact hL', by simp only [List.length_append, List.length_cons, List.length_nil]; omega, hrun', .inr ⟨?_, by simp⟩⟩
                  simp
        · rintro s ⟨c', hok', hc0', hkl', hL', hal', hrun', hcs'⟩
          rw [List.drop_length] at hrun'
          have hlb' := hok'.lenb
          rcases hcs' with ⟨rfl, har'⟩ | ⟨rfl, har'⟩
          · simp (maxSteps := 2000000) (disch := (first | omega | (simp only [lenS]; first | done | omega))) only [go_sem, Nat.reduceAdd, Nat.reduceEqDiff, Nat.reduceLeDiff, Nat.reduceSub]
            refine ⟨d - 1, by omega, k + 1, c', by omega, hok', hc0', by omega, by omega, by rw [show d - 1 + 1 = d by omega]; exact hrun', .inl ⟨rfl, har'⟩⟩
          · simp (maxSteps := 2000000) (disch := (first | omega | (simp only [lenS]; first | done | omega))) only [go_sem, Nat.reduceAdd, Nat.reduceEqDiff, Nat.reduceLeDiff, Nat.reduceSub]
            refine ⟨d - 1, by omega, k + 1, c', by omega, hok', hc0', by omega, by omega, by rw [show d - 1 + 1 = d by omega]; exact hrun', .inr ⟨rfl, har'⟩⟩
    · have er : exRun n b (d + 1) k c = c := by
        show (if c.code ≠ 0 then c else if k < c.sp.ms.length then _ else c) = _
        rw [if_neg (by omega), if_neg hkl]
      rw [er] at hrun
      subst hrun
      rcases hcs with ⟨rfl, har⟩ | ⟨rfl, har⟩
      · simp (maxSteps := 2000000) (disch := (first | omega | (simp only [lenS]; first | done | omega))) only [go_sem, Nat.reduceAdd, Nat.reduceEqDiff, Nat.reduceLeDiff, Nat.reduceSub]
        simp [exPV, exCode, hc0, arcPV, har]
      · simp (maxSteps := 2000000) (disch := (first | omega | (simp only [lenS]; first | done | omega))) only [go_sem, Nat.reduceAdd, Nat.reduceEqDiff, Nat.reduceLeDiff, Nat.reduceSub]
        simp [exPV, exCode, hc0, arcPV, har]
theorem impl_Explore_ok (n : Net) (start : List Int) (b : Int) (hn : smN n) (hs : start.length < 2^62) : C f_impl_Explore [encN n, ints start, I b] [] = some (.tup [if okEx n start b then exPV (exAll n start b) else .agg [.nil false 1, .nil true 3], I (if okEx n start b then exCode (exAll n start b) else 0), .bool (okEx n start b)], []) := by
  refine C_impl_Explore ?_
  simp (maxSteps := 2000000) (disch := (first | omega | (simp only [lenS]; first | done | omega))) only [ir_impl_Explore, go_sem, Nat.reduceAdd, Nat.reduceEqDiff, Nat.reduceLeDiff, Nat.reduceSub]
  simp (maxSteps := 2000000) (disch := (first | omega | (simp only [lenS]; first | done | omega))) only [go_sem, Nat.reduceAdd, Nat.reduceEqDiff, Nat.reduceLeDiff, Nat.reduceSub, impl_isMarked_ok n start hn hs, impl_within_ok]
  cases h1 : marked n start with
  | false => simp [okEx, h1]
  | true =>
    cases h2 : inB 1 400 b with
    | false => simp [okEx, h1, h2]
    | true =>
      have hok : okEx n start b = true := by simp [okEx, h1, h2]
      obtain ⟨_, hb⟩ := okEx_parts hok
      have hx := impl_explore_ok n start b h1 hb
      generalize exAll n start b = R at *
      by_cases hc : R.code = 0
      · by_cases ha : R.sp.ar = []
        · simp only [exPV, exCode, arcPV, hc, ha, if_true] at hx ⊢
          simp (maxSteps := 2000000) (disch := (first | omega | (simp only [lenS]; first | done | omega))) only [go_sem, Nat.reduceAdd, Nat.reduceEqDiff, Nat.reduceLeDiff, Nat.reduceSub, hx, hok]
        · simp only [exPV, exCode, arcPV, hc, ha, if_true, if_false] at hx ⊢
          simp (maxSteps := 2000000) (disch := (first | omega | (simp only [lenS]; first | done | omega))) only [go_sem, Nat.reduceAdd, Nat.reduceEqDiff, Nat.reduceLeDiff, Nat.reduceSub, hx, hok]
      · simp only [exPV, exCode, hc, if_false] at hx ⊢
        simp (maxSteps := 2000000) (disch := (first | omega | (simp only [lenS]; first | done | omega))) only [go_sem, Nat.reduceAdd, Nat.reduceEqDiff, Nat.reduceLeDiff, Nat.reduceSub, hx, hok]
theorem impl_wholeSpace_t (n : Net) (start : List Int) (b : Int) (hn : smN n) (hs : start.length < 2^62) (h : okEx n start b = true) (hc : (exAll n start b).code = 0) : C f_impl_wholeSpace [encN n, ints start, I b] [] = some (.tup [.agg [.un t_sl_int false 1 ((exAll n start b).sp.ms.map ints), arcPV (exAll n start b).sp.ar], .bool true], []) := by
  have hx := impl_Explore_ok n start b hn hs
  simp only [h, if_true] at hx
  generalize exAll n start b = R at *
  refine C_impl_wholeSpace ?_
  simp (maxSteps := 2000000) (disch := (first | omega | (simp only [lenS]; first | done | omega))) only [ir_impl_wholeSpace, go_sem, Nat.reduceAdd, Nat.reduceEqDiff, Nat.reduceLeDiff, Nat.reduceSub]
  by_cases ha : R.sp.ar = []
  · simp only [exPV, exCode, arcPV, hc, ha, if_true] at hx ⊢
    simp (maxSteps := 2000000) (disch := (first | omega | (simp only [lenS]; first | done | omega))) only [go_sem, Nat.reduceAdd, Nat.reduceEqDiff, Nat.reduceLeDiff, Nat.reduceSub, hx]
  · simp only [exPV, exCode, arcPV, hc, ha, if_true, if_false] at hx ⊢
    simp (maxSteps := 2000000) (disch := (first | omega | (simp only [lenS]; first | done | omega))) only [go_sem, Nat.reduceAdd, Nat.reduceEqDiff, Nat.reduceLeDiff, Nat.reduceSub, hx]
theorem impl_Space_leadingTo_ok (ms : List (List Int)) (ar : List Arc3) (p : Int) (hm : ms.length < 2^36) (hr : ar.length < 2^35) (ha : arcsIn ar ms.length) (hk : 0 ≤ p ∧ p < ms.length) :
    C f_impl_Space_leadingTo [.agg [rows ms, .sl true 3 (ar.map encA)], ints [p]] [] = some (.un t_bool true 1 ((toL ar ms.length [p]).map PV.bool), []) := by
  refine C_impl_Space_leadingTo ?_
  simp (maxSteps := 2000000) (disch := (first | omega | (simp only [lenS]; first | done | omega))) only [ir_impl_Space_leadingTo, go_sem, Nat.reduceAdd, Nat.reduceEqDiff, Nat.reduceLeDiff, Nat.reduceSub]
  generalize hn : ms.length = n at *
  refine W_for ar.length (fun k s => s = ⟨[.any, ints [p], .any, .any, .ref 0 1 0 n, .ref 1 1 0 n, .any, .any, .any, .any, .any, .sl true 3 (ar.map encA), I ar.length, I k, .any, .any, .any, .any, .any, .any, .any, .any, .any, .any, .any], [.row t_bool true 1 (List.replicate n (.bool false)), .lin t_sl_int 1 (befP (ar.take k) n)]⟩) ?_ ?_ ?_
  · simp (maxSteps := 2000000) (disch := (first | omega | (simp only [lenS]; first | done | omega))) only [go_sem, Nat.reduceAdd, Nat.reduceEqDiff, Nat.reduceLeDiff, Nat.reduceSub]
    rw [befP_zero]; rfl
  · rintro k s hk2 rfl
    obtain ⟨a1, a2, a3, a4⟩ := ha _ (List.getElem_mem hk2)
    have h1 := befP_len (ar.take k) n
    have h2 := befP_get (ar := ar.take k) (n := n) a3 a4
    have h3 := befP_step (n := n) hk2 a3
    have h4 := befs_len (ar.take k) ar[k].dst
    rw [List.length_take] at h4
    rw [h3]
    generalize befP (ar.take k) n = B at *
    generalize befs (ar.take k) ar[k].dst = L at *
    generalize hA : ar[k] = a at *
    by_cases hL : L = []
    · subst hL
      rw [show pvB [] = PV.nil true 1 from rfl] at h2
      simp (maxSteps := 2000000) (disch := (first | omega | (simp only [lenS]; first | done | omega))) only [go_sem, Nat.reduceAdd, Nat.reduceEqDiff, Nat.reduceLeDiff, Nat.reduceSub, hA, h1, h2]
      exact ⟨by decide, rfl⟩
    · have hpos := List.length_pos_iff.2 hL
      rw [show pvB L = ints L by simp [pvB, hL]] at h2
      simp (maxSteps := 2000000) (disch := (first | omega | (simp only [lenS]; first | done | omega))) only [go_sem, Nat.reduceAdd, Nat.reduceEqDiff, Nat.reduceLeDiff, Nat.reduceSub, hA, h1, h2, List.getElem_set_self, List.set_set]
      refine ⟨by decide, ?_⟩
      rw [show ints (L ++ [a.src]) = .sl true 1 (L.map I ++ [I a.src]) by show PV.sl true 1 ((L ++ [a.src]).map I) = _; rw [List.map_append]; rfl]; rfl
  · rintro s rfl
    have hcl := slices_Clone_sl_int_int_ok (es := [I p]) (by simp)
    rw [List.take_length]
    simp (maxSteps := 2000000) (disch := (first | omega | (simp only [lenS]; first | done | omega))) only [go_sem, Nat.reduceAdd, Nat.reduceEqDiff, Nat.reduceLeDiff, Nat.reduceSub, hcl]
    refine W_for 1 (fun k s => s = ⟨[.any, .any, .any, .any, .ref 0 1 0 n, .ref 1 1 0 n, .any, .ref 2 1 0 1, .any, .any, .any, .any, .any, .any, .any, ints [p], I 1, I k, .any, .any, .any, .any, .any, .any, .any], [.row t_bool true 1 ((putS (List.replicate n false) ([p].take k)).map PV.bool), .lin t_sl_int 1 (befP ar n), .row t_int true 1 [I p]]⟩) ?_ ?_ ?_
    · simp (maxSteps := 2000000) (disch := (first | omega | (simp only [lenS]; first | done | omega))) only [go_sem, Nat.reduceAdd, Nat.reduceEqDiff, Nat.reduceLeDiff, Nat.reduceSub]
      simp [putS]
    · rintro k s hk2 rfl
      obtain rfl : k = 0 := by omega
      have h5 : (List.replicate n false)[p.toNat]? = some false := by rw [List.getElem?_replicate, if_pos (by omega)]
      have h6 : (List.replicate n false).length = n := List.length_replicate
      show W _ _ _ ⟨_, [.row t_bool true 1 ((List.replicate n false).map PV.bool), _, _]⟩ _
      rw [show putS (List.replicate n false) ([p].take (0 + 1)) = (List.replicate n false).set p.toNat true from rfl]
      generalize List.replicate n false = c at *
      simp (maxSteps := 2000000) (disch := (first | omega | (simp only [lenS]; first | done | omega))) only [go_sem, Nat.reduceAdd, Nat.reduceEqDiff, Nat.reduceLeDiff, Nat.reduceSub, h5, h6]
      rw [List.map_set]; rfl
    · rintro s rfl
      have e0 : putS (List.replicate n false) ([p].take 1) = (List.replicate n false).set p.toNat true := rfl
      rw [e0]
      have hst := BF.start (ar := ar) hk.1 hk.2
      generalize (List.replicate n false).set p.toNat true = c0 at *
      simp (maxSteps := 2000000) (disch := (first | omega | (simp only [lenS]; first | done | omega))) only [go_sem, Nat.reduceAdd, Nat.reduceEqDiff, Nat.reduceLeDiff, Nat.reduceSub]
      refine W_down (fun j s => ∃ (c : List Bool) (q : List Int) (i : Nat) (K : Blk), (K = .lin t_sl_int 1 (befP ar n) ∨ K = .fro false 1 (befP ar n)) ∧ BF ar n [p] c q i ∧ j = cntF c + (q.length - i) ∧ s = ⟨[.any, .any, .any, .any, .ref 0 1 0 n, .ref 1 1 0 n, .any, .ref 2 1 0 q.length, .any, I i, .any, .any, .any, .any, .any, .any, .any, .any, .any, .any, .any, .any, .any, .any, .any], [.row t_bool true 1 (c.map PV.bool), K, .row t_int true 1 (q.map I)]⟩) (cntF c0 + 1) ?_ ?_
      · refine ⟨c0, [p], 0, _, .inl rfl, hst, rfl, ?_⟩
        simp (maxSteps := 2000000) (disch := (first | omega | (simp only [lenS]; first | done | omega))) only [go_sem, Nat.reduceAdd, Nat.reduceEqDiff, Nat.reduceLeDiff, Nat.reduceSub]
        rfl
      · rintro j s ⟨c, q, i, K, hK, hB, rfl, rfl⟩
        have hqn : q.length ≤ n := by have := hB.cnt; omega
        by_cases hi : i < q.length
        case neg =>
          have hiq : i = q.length := by have := hB.le; omega
          subst hiq
          have hend := hB.end_ ha (fun k hk' => by simp at hk'; subst hk'; exact hk)
          have hcl := hB.len
          rcases hK with rfl | rfl
          all_goals
            simp (maxSteps := 2000000) (disch := (first | omega | (simp only [lenS]; first | done | omega))) only [go_sem, Nat.reduceAdd, Nat.reduceEqDiff, Nat.reduceLeDiff, Nat.reduceSub, hcl]
            rw [hend]
        case pos =>
          have hq := hB.inn _ (List.getElem_mem hi)
          have hlk := hB.look hi
          have hget := befP_get (ar := ar) (n := n) hq.1 hq.2
          have hln := befP_len ar n
          have hbl := befs_len ar q[i]
          have hsrc : ∀ x ∈ befs ar q[i], 0 ≤ x ∧ x < n := fun x hx => by
            obtain ⟨a, h1, _, rfl⟩ := befs_mem.1 hx
            exact ⟨(ha a h1).1, (ha a h1).2.1⟩
          have hnext := fun c' q' => BG.next (ar := ar) (n := n) (S := [p]) (i := i) (x := q[i]) (c := c') (q := q')
          have hold := fun m c' q' => BG.old (ar := ar) (n := n) (S := [p]) (i := i) (L := befs ar q[i]) (m := m) (x := q[i]) (c := c') (q := q')
          have hnew := fun m c' q' (h : BG ar n [p] i (befs ar q[i]) m q[i] c' q') => h.new ha
          generalize befs ar q[i] = L at *
          generalize hqi : q[i] = x at *
          generalize befP ar n = B at *
          have hmeas := hB.cnt
          by_cases hL : L = []
          · subst hL
            rw [show pvB [] = PV.nil true 1 from rfl] at hget
            rcases hK with rfl | rfl
            all_goals
              simp (maxSteps := 2000000) (disch := (first | omega | (simp only [lenS]; first | done | omega))) only [go_sem, Nat.reduceAdd, Nat.reduceEqDiff, Nat.reduceLeDiff, Nat.reduceSub, hqi, hln, hget]
              refine W_for 0 (fun m s => m = 0 ∧ s = ⟨[.any, .any, .any, .any, .ref 0 1 0 n, .ref 1 1 0 n, .any, .ref 2 1 0 q.length, .any, I i, .any, .any, .any, .any, .any, .any, .any, .any, .any, .any, .nil true 1, I 0, I 0, .any, .any], [.row t_bool true 1 (c.map PV.bool), .fro false 1 B, .row t_int true 1 (q.map I)]⟩) ?_ ?_ ?_
              · simp (maxSteps := 2000000) (disch := (first | omega | (simp only [lenS]; first | done | omega))) only [go_sem, Nat.reduceAdd, Nat.reduceEqDiff, Nat.reduceLeDiff, Nat.reduceSub]
                first | done | rfl | exact ⟨rfl, rfl⟩
              · intro m s hm2; omega
              · rintro s ⟨_, rfl⟩
                simp (maxSteps := 2000000) (disch := (first | omega | (simp only [lenS]; first | done | omega))) only [go_sem, Nat.reduceAdd, Nat.reduceEqDiff, Nat.reduceLeDiff, Nat.reduceSub]
                exact ⟨cntF c + (q.length - (i + 1)), by omega, c, q, i + 1, _, .inr rfl, hnext c q hlk, rfl, rfl⟩
          · have hpos := List.length_pos_iff.2 hL
            rw [show pvB L = ints L by simp [pvB, hL]] at hget
            rcases hK with rfl | rfl
            all_goals
              simp (maxSteps := 2000000) (disch := (first | omega | (simp only [lenS]; first | done | omega))) only [go_sem, Nat.reduceAdd, Nat.reduceEqDiff, Nat.reduceLeDiff, Nat.reduceSub, hqi, hln, hget]
              refine W_for L.length (fun m s => ∃ (c' : List Bool) (q' : List Int), BG ar n [p] i L m x c' q' ∧ cntF c' + q'.length ≤ cntF c + q.length ∧ s = ⟨[.any, .any, .any, .any, .ref 0 1 0 n, .ref 1 1 0 n, .any, .ref 2 1 0 q'.length, .any, I i, .any, .any, .any, .any, .any, .any, .any, .any, .any, .any, ints L, I L.length, I m, .any, .any], [.row t_bool true 1 (c'.map PV.bool), .fro false 1 B, .row t_int true 1 (q'.map I)]⟩) ?_ ?_ ?_
              · refine ⟨c, q, hlk, Nat.le_refl _, ?_⟩
                simp (maxSteps := 2000000) (disch := (first | omega | (simp only [lenS]; first | done | omega))) only [go_sem, Nat.reduceAdd, Nat.reduceEqDiff, Nat.reduceLeDiff, Nat.reduceSub]
                first | done | rfl
              · rintro m s hm2 ⟨c', q', h1, h2, rfl⟩
                have hy := hsrc _ (List.getElem_mem hm2)
                have hcl := h1.len
                have hcn := h1.cnt
                have g1 : c'[L[m].toNat]? = some (c'[L[m].toNat]'(by omega)) := List.getElem?_eq_getElem (by omega)
                have o1 := hold m c' q' h1 hm2
                have o2 := hnew m c' q' h1 hm2
                have hcs := cntF_set (l := c') (k := L[m].toNat) (by omega)
                rw [List.getD_eq_getElem?_getD] at hcs
                rw [g1] at o1 o2 hcs
                generalize c'[L[m].toNat]'(by omega) = b at *
                generalize hy2 : L[m] = y at *
                simp (maxSteps := 2000000) (disch := (first | omega | (simp only [lenS]; first | done | omega))) only [go_sem, Nat.reduceAdd, Nat.reduceEqDiff, Nat.reduceLeDiff, Nat.reduceSub, hy2, hcl, g1]
                refine ⟨fun e => ?_, fun e => ?_⟩
                · subst e
                  exact ⟨c', q', o1 rfl, h2, rfl⟩
                · subst e
                  have := hcs rfl
                  refine ⟨_, _, o2 rfl, by rw [List.length_append]; simp only [List.length_cons, List.length_nil]; omega, ?_⟩
                  rw [List.map_append, List.map_set, List.length_append]; rfl
              · rintro s ⟨c', q', h1, h2, rfl⟩
                simp (maxSteps := 2000000) (disch := (first | omega | (simp only [lenS]; first | done | omega))) only [go_sem, Nat.reduceAdd, Nat.reduceEqDiff, Nat.reduceLeDiff, Nat.reduceSub]
                exact ⟨cntF c' + (q'.length - (i + 1)), by have := h1.lt; omega, c', q', i + 1, _, .inr rfl, hnext c' q' h1, rfl, rfl⟩
theorem slices_Index_sl_bool_bool_ok (c : List Bool) (b : Bool) (hl : c.length < 2^62) : C f_slices_Index_sl_bool_bool [.sl true 1 (c.map PV.bool), .bool b] [] = some (I (idxI c (fun x => x == b)), []) := by
  refine C_slices_Index_sl_bool_bool ?_
  simp (maxSteps := 2000000) (disch := (first | omega | (simp only [lenS]; first | done | omega))) only [ir_slices_Index_sl_bool_bool, go_sem, Nat.reduceAdd, Nat.reduceEqDiff, Nat.reduceLeDiff, Nat.reduceSub]
  refine W_for c.length (fun k s => s = ⟨[.sl true 1 (c.map PV.bool), .bool b, .any, .any, I c.length, I k, .any, .any], []⟩ ∧ (c.take k).any (fun x => x == b) = false) ?_ ?_ ?_
  · simp (maxSteps := 2000000) (disch := (first | omega | (simp only [lenS]; first | done | omega))) only [go_sem, Nat.reduceAdd, Nat.reduceEqDiff, Nat.reduceLeDiff, Nat.reduceSub]
    simp
  · rintro k s hk ⟨rfl, h⟩
    have h1 := fun e => idxI_some (p := fun x => x == b) hk h e
    have h2 := fun e => any_take (p := fun x => x == b) hk h e
    cases b
    all_goals
      simp (maxSteps := 2000000) (disch := (first | omega | (simp only [lenS]; first | done | omega))) only [go_sem, Nat.reduceAdd, Nat.reduceEqDiff, Nat.reduceLeDiff, Nat.reduceSub]
      refine ⟨fun e => ?_, fun e => ?_⟩
      all_goals first
        | (rw [h1 (by simp [e])])
        | exact ⟨rfl, h2 (by simp [e])⟩
  · rintro s ⟨rfl, h⟩
    rw [List.take_length] at h
    simp (maxSteps := 2000000) (disch := (first | omega | (simp only [lenS]; first | done | omega))) only [go_sem, Nat.reduceAdd, Nat.reduceEqDiff, Nat.reduceLeDiff, Nat.reduceSub]
    rw [idxI_none h]
theorem slices_Contains_sl_bool_bool_ok (c : List Bool) (b : Bool) (hl : c.length < 2^62) : C f_slices_Contains_sl_bool_bool [.sl true 1 (c.map PV.bool), .bool b] [] = some (.bool (decide (0 ≤ idxI c (fun x => x == b))), []) := by
  have h := slices_Index_sl_bool_bool_ok c b hl
  cases b
  all_goals
    refine C_slices_Contains_sl_bool_bool ?_
    simp (maxSteps := 2000000) (disch := (first | omega | (simp only [lenS]; first | done | omega))) only [ir_slices_Contains_sl_bool_bool, go_sem, Nat.reduceAdd, Nat.reduceEqDiff, Nat.reduceLeDiff, Nat.reduceSub]
    simp (maxSteps := 2000000) (disch := (first | omega | (simp only [lenS]; first | done | omega))) only [go_sem, Nat.reduceAdd, Nat.reduceEqDiff, Nat.reduceLeDiff, Nat.reduceSub, h]
    exact ⟨fun h => by rw [decide_eq_true h], fun h => by rw [decide_eq_false (by omega)]⟩
def whole (n : Net) (start : List Int) (b : Int) : Bool := okEx n start b && decide ((exAll n start b).code = 0)
def wholePV (n : Net) (start : List Int) (b : Int) : PV := if whole n start b then .agg [.un t_sl_int false 1 ((exAll n start b).sp.ms.map ints), arcPV (exAll n start b).sp.ar] else .agg [.nil false 1, .nil true 3]
theorem whole_pv {n : Net} {start : List Int} {b : Int} : (if okEx n start b then exPV (exAll n start b) else .agg [.nil false 1, .nil true 3]) = wholePV n start b := by
  unfold wholePV whole exPV
  cases okEx n start b <;> simp
theorem whole_facts {n : Net} {start : List Int} {b : Int} (h : whole n start b = true) : okEx n start b = true ∧ (exAll n start b).code = 0 ∧ ExOk n start b (exAll n start b) ∧ (exAll n start b).sp.ms.length ≤ 400 ∧ (exAll n start b).sp.ar.length ≤ 20000 ∧ Bfs (exAll n start b).sp.ar (exAll n start b).sp.ms.length ∧ 0 < (exAll n start b).sp.ms.length := by
  simp only [whole, Bool.and_eq_true, decide_eq_true_eq] at h
  obtain ⟨h1, hb⟩ := okEx_parts h.1
  have f1 := (exAll_facts h1 hb.1).1
  have hl := f1.lenb
  refine ⟨h.1, h.2, f1, by omega, exAll_arcs (goodN_parts (marked_parts h1).1).2.2.1 hb.2, exAll_bfs h1 hb.1, ?_⟩
  have := f1.first
  rcases Nat.eq_zero_or_pos (exAll n start b).sp.ms.length with h | h
  · rw [List.length_eq_zero_iff.1 h] at this; simp at this
  · exact h
theorem whole_lens {n : Net} {start : List Int} {b : Int} {R : Ex} (f : ExOk n start b R) : ∀ x ∈ R.sp.ms, x.length < 2^62 := fun x hx => by have := goodM_len (marked_parts (f.good x hx)).2; omega
theorem impl_wholeSpace_ok (n : Net) (start : List Int) (b : Int) (hn : smN n) (hs : start.length < 2^62) : C f_impl_wholeSpace [encN n, ints start, I b] [] = some (.tup [wholePV n start b, .bool (whole n start b)], []) := by
  have hx := impl_Explore_ok n start b hn hs
  rw [whole_pv] at hx
  have hcode := exAll_code n start b
  unfold wholePV whole at hx ⊢
  cases h1 : okEx n start b with
  | false =>
    simp only [h1, Bool.false_and, Bool.false_eq_true, if_false] at hx ⊢
    refine C_impl_wholeSpace ?_
    simp (maxSteps := 2000000) (disch := (first | omega | (simp only [lenS]; first | done | omega))) only [ir_impl_wholeSpace, go_sem, Nat.reduceAdd, Nat.reduceEqDiff, Nat.reduceLeDiff, Nat.reduceSub]
    simp (maxSteps := 2000000) (disch := (first | omega | (simp only [lenS]; first | done | omega))) only [go_sem, Nat.reduceAdd, Nat.reduceEqDiff, Nat.reduceLeDiff, Nat.reduceSub, hx]
  | true =>
    simp only [h1, Bool.true_and, if_true] at hx ⊢
    generalize exAll n start b = R at *
    by_cases hc : R.code = 0
    · by_cases ha : R.sp.ar = []
      · simp only [exCode, arcPV, hc, ha, if_true, decide_true] at hx ⊢
        refine C_impl_wholeSpace ?_
        simp (maxSteps := 2000000) (disch := (first | omega | (simp only [lenS]; first | done | omega))) only [ir_impl_wholeSpace, go_sem, Nat.reduceAdd, Nat.reduceEqDiff, Nat.reduceLeDiff, Nat.reduceSub]
        simp (maxSteps := 2000000) (disch := (first | omega | (simp only [lenS]; first | done | omega))) only [go_sem, Nat.reduceAdd, Nat.reduceEqDiff, Nat.reduceLeDiff, Nat.reduceSub, hx]
      · simp only [exCode, arcPV, hc, ha, if_true, if_false, decide_true] at hx ⊢
        refine C_impl_wholeSpace ?_
        simp (maxSteps := 2000000) (disch := (first | omega | (simp only [lenS]; first | done | omega))) only [ir_impl_wholeSpace, go_sem, Nat.reduceAdd, Nat.reduceEqDiff, Nat.reduceLeDiff, Nat.reduceSub]
        simp (maxSteps := 2000000) (disch := (first | omega | (simp only [lenS]; first | done | omega))) only [go_sem, Nat.reduceAdd, Nat.reduceEqDiff, Nat.reduceLeDiff, Nat.reduceSub, hx]
    · have hc1 : ¬ R.code = 1 := by omega
      simp only [exCode, hc, if_false, decide_false, Bool.false_eq_true] at hx ⊢
      refine C_impl_wholeSpace ?_
      simp (maxSteps := 2000000) (disch := (first | omega | (simp only [lenS]; first | done | omega))) only [ir_impl_wholeSpace, go_sem, Nat.reduceAdd, Nat.reduceEqDiff, Nat.reduceLeDiff, Nat.reduceSub]
      simp (maxSteps := 2000000) (disch := (first | omega | (simp only [lenS]; first | done | omega))) only [go_sem, Nat.reduceAdd, Nat.reduceEqDiff, Nat.reduceLeDiff, Nat.reduceSub, hx, hc1]
      first | done | (intro h; omega)
theorem spec_l4Asked_ok (n : Net) (start : List Int) (b : Int) (hn : smN n) (hs : start.length < 2^62) : C f_spec_l4Asked [encN n, ints start, I b] [] = some (.bool (okEx n start b), []) := by
  refine C_spec_l4Asked ?_
  simp (maxSteps := 2000000) (disch := (first | omega | (simp only [lenS]; first | done | omega))) only [ir_spec_l4Asked, go_sem, Nat.reduceAdd, Nat.reduceEqDiff, Nat.reduceLeDiff, Nat.reduceSub]
  simp (maxSteps := 2000000) (disch := (first | omega | (simp only [lenS]; first | done | omega))) only [go_sem, Nat.reduceAdd, Nat.reduceEqDiff, Nat.reduceLeDiff, Nat.reduceSub, spec_l2Marked_ok n start hn hs, spec_l1In_ok]
  unfold okEx; grind
theorem spec_l1Same_ok (a b : List Int) (hl : a.length < 2^62) : C f_spec_l1Same [ints a, ints b] [] = some (.bool (decide (a = b)), []) := by
  refine C_spec_l1Same ?_
  simp (maxSteps := 2000000) (disch := (first | omega | (simp only [lenS]; first | done | omega))) only [ir_spec_l1Same, go_sem, Nat.reduceAdd, Nat.reduceEqDiff, Nat.reduceLeDiff, Nat.reduceSub]
  refine ⟨fun h => ?_, fun h => ?_⟩
  · have : a ≠ b := fun e => h (by rw [e])
    simp [this]
  refine W_for a.length (fun k s => s = ⟨[ints a, ints b, .any, .any, .any, I a.length, I k, .any, .any], []⟩ ∧ a.take k = b.take k) ?_ ?_ ?_
  · simp (maxSteps := 2000000) (disch := (first | omega | (simp only [lenS]; first | done | omega))) only [go_sem, Nat.reduceAdd, Nat.reduceEqDiff, Nat.reduceLeDiff, Nat.reduceSub]
    rfl
  · rintro k s hk ⟨rfl, hall⟩
    simp (maxSteps := 2000000) (disch := (first | omega | (simp only [lenS]; first | done | omega))) only [go_sem, Nat.reduceAdd, Nat.reduceEqDiff, Nat.reduceLeDiff, Nat.reduceSub]
    refine ⟨fun h => ?_, fun h => ⟨rfl, ?_⟩⟩
    · have : a ≠ b := fun e => h (by simp [e])
      simp [this]
    · rw [take_snoc hk, take_snoc (show k < b.length by omega), hall, h]
  · rintro s ⟨rfl, hall⟩
    simp (maxSteps := 2000000) (disch := (first | omega | (simp only [lenS]; first | done | omega))) only [go_sem, Nat.reduceAdd, Nat.reduceEqDiff, Nat.reduceLeDiff, Nat.reduceSub]
    rw [List.take_length, List.take_of_length_le (by omega)] at hall
    simp [hall]
theorem spec_l4Find_ok (ms : List (List Int)) (m : List Int) (hl : ms.length < 2^62) (hx : ∀ x ∈ ms, x.length < 2^62) : C f_spec_l4Find [rows ms, ints m] [] = some (I (findM ms m), []) := by
  refine C_spec_l4Find ?_
  simp (maxSteps := 2000000) (disch := (first | omega | (simp only [lenS]; first | done | omega))) only [ir_spec_l4Find, go_sem, Nat.reduceAdd, Nat.reduceEqDiff, Nat.reduceLeDiff, Nat.reduceSub]
  refine W_for ms.length (fun k s => s = ⟨[.any, ints m, .any, .any, .any, rows ms, I ms.length, I k, .any, .any], []⟩ ∧ (ms.take k).any (fun x => decide (x = m)) = false) ?_ ?_ ?_
  · simp (maxSteps := 2000000) (disch := (first | omega | (simp only [lenS]; first | done | omega))) only [go_sem, Nat.reduceAdd, Nat.reduceEqDiff, Nat.reduceLeDiff, Nat.reduceSub]
    rfl
  · rintro k s hk ⟨rfl, hall⟩
    have hxk := hx _ (List.getElem_mem hk)
    simp (maxSteps := 2000000) (disch := (first | omega | (simp only [lenS]; first | done | omega))) only [go_sem, Nat.reduceAdd, Nat.reduceEqDiff, Nat.reduceLeDiff, Nat.reduceSub, spec_l1Same_ok]
    refine ⟨fun h => ?_, fun h => ⟨rfl, any_take hk hall (decide_eq_false h)⟩⟩
    unfold findM
    rw [idxI_some hk hall (decide_eq_true h)]
  · rintro s ⟨rfl, hall⟩
    simp (maxSteps := 2000000) (disch := (first | omega | (simp only [lenS]; first | done | omega))) only [go_sem, Nat.reduceAdd, Nat.reduceEqDiff, Nat.reduceLeDiff, Nat.reduceSub]
    rw [List.take_length] at hall
    unfold findM
    rw [idxI_none hall]
theorem spec_l4Explore_ok (n : Net) (start : List Int) (b : Int) (hm : marked n start = true) (hb : 1 ≤ b ∧ b ≤ 400) : C f_spec_l4Explore [encN n, ints start, I b] [] = some (.tup [exPV (exAll n start b), I (exCode (exAll n start b))], []) := by
  obtain ⟨hg, hmk⟩ := marked_parts hm
  have hn := goodN_parts hg
  have hs := goodM_len hmk
  refine C_spec_l4Explore ?_
  simp (maxSteps := 2000000) (disch := (first | omega | (simp only [lenS]; first | done | omega))) only [ir_spec_l4Explore, go_sem, Nat.reduceAdd, Nat.reduceEqDiff, Nat.reduceLeDiff, Nat.reduceSub]
  simp (maxSteps := 2000000) (disch := (first | omega | (simp only [lenS]; first | done | omega))) only [go_sem, Nat.reduceAdd, Nat.reduceEqDiff, Nat.reduceLeDiff, Nat.reduceSub, spec_l1Own_ok start (by omega)]
  generalize hR : exAll n start b = R
  refine W_down (fun d s => ∃ (k : Nat) (c : Ex), d + k = b.toNat + 1 ∧ ExOk n start b c ∧ c.code = 0 ∧ k ≤ c.sp.ms.length ∧ c.sp.ar.length ≤ 24 * k ∧ exRun n b (d + 1) k c = R ∧ ((s = ⟨[.any, .any, I b, .ptr 0 0, .ptr 1 0, .any, .ptr 2 0, I k, .any, .any, .any, .any, .any, .any, .any, .any, .any, .any, .any], [.box t_impl_Net [I n.pl, trs n.tr], .box t_impl_Space [.nil false 1, .nil true 3], .box t_impl_Space [.ref 3 1 0 c.sp.ms.length, .nil true 3], .row t_sl_int false 1 (c.sp.ms.map ints)]⟩ ∧ c.sp.ar = []) ∨ (s = ⟨[.any, .any, I b, .ptr 0 0, .ptr 1 0, .any, .ptr 2 0, I k, .any, .any, .any, .any, .any, .any, .any, .any, .any, .any, .any], [.box t_impl_Net [I n.pl, trs n.tr], .box t_impl_Space [.nil false 1, .nil true 3], .box t_impl_Space [.ref 3 1 0 c.sp.ms.length, .ref 4 3 0 c.sp.ar.length], .row t_sl_int false 1 (c.sp.ms.map ints), .row t_impl_Arc true 3 (c.sp.ar.map encA)]⟩ ∧ c.sp.ar ≠ []))) (b.toNat + 1) ?_ ?_
  · refine ⟨0, ⟨⟨[start], []⟩, 0⟩, by omega, exStart_ok hm hb.1, rfl, by omega, by simp, hR, .inl ⟨?_, rfl⟩⟩
    simp (maxSteps := 2000000) (disch := (first | omega | (simp only [lenS]; first | done | omega))) only [go_sem, Nat.reduceAdd, Nat.reduceEqDiff, Nat.reduceLeDiff, Nat.reduceSub]
    rfl
  · rintro d s ⟨k, c, hd, hok, hc0, hk, hal, hrun, hcs⟩
    have hlb := hok.lenb
    by_cases hkl : k < c.sp.ms.length
    · have hmem := getD_mem hkl
      have hmg := marked_parts (hok.good _ hmem)
      have hml := goodM_len hmg.2
      have en := spec_l2Enabled_ok n (c.sp.ms.getD k []) hg hml.2.2.1
      have hLl : (enabL n (c.sp.ms.getD k [])).length ≤ n.tr.length := enabK_len ..
      have er : exRun n b (d + 1) k c = exRun n b d (k + 1) (exL n b k c (enabL n (c.sp.ms.getD k []))) := by
        show (if c.code ≠ 0 then c else if k < c.sp.ms.length then _ else c) = _
        rw [if_neg (by omega), if_pos hkl]
      rw [er] at hrun
      have hen : ∀ t ∈ enabL n (c.sp.ms.getD k []), t ∈ enabL n (c.sp.ms.getD k []) := fun t h => h
      generalize hL : enabL n (c.sp.ms.getD k []) = L at *
      rcases hcs with ⟨rfl, har⟩ | ⟨rfl, har⟩
      all_goals
        simp (maxSteps := 2000000) (disch := (first | omega | (simp only [lenS]; first | done | omega))) only [go_sem, Nat.reduceAdd, Nat.reduceEqDiff, Nat.reduceLeDiff, Nat.reduceSub, getD_ms, en]
        refine W_for L.length (fun j s => ∃ c' : Ex, ExOk n start b c' ∧ c'.code = 0 ∧ k < c'.sp.ms.length ∧ enabL n (c'.sp.ms.getD k []) = L ∧ c'.sp.ar.length ≤ 24 * k + j ∧ exRun n b d (k + 1) (exL n b k c' (L.drop j)) = R ∧ ((s = ⟨[.any, .any, I b, .ptr 0 0, .ptr 1 0, .any, .ptr 2 0, I k, .any, .any, .any, .any, .ref 3 1 0 L.length, I L.length, I j, .any, .any, .any, .any], [.box t_impl_Net [I n.pl, trs n.tr], .box t_impl_Space [.nil false 1, .nil true 3], .box t_impl_Space [.ref 4 1 0 c'.sp.ms.length, .nil true 3], .row t_int true 1 (L.map I), .row t_sl_int false 1 (c'.sp.ms.map ints)]⟩ ∧ c'.sp.ar = []) ∨ (s = ⟨[.any, .any, I b, .ptr 0 0, .ptr 1 0, .any, .ptr 2 0, I k, .any, .any, .any, .any, .ref 3 1 0 L.length, I L.length, I j, .any, .any, .any, .any], [.box t_impl_Net [I n.pl, trs n.tr], .box t_impl_Space [.nil false 1, .nil true 3], .box t_impl_Space [.ref 4 1 0 c'.sp.ms.length, .ref 5 3 0 c'.sp.ar.length], .row t_int true 1 (L.map I), .row t_sl_int false 1 (c'.sp.ms.map ints), .row t_impl_Arc true 3 (c'.sp.ar.map encA)]⟩ ∧ c'.sp.ar ≠ []))) ?_ ?_ ?_
        · refine ⟨c, hok, hc0, hkl, hL, by omega, hrun, ?_⟩
          first
          | refine .inl ⟨?_, har⟩
            simp (maxSteps := 2000000) (disch := (first | omega | (simp only [lenS]; first | done | omega))) only [go_sem, Nat.reduceAdd, Nat.reduceEqDiff, Nat.reduceLeDiff, Nat.reduceSub]
            done
          | refine .inl ⟨?_, har⟩
            simp (maxSteps := 2000000) (disch := (first | omega | (simp only [lenS]; first | done | omega))) only [go_sem, Nat.reduceAdd, Nat.reduceEqDiff, Nat.reduceLeDiff, Nat.reduceSub]
            rfl
          | refine .inr ⟨?_, har⟩
            simp (maxSteps := 2000000) (disch := (first | omega | (simp only [lenS]; first | done | omega))) only [go_sem, Nat.reduceAdd, Nat.reduceEqDiff, Nat.reduceLeDiff, Nat.reduceSub]
            done
          | refine .inr ⟨?_, har⟩
            simp (maxSteps := 2000000) (disch := (first | omega | (simp only [lenS]; first | done | omega))) only [go_sem, Nat.reduceAdd, Nat.reduceEqDiff, Nat.reduceLeDiff, Nat.reduceSub]
            rfl
        · rintro j s hj ⟨c', hok', hc0', hkl', hL', hal', hrun', hcs'⟩
          have hlb' := hok'.lenb
          have ht : L[j] ∈ enabL n (c'.sp.ms.getD k []) := by rw [hL']; exact List.getElem_mem hj
          obtain ⟨t1, t2, t3⟩ := enabL_mem.1 ht
          have hT := hn.2.2.2 (trAt n L[j]) (by rw [← trAt_eq t2]; exact List.getElem_mem _)
          have hm2 := goodM_len (marked_parts (hok'.good _ (getD_mem hkl'))).2
          have hx := goodT_lt hT hm2.2.2.1
          have hy := goodT_lens hT (by omega)
          have hfire := spec_l2Fire_ok (trAt n L[j]) (c'.sp.ms.getD k []) hx.1 hx.2.1 hx.2.2 ⟨by omega, by omega, by omega⟩ (by omega) hm2.2.2.2.2
          have hMl := firedM_len (trAt n L[j]) (c'.sp.ms.getD k [])
          have hok2 := exStep_ok hok' hkl' ht
          have hxs : ∀ x ∈ c'.sp.ms, x.length < 2^62 := fun x hx => by have := goodM_len (marked_parts (hok'.good x hx)).2; omega
          rw [exL_drop hj] at hrun'
          have f1 := exStep_tok (n := n) (b := b) (k := k) (s := c') (t := L[j]) hc0'
          have f2 := exStep_old (n := n) (b := b) (k := k) (s := c') (t := L[j]) hc0'
          have f3 := exStep_full (n := n) (b := b) (k := k) (s := c') (t := L[j]) hc0'
          have f4 := exStep_new (n := n) (b := b) (k := k) (s := c') (t := L[j]) hc0'
          generalize hM : firedM (trAt n L[j]) (c'.sp.ms.getD k []) = M at *
          have ck : C f_spec_GoodMark [I n.pl, ints M] [] = some (.bool (M.all (inB 0 50)), []) := by
            rw [spec_GoodMark_ok n.pl M (by omega)]
            have h9 : inB 1 16 n.pl = true := by simp [inB]; omega
            have h10 : ((M.length : Int) == n.pl) = true := by simp; omega
            simp only [goodM, h9, h10, Bool.true_and]
          have fd := spec_l4Find_ok c'.sp.ms M (by omega) hxs
          have hsl : ∀ c2 : Ex, c2.code ≠ 0 → exRun n b d (k + 1) (exL n b k c2 (L.drop (j + 1))) = c2 := fun c2 h => by rw [exL_stop h, exRun_stop h]
          cases ha : M.all (inB 0 50) with
          | false =>
            rw [f1 ha, hsl _ (by simp)] at hrun'
            subst hrun'
            rw [ha] at ck
            rcases hcs' with ⟨rfl, har'⟩ | ⟨rfl, har'⟩ <;> simp (maxSteps := 2000000) (disch := (first | omega | (simp only [lenS]; first | done | omega))) only [go_sem, Nat.reduceAdd, Nat.reduceEqDiff, Nat.reduceLeDiff, Nat.reduceSub, getD_ms, trAt_eq, hfire, ck, exPV, exCode]
          | true =>
            rw [ha] at ck
            by_cases h2 : 0 ≤ findM c'.sp.ms M
            · rw [f2 ha h2] at hrun' hok2
              rcases hcs' with ⟨rfl, har'⟩ | ⟨rfl, har'⟩
              · simp (maxSteps := 2000000) (disch := (first | omega | (simp only [lenS]; first | done | omega))) only [go_sem, Nat.reduceAdd, Nat.reduceEqDiff, Nat.reduceLeDiff, Nat.reduceSub, getD_ms, trAt_eq, hfire, ck, fd]
                refine ⟨_, hok2, rfl, hkl', hL', by simp only [List.length_append, List.length_cons, List.length_nil]; omega, hrun', .inr ⟨?_, by simp⟩⟩
                simp [har']
              · simp (maxSteps := 2000000) (disch := (first | omega | (simp only [lenS]; first | done | omega))) only [go_sem, Nat.reduceAdd, Nat.reduceEqDiff, Nat.reduceLeDiff, Nat.reduceSub, getD_ms, trAt_eq, hfire, ck, fd]
                refine ⟨_, hok2, rfl, hkl', hL', by simp only [List.length_append, List.length_cons, List.length_nil]; omega, hrun', .inr ⟨?_, by simp⟩⟩
                simp
            · by_cases h3 : b ≤ c'.sp.ms.length
              · rw [f3 ha h2 h3, hsl _ (by simp)] at hrun'
                subst hrun'
                rcases hcs' with ⟨rfl, har'⟩ | ⟨rfl, har'⟩ <;> simp (maxSteps := 2000000) (disch := (first | omega | (simp only [lenS]; first | done | omega))) only [go_sem, Nat.reduceAdd, Nat.reduceEqDiff, Nat.reduceLeDiff, Nat.reduceSub, getD_ms, trAt_eq, hfire, ck, fd, exPV, exCode]
              · rw [f4 ha h2 h3] at hrun' hok2
                rcases hcs' with ⟨rfl, har'⟩ | ⟨rfl, har'⟩
                · simp (maxSteps := 2000000) (disch := (first | omega | (simp only [lenS]; first | done | omega))) only [go_sem, Nat.reduceAdd, Nat.reduceEqDiff, Nat.reduceLeDiff, Nat.reduceSub, getD_ms, trAt_eq, hfire, ck, fd]
                  refine ⟨_, hok2, rfl, by simp only [List.length_append]; omega, by simp only; rw [getD_app hkl']; exact hL', by simp only [List.length_append, List.length_cons, List.length_nil]; omega, hrun', .inr ⟨?_, by simp⟩⟩
                  simp [har']
                · simp (maxSteps := 2000000) (disch := (first | omega | (simp only [lenS]; first | done | omega))) only [go_sem, Nat.reduceAdd, Nat.reduceEqDiff, Nat.reduceLeDiff, Nat.reduceSub, getD_ms, trAt_eq, hfire, ck, fd]
                  refine ⟨_, hok2, rfl, by simp only [List.length_append]; omega, by simp only; rw [getD_app hkl']; exact hL', by simp only [List.length_append, List.length_cons, List.length_nil]; omega, hrun', .inr ⟨?_, by simp⟩⟩
                  simp
        · rintro s ⟨c', hok', hc0', hkl', hL', hal', hrun', hcs'⟩
          rw [List.drop_length] at hrun'
          have hlb' := hok'.lenb
          rcases hcs' with ⟨rfl, har'⟩ | ⟨rfl, har'⟩
          · simp (maxSteps := 2000000) (disch := (first | omega | (simp only [lenS]; first | done | omega))) only [go_sem, Nat.reduceAdd, Nat.reduceEqDiff, Nat.reduceLeDiff, Nat.reduceSub]
            refine ⟨d - 1, by omega, k + 1, c', by omega, hok', hc0', by omega, by omega, by rw [show d - 1 + 1 = d by omega]; exact hrun', .inl ⟨rfl, har'⟩⟩
          · simp (maxSteps := 2000000) (disch := (first | omega | (simp only [lenS]; first | done | omega))) only [go_sem, Nat.reduceAdd, Nat.reduceEqDiff, Nat.reduceLeDiff, Nat.reduceSub]
            refine ⟨d - 1, by omega, k + 1, c', by omega, hok', hc0', by omega, by omega, by rw [show d - 1 + 1 = d by omega]; exact hrun', .inr ⟨rfl, har'⟩⟩
    · have er : exRun n b (d + 1) k c = c := by
        show (if c.code ≠ 0 then c else if k < c.sp.ms.length then _ else c) = _
        rw [if_neg (by omega), if_neg hkl]
      rw [er] at hrun
      subst hrun
      rcases hcs with ⟨rfl, har⟩ | ⟨rfl, har⟩
      · simp (maxSteps := 2000000) (disch := (first | omega | (simp only [lenS]; first | done | omega))) only [go_sem, Nat.reduceAdd, Nat.reduceEqDiff, Nat.reduceLeDiff, Nat.reduceSub]
        simp [exPV, exCode, hc0, arcPV, har]
      · simp (maxSteps := 2000000) (disch := (first | omega | (simp only [lenS]; first | done | omega))) only [go_sem, Nat.reduceAdd, Nat.reduceEqDiff, Nat.reduceLeDiff, Nat.reduceSub]
        simp [exPV, exCode, hc0, arcPV, har]
theorem spec_Explore_ok (n : Net) (start : List Int) (b : Int) (hn : smN n) (hs : start.length < 2^62) : C f_spec_Explore [encN n, ints start, I b] [] = some (.tup [if okEx n start b then exPV (exAll n start b) else .agg [.nil false 1, .nil true 3], I (if okEx n start b then exCode (exAll n start b) else 0), .bool (okEx n start b)], []) := by
  refine C_spec_Explore ?_
  simp (maxSteps := 2000000) (disch := (first | omega | (simp only [lenS]; first | done | omega))) only [ir_spec_Explore, go_sem, Nat.reduceAdd, Nat.reduceEqDiff, Nat.reduceLeDiff, Nat.reduceSub]
  simp (maxSteps := 2000000) (disch := (first | omega | (simp only [lenS]; first | done | omega))) only [go_sem, Nat.reduceAdd, Nat.reduceEqDiff, Nat.reduceLeDiff, Nat.reduceSub, spec_l4Asked_ok n start b hn hs]
  cases hok : okEx n start b with
  | false => simp
  | true =>
    obtain ⟨h1, hb⟩ := okEx_parts hok
    have hx := spec_l4Explore_ok n start b h1 hb
    generalize exAll n start b = R at *
    by_cases hc : R.code = 0
    · by_cases ha : R.sp.ar = []
      · simp only [exPV, exCode, arcPV, hc, ha, if_true] at hx ⊢
        simp (maxSteps := 2000000) (disch := (first | omega | (simp only [lenS]; first | done | omega))) only [go_sem, Nat.reduceAdd, Nat.reduceEqDiff, Nat.reduceLeDiff, Nat.reduceSub, hx]
      · simp only [exPV, exCode, arcPV, hc, ha, if_true, if_false] at hx ⊢
        simp (maxSteps := 2000000) (disch := (first | omega | (simp only [lenS]; first | done | omega))) only [go_sem, Nat.reduceAdd, Nat.reduceEqDiff, Nat.reduceLeDiff, Nat.reduceSub, hx]
    · simp only [exPV, exCode, hc, if_false] at hx ⊢
      simp (maxSteps := 2000000) (disch := (first | omega | (simp only [lenS]; first | done | omega))) only [go_sem, Nat.reduceAdd, Nat.reduceEqDiff, Nat.reduceLeDiff, Nat.reduceSub, hx]
theorem spec_l4All_ok (n : Net) (start : List Int) (b : Int) (hn : smN n) (hs : start.length < 2^62) : C f_spec_l4All [encN n, ints start, I b] [] = some (.tup [wholePV n start b, .bool (whole n start b)], []) := by
  have hx := spec_Explore_ok n start b hn hs
  rw [whole_pv] at hx
  have hcode := exAll_code n start b
  unfold wholePV whole at hx ⊢
  cases h1 : okEx n start b with
  | false =>
    simp only [h1, Bool.false_and, Bool.false_eq_true, if_false] at hx ⊢
    refine C_spec_l4All ?_
    simp (maxSteps := 2000000) (disch := (first | omega | (simp only [lenS]; first | done | omega))) only [ir_spec_l4All, go_sem, Nat.reduceAdd, Nat.reduceEqDiff, Nat.reduceLeDiff, Nat.reduceSub]
    simp (maxSteps := 2000000) (disch := (first | omega | (simp only [lenS]; first | done | omega))) only [go_sem, Nat.reduceAdd, Nat.reduceEqDiff, Nat.reduceLeDiff, Nat.reduceSub, hx]
  | true =>
    simp only [h1, Bool.true_and, if_true] at hx ⊢
    generalize exAll n start b = R at *
    by_cases hc : R.code = 0
    · by_cases ha : R.sp.ar = []
      · simp only [exCode, arcPV, hc, ha, if_true, decide_true] at hx ⊢
        refine C_spec_l4All ?_
        simp (maxSteps := 2000000) (disch := (first | omega | (simp only [lenS]; first | done | omega))) only [ir_spec_l4All, go_sem, Nat.reduceAdd, Nat.reduceEqDiff, Nat.reduceLeDiff, Nat.reduceSub]
        simp (maxSteps := 2000000) (disch := (first | omega | (simp only [lenS]; first | done | omega))) only [go_sem, Nat.reduceAdd, Nat.reduceEqDiff, Nat.reduceLeDiff, Nat.reduceSub, hx]
      · simp only [exCode, arcPV, hc, ha, if_true, if_false, decide_true] at hx ⊢
        refine C_spec_l4All ?_
        simp (maxSteps := 2000000) (disch := (first | omega | (simp only [lenS]; first | done | omega))) only [ir_spec_l4All, go_sem, Nat.reduceAdd, Nat.reduceEqDiff, Nat.reduceLeDiff, Nat.reduceSub]
        simp (maxSteps := 2000000) (disch := (first | omega | (simp only [lenS]; first | done | omega))) only [go_sem, Nat.reduceAdd, Nat.reduceEqDiff, Nat.reduceLeDiff, Nat.reduceSub, hx]
    · have hc1 : ¬ R.code = 1 := by omega
      simp only [exCode, hc, if_false, decide_false, Bool.false_eq_true] at hx ⊢
      refine C_spec_l4All ?_
      simp (maxSteps := 2000000) (disch := (first | omega | (simp only [lenS]; first | done | omega))) only [ir_spec_l4All, go_sem, Nat.reduceAdd, Nat.reduceEqDiff, Nat.reduceLeDiff, Nat.reduceSub]
      simp (maxSteps := 2000000) (disch := (first | omega | (simp only [lenS]; first | done | omega))) only [go_sem, Nat.reduceAdd, Nat.reduceEqDiff, Nat.reduceLeDiff, Nat.reduceSub, hx, hc1]
      first | done | (intro h; omega)
def canV (n : Net) (start : List Int) (b : Int) (m : List Int) : Bool := whole n start b && goodM n.pl m
theorem spec_CanCome_ok (n : Net) (start : List Int) (b : Int) (m : List Int) (hn : smN n) (hs : start.length < 2^62) (hm : m.length < 2^60) : C f_spec_CanCome [encN n, ints start, I b, ints m] [] = some (.tup [.bool (canV n start b m && decide (m ∈ (exAll n start b).sp.ms)), .bool (canV n start b m)], []) := by
  have hx := spec_l4All_ok n start b hn hs
  have hg := spec_GoodMark_ok n.pl m (by omega)
  unfold canV
  unfold wholePV at hx
  cases hw : whole n start b with
  | false =>
    simp only [hw, Bool.false_eq_true, if_false] at hx ⊢
    refine C_spec_CanCome ?_
    simp (maxSteps := 2000000) (disch := (first | omega | (simp only [lenS]; first | done | omega))) only [ir_spec_CanCome, go_sem, Nat.reduceAdd, Nat.reduceEqDiff, Nat.reduceLeDiff, Nat.reduceSub]
    simp (maxSteps := 2000000) (disch := (first | omega | (simp only [lenS]; first | done | omega))) only [go_sem, Nat.reduceAdd, Nat.reduceEqDiff, Nat.reduceLeDiff, Nat.reduceSub, hx]
    first | done | rfl
  | true =>
    obtain ⟨_, _, f1, f2, f3, _, _⟩ := whole_facts hw
    simp only [hw, if_true] at hx ⊢
    have fd := spec_l4Find_ok (exAll n start b).sp.ms m (by omega) (whole_lens f1)
    have e : decide (m ∈ (exAll n start b).sp.ms) = decide (0 ≤ findM (exAll n start b).sp.ms m) := by rw [decide_eq_decide]; exact findM_mem.symm
    rw [e]
    generalize exAll n start b = R at *
    generalize goodM n.pl m = g at *
    by_cases ha : R.sp.ar = []
    · simp only [arcPV, ha, if_true] at hx
      refine C_spec_CanCome ?_
      simp (maxSteps := 2000000) (disch := (first | omega | (simp only [lenS]; first | done | omega))) only [ir_spec_CanCome, go_sem, Nat.reduceAdd, Nat.reduceEqDiff, Nat.reduceLeDiff, Nat.reduceSub]
      simp (maxSteps := 2000000) (disch := (first | omega | (simp only [lenS]; first | done | omega))) only [go_sem, Nat.reduceAdd, Nat.reduceEqDiff, Nat.reduceLeDiff, Nat.reduceSub, hx, hg, fd]
      grind
    · simp only [arcPV, ha, if_false] at hx
      refine C_spec_CanCome ?_
      simp (maxSteps := 2000000) (disch := (first | omega | (simp only [lenS]; first | done | omega))) only [ir_spec_CanCome, go_sem, Nat.reduceAdd, Nat.reduceEqDiff, Nat.reduceLeDiff, Nat.reduceSub]
      simp (maxSteps := 2000000) (disch := (first | omega | (simp only [lenS]; first | done | omega))) only [go_sem, Nat.reduceAdd, Nat.reduceEqDiff, Nat.reduceLeDiff, Nat.reduceSub, hx, hg, fd]
      grind
noncomputable def homeV (n : Net) (start : List Int) (b : Int) (m : List Int) : Bool := canV n start b m && (decide (m ∈ (exAll n start b).sp.ms) && !(toL (exAll n start b).sp.ar (exAll n start b).sp.ms.length [findM (exAll n start b).sp.ms m]).any (fun x => x == false))
theorem idx_any (c : List Bool) : decide (0 ≤ idxI c (fun x => x == false)) = c.any (fun x => x == false) := (idxI_any ..).symm
theorem impl_IsHome_ok (n : Net) (start : List Int) (b : Int) (m : List Int) (hn : smN n) (hs : start.length < 2^62) (hm : m.length < 2^60) : C f_impl_IsHome [encN n, ints start, I b, ints m] [] = some (.tup [.bool (homeV n start b m), .bool (canV n start b m)], []) := by
  have hx := impl_wholeSpace_ok n start b hn hs
  have hg := impl_GoodMark_ok n.pl m (by omega)
  unfold homeV canV
  unfold wholePV at hx
  cases hw : whole n start b with
  | false =>
    simp only [hw, Bool.false_eq_true, if_false] at hx ⊢
    refine C_impl_IsHome ?_
    simp (maxSteps := 2000000) (disch := (first | omega | (simp only [lenS]; first | done | omega))) only [ir_impl_IsHome, go_sem, Nat.reduceAdd, Nat.reduceEqDiff, Nat.reduceLeDiff, Nat.reduceSub]
    simp (maxSteps := 2000000) (disch := (first | omega | (simp only [lenS]; first | done | omega))) only [go_sem, Nat.reduceAdd, Nat.reduceEqDiff, Nat.reduceLeDiff, Nat.reduceSub, hx]
    first | done | rfl
  | true =>
    obtain ⟨_, _, f1, f2, f3, f4, _⟩ := whole_facts hw
    simp only [hw, if_true] at hx ⊢
    have fd := fun A => impl_Space_find_ok (exAll n start b).sp.ms A m (by omega) (whole_lens f1)
    have e : decide (m ∈ (exAll n start b).sp.ms) = decide (0 ≤ findM (exAll n start b).sp.ms m) := by rw [decide_eq_decide]; exact findM_mem.symm
    rw [e]
    have hfg := fun h => (findM_get (l := (exAll n start b).sp.ms) (m := m) h).1
    generalize exAll n start b = R at *
    generalize goodM n.pl m = g at *
    generalize findM R.sp.ms m = z at *
    have hlt := fun hz : 0 ≤ z => impl_Space_leadingTo_ok R.sp.ms R.sp.ar z (by omega) (by omega) f4.inn ⟨hz, by have := hfg hz; omega⟩
    simp only [ints, List.map_cons, List.map_nil] at hlt
    have htl := toL_len R.sp.ar R.sp.ms.length [z]
    generalize toL R.sp.ar R.sp.ms.length [z] = c at *
    have hct := slices_Contains_sl_bool_bool_ok c false (by omega)
    rw [idx_any] at hct
    by_cases ha : R.sp.ar = []
    · simp only [arcPV, ha, if_true] at hx
      simp only [ha, List.map_nil] at hlt
      refine C_impl_IsHome ?_
      simp (maxSteps := 2000000) (disch := (first | omega | (simp only [lenS]; first | done | omega))) only [ir_impl_IsHome, go_sem, Nat.reduceAdd, Nat.reduceEqDiff, Nat.reduceLeDiff, Nat.reduceSub]
      by_cases hz : 0 ≤ z
      · have hz2 := hlt hz
        simp (maxSteps := 2000000) (disch := (first | omega | (simp only [lenS]; first | done | omega))) only [go_sem, Nat.reduceAdd, Nat.reduceEqDiff, Nat.reduceLeDiff, Nat.reduceSub, hx, hg, fd, hz2, hct, hz]
        exact ⟨fun h => ⟨fun h2 => by rw [h, h2]; rfl, fun h2 => by rw [h, h2]; rfl⟩, fun h => by rw [h]; rfl⟩
      · simp (maxSteps := 2000000) (disch := (first | omega | (simp only [lenS]; first | done | omega))) only [go_sem, Nat.reduceAdd, Nat.reduceEqDiff, Nat.reduceLeDiff, Nat.reduceSub, hx, hg, fd, hz]
        exact ⟨fun h => by rw [h], fun h => by rw [h]⟩
    · simp only [arcPV, ha, if_false] at hx
      refine C_impl_IsHome ?_
      simp (maxSteps := 2000000) (disch := (first | omega | (simp only [lenS]; first | done | omega))) only [ir_impl_IsHome, go_sem, Nat.reduceAdd, Nat.reduceEqDiff, Nat.reduceLeDiff, Nat.reduceSub]
      by_cases hz : 0 ≤ z
      · have hz2 := hlt hz
        simp (maxSteps := 2000000) (disch := (first | omega | (simp only [lenS]; first | done | omega))) only [go_sem, Nat.reduceAdd, Nat.reduceEqDiff, Nat.reduceLeDiff, Nat.reduceSub, hx, hg, fd, hz2, hct, hz]
        exact ⟨fun h => ⟨fun h2 => by rw [h, h2]; rfl, fun h2 => by rw [h, h2]; rfl⟩, fun h => by rw [h]; rfl⟩
      · simp (maxSteps := 2000000) (disch := (first | omega | (simp only [lenS]; first | done | omega))) only [go_sem, Nat.reduceAdd, Nat.reduceEqDiff, Nat.reduceLeDiff, Nat.reduceSub, hx, hg, fd, hz]
        exact ⟨fun h => by rw [h], fun h => by rw [h]⟩
end Go.Proofs.Ytkkifebmicbbaaa.Pi
