/- The functions that the law reaches: what they answer. Conditions: those that each theorem names. -/
import Derived.Test.YtngjepmopahgdaaIrFnFired
import Derived.Test.YtngjepmopahgdaaPlBase
import Derived.Test.YtngjepmopahgdaaPlNet
import Derived.Test.YtngjepmopahgdaaPlFire
import Derived.Test.YtngjepmopahgdaaPlTurn
import Derived.Test.YtngjepmopahgdaaPlBack
import Derived.Test.YtngjepmopahgdaaPlFlow
namespace Go.Proofs.Ytngjepmopahgdaa.Pi
open Go
set_option linter.all false
set_option maxHeartbeats 4000000
set_option maxRecDepth 20000
theorem laws_big_ok (a b : List Int) : C f_laws_big [bys a, bys b] [] = some (.bool (decide (1048576 < (a.length : Int)) || decide (1048576 - (a.length : Int) < b.length)), []) := by
  refine C_laws_big ?_
  simp (maxSteps := 2000000) (disch := (first | omega | (simp only [List.length_append, List.length_take, List.length_replicate, List.length_map, List.length_set, List.length_cons, List.length_nil, List.length_zipWith, List.length_drop, List.length_range]; first | done | omega))) only [ir_laws_big, go_sem, Nat.reduceAdd, Nat.reduceEqDiff, Nat.reduceLeDiff, Nat.reduceSub]
  refine ⟨fun h => by simp [h], fun h => ?_⟩
  simp (maxSteps := 2000000) (disch := (first | omega | (simp only [List.length_append, List.length_take, List.length_replicate, List.length_map, List.length_set, List.length_cons, List.length_nil, List.length_zipWith, List.length_drop, List.length_range]; first | done | omega))) only [go_sem, Nat.reduceAdd, Nat.reduceEqDiff, Nat.reduceLeDiff, Nat.reduceSub]
  grind
theorem spec_l1Cur_next_ok (bs : List Int) (at_ sd : Int) (h0 : 0 ≤ at_) (h1 : at_ < 2^62) (hl : bs.length < 2^62) (hb : ∀ x ∈ bs, 0 ≤ x ∧ x < 256) :
    Lw (C f_spec_l1Cur_next [.ptr 0 0] [.box t_spec_l1Cur [bys bs, I at_, .int .u64 sd]]) fun r => ∃ x sd', r = (I x, [.box t_spec_l1Cur [bys bs, I (at_ + 1), .int .u64 sd']]) ∧ 0 ≤ x ∧ x < 256 := by
  refine E_spec_l1Cur_next ?_
  simp (maxSteps := 2000000) (disch := (first | omega | (simp only [List.length_append, List.length_take, List.length_replicate, List.length_map, List.length_set, List.length_cons, List.length_nil, List.length_zipWith, List.length_drop, List.length_range]; first | done | omega))) only [ir_spec_l1Cur_next, go_sem, Nat.reduceAdd, Nat.reduceEqDiff, Nat.reduceLeDiff, Nat.reduceSub]
  refine ⟨fun h => ?_, fun h => ?_⟩
  · have h2 : at_.toNat < bs.length := by omega
    have h3 := hb _ (List.getElem_mem h2)
    simp (maxSteps := 2000000) (disch := (first | omega | (simp only [List.length_append, List.length_take, List.length_replicate, List.length_map, List.length_set, List.length_cons, List.length_nil, List.length_zipWith, List.length_drop, List.length_range]; first | done | omega))) only [go_sem, Nat.reduceAdd, Nat.reduceEqDiff, Nat.reduceLeDiff, Nat.reduceSub]
    exact ⟨_, _, rfl, h3⟩
  · refine ⟨fun _ => ⟨_, _, rfl, by omega, by omega⟩, fun _ => ?_⟩
    generalize hw : IntKind.u64.wrap (IntKind.u64.wrap (IntKind.u64.wrap (sd * 6364136223846793005) + IntKind.u64.wrap 0) + 1442695040888963407) = w
    have hb := u64_bound (IntKind.u64.wrap (IntKind.u64.wrap (sd * 6364136223846793005) + IntKind.u64.wrap 0) + 1442695040888963407)
    rw [hw] at hb
    have h3 := and255 (x := w / 2 ^ min (Int.toNat 40) 64) (Int.ediv_nonneg hb.1 (by decide)) (Int.lt_of_le_of_lt (Int.ediv_le_self _ hb.1) hb.2)
    rw [wrap_i64 (by omega) (by omega)]
    exact ⟨_, _, rfl, h3⟩
theorem spec_l1Cur_pick_ok (n : Int) (bs : List Int) (at_ sd : Int) (h0 : 0 ≤ at_) (h1 : at_ < 2^61) (hl : bs.length < 2^62) (hb : ∀ x ∈ bs, 0 ≤ x ∧ x < 256) :
    Lw (C f_spec_l1Cur_pick [.ptr 0 0, I n] [.box t_spec_l1Cur [bys bs, I at_, .int .u64 sd]]) fun r => ∃ x at' sd', r = (I x, [.box t_spec_l1Cur [bys bs, I at', .int .u64 sd']]) ∧ at_ ≤ at' ∧ at' ≤ at_ + 2 ∧ 0 ≤ x ∧ (x = 0 ∨ x < n) := by
  refine E_spec_l1Cur_pick ?_
  simp (maxSteps := 2000000) (disch := (first | omega | (simp only [List.length_append, List.length_take, List.length_replicate, List.length_map, List.length_set, List.length_cons, List.length_nil, List.length_zipWith, List.length_drop, List.length_range]; first | done | omega))) only [ir_spec_l1Cur_pick, go_sem, Nat.reduceAdd, Nat.reduceEqDiff, Nat.reduceLeDiff, Nat.reduceSub]
  refine ⟨fun h => ⟨_, _, _, rfl, by omega, by omega, by omega, by omega⟩, fun h => ?_⟩
  obtain ⟨_, e1, x1, s1, rfl, h3, h4⟩ := spec_l1Cur_next_ok bs at_ sd h0 (by omega) hl hb
  obtain ⟨_, e2, x2, s2, rfl, h5, h6⟩ := spec_l1Cur_next_ok bs (at_ + 1) s1 (by omega) (by omega) hl hb
  simp (maxSteps := 2000000) (disch := (first | omega | (simp only [List.length_append, List.length_take, List.length_replicate, List.length_map, List.length_set, List.length_cons, List.length_nil, List.length_zipWith, List.length_drop, List.length_range]; first | done | omega))) only [go_sem, Nat.reduceAdd, Nat.reduceEqDiff, Nat.reduceLeDiff, Nat.reduceSub, e1, e2]
  refine ⟨fun _ => ⟨_, _, _, rfl, by omega, by omega, Int.tmod_nonneg _ (by omega), .inr (Int.tmod_lt_of_pos _ (by omega))⟩, fun _ => ⟨_, _, _, rfl, by omega, by omega, Int.tmod_nonneg _ (by omega), .inr (Int.tmod_lt_of_pos _ (by omega))⟩⟩
theorem spec_l1Put_ok (l : List Int) (x : Int) (hl : l.length < 2^30) : Lw (C f_spec_l1Put [.ref 0 1 0 l.length, I x] [.row t_int true 1 (l.map I)]) fun r => r = (.un t_int true 1 ((putI l x).map I), [.row t_int true 1 (l.map I)]) ∨ (r = (.ref 0 1 0 l.length, [.row t_int true 1 (l.map I)]) ∧ putI l x = l) := by
  refine E_spec_l1Put ?_
  simp (maxSteps := 2000000) (disch := (first | omega | (simp only [List.length_append, List.length_take, List.length_replicate, List.length_map, List.length_set, List.length_cons, List.length_nil, List.length_zipWith, List.length_drop, List.length_range]; first | done | omega))) only [ir_spec_l1Put, go_sem, Nat.reduceAdd, Nat.reduceEqDiff, Nat.reduceLeDiff, Nat.reduceSub]
  refine W_for l.length (fun k s => s = ⟨[.ref 0 1 0 l.length, I x, .any, I k, .any, .any, .any], [.row t_int true 1 (l.map I)]⟩ ∧ (l.take k).all (fun y => decide (y < x)) = true) ?_ ?_ ?_
  · simp (maxSteps := 2000000) (disch := (first | omega | (simp only [List.length_append, List.length_take, List.length_replicate, List.length_map, List.length_set, List.length_cons, List.length_nil, List.length_zipWith, List.length_drop, List.length_range]; first | done | omega))) only [go_sem, Nat.reduceAdd, Nat.reduceEqDiff, Nat.reduceLeDiff, Nat.reduceSub]
    rfl
  · rintro k s hk ⟨rfl, hall⟩
    simp (maxSteps := 2000000) (disch := (first | omega | (simp only [List.length_append, List.length_take, List.length_replicate, List.length_map, List.length_set, List.length_cons, List.length_nil, List.length_zipWith, List.length_drop, List.length_range]; first | done | omega))) only [go_sem, Nat.reduceAdd, Nat.reduceEqDiff, Nat.reduceLeDiff, Nat.reduceSub]
    refine ⟨fun h => ⟨rfl, all_take hk hall (by simpa using h)⟩, fun h => ⟨fun h2 => .inr (putI_eq hk hall h2), fun h2 => .inl ?_⟩⟩
    rw [putI_gt hall (fun _ => by omega) (by omega)]
    simp
  · rintro s ⟨rfl, hall⟩
    simp (maxSteps := 2000000) (disch := (first | omega | (simp only [List.length_append, List.length_take, List.length_replicate, List.length_map, List.length_set, List.length_cons, List.length_nil, List.length_zipWith, List.length_drop, List.length_range]; first | done | omega))) only [go_sem, Nat.reduceAdd, Nat.reduceEqDiff, Nat.reduceLeDiff, Nat.reduceSub]
    have e := putI_gt hall (fun h => by omega) (by omega)
    refine ⟨fun h => .inl ?_, fun h => .inl ?_⟩
    · rw [e]; simp
    · have : l = [] := List.eq_nil_of_length_eq_zero (by omega)
      subst this; rfl
theorem spec_l1Cur_someOf_ok (n least most : Int) (hlm : 0 ≤ least ∧ least ≤ most ∧ most ≤ 20) (bs : List Int) (at_ sd : Int) (h0 : 0 ≤ at_) (h1 : at_ < 2^60) (hl : bs.length < 2^62) (hb : ∀ x ∈ bs, 0 ≤ x ∧ x < 256) :
    Lw (C f_spec_l1Cur_someOf [.ptr 0 0, I n, I least, I most] [.box t_spec_l1Cur [bys bs, I at_, .int .u64 sd]]) fun r => ∃ (l : List Int) (at' sd' : Int), r = (.un t_int true 1 (l.map I), [.box t_spec_l1Cur [bys bs, I at', .int .u64 sd']]) ∧ at_ ≤ at' ∧ at' ≤ at_ + 50 ∧ l.length ≤ 20 ∧ ∀ x ∈ l, 0 ≤ x ∧ (x = 0 ∨ x < n) := by
  refine E_spec_l1Cur_someOf ?_
  simp (maxSteps := 2000000) (disch := (first | omega | (simp only [List.length_append, List.length_take, List.length_replicate, List.length_map, List.length_set, List.length_cons, List.length_nil, List.length_zipWith, List.length_drop, List.length_range]; first | done | omega))) only [ir_spec_l1Cur_someOf, go_sem, Nat.reduceAdd, Nat.reduceEqDiff, Nat.reduceLeDiff, Nat.reduceSub]
  obtain ⟨_, e1, x1, a1, s1, rfl, h3, h4, h5, h6⟩ := spec_l1Cur_pick_ok (most - least + 1) bs at_ sd h0 (by omega) hl hb
  simp (maxSteps := 2000000) (disch := (first | omega | (simp only [List.length_append, List.length_take, List.length_replicate, List.length_map, List.length_set, List.length_cons, List.length_nil, List.length_zipWith, List.length_drop, List.length_range]; first | done | omega))) only [go_sem, Nat.reduceAdd, Nat.reduceEqDiff, Nat.reduceLeDiff, Nat.reduceSub, e1]
  refine W_for (least + x1).toNat (fun k s => ∃ (l : List Int) (at' sd' : Int), s = ⟨[.ptr 0 0, I n, .any, .any, .any, .ref 1 1 0 l.length, I (least + x1 - k), .any], [.box t_spec_l1Cur [bys bs, I at', .int .u64 sd'], .row t_int true 1 (l.map I)]⟩ ∧ l.length ≤ k ∧ at_ ≤ at' ∧ at' ≤ at_ + 2 + 2 * k ∧ ∀ x ∈ l, 0 ≤ x ∧ (x = 0 ∨ x < n)) ?_ ?_ ?_
  · refine ⟨[], a1, s1, ?_, by simp, by omega, by omega, by simp⟩
    simp (maxSteps := 2000000) (disch := (first | omega | (simp only [List.length_append, List.length_take, List.length_replicate, List.length_map, List.length_set, List.length_cons, List.length_nil, List.length_zipWith, List.length_drop, List.length_range]; first | done | omega))) only [go_sem, Nat.reduceAdd, Nat.reduceEqDiff, Nat.reduceLeDiff, Nat.reduceSub]
    rw [show least + x1 - ((0 : Nat) : Int) = least + x1 by omega]
  · rintro k s hk ⟨l, a, sd, rfl, h7, h8, h9, h10⟩
    obtain ⟨_, e2, x2, a2, s2, rfl, h11, h12, h13, h14⟩ := spec_l1Cur_pick_ok n bs a sd (by omega) (by omega) hl hb
    have e : least + x1 - ((k + 1 : Nat) : Int) = least + x1 - k - 1 := by omega
    obtain ⟨_, e3, rfl | ⟨rfl, e4⟩⟩ := spec_l1Put_ok l x2 (by omega)
    · simp (maxSteps := 2000000) (disch := (first | omega | (simp only [List.length_append, List.length_take, List.length_replicate, List.length_map, List.length_set, List.length_cons, List.length_nil, List.length_zipWith, List.length_drop, List.length_range]; first | done | omega))) only [go_sem, Nat.reduceAdd, Nat.reduceEqDiff, Nat.reduceLeDiff, Nat.reduceSub, e2, e3]
      have := putI_len l x2
      refine ⟨putI l x2, a2, s2, by rw [e], by omega, by omega, by omega, fun y hy => ?_⟩
      rcases putI_mem hy with hy | rfl
      · exact h10 y hy
      · exact ⟨h13, h14⟩
    · simp (maxSteps := 2000000) (disch := (first | omega | (simp only [List.length_append, List.length_take, List.length_replicate, List.length_map, List.length_set, List.length_cons, List.length_nil, List.length_zipWith, List.length_drop, List.length_range]; first | done | omega))) only [go_sem, Nat.reduceAdd, Nat.reduceEqDiff, Nat.reduceLeDiff, Nat.reduceSub, e2, e3]
      exact ⟨l, a2, s2, by rw [e], by omega, by omega, by omega, h10⟩
  · rintro s ⟨l, a, sd, rfl, h7, h8, h9, h10⟩
    simp (maxSteps := 2000000) (disch := (first | omega | (simp only [List.length_append, List.length_take, List.length_replicate, List.length_map, List.length_set, List.length_cons, List.length_nil, List.length_zipWith, List.length_drop, List.length_range]; first | done | omega))) only [go_sem, Nat.reduceAdd, Nat.reduceEqDiff, Nat.reduceLeDiff, Nat.reduceSub]
    exact ⟨l, a, sd, rfl, by omega, by omega, by omega, h10⟩
theorem spec_l1Cur_one_ok (n : Int) (bs : List Int) (at_ sd : Int) (h0 : 0 ≤ at_) (h1 : at_ < 2^61) (hl : bs.length < 2^62) (hb : ∀ x ∈ bs, 0 ≤ x ∧ x < 256) :
    Lw (C f_spec_l1Cur_one [.ptr 0 0, I n] [.box t_spec_l1Cur [bys bs, I at_, .int .u64 sd]]) fun r => ∃ x at' sd', r = (.bool x, [.box t_spec_l1Cur [bys bs, I at', .int .u64 sd']]) ∧ at_ ≤ at' ∧ at' ≤ at_ + 2 := by
  refine E_spec_l1Cur_one ?_
  simp (maxSteps := 2000000) (disch := (first | omega | (simp only [List.length_append, List.length_take, List.length_replicate, List.length_map, List.length_set, List.length_cons, List.length_nil, List.length_zipWith, List.length_drop, List.length_range]; first | done | omega))) only [ir_spec_l1Cur_one, go_sem, Nat.reduceAdd, Nat.reduceEqDiff, Nat.reduceLeDiff, Nat.reduceSub]
  obtain ⟨_, e1, x1, a1, s1, rfl, h3, h4, h5⟩ := spec_l1Cur_pick_ok n bs at_ sd h0 h1 hl hb
  simp (maxSteps := 2000000) (disch := (first | omega | (simp only [List.length_append, List.length_take, List.length_replicate, List.length_map, List.length_set, List.length_cons, List.length_nil, List.length_zipWith, List.length_drop, List.length_range]; first | done | omega))) only [go_sem, Nat.reduceAdd, Nat.reduceEqDiff, Nat.reduceLeDiff, Nat.reduceSub, e1]
  exact ⟨fun _ => ⟨_, _, _, rfl, h3, h4⟩, fun _ => ⟨_, _, _, rfl, h3, h4⟩⟩
theorem spec_l1Cur_among_ok (l : List Int) (t : TypeId) (hne : 0 < l.length) (hln : l.length < 2^30) (bs : List Int) (at_ sd : Int) (h0 : 0 ≤ at_) (h1 : at_ < 2^61) (hl : bs.length < 2^62) (hb : ∀ x ∈ bs, 0 ≤ x ∧ x < 256) :
    Lw (C f_spec_l1Cur_among [.ptr 0 0, .ref 1 1 0 l.length] [.box t_spec_l1Cur [bys bs, I at_, .int .u64 sd], .row t true 1 (l.map I)]) fun r => ∃ x at' sd', r = (I x, [.box t_spec_l1Cur [bys bs, I at', .int .u64 sd'], .row t true 1 (l.map I)]) ∧ at_ ≤ at' ∧ at' ≤ at_ + 2 ∧ x ∈ l := by
  refine E_spec_l1Cur_among ?_
  simp (maxSteps := 2000000) (disch := (first | omega | (simp only [List.length_append, List.length_take, List.length_replicate, List.length_map, List.length_set, List.length_cons, List.length_nil, List.length_zipWith, List.length_drop, List.length_range]; first | done | omega))) only [ir_spec_l1Cur_among, go_sem, Nat.reduceAdd, Nat.reduceEqDiff, Nat.reduceLeDiff, Nat.reduceSub]
  obtain ⟨_, e1, x1, a1, s1, rfl, h3, h4, h5, h6⟩ := spec_l1Cur_pick_ok l.length bs at_ sd h0 h1 hl hb
  have h7 : x1.toNat < l.length := by omega
  simp (maxSteps := 2000000) (disch := (first | omega | (simp only [List.length_append, List.length_take, List.length_replicate, List.length_map, List.length_set, List.length_cons, List.length_nil, List.length_zipWith, List.length_drop, List.length_range]; first | done | omega))) only [go_sem, Nat.reduceAdd, Nat.reduceEqDiff, Nat.reduceLeDiff, Nat.reduceSub, e1]
  exact ⟨_, _, _, rfl, h3, h4, List.getElem_mem h7⟩
theorem spec_l1Cur_net_ok (rs : Bool) (bs : List Int) (at_ sd : Int) (h0 : 0 ≤ at_) (h1 : at_ < 2^59) (hl : bs.length < 2^62) (hb : ∀ x ∈ bs, 0 ≤ x ∧ x < 256) :
    Lw (C f_spec_l1Cur_net [.ptr 0 0, .bool rs] [.box t_spec_l1Cur [bys bs, I at_, .int .u64 sd]]) fun r => ∃ (n : Net) (at' sd' : Int), r = (.agg [I n.pl, .un t_impl_Trans false 3 (n.tr.map encT)], [.box t_spec_l1Cur [bys bs, I at', .int .u64 sd']]) ∧ at_ ≤ at' ∧ at' ≤ at_ + 1000 ∧ smNet n := by
  refine E_spec_l1Cur_net ?_
  simp (maxSteps := 2000000) (disch := (first | omega | (simp only [List.length_append, List.length_take, List.length_replicate, List.length_map, List.length_set, List.length_cons, List.length_nil, List.length_zipWith, List.length_drop, List.length_range]; first | done | omega))) only [ir_spec_l1Cur_net, go_sem, Nat.reduceAdd, Nat.reduceEqDiff, Nat.reduceLeDiff, Nat.reduceSub]
  obtain ⟨_, e1, x1, a1, s1, rfl, h3, h4, h5, h6⟩ := spec_l1Cur_pick_ok 4 bs at_ sd h0 (by omega) hl hb
  simp (maxSteps := 2000000) (disch := (first | omega | (simp only [List.length_append, List.length_take, List.length_replicate, List.length_map, List.length_set, List.length_cons, List.length_nil, List.length_zipWith, List.length_drop, List.length_range]; first | done | omega))) only [go_sem, Nat.reduceAdd, Nat.reduceEqDiff, Nat.reduceLeDiff, Nat.reduceSub, e1]
  obtain ⟨_, e2, x2, a2, s2, rfl, h7, h8, h9, h10⟩ := spec_l1Cur_pick_ok 5 bs a1 s1 (by omega) (by omega) hl hb
  simp (maxSteps := 2000000) (disch := (first | omega | (simp only [List.length_append, List.length_take, List.length_replicate, List.length_map, List.length_set, List.length_cons, List.length_nil, List.length_zipWith, List.length_drop, List.length_range]; first | done | omega))) only [go_sem, Nat.reduceAdd, Nat.reduceEqDiff, Nat.reduceLeDiff, Nat.reduceSub, e2]
  refine W_for (1 + x2).toNat (fun k s => ∃ (tr : List Tr) (at' sd' : Int), (s = ⟨[.ptr 0 0, .bool rs, .ptr 1 0, .ptr 2 0, I (1 + x2 - k), .any, .any, .any, .any, .any, .any, .any], [.box t_spec_l1Cur [bys bs, I at', .int .u64 sd'], .box t_impl_Net [I 0, .nil false 3], .box t_impl_Net [I (2 + x1), .ref 3 3 0 tr.length], .row t_impl_Trans false 3 (tr.map encT)]⟩ ∨ (s = ⟨[.ptr 0 0, .bool rs, .ptr 1 0, .ptr 2 0, I (1 + x2 - k), .any, .any, .any, .any, .any, .any, .any], [.box t_spec_l1Cur [bys bs, I at', .int .u64 sd'], .box t_impl_Net [I 0, .nil false 3], .box t_impl_Net [I (2 + x1), .nil false 3]]⟩ ∧ tr = [])) ∧ tr.length = k ∧ at_ ≤ at' ∧ at' ≤ at_ + 10 + 152 * k ∧ ∀ t ∈ tr, t.inn.length ≤ 20 ∧ t.out.length ≤ 20 ∧ t.rst.length ≤ 20) ?_ ?_ ?_
  · refine ⟨[], a2, s2, .inr ⟨?_, rfl⟩, rfl, by omega, by omega, by simp⟩
    simp (maxSteps := 2000000) (disch := (first | omega | (simp only [List.length_append, List.length_take, List.length_replicate, List.length_map, List.length_set, List.length_cons, List.length_nil, List.length_zipWith, List.length_drop, List.length_range]; first | done | omega))) only [go_sem, Nat.reduceAdd, Nat.reduceEqDiff, Nat.reduceLeDiff, Nat.reduceSub]
    rw [show 1 + x2 - ((0 : Nat) : Int) = 1 + x2 by omega]
  · rintro k s hk ⟨tr, a, sd, hs, rfl, h12, h13, h14⟩
    obtain ⟨_, f1, l1, a3, s3, rfl, g1, g2, g3, g4⟩ := spec_l1Cur_someOf_ok (2 + x1) 1 2 (by omega) bs a sd (by omega) (by omega) hl hb
    obtain ⟨_, f2, l2, a4, s4, rfl, g5, g6, g7, g8⟩ := spec_l1Cur_someOf_ok (2 + x1) 0 2 (by omega) bs a3 s3 (by omega) (by omega) hl hb
    obtain ⟨_, f3, b5, a5, s5, rfl, g9, g10⟩ := spec_l1Cur_one_ok 5 bs a4 s4 (by omega) (by omega) hl hb
    obtain ⟨_, f4, l6, a6, s6, rfl, g11, g12, g13, g14⟩ := spec_l1Cur_someOf_ok (2 + x1) 1 2 (by omega) bs a5 s5 (by omega) (by omega) hl hb
    have e : 1 + x2 - ((tr.length + 1 : Nat) : Int) = 1 + x2 - tr.length - 1 := by omega
    rcases hs with rfl | ⟨rfl, rfl⟩
    · simp (maxSteps := 2000000) (disch := (first | omega | (simp only [List.length_append, List.length_take, List.length_replicate, List.length_map, List.length_set, List.length_cons, List.length_nil, List.length_zipWith, List.length_drop, List.length_range]; first | done | omega))) only [go_sem, Nat.reduceAdd, Nat.reduceEqDiff, Nat.reduceLeDiff, Nat.reduceSub, f1, f2, f3, f4]
      have hs : ∀ (t : Tr), t.inn.length ≤ 20 ∧ t.out.length ≤ 20 ∧ t.rst.length ≤ 20 → ∀ u ∈ tr ++ [t], u.inn.length ≤ 20 ∧ u.out.length ≤ 20 ∧ u.rst.length ≤ 20 := by
        intro t ht u hu
        rcases List.mem_append.1 hu with hu | hu
        · exact h14 u hu
        · simp only [List.mem_singleton] at hu; subst hu; exact ht
      refine ⟨fun _ => ⟨fun _ => ⟨tr ++ [⟨l1, l2, l6⟩], a6, s6, .inl ?_, by simp, by omega, by simp at h13 ⊢; omega, hs _ ⟨g3, g7, g13⟩⟩, fun _ => ⟨tr ++ [⟨l1, l2, []⟩], a5, s5, .inl ?_, by simp, by omega, by simp at h13 ⊢; omega, hs _ ⟨g3, g7, by simp⟩⟩⟩, fun _ => ⟨tr ++ [⟨l1, l2, []⟩], a4, s4, .inl ?_, by simp, by omega, by simp at h13 ⊢; omega, hs _ ⟨g3, g7, by simp⟩⟩⟩ <;> (rw [e]; simp)
    · simp (maxSteps := 2000000) (disch := (first | omega | (simp only [List.length_append, List.length_take, List.length_replicate, List.length_map, List.length_set, List.length_cons, List.length_nil, List.length_zipWith, List.length_drop, List.length_range]; first | done | omega))) only [go_sem, Nat.reduceAdd, Nat.reduceEqDiff, Nat.reduceLeDiff, Nat.reduceSub, f1, f2, f3, f4]
      have hs : ∀ (t : Tr), t.inn.length ≤ 20 ∧ t.out.length ≤ 20 ∧ t.rst.length ≤ 20 → ∀ u ∈ ([] : List Tr) ++ [t], u.inn.length ≤ 20 ∧ u.out.length ≤ 20 ∧ u.rst.length ≤ 20 := by
        intro t ht u hu
        rcases List.mem_append.1 hu with hu | hu
        · exact h14 u hu
        · simp only [List.mem_singleton] at hu; subst hu; exact ht
      refine ⟨fun _ => ⟨fun _ => ⟨([] : List Tr) ++ [⟨l1, l2, l6⟩], a6, s6, .inl ?_, by simp, by omega, by simp at h13 ⊢; omega, hs _ ⟨g3, g7, g13⟩⟩, fun _ => ⟨([] : List Tr) ++ [⟨l1, l2, []⟩], a5, s5, .inl ?_, by simp, by omega, by simp at h13 ⊢; omega, hs _ ⟨g3, g7, by simp⟩⟩⟩, fun _ => ⟨([] : List Tr) ++ [⟨l1, l2, []⟩], a4, s4, .inl ?_, by simp, by omega, by simp at h13 ⊢; omega, hs _ ⟨g3, g7, by simp⟩⟩⟩ <;> (simp <;> omega)
  · rintro s ⟨tr, a, sd, hs, h11, h12, h13, h14⟩
    have hne : 0 < tr.length := by omega
    rcases hs with rfl | ⟨rfl, rfl⟩
    · obtain ⟨_, f1, x7, a7, s7, rfl, g1, g2, g3, g4⟩ := spec_l1Cur_pick_ok 40 bs a sd (by omega) (by omega) hl hb
      obtain ⟨_, f2, x8, a8, s8, rfl, g5, g6, g7⟩ := spec_l1Cur_among_ok [0, 1, 17] t_int (by decide) (by decide) bs a7 s7 (by omega) (by omega) hl hb
      simp only [go_sem, Nat.reduceAdd] at f2
      simp (maxSteps := 2000000) (disch := (first | omega | (simp only [List.length_append, List.length_take, List.length_replicate, List.length_map, List.length_set, List.length_cons, List.length_nil, List.length_zipWith, List.length_drop, List.length_range]; first | done | omega))) only [go_sem, Nat.reduceAdd, Nat.reduceEqDiff, Nat.reduceLeDiff, Nat.reduceSub, f1, f2]
      simp only [List.mem_cons, List.not_mem_nil, or_false] at g7
      have h15 := h14 tr[0] (List.getElem_mem hne)
      have hs : ∀ (t : Tr), t.inn.length ≤ 20 ∧ t.out.length ≤ 20 ∧ t.rst.length ≤ 20 → ∀ u ∈ tr.set 0 t, u.inn.length ≤ 20 ∧ u.out.length ≤ 20 ∧ u.rst.length ≤ 20 := by
        intro t ht u hu
        rcases List.mem_or_eq_of_mem_set hu with hu | rfl
        · exact h14 u hu
        · exact ht
      refine ⟨fun _ => ⟨⟨x8, tr⟩, a8, s8, rfl, by omega, by omega, by simp only [smNet]; omega, by simp only; omega, h14⟩, fun _ => ⟨fun _ => ?_, fun _ => ⟨fun _ => ?_, fun _ => ?_⟩⟩⟩
      · exact ⟨⟨2 + x1, tr.set 0 ⟨[], tr[0].out, tr[0].rst⟩⟩, a7, s7, by simp [List.map_set]; rfl, by omega, by omega, by simp; omega, by simp only; omega, hs _ ⟨by simp, h15.2.1, h15.2.2⟩⟩
      · exact ⟨⟨2 + x1, tr.set 0 ⟨tr[0].inn, [1, 0], tr[0].rst⟩⟩, a7, s7, by simp [List.map_set]; rfl, by omega, by omega, by simp; omega, by simp only; omega, hs _ ⟨h15.1, by simp, h15.2.2⟩⟩
      · exact ⟨⟨2 + x1, tr⟩, a7, s7, rfl, by omega, by omega, by simp only; omega, by simp only; omega, h14⟩
    · simp at hne
theorem spec_l1Most_ok (a b : Int) : C f_spec_l1Most [I a, I b] [] = some (I (max a b), []) := by
  refine C_spec_l1Most ?_
  simp (maxSteps := 2000000) (disch := (first | omega | (simp only [List.length_append, List.length_take, List.length_replicate, List.length_map, List.length_set, List.length_cons, List.length_nil, List.length_zipWith, List.length_drop, List.length_range]; first | done | omega))) only [ir_spec_l1Most, go_sem, Nat.reduceAdd, Nat.reduceEqDiff, Nat.reduceLeDiff, Nat.reduceSub]
  exact ⟨fun h => by rw [Int.max_eq_left (by omega)], fun h => by rw [Int.max_eq_right (by omega)]⟩
theorem spec_l1Cur_markOf_ok (n : Net) (hn : n.pl ≤ 20) (bs : List Int) (at_ sd : Int) (h0 : 0 ≤ at_) (h1 : at_ < 2^59) (hl : bs.length < 2^62) (hb : ∀ x ∈ bs, 0 ≤ x ∧ x < 256) :
    Lw (C f_spec_l1Cur_markOf [.ptr 0 0, .agg [I n.pl, .ref 1 3 0 n.tr.length]] [.box t_spec_l1Cur [bys bs, I at_, .int .u64 sd], .row t_impl_Trans false 3 (n.tr.map encT)]) fun r => ∃ (l : List Int) (at' sd' : Int), r = (.un t_int true 1 (l.map I), [.box t_spec_l1Cur [bys bs, I at', .int .u64 sd'], .row t_impl_Trans false 3 (n.tr.map encT)]) ∧ at_ ≤ at' ∧ at' ≤ at_ + 100 ∧ l.length ≤ 20 ∧ ∀ x ∈ l, -1 ≤ x ∧ x ≤ 51 := by
  refine E_spec_l1Cur_markOf ?_
  simp (maxSteps := 2000000) (disch := (first | omega | (simp only [List.length_append, List.length_take, List.length_replicate, List.length_map, List.length_set, List.length_cons, List.length_nil, List.length_zipWith, List.length_drop, List.length_range]; first | done | omega))) only [ir_spec_l1Cur_markOf, go_sem, Nat.reduceAdd, Nat.reduceEqDiff, Nat.reduceLeDiff, Nat.reduceSub]
  refine W_for n.pl.toNat (fun k s => ∃ (l : List Int) (at' sd' : Int), s = ⟨[.ptr 0 0, .any, .ptr 2 0, .any, .ref 3 1 0 l.length, I k, .any, .any], [.box t_spec_l1Cur [bys bs, I at', .int .u64 sd'], .row t_impl_Trans false 3 (n.tr.map encT), .box t_impl_Net [I n.pl, .ref 1 3 0 n.tr.length], .row t_int true 1 (l.map I)]⟩ ∧ l.length = k ∧ at_ ≤ at' ∧ at' ≤ at_ + 2 * k ∧ ∀ x ∈ l, 0 ≤ x ∧ x ≤ 3) ?_ ?_ ?_
  · refine ⟨[], at_, sd, ?_, rfl, by omega, by omega, by simp⟩
    simp (maxSteps := 2000000) (disch := (first | omega | (simp only [List.length_append, List.length_take, List.length_replicate, List.length_map, List.length_set, List.length_cons, List.length_nil, List.length_zipWith, List.length_drop, List.length_range]; first | done | omega))) only [go_sem, Nat.reduceAdd, Nat.reduceEqDiff, Nat.reduceLeDiff, Nat.reduceSub]
    rfl
  · rintro k s hk ⟨l, a, sd, rfl, rfl, h8, h9, h10⟩
    obtain ⟨_, e2, x2, a2, s2, rfl, h11, h12, h13, h14⟩ := spec_l1Cur_pick_ok 4 bs a sd (by omega) (by omega) hl hb
    simp (maxSteps := 2000000) (disch := (first | omega | (simp only [List.length_append, List.length_take, List.length_replicate, List.length_map, List.length_set, List.length_cons, List.length_nil, List.length_zipWith, List.length_drop, List.length_range]; first | done | omega))) only [go_sem, Nat.reduceAdd, Nat.reduceEqDiff, Nat.reduceLeDiff, Nat.reduceSub, e2, spec_l1Most_ok]
    refine ⟨l ++ [max 0 (x2 - 1)], a2, s2, by rw [List.map_append]; simp, by simp, by omega, by omega, ?_⟩
    intro x hx
    rcases List.mem_append.1 hx with hx | hx
    · exact h10 x hx
    · simp only [List.mem_cons, List.not_mem_nil, or_false] at hx; omega
  · rintro s ⟨l, a, sd, rfl, h7, h8, h9, h10⟩
    obtain ⟨_, e1, x1, a1, s1, rfl, h5, h6⟩ := spec_l1Cur_one_ok 30 bs a sd (by omega) (by omega) hl hb
    simp (maxSteps := 2000000) (disch := (first | omega | (simp only [List.length_append, List.length_take, List.length_replicate, List.length_map, List.length_set, List.length_cons, List.length_nil, List.length_zipWith, List.length_drop, List.length_range]; first | done | omega))) only [go_sem, Nat.reduceAdd, Nat.reduceEqDiff, Nat.reduceLeDiff, Nat.reduceSub, e1]
    obtain ⟨_, e3, x3, a3, s3, rfl, h11, h12, h13⟩ := spec_l1Cur_among_ok [50, 51, -1] t_int (by decide) (by decide) bs a1 s1 (by omega) (by omega) hl hb
    simp only [go_sem, Nat.reduceAdd] at e3
    simp (maxSteps := 2000000) (disch := (first | omega | (simp only [List.length_append, List.length_take, List.length_replicate, List.length_map, List.length_set, List.length_cons, List.length_nil, List.length_zipWith, List.length_drop, List.length_range]; first | done | omega))) only [go_sem, Nat.reduceAdd, Nat.reduceEqDiff, Nat.reduceLeDiff, Nat.reduceSub, e3]
    simp only [List.mem_cons, List.not_mem_nil, or_false] at h13
    refine ⟨fun h => ⟨fun h2 => ?_, fun h2 => ?_⟩, fun h => ?_⟩
    · simp (maxSteps := 2000000) (disch := (first | omega | (simp only [List.length_append, List.length_take, List.length_replicate, List.length_map, List.length_set, List.length_cons, List.length_nil, List.length_zipWith, List.length_drop, List.length_range]; first | done | omega))) only [go_sem, Nat.reduceAdd, Nat.reduceEqDiff, Nat.reduceLeDiff, Nat.reduceSub]
      refine ⟨l.set 0 x3, a3, s3, rfl, by omega, by omega, by simp; omega, fun x hx => ?_⟩
      rcases List.mem_or_eq_of_mem_set hx with hx | rfl
      · have := h10 x hx; omega
      · omega
    · exact ⟨l, a1, s1, rfl, by omega, by omega, by omega, fun x hx => by have := h10 x hx; omega⟩
    · exact ⟨l, a1, s1, rfl, by omega, by omega, by omega, fun x hx => by have := h10 x hx; omega⟩
theorem spec_l1Own_ok (l : List Int) (h : l.length < 2^36) : C f_spec_l1Own [ints l] [] = some (.un t_int true 1 (l.map I), []) := by
  refine C_spec_l1Own ?_
  simp (maxSteps := 2000000) (disch := (first | omega | (simp only [List.length_append, List.length_take, List.length_replicate, List.length_map, List.length_set, List.length_cons, List.length_nil, List.length_zipWith, List.length_drop, List.length_range]; first | done | omega))) only [ir_spec_l1Own, go_sem, Nat.reduceAdd, Nat.reduceEqDiff, Nat.reduceLeDiff, Nat.reduceSub]
theorem spec_l1In_ok (n lo hi : Int) : C f_spec_l1In [I n, I lo, I hi] [] = some (.bool (inB lo hi n), []) := by
  refine C_spec_l1In ?_
  simp (maxSteps := 2000000) (disch := (first | omega | (simp only [List.length_append, List.length_take, List.length_replicate, List.length_map, List.length_set, List.length_cons, List.length_nil, List.length_zipWith, List.length_drop, List.length_range]; first | done | omega))) only [ir_spec_l1In, go_sem, Nat.reduceAdd, Nat.reduceEqDiff, Nat.reduceLeDiff, Nat.reduceSub]
  unfold inB; grind
theorem spec_l1Places_ok (n : Int) : C f_spec_l1Places [I n] [] = some (.bool (inB 1 16 n), []) := by
  refine C_spec_l1Places ?_
  simp (maxSteps := 2000000) (disch := (first | omega | (simp only [List.length_append, List.length_take, List.length_replicate, List.length_map, List.length_set, List.length_cons, List.length_nil, List.length_zipWith, List.length_drop, List.length_range]; first | done | omega))) only [ir_spec_l1Places, go_sem, Nat.reduceAdd, Nat.reduceEqDiff, Nat.reduceLeDiff, Nat.reduceSub]
  simp (maxSteps := 2000000) (disch := (first | omega | (simp only [List.length_append, List.length_take, List.length_replicate, List.length_map, List.length_set, List.length_cons, List.length_nil, List.length_zipWith, List.length_drop, List.length_range]; first | done | omega))) only [go_sem, Nat.reduceAdd, Nat.reduceEqDiff, Nat.reduceLeDiff, Nat.reduceSub, spec_l1In_ok]
  grind
theorem spec_l1Rising_ok (l : List Int) (lo hi : Int) (hl : l.length < 2^62) : C f_spec_l1Rising [ints l, I lo, I hi] [] = some (.bool (incr l && l.all (inB lo hi)), []) := by
  refine C_spec_l1Rising ?_
  simp (maxSteps := 2000000) (disch := (first | omega | (simp only [List.length_append, List.length_take, List.length_replicate, List.length_map, List.length_set, List.length_cons, List.length_nil, List.length_zipWith, List.length_drop, List.length_range]; first | done | omega))) only [ir_spec_l1Rising, go_sem, Nat.reduceAdd, Nat.reduceEqDiff, Nat.reduceLeDiff, Nat.reduceSub]
  refine W_for l.length (fun k s => s = ⟨[ints l, I lo, I hi, .any, .any, .any, ints l, I l.length, I k, .any, .any], []⟩ ∧ (l.take k).Pairwise (· < ·) ∧ (l.take k).all (inB lo hi) = true) ?_ ?_ ?_
  · simp (maxSteps := 2000000) (disch := (first | omega | (simp only [List.length_append, List.length_take, List.length_replicate, List.length_map, List.length_set, List.length_cons, List.length_nil, List.length_zipWith, List.length_drop, List.length_range]; first | done | omega))) only [go_sem, Nat.reduceAdd, Nat.reduceEqDiff, Nat.reduceLeDiff, Nat.reduceSub]
    exact ⟨rfl, List.Pairwise.nil⟩
  · rintro k s hk ⟨rfl, hp, hall⟩
    simp (maxSteps := 2000000) (disch := (first | omega | (simp only [List.length_append, List.length_take, List.length_replicate, List.length_map, List.length_set, List.length_cons, List.length_nil, List.length_zipWith, List.length_drop, List.length_range]; first | done | omega))) only [go_sem, Nat.reduceAdd, Nat.reduceEqDiff, Nat.reduceLeDiff, Nat.reduceSub, spec_l1In_ok]
    refine ⟨fun h => ⟨fun h2 => ?_, fun h2 => ?_⟩, fun h => by rw [all_false hk h]; simp⟩
    · simp (maxSteps := 2000000) (disch := (first | omega | (simp only [List.length_append, List.length_take, List.length_replicate, List.length_map, List.length_set, List.length_cons, List.length_nil, List.length_zipWith, List.length_drop, List.length_range]; first | done | omega))) only [go_sem, Nat.reduceAdd, Nat.reduceEqDiff, Nat.reduceLeDiff, Nat.reduceSub]
      obtain ⟨j, rfl⟩ : ∃ j, k = j + 1 := ⟨k - 1, by omega⟩
      have e : (((j + 1 : Nat) : Int) - 1).toNat = j := by omega
      refine ⟨fun h3 => ?_, fun h3 => ⟨rfl, ?_, all_take hk hall h⟩⟩
      · rw [incr_not hk (by simp only [e] at h3; omega)]; rfl
      · exact incr_step hk hp (by simp only [e] at h3; omega)
    · obtain rfl : k = 0 := by omega
      exact ⟨rfl, incr_one, all_take hk hall h⟩
  · rintro s ⟨rfl, hp, hall⟩
    simp (maxSteps := 2000000) (disch := (first | omega | (simp only [List.length_append, List.length_take, List.length_replicate, List.length_map, List.length_set, List.length_cons, List.length_nil, List.length_zipWith, List.length_drop, List.length_range]; first | done | omega))) only [go_sem, Nat.reduceAdd, Nat.reduceEqDiff, Nat.reduceLeDiff, Nat.reduceSub]
    rw [List.take_length] at hp hall
    rw [hall, show incr l = true by simpa [incr] using hp]
    rfl
theorem spec_GoodNet_ok (n : Net) (hn : smN n) : C f_spec_GoodNet [encN n] [] = some (.bool (goodN n), []) := by
  have h0 := hn.1
  refine C_spec_GoodNet ?_
  simp (maxSteps := 2000000) (disch := (first | omega | (simp only [List.length_append, List.length_take, List.length_replicate, List.length_map, List.length_set, List.length_cons, List.length_nil, List.length_zipWith, List.length_drop, List.length_range]; first | done | omega))) only [ir_spec_GoodNet, go_sem, Nat.reduceAdd, Nat.reduceEqDiff, Nat.reduceLeDiff, Nat.reduceSub]
  simp (maxSteps := 2000000) (disch := (first | omega | (simp only [List.length_append, List.length_take, List.length_replicate, List.length_map, List.length_set, List.length_cons, List.length_nil, List.length_zipWith, List.length_drop, List.length_range]; first | done | omega))) only [go_sem, Nat.reduceAdd, Nat.reduceEqDiff, Nat.reduceLeDiff, Nat.reduceSub, spec_l1Places_ok]
  refine ⟨fun h => ⟨fun h2 => ?_, fun h2 => ?_⟩, fun h => by simp [goodN, h]⟩
  · have : ¬ n.tr.length ≤ 24 := by omega
    simp [goodN, this]
  have hb : 1 ≤ n.pl ∧ n.pl ≤ 16 := by simpa [inB] using h
  refine W_for n.tr.length (fun k s => s = ⟨[.any, .ptr 0 0, .any, .any, .any, trs n.tr, I n.tr.length, I k, .any, .any], [.box t_impl_Net [I n.pl, trs n.tr]]⟩ ∧ (n.tr.take k).all (goodT n.pl) = true) ?_ ?_ ?_
  · simp (maxSteps := 2000000) (disch := (first | omega | (simp only [List.length_append, List.length_take, List.length_replicate, List.length_map, List.length_set, List.length_cons, List.length_nil, List.length_zipWith, List.length_drop, List.length_range]; first | done | omega))) only [go_sem, Nat.reduceAdd, Nat.reduceEqDiff, Nat.reduceLeDiff, Nat.reduceSub]
    rfl
  · rintro k s hk ⟨rfl, hall⟩
    obtain ⟨h3, h4, h5⟩ := hn.2 _ (List.getElem_mem hk)
    simp (maxSteps := 2000000) (disch := (first | omega | (simp only [List.length_append, List.length_take, List.length_replicate, List.length_map, List.length_set, List.length_cons, List.length_nil, List.length_zipWith, List.length_drop, List.length_range]; first | done | omega))) only [go_sem, Nat.reduceAdd, Nat.reduceEqDiff, Nat.reduceLeDiff, Nat.reduceSub, spec_l1Rising_ok]
    simp only [places_eq]
    refine ⟨fun h6 => by rw [goodN_not hk (goodT_nil (by omega))], fun h6 => ⟨fun h7 => ⟨fun h8 => ⟨fun h9 => ⟨rfl, all_take hk hall (goodT_all (by omega) h7 h8 h9)⟩, fun h9 => by rw [goodN_not hk (by simp [goodT, h9])]⟩, fun h8 => by rw [goodN_not hk (by simp [goodT, h8])]⟩, fun h7 => by rw [goodN_not hk (by simp [goodT, h7])]⟩⟩
  · rintro s ⟨rfl, hall⟩
    simp (maxSteps := 2000000) (disch := (first | omega | (simp only [List.length_append, List.length_take, List.length_replicate, List.length_map, List.length_set, List.length_cons, List.length_nil, List.length_zipWith, List.length_drop, List.length_range]; first | done | omega))) only [go_sem, Nat.reduceAdd, Nat.reduceEqDiff, Nat.reduceLeDiff, Nat.reduceSub]
    rw [List.take_length] at hall
    simp [goodN, hall, h, show n.tr.length ≤ 24 by omega]
theorem spec_l1All_ok (l : List Int) (lo hi : Int) (hl : l.length < 2^62) : C f_spec_l1All [ints l, I lo, I hi] [] = some (.bool (l.all (inB lo hi)), []) := by
  refine C_spec_l1All ?_
  simp (maxSteps := 2000000) (disch := (first | omega | (simp only [List.length_append, List.length_take, List.length_replicate, List.length_map, List.length_set, List.length_cons, List.length_nil, List.length_zipWith, List.length_drop, List.length_range]; first | done | omega))) only [ir_spec_l1All, go_sem, Nat.reduceAdd, Nat.reduceEqDiff, Nat.reduceLeDiff, Nat.reduceSub]
  refine W_for l.length (fun k s => s = ⟨[.any, I lo, I hi, .any, .any, ints l, I l.length, I k, .any, .any], []⟩ ∧ (l.take k).all (inB lo hi) = true) ?_ ?_ ?_
  · simp (maxSteps := 2000000) (disch := (first | omega | (simp only [List.length_append, List.length_take, List.length_replicate, List.length_map, List.length_set, List.length_cons, List.length_nil, List.length_zipWith, List.length_drop, List.length_range]; first | done | omega))) only [go_sem, Nat.reduceAdd, Nat.reduceEqDiff, Nat.reduceLeDiff, Nat.reduceSub]
    rfl
  · rintro k s hk ⟨rfl, hall⟩
    simp (maxSteps := 2000000) (disch := (first | omega | (simp only [List.length_append, List.length_take, List.length_replicate, List.length_map, List.length_set, List.length_cons, List.length_nil, List.length_zipWith, List.length_drop, List.length_range]; first | done | omega))) only [go_sem, Nat.reduceAdd, Nat.reduceEqDiff, Nat.reduceLeDiff, Nat.reduceSub, spec_l1In_ok]
    exact ⟨fun h => ⟨rfl, all_take hk hall h⟩, fun h => by rw [all_false hk h]⟩
  · rintro s ⟨rfl, hall⟩
    simp (maxSteps := 2000000) (disch := (first | omega | (simp only [List.length_append, List.length_take, List.length_replicate, List.length_map, List.length_set, List.length_cons, List.length_nil, List.length_zipWith, List.length_drop, List.length_range]; first | done | omega))) only [go_sem, Nat.reduceAdd, Nat.reduceEqDiff, Nat.reduceLeDiff, Nat.reduceSub]
    rw [List.take_length] at hall
    rw [hall]
theorem spec_GoodMark_ok (p : Int) (m : List Int) (hl : m.length < 2^62) : C f_spec_GoodMark [I p, ints m] [] = some (.bool (goodM p m), []) := by
  refine C_spec_GoodMark ?_
  simp (maxSteps := 2000000) (disch := (first | omega | (simp only [List.length_append, List.length_take, List.length_replicate, List.length_map, List.length_set, List.length_cons, List.length_nil, List.length_zipWith, List.length_drop, List.length_range]; first | done | omega))) only [ir_spec_GoodMark, go_sem, Nat.reduceAdd, Nat.reduceEqDiff, Nat.reduceLeDiff, Nat.reduceSub]
  simp (maxSteps := 2000000) (disch := (first | omega | (simp only [List.length_append, List.length_take, List.length_replicate, List.length_map, List.length_set, List.length_cons, List.length_nil, List.length_zipWith, List.length_drop, List.length_range]; first | done | omega))) only [go_sem, Nat.reduceAdd, Nat.reduceEqDiff, Nat.reduceLeDiff, Nat.reduceSub, spec_l1Places_ok, spec_l1All_ok m _ _ hl]
  unfold goodM; grind
theorem spec_l2Marked_ok (n : Net) (m : List Int) (hn : smN n) (hm : m.length < 2^62) : C f_spec_l2Marked [encN n, ints m] [] = some (.bool (marked n m), []) := by
  refine C_spec_l2Marked ?_
  simp (maxSteps := 2000000) (disch := (first | omega | (simp only [List.length_append, List.length_take, List.length_replicate, List.length_map, List.length_set, List.length_cons, List.length_nil, List.length_zipWith, List.length_drop, List.length_range]; first | done | omega))) only [ir_spec_l2Marked, go_sem, Nat.reduceAdd, Nat.reduceEqDiff, Nat.reduceLeDiff, Nat.reduceSub]
  simp (maxSteps := 2000000) (disch := (first | omega | (simp only [List.length_append, List.length_take, List.length_replicate, List.length_map, List.length_set, List.length_cons, List.length_nil, List.length_zipWith, List.length_drop, List.length_range]; first | done | omega))) only [go_sem, Nat.reduceAdd, Nat.reduceEqDiff, Nat.reduceLeDiff, Nat.reduceSub, spec_GoodNet_ok n hn, spec_GoodMark_ok n.pl m hm]
  unfold marked; grind
theorem spec_l2Can_ok (t : Tr) (m : List Int) (ht : ∀ q ∈ t.inn, 0 ≤ q ∧ q.toNat < m.length) (hl : t.inn.length < 2^62) : C f_spec_l2Can [encT t, ints m] [] = some (.bool (canT t m), []) := by
  refine C_spec_l2Can ?_
  simp (maxSteps := 2000000) (disch := (first | omega | (simp only [List.length_append, List.length_take, List.length_replicate, List.length_map, List.length_set, List.length_cons, List.length_nil, List.length_zipWith, List.length_drop, List.length_range]; first | done | omega))) only [ir_spec_l2Can, go_sem, Nat.reduceAdd, Nat.reduceEqDiff, Nat.reduceLeDiff, Nat.reduceSub]
  refine W_for t.inn.length (fun k s => s = ⟨[.any, ints m, .any, .any, .any, ints t.inn, I t.inn.length, I k, .any, .any], []⟩ ∧ (t.inn.take k).all (fun p => !(at_ m p == 0)) = true) ?_ ?_ ?_
  · simp (maxSteps := 2000000) (disch := (first | omega | (simp only [List.length_append, List.length_take, List.length_replicate, List.length_map, List.length_set, List.length_cons, List.length_nil, List.length_zipWith, List.length_drop, List.length_range]; first | done | omega))) only [go_sem, Nat.reduceAdd, Nat.reduceEqDiff, Nat.reduceLeDiff, Nat.reduceSub]
    rfl
  · rintro k s hk ⟨rfl, hall⟩
    obtain ⟨h1, h2⟩ := ht _ (List.getElem_mem hk)
    simp (maxSteps := 2000000) (disch := (first | omega | (simp only [List.length_append, List.length_take, List.length_replicate, List.length_map, List.length_set, List.length_cons, List.length_nil, List.length_zipWith, List.length_drop, List.length_range]; first | done | omega))) only [go_sem, Nat.reduceAdd, Nat.reduceEqDiff, Nat.reduceLeDiff, Nat.reduceSub]
    refine ⟨fun h => ?_, fun h => ⟨rfl, all_take hk hall ?_⟩⟩
    · have : canT t m = false := all_false hk (by rw [at_eq h2] at h; simp [h])
      rw [this]
    · rw [at_eq h2] at h; simp [h]
  · rintro s ⟨rfl, hall⟩
    simp (maxSteps := 2000000) (disch := (first | omega | (simp only [List.length_append, List.length_take, List.length_replicate, List.length_map, List.length_set, List.length_cons, List.length_nil, List.length_zipWith, List.length_drop, List.length_range]; first | done | omega))) only [go_sem, Nat.reduceAdd, Nat.reduceEqDiff, Nat.reduceLeDiff, Nat.reduceSub]
    rw [List.take_length] at hall
    unfold canT; rw [hall]
theorem spec_l2Enabled_ok (n : Net) (m : List Int) (hg : goodN n = true) (hm : (m.length : Int) = n.pl) : C f_spec_l2Enabled [encN n, ints m] [] = some (.un t_int true 1 ((enabL n m).map I), []) := by
  have hb := goodN_parts hg
  refine C_spec_l2Enabled ?_
  simp (maxSteps := 2000000) (disch := (first | omega | (simp only [List.length_append, List.length_take, List.length_replicate, List.length_map, List.length_set, List.length_cons, List.length_nil, List.length_zipWith, List.length_drop, List.length_range]; first | done | omega))) only [ir_spec_l2Enabled, go_sem, Nat.reduceAdd, Nat.reduceEqDiff, Nat.reduceLeDiff, Nat.reduceSub]
  refine W_for n.tr.length (fun k s => s = ⟨[.any, ints m, .any, .any, .ref 0 1 0 (enabK n m k).length, .any, .any, trs n.tr, I n.tr.length, I k, .any, .any], [.row t_int true 1 ((enabK n m k).map I)]⟩) ?_ ?_ ?_
  · simp (maxSteps := 2000000) (disch := (first | omega | (simp only [List.length_append, List.length_take, List.length_replicate, List.length_map, List.length_set, List.length_cons, List.length_nil, List.length_zipWith, List.length_drop, List.length_range]; first | done | omega))) only [go_sem, Nat.reduceAdd, Nat.reduceEqDiff, Nat.reduceLeDiff, Nat.reduceSub]
    rfl
  · rintro k s hk rfl
    have hT := hb.2.2.2 _ (List.getElem_mem hk)
    have h2 := enabK_len n m k
    simp (maxSteps := 2000000) (disch := (first | omega | (simp only [List.length_append, List.length_take, List.length_replicate, List.length_map, List.length_set, List.length_cons, List.length_nil, List.length_zipWith, List.length_drop, List.length_range]; first | done | omega))) only [go_sem, Nat.reduceAdd, Nat.reduceEqDiff, Nat.reduceLeDiff, Nat.reduceSub, spec_l2Can_ok _ m (goodT_lt hT hm).1 (by have := (goodT_lens hT (by omega)).1; omega)]
    refine ⟨fun h => ?_, fun h => ?_⟩
    · rw [enabK_t hk h, List.map_append]; simp
    · rw [enabK_f hk h]; rfl
  · rintro s rfl
    simp (maxSteps := 2000000) (disch := (first | omega | (simp only [List.length_append, List.length_take, List.length_replicate, List.length_map, List.length_set, List.length_cons, List.length_nil, List.length_zipWith, List.length_drop, List.length_range]; first | done | omega))) only [go_sem, Nat.reduceAdd, Nat.reduceEqDiff, Nat.reduceLeDiff, Nat.reduceSub]
    rfl
theorem spec_Enabled_ok (n : Net) (m : List Int) (hn : smN n) (hm : m.length < 2^62) : C f_spec_Enabled [encN n, ints m] [] = some (.tup [.un t_int true 1 ((if marked n m then enabL n m else []).map I), .bool (marked n m)], []) := by
  refine C_spec_Enabled ?_
  simp (maxSteps := 2000000) (disch := (first | omega | (simp only [List.length_append, List.length_take, List.length_replicate, List.length_map, List.length_set, List.length_cons, List.length_nil, List.length_zipWith, List.length_drop, List.length_range]; first | done | omega))) only [ir_spec_Enabled, go_sem, Nat.reduceAdd, Nat.reduceEqDiff, Nat.reduceLeDiff, Nat.reduceSub]
  simp (maxSteps := 2000000) (disch := (first | omega | (simp only [List.length_append, List.length_take, List.length_replicate, List.length_map, List.length_set, List.length_cons, List.length_nil, List.length_zipWith, List.length_drop, List.length_range]; first | done | omega))) only [go_sem, Nat.reduceAdd, Nat.reduceEqDiff, Nat.reduceLeDiff, Nat.reduceSub, spec_l2Marked_ok n m hn hm]
  refine ⟨fun h => ?_, fun h => by simp [h]⟩
  obtain ⟨h1, h2⟩ := marked_parts h
  simp (maxSteps := 2000000) (disch := (first | omega | (simp only [List.length_append, List.length_take, List.length_replicate, List.length_map, List.length_set, List.length_cons, List.length_nil, List.length_zipWith, List.length_drop, List.length_range]; first | done | omega))) only [go_sem, Nat.reduceAdd, Nat.reduceEqDiff, Nat.reduceLeDiff, Nat.reduceSub, spec_l2Enabled_ok n m h1 (goodM_len h2).2.2.1, h]
theorem spec_l2Fire_ok (t : Tr) (m : List Int) (h1 : ∀ q ∈ t.inn, 0 ≤ q ∧ q.toNat < m.length) (h2 : ∀ q ∈ t.out, 0 ≤ q ∧ q.toNat < m.length) (h3 : ∀ q ∈ t.rst, 0 ≤ q ∧ q.toNat < m.length) (hl : smT t) (hm : m.length < 2^30) (hb : ∀ x ∈ m, 0 ≤ x ∧ x ≤ 50) :
    C f_spec_l2Fire [encT t, ints m] [] = some (.un t_int true 1 ((firedM t m).map I), []) := by
  obtain ⟨g1, g2, g3⟩ := hl
  refine C_spec_l2Fire ?_
  simp (maxSteps := 2000000) (disch := (first | omega | (simp only [List.length_append, List.length_take, List.length_replicate, List.length_map, List.length_set, List.length_cons, List.length_nil, List.length_zipWith, List.length_drop, List.length_range]; first | done | omega))) only [ir_spec_l2Fire, go_sem, Nat.reduceAdd, Nat.reduceEqDiff, Nat.reduceLeDiff, Nat.reduceSub]
  simp (maxSteps := 2000000) (disch := (first | omega | (simp only [List.length_append, List.length_take, List.length_replicate, List.length_map, List.length_set, List.length_cons, List.length_nil, List.length_zipWith, List.length_drop, List.length_range]; first | done | omega))) only [go_sem, Nat.reduceAdd, Nat.reduceEqDiff, Nat.reduceLeDiff, Nat.reduceSub, spec_l1Own_ok m (by omega)]
  refine W_for t.inn.length (fun k s => s = ⟨[.any, .any, .ptr 0 0, .any, .ref 1 1 0 m.length, .any, .any, .any, ints t.inn, I t.inn.length, I k, .any, .any, .any, .any, .any, .any, .any, .any, .any], [.box t_impl_Trans [ints t.inn, ints t.out, ints t.rst], .row t_int true 1 ((decL m (t.inn.take k)).map I)]⟩) ?_ ?_ ?_
  · simp (maxSteps := 2000000) (disch := (first | omega | (simp only [List.length_append, List.length_take, List.length_replicate, List.length_map, List.length_set, List.length_cons, List.length_nil, List.length_zipWith, List.length_drop, List.length_range]; first | done | omega))) only [go_sem, Nat.reduceAdd, Nat.reduceEqDiff, Nat.reduceLeDiff, Nat.reduceSub]
    rfl
  · rintro k s hk rfl
    obtain ⟨h4, h5⟩ := h1 _ (List.getElem_mem hk)
    have h6 := decL_len m (t.inn.take k)
    have h7 := at_bound (p := t.inn[k]) (decL_bound (l := t.inn.take k) hb (fun p hp => (h1 p (List.mem_of_mem_take hp)).2)) (by omega)
    have h8 : (t.inn.take k).length = k := by simp; omega
    simp (maxSteps := 2000000) (disch := (first | omega | (simp only [List.length_append, List.length_take, List.length_replicate, List.length_map, List.length_set, List.length_cons, List.length_nil, List.length_zipWith, List.length_drop, List.length_range]; first | done | omega))) only [go_sem, Nat.reduceAdd, Nat.reduceEqDiff, Nat.reduceLeDiff, Nat.reduceSub, at_eq]
    rw [decL_take hk]; rfl
  · rintro s rfl
    simp (maxSteps := 2000000) (disch := (first | omega | (simp only [List.length_append, List.length_take, List.length_replicate, List.length_map, List.length_set, List.length_cons, List.length_nil, List.length_zipWith, List.length_drop, List.length_range]; first | done | omega))) only [go_sem, Nat.reduceAdd, Nat.reduceEqDiff, Nat.reduceLeDiff, Nat.reduceSub, List.take_length]
    have b1 := decL_bound (l := t.inn) hb (fun p hp => (h1 p hp).2)
    have l1 := decL_len m t.inn
    generalize e1 : decL m t.inn = m1 at b1 l1 ⊢
    refine W_for t.rst.length (fun k s => s = ⟨[.any, .any, .ptr 0 0, .any, .ref 1 1 0 m.length, .any, .any, .any, .any, .any, .any, .any, ints t.rst, I t.rst.length, I k, .any, .any, .any, .any, .any], [.box t_impl_Trans [ints t.inn, ints t.out, ints t.rst], .row t_int true 1 ((zerL m1 (t.rst.take k)).map I)]⟩) ?_ ?_ ?_
    · simp (maxSteps := 2000000) (disch := (first | omega | (simp only [List.length_append, List.length_take, List.length_replicate, List.length_map, List.length_set, List.length_cons, List.length_nil, List.length_zipWith, List.length_drop, List.length_range]; first | done | omega))) only [go_sem, Nat.reduceAdd, Nat.reduceEqDiff, Nat.reduceLeDiff, Nat.reduceSub]
      rfl
    · rintro k s hk rfl
      obtain ⟨h4, h5⟩ := h3 _ (List.getElem_mem hk)
      have h6 := zerL_len m1 (t.rst.take k)
      simp (maxSteps := 2000000) (disch := (first | omega | (simp only [List.length_append, List.length_take, List.length_replicate, List.length_map, List.length_set, List.length_cons, List.length_nil, List.length_zipWith, List.length_drop, List.length_range]; first | done | omega))) only [go_sem, Nat.reduceAdd, Nat.reduceEqDiff, Nat.reduceLeDiff, Nat.reduceSub]
      rw [zerL_take hk]; rfl
    · rintro s rfl
      simp (maxSteps := 2000000) (disch := (first | omega | (simp only [List.length_append, List.length_take, List.length_replicate, List.length_map, List.length_set, List.length_cons, List.length_nil, List.length_zipWith, List.length_drop, List.length_range]; first | done | omega))) only [go_sem, Nat.reduceAdd, Nat.reduceEqDiff, Nat.reduceLeDiff, Nat.reduceSub, List.take_length]
      have b2 := zerL_bound (l := t.rst) b1 (by omega)
      have l2 := zerL_len m1 t.rst
      generalize e2 : zerL m1 t.rst = m2 at b2 l2 ⊢
      refine W_for t.out.length (fun k s => s = ⟨[.any, .any, .any, .any, .ref 0 1 0 m.length, .any, .any, .any, .any, .any, .any, .any, .any, .any, .any, .any, ints t.out, I t.out.length, I k, .any], [.row t_int true 1 ((incL m2 (t.out.take k)).map I)]⟩) ?_ ?_ ?_
      · simp (maxSteps := 2000000) (disch := (first | omega | (simp only [List.length_append, List.length_take, List.length_replicate, List.length_map, List.length_set, List.length_cons, List.length_nil, List.length_zipWith, List.length_drop, List.length_range]; first | done | omega))) only [go_sem, Nat.reduceAdd, Nat.reduceEqDiff, Nat.reduceLeDiff, Nat.reduceSub]
        rfl
      · rintro k s hk rfl
        obtain ⟨h4, h5⟩ := h2 _ (List.getElem_mem hk)
        have h6 := incL_len m2 (t.out.take k)
        have h7 := at_bound (p := t.out[k]) (incL_bound (l := t.out.take k) b2 (fun p hp => by have := (h2 p (List.mem_of_mem_take hp)).2; omega)) (by omega)
        have h8 : (t.out.take k).length = k := by simp; omega
        simp (maxSteps := 2000000) (disch := (first | omega | (simp only [List.length_append, List.length_take, List.length_replicate, List.length_map, List.length_set, List.length_cons, List.length_nil, List.length_zipWith, List.length_drop, List.length_range]; first | done | omega))) only [go_sem, Nat.reduceAdd, Nat.reduceEqDiff, Nat.reduceLeDiff, Nat.reduceSub, at_eq]
        rw [incL_take hk]; rfl
      · rintro s rfl
        have h6 := incL_len m2 t.out
        simp (maxSteps := 2000000) (disch := (first | omega | (simp only [List.length_append, List.length_take, List.length_replicate, List.length_map, List.length_set, List.length_cons, List.length_nil, List.length_zipWith, List.length_drop, List.length_range]; first | done | omega))) only [go_sem, Nat.reduceAdd, Nat.reduceEqDiff, Nat.reduceLeDiff, Nat.reduceSub, List.take_length]
        subst e2 e1; rfl
theorem spec_Fire_ok (n : Net) (m : List Int) (t : Int) (hn : smN n) (hm : m.length < 2^62) : C f_spec_Fire [encN n, ints m, I t] [] = some (.tup [.un t_int true 1 ((if okFire n m t then firedM (trAt n t) m else []).map I), .bool (okFire n m t)], []) := by
  have h0 := hn.1
  refine C_spec_Fire ?_
  simp (maxSteps := 2000000) (disch := (first | omega | (simp only [List.length_append, List.length_take, List.length_replicate, List.length_map, List.length_set, List.length_cons, List.length_nil, List.length_zipWith, List.length_drop, List.length_range]; first | done | omega))) only [ir_spec_Fire, go_sem, Nat.reduceAdd, Nat.reduceEqDiff, Nat.reduceLeDiff, Nat.reduceSub]
  simp (maxSteps := 2000000) (disch := (first | omega | (simp only [List.length_append, List.length_take, List.length_replicate, List.length_map, List.length_set, List.length_cons, List.length_nil, List.length_zipWith, List.length_drop, List.length_range]; first | done | omega))) only [go_sem, Nat.reduceAdd, Nat.reduceEqDiff, Nat.reduceLeDiff, Nat.reduceSub, spec_l2Marked_ok n m hn hm, spec_l1In_ok]
  refine ⟨fun h1 => ⟨fun h2 => ?_, fun h2 => by simp [okFire, canN, h2]⟩, fun h1 => by simp [okFire, canN, h1]⟩
  obtain ⟨h3, h4⟩ := marked_parts h1
  have h6 : 0 ≤ t ∧ t.toNat < n.tr.length := by simp [inB] at h2; omega
  have h8 := (goodN_parts h3).2.2.2 _ (List.getElem_mem h6.2)
  rw [trAt_eq h6.2] at h8
  have hx := goodT_lt h8 (goodM_len h4).2.2.1
  have hy := goodT_lens h8 (by have := goodN_parts h3; omega)
  have hm := (goodM_len h4).2.2
  have hz := firedM_len (trAt n t) m
  simp (maxSteps := 2000000) (disch := (first | omega | (simp only [List.length_append, List.length_take, List.length_replicate, List.length_map, List.length_set, List.length_cons, List.length_nil, List.length_zipWith, List.length_drop, List.length_range]; first | done | omega))) only [go_sem, Nat.reduceAdd, Nat.reduceEqDiff, Nat.reduceLeDiff, Nat.reduceSub, trAt_eq, spec_l2Can_ok (trAt n t) m hx.1 (by omega)]
  refine ⟨fun h7 => ?_, fun h7 => by simp [okFire, canN, h7]⟩
  have hg : goodM n.pl (firedM (trAt n t) m) = okFire n m t := by
    have h9 : inB 1 16 n.pl = true := by have := goodN_parts h3; simp [inB]; omega
    have h10 : (((firedM (trAt n t) m).length : Int) == n.pl) = true := by simp [hz]; omega
    simp only [goodM, okFire, canN, h1, h2, h7, h9, h10, Bool.true_and, Bool.and_self]
  simp (maxSteps := 2000000) (disch := (first | omega | (simp only [List.length_append, List.length_take, List.length_replicate, List.length_map, List.length_set, List.length_cons, List.length_nil, List.length_zipWith, List.length_drop, List.length_range]; first | done | omega))) only [go_sem, Nat.reduceAdd, Nat.reduceEqDiff, Nat.reduceLeDiff, Nat.reduceSub, trAt_eq, spec_l2Fire_ok (trAt n t) m hx.1 hx.2.1 hx.2.2 ⟨by omega, by omega, by omega⟩ (by omega) hm.2.2, spec_GoodMark_ok n.pl (firedM (trAt n t) m) (by omega), hg]
  refine ⟨fun h => by simp [h], fun h => by simp [h]⟩
theorem spec_DrawFireAll_ok (bs : List Int) (hl : bs.length < 2^62) (hb : ∀ x ∈ bs, 0 ≤ x ∧ x < 256) :
    Lw (C f_spec_DrawFireAll [bys bs] []) fun r => ∃ (n : Net) (m l : List Int), r = (.tup [.agg [I n.pl, .un t_impl_Trans false 3 (n.tr.map encT)], .un t_int true 1 (m.map I), .un t_int true 1 (l.map I)], []) ∧ smNet n ∧ m.length ≤ 20 ∧ l.length ≤ 61 := by
  refine E_spec_DrawFireAll ?_
  simp (maxSteps := 2000000) (disch := (first | omega | (simp only [List.length_append, List.length_take, List.length_replicate, List.length_map, List.length_set, List.length_cons, List.length_nil, List.length_zipWith, List.length_drop, List.length_range]; first | done | omega))) only [ir_spec_DrawFireAll, go_sem, Nat.reduceAdd, Nat.reduceEqDiff, Nat.reduceLeDiff, Nat.reduceSub]
  obtain ⟨_, e1, n, a1, s1, rfl, h3, h4, h5⟩ := spec_l1Cur_net_ok true bs 0 0 (by omega) (by omega) hl hb
  obtain ⟨_, e2, m, a2, s2, rfl, h6, h7, h8, h9⟩ := spec_l1Cur_markOf_ok n h5.2.1 bs a1 s1 (by omega) (by omega) hl hb
  obtain ⟨_, e4, x4, a4, s4, rfl, h11, h12, h13, h14⟩ := spec_l1Cur_pick_ok 10 bs a2 s2 (by omega) (by omega) hl hb
  obtain ⟨_, e5, x5, a5, s5, rfl, h15, h16⟩ := spec_l1Cur_one_ok 30 bs a4 s4 (by omega) (by omega) hl hb
  obtain ⟨_, e6, x6, a6, s6, rfl, h17, h18, h19, h20⟩ := spec_l1Cur_pick_ok 2 bs a5 s5 (by omega) (by omega) hl hb
  have hsn := h5.smN
  simp (maxSteps := 2000000) (disch := (first | omega | (simp only [List.length_append, List.length_take, List.length_replicate, List.length_map, List.length_set, List.length_cons, List.length_nil, List.length_zipWith, List.length_drop, List.length_range]; first | done | omega))) only [go_sem, Nat.reduceAdd, Nat.reduceEqDiff, Nat.reduceLeDiff, Nat.reduceSub, e1, e2, e4, e5, spec_l1Own_ok m (by omega)]
  refine ⟨fun hx => ?_, fun hx => ?_⟩
  case' refine_1 =>
    simp (maxSteps := 2000000) (disch := (first | omega | (simp only [List.length_append, List.length_take, List.length_replicate, List.length_map, List.length_set, List.length_cons, List.length_nil, List.length_zipWith, List.length_drop, List.length_range]; first | done | omega))) only [go_sem, Nat.reduceAdd, Nat.reduceEqDiff, Nat.reduceLeDiff, Nat.reduceSub, e6, spec_l1Own_ok m (by omega)]
    generalize hL : 60 + x6 = L
    have hL0 : 0 ≤ L ∧ L ≤ 61 := by omega
    generalize a6 = a0 at *
    generalize s6 = s0 at *
    have ha0 : a0 < 2^50 := by omega
  case' refine_2 =>
    generalize x4 = L at *
    have hL0 : 0 ≤ L ∧ L ≤ 61 := by omega
    generalize a5 = a0 at *
    generalize s5 = s0 at *
    have ha0 : a0 < 2^50 := by omega
  all_goals
    clear e4 e5 e6
    refine W_for L.toNat (fun k s => ∃ (l at' : List Int) (a sd : Int), s = ⟨[.any, .ptr 0 0, .any, .any, .ptr 1 0, .ptr 2 0, .ref 3 1 0 m.length, .ref 4 1 0 l.length, I (L - k), .ref 5 1 0 at'.length, .any, .any, .any, .any, .any, .any, .any, .any, .any], [.box t_impl_Net [I 0, .nil false 3], .box t_spec_l1Cur [bys bs, I a, .int .u64 sd], .box t_impl_Net [I n.pl, .ref 6 3 0 n.tr.length], .row t_int true 1 (m.map I), .row t_int true 1 (l.map I), .row t_int true 1 (at'.map I), .row t_impl_Trans false 3 (n.tr.map encT)]⟩ ∧ l.length = k ∧ at'.length = m.length ∧ a0 ≤ a ∧ a ≤ a0 + 10 * k) ?_ ?_ ?_
    · refine ⟨[], m, a0, s0, ?_, rfl, rfl, by omega, by omega⟩
      simp (maxSteps := 2000000) (disch := (first | omega | (simp only [List.length_append, List.length_take, List.length_replicate, List.length_map, List.length_set, List.length_cons, List.length_nil, List.length_zipWith, List.length_drop, List.length_range]; first | done | omega))) only [go_sem, Nat.reduceAdd, Nat.reduceEqDiff, Nat.reduceLeDiff, Nat.reduceSub]
      rw [show L - ((0 : Nat) : Int) = L by omega]
    · rintro k s hk ⟨l, at', a, sd, rfl, rfl, hat, ha1, ha2⟩
      obtain ⟨_, f1, x7, a7, s7, rfl, k1, k2, k3, k4⟩ := spec_l1Cur_pick_ok (max 1 n.tr.length) bs a sd (by omega) (by omega) hl hb
      have f2 := spec_Enabled_ok n at' hsn (by omega)
      obtain ⟨_, f3, x8, a8, s8, rfl, k5, k6⟩ := spec_l1Cur_one_ok 12 bs a7 s7 (by omega) (by omega) hl hb
      obtain ⟨_, f4, x9, a9, s9, rfl, k7, k8, k9, k10⟩ := spec_l1Cur_pick_ok (enabL n at').length bs a8 s8 (by omega) (by omega) hl hb
      have fire := fun t => spec_Fire_ok n at' t hsn (by omega)
      have e : L - ((l.length + 1 : Nat) : Int) = L - l.length - 1 := by omega
      cases hmk : marked n at' with
      | false =>
        simp only [hmk, Bool.false_eq_true, if_false] at f2
        simp (maxSteps := 2000000) (disch := (first | omega | (simp only [List.length_append, List.length_take, List.length_replicate, List.length_map, List.length_set, List.length_cons, List.length_nil, List.length_zipWith, List.length_drop, List.length_range]; first | done | omega))) only [go_sem, Nat.reduceAdd, Nat.reduceEqDiff, Nat.reduceLeDiff, Nat.reduceSub, f1, f2, spec_l1Most_ok, fire]
        exact ⟨fun h => ⟨l ++ [x7], firedM (trAt n (x7)) at', a7, s7, by rw [e, List.map_append]; simp [h, firedM_len], by simp, by rw [firedM_len]; omega, by omega, by omega⟩, fun h => ⟨l ++ [x7], at', a7, s7, by rw [e, List.map_append]; simp, by simp, by omega, by omega, by omega⟩⟩
      | true =>
        simp only [hmk, if_true] at f2
        simp (maxSteps := 2000000) (disch := (first | omega | (simp only [List.length_append, List.length_take, List.length_replicate, List.length_map, List.length_set, List.length_cons, List.length_nil, List.length_zipWith, List.length_drop, List.length_range]; first | done | omega))) only [go_sem, Nat.reduceAdd, Nat.reduceEqDiff, Nat.reduceLeDiff, Nat.reduceSub, f1, f2, f3, f4, spec_l1Most_ok, fire]
        refine ⟨fun hp => ⟨fun hy => ?_, fun hy => ?_⟩, fun hp => ?_⟩
        · exact ⟨fun h => ⟨l ++ [x7], firedM (trAt n (x7)) at', a8, s8, by rw [e, List.map_append]; simp [h, firedM_len], by simp, by rw [firedM_len]; omega, by omega, by omega⟩, fun h => ⟨l ++ [x7], at', a8, s8, by rw [e, List.map_append]; simp, by simp, by omega, by omega, by omega⟩⟩
        · have hx9 : x9.toNat < (enabL n at').length := by omega
          simp (maxSteps := 2000000) (disch := (first | omega | (simp only [List.length_append, List.length_take, List.length_replicate, List.length_map, List.length_set, List.length_cons, List.length_nil, List.length_zipWith, List.length_drop, List.length_range]; first | done | omega))) only [go_sem, Nat.reduceAdd, Nat.reduceEqDiff, Nat.reduceLeDiff, Nat.reduceSub, fire]
          generalize (enabL n at')[x9.toNat] = t
          exact ⟨fun h => ⟨l ++ [t], firedM (trAt n (t)) at', a9, s9, by rw [e, List.map_append]; simp [h, firedM_len], by simp, by rw [firedM_len]; omega, by omega, by omega⟩, fun h => ⟨l ++ [t], at', a9, s9, by rw [e, List.map_append]; simp, by simp, by omega, by omega, by omega⟩⟩
        · exact ⟨fun h => ⟨l ++ [x7], firedM (trAt n (x7)) at', a7, s7, by rw [e, List.map_append]; simp [h, firedM_len], by simp, by rw [firedM_len]; omega, by omega, by omega⟩, fun h => ⟨l ++ [x7], at', a7, s7, by rw [e, List.map_append]; simp, by simp, by omega, by omega, by omega⟩⟩
    · rintro s ⟨l, at', a, sd, rfl, hk, hat, ha1, ha2⟩
      simp (maxSteps := 2000000) (disch := (first | omega | (simp only [List.length_append, List.length_take, List.length_replicate, List.length_map, List.length_set, List.length_cons, List.length_nil, List.length_zipWith, List.length_drop, List.length_range]; first | done | omega))) only [go_sem, Nat.reduceAdd, Nat.reduceEqDiff, Nat.reduceLeDiff, Nat.reduceSub]
      exact ⟨n, m, l, rfl, h5, h8, by omega⟩
theorem impl_within_ok (n lo hi : Int) : C f_impl_within [I n, I lo, I hi] [] = some (.bool (inB lo hi n), []) := by
  refine C_impl_within ?_
  simp (maxSteps := 2000000) (disch := (first | omega | (simp only [List.length_append, List.length_take, List.length_replicate, List.length_map, List.length_set, List.length_cons, List.length_nil, List.length_zipWith, List.length_drop, List.length_range]; first | done | omega))) only [ir_impl_within, go_sem, Nat.reduceAdd, Nat.reduceEqDiff, Nat.reduceLeDiff, Nat.reduceSub]
  unfold inB; grind
theorem impl_increasing_ok (l : List Int) (hl : l.length < 2^62) : C f_impl_increasing [ints l] [] = some (.bool (incr l), []) := by
  refine C_impl_increasing ?_
  simp (maxSteps := 2000000) (disch := (first | omega | (simp only [List.length_append, List.length_take, List.length_replicate, List.length_map, List.length_set, List.length_cons, List.length_nil, List.length_zipWith, List.length_drop, List.length_range]; first | done | omega))) only [ir_impl_increasing, go_sem, Nat.reduceAdd, Nat.reduceEqDiff, Nat.reduceLeDiff, Nat.reduceSub]
  refine W_for (l.length - 1) (fun k s => s = ⟨[ints l, .any, I (k + 1 : Int), .any, .any], []⟩ ∧ (l.take (k + 1)).Pairwise (· < ·)) ?_ ?_ ?_
  · simp (maxSteps := 2000000) (disch := (first | omega | (simp only [List.length_append, List.length_take, List.length_replicate, List.length_map, List.length_set, List.length_cons, List.length_nil, List.length_zipWith, List.length_drop, List.length_range]; first | done | omega))) only [go_sem, Nat.reduceAdd, Nat.reduceEqDiff, Nat.reduceLeDiff, Nat.reduceSub]
    exact ⟨rfl, incr_one⟩
  · rintro k s hk ⟨rfl, hp⟩
    simp (maxSteps := 2000000) (disch := (first | omega | (simp only [List.length_append, List.length_take, List.length_replicate, List.length_map, List.length_set, List.length_cons, List.length_nil, List.length_zipWith, List.length_drop, List.length_range]; first | done | omega))) only [go_sem, Nat.reduceAdd, Nat.reduceEqDiff, Nat.reduceLeDiff, Nat.reduceSub]
    have e1 : ((k : Int) + 1).toNat = k + 1 := by omega
    have e2 : ((k : Int) + 1 - 1).toNat = k := by omega
    simp only [e1, e2]
    refine ⟨fun h => by rw [incr_not (k := k) (by omega) (by omega)], fun h => ⟨rfl, incr_step (by omega) hp h⟩⟩
  · rintro s ⟨rfl, hp⟩
    simp (maxSteps := 2000000) (disch := (first | omega | (simp only [List.length_append, List.length_take, List.length_replicate, List.length_map, List.length_set, List.length_cons, List.length_nil, List.length_zipWith, List.length_drop, List.length_range]; first | done | omega))) only [go_sem, Nat.reduceAdd, Nat.reduceEqDiff, Nat.reduceLeDiff, Nat.reduceSub]
    rw [take_all (by omega)] at hp
    rw [show incr l = true by simpa [incr] using hp]
theorem impl_allWithin_ok (l : List Int) (lo hi : Int) (hl : l.length < 2^62) : C f_impl_allWithin [ints l, I lo, I hi] [] = some (.bool (l.all (inB lo hi)), []) := by
  refine C_impl_allWithin ?_
  simp (maxSteps := 2000000) (disch := (first | omega | (simp only [List.length_append, List.length_take, List.length_replicate, List.length_map, List.length_set, List.length_cons, List.length_nil, List.length_zipWith, List.length_drop, List.length_range]; first | done | omega))) only [ir_impl_allWithin, go_sem, Nat.reduceAdd, Nat.reduceEqDiff, Nat.reduceLeDiff, Nat.reduceSub]
  refine W_for l.length (fun k s => s = ⟨[.any, I lo, I hi, .any, .any, ints l, I l.length, I k, .any, .any], []⟩ ∧ (l.take k).all (inB lo hi) = true) ?_ ?_ ?_
  · simp (maxSteps := 2000000) (disch := (first | omega | (simp only [List.length_append, List.length_take, List.length_replicate, List.length_map, List.length_set, List.length_cons, List.length_nil, List.length_zipWith, List.length_drop, List.length_range]; first | done | omega))) only [go_sem, Nat.reduceAdd, Nat.reduceEqDiff, Nat.reduceLeDiff, Nat.reduceSub]
    rfl
  · rintro k s hk ⟨rfl, hall⟩
    simp (maxSteps := 2000000) (disch := (first | omega | (simp only [List.length_append, List.length_take, List.length_replicate, List.length_map, List.length_set, List.length_cons, List.length_nil, List.length_zipWith, List.length_drop, List.length_range]; first | done | omega))) only [go_sem, Nat.reduceAdd, Nat.reduceEqDiff, Nat.reduceLeDiff, Nat.reduceSub, impl_within_ok]
    exact ⟨fun h => ⟨rfl, all_take hk hall h⟩, fun h => by rw [all_false hk h]⟩
  · rintro s ⟨rfl, hall⟩
    simp (maxSteps := 2000000) (disch := (first | omega | (simp only [List.length_append, List.length_take, List.length_replicate, List.length_map, List.length_set, List.length_cons, List.length_nil, List.length_zipWith, List.length_drop, List.length_range]; first | done | omega))) only [go_sem, Nat.reduceAdd, Nat.reduceEqDiff, Nat.reduceLeDiff, Nat.reduceSub]
    rw [List.take_length] at hall
    rw [hall]
theorem impl_arePlaces_ok (n : Net) (l : List Int) (h : 1 ≤ n.pl ∧ n.pl ≤ 16) (hl : l.length < 2^62) : C f_impl_arePlaces [encN n, ints l] [] = some (.bool (places n.pl l), []) := by
  refine C_impl_arePlaces ?_
  simp (maxSteps := 2000000) (disch := (first | omega | (simp only [List.length_append, List.length_take, List.length_replicate, List.length_map, List.length_set, List.length_cons, List.length_nil, List.length_zipWith, List.length_drop, List.length_range]; first | done | omega))) only [ir_impl_arePlaces, go_sem, Nat.reduceAdd, Nat.reduceEqDiff, Nat.reduceLeDiff, Nat.reduceSub]
  simp (maxSteps := 2000000) (disch := (first | omega | (simp only [List.length_append, List.length_take, List.length_replicate, List.length_map, List.length_set, List.length_cons, List.length_nil, List.length_zipWith, List.length_drop, List.length_range]; first | done | omega))) only [go_sem, Nat.reduceAdd, Nat.reduceEqDiff, Nat.reduceLeDiff, Nat.reduceSub, impl_increasing_ok l hl, impl_allWithin_ok l _ _ hl]
  unfold places; grind
theorem impl_GoodNet_1_ok (n : Net) (t : Tr) (h : 1 ≤ n.pl ∧ n.pl ≤ 16) (ht : smT t) : C f_impl_GoodNet_1 [encT t, .pv (encN n) 0] [] = some (.bool (!goodT n.pl t), []) := by
  obtain ⟨h1, h2, h3⟩ := ht
  refine C_impl_GoodNet_1 ?_
  simp (maxSteps := 2000000) (disch := (first | omega | (simp only [List.length_append, List.length_take, List.length_replicate, List.length_map, List.length_set, List.length_cons, List.length_nil, List.length_zipWith, List.length_drop, List.length_range]; first | done | omega))) only [ir_impl_GoodNet_1, go_sem, Nat.reduceAdd, Nat.reduceEqDiff, Nat.reduceLeDiff, Nat.reduceSub]
  simp (maxSteps := 2000000) (disch := (first | omega | (simp only [List.length_append, List.length_take, List.length_replicate, List.length_map, List.length_set, List.length_cons, List.length_nil, List.length_zipWith, List.length_drop, List.length_range]; first | done | omega))) only [go_sem, Nat.reduceAdd, Nat.reduceEqDiff, Nat.reduceLeDiff, Nat.reduceSub, impl_arePlaces_ok n _ h]
  refine ⟨fun h6 => by rw [goodT_nil (by omega)]; rfl, fun h6 => ⟨fun h7 => ⟨fun h8 => ⟨fun h9 => by rw [goodT_all (by omega) h7 h8 h9]; rfl, fun h9 => by simp [goodT, h9]⟩, fun h8 => by simp [goodT, h8]⟩, fun h7 => by simp [goodT, h7]⟩⟩
theorem slices_IndexFunc_sl_impl_Trans_impl_Trans_ok (l : List Tr) (g : FuncId) (caps : List PV) (hc : refsL caps = []) (hcv : ∀ m h, viewLWith [] m h caps = some caps) (p : Tr → Bool) (hp : ∀ x ∈ l, C g (encT x :: caps) [] = some (.bool (p x), [])) (hl : l.length < 2^62) :
    C f_slices_IndexFunc_sl_impl_Trans_impl_Trans [trs l, .clo g caps] [] = some (I (idxI l p), []) := by
  refine C_slices_IndexFunc_sl_impl_Trans_impl_Trans ?_
  simp (maxSteps := 2000000) (disch := (first | omega | (simp only [List.length_append, List.length_take, List.length_replicate, List.length_map, List.length_set, List.length_cons, List.length_nil, List.length_zipWith, List.length_drop, List.length_range]; first | done | omega))) only [ir_slices_IndexFunc_sl_impl_Trans_impl_Trans, go_sem, Nat.reduceAdd, Nat.reduceEqDiff, Nat.reduceLeDiff, Nat.reduceSub]
  refine W_for l.length (fun k s => s = ⟨[trs l, .clo g caps, .any, .any, I l.length, I k, .any, .any], []⟩ ∧ (l.take k).any p = false) ?_ ?_ ?_
  · simp (maxSteps := 2000000) (disch := (first | omega | (simp only [List.length_append, List.length_take, List.length_replicate, List.length_map, List.length_set, List.length_cons, List.length_nil, List.length_zipWith, List.length_drop, List.length_range]; first | done | omega))) only [go_sem, Nat.reduceAdd, Nat.reduceEqDiff, Nat.reduceLeDiff, Nat.reduceSub, hc]
    rfl
  · rintro k s hk ⟨rfl, hall⟩
    simp (maxSteps := 2000000) (disch := (first | omega | (simp only [List.length_append, List.length_take, List.length_replicate, List.length_map, List.length_set, List.length_cons, List.length_nil, List.length_zipWith, List.length_drop, List.length_range]; first | done | omega))) only [go_sem, Nat.reduceAdd, Nat.reduceEqDiff, Nat.reduceLeDiff, Nat.reduceSub, hc, hcv, hp _ (List.getElem_mem hk)]
    exact ⟨fun h => by rw [idxI_some hk hall h], fun h => ⟨rfl, any_take hk hall h⟩⟩
  · rintro s ⟨rfl, hall⟩
    simp (maxSteps := 2000000) (disch := (first | omega | (simp only [List.length_append, List.length_take, List.length_replicate, List.length_map, List.length_set, List.length_cons, List.length_nil, List.length_zipWith, List.length_drop, List.length_range]; first | done | omega))) only [go_sem, Nat.reduceAdd, Nat.reduceEqDiff, Nat.reduceLeDiff, Nat.reduceSub]
    rw [List.take_length] at hall
    rw [idxI_none hall]
theorem slices_ContainsFunc_sl_impl_Trans_impl_Trans_ok (l : List Tr) (g : FuncId) (caps : List PV) (hc : refsL caps = []) (hcv : ∀ m h, viewLWith [] m h caps = some caps) (p : Tr → Bool) (hp : ∀ x ∈ l, C g (encT x :: caps) [] = some (.bool (p x), [])) (hl : l.length < 2^62) :
    C f_slices_ContainsFunc_sl_impl_Trans_impl_Trans [trs l, .clo g caps] [] = some (.bool (l.any p), []) := by
  refine C_slices_ContainsFunc_sl_impl_Trans_impl_Trans ?_
  simp (maxSteps := 2000000) (disch := (first | omega | (simp only [List.length_append, List.length_take, List.length_replicate, List.length_map, List.length_set, List.length_cons, List.length_nil, List.length_zipWith, List.length_drop, List.length_range]; first | done | omega))) only [ir_slices_ContainsFunc_sl_impl_Trans_impl_Trans, go_sem, Nat.reduceAdd, Nat.reduceEqDiff, Nat.reduceLeDiff, Nat.reduceSub]
  simp (maxSteps := 2000000) (disch := (first | omega | (simp only [List.length_append, List.length_take, List.length_replicate, List.length_map, List.length_set, List.length_cons, List.length_nil, List.length_zipWith, List.length_drop, List.length_range]; first | done | omega))) only [go_sem, Nat.reduceAdd, Nat.reduceEqDiff, Nat.reduceLeDiff, Nat.reduceSub, hc, hcv, slices_IndexFunc_sl_impl_Trans_impl_Trans_ok l g caps hc hcv p hp hl]
  have := idxI_any l p
  grind
theorem impl_GoodNet_ok (n : Net) (hn : smN n) : C f_impl_GoodNet [encN n] [] = some (.bool (goodN n), []) := by
  have h0 := hn.1
  refine C_impl_GoodNet ?_
  simp (maxSteps := 2000000) (disch := (first | omega | (simp only [List.length_append, List.length_take, List.length_replicate, List.length_map, List.length_set, List.length_cons, List.length_nil, List.length_zipWith, List.length_drop, List.length_range]; first | done | omega))) only [ir_impl_GoodNet, go_sem, Nat.reduceAdd, Nat.reduceEqDiff, Nat.reduceLeDiff, Nat.reduceSub]
  simp (maxSteps := 2000000) (disch := (first | omega | (simp only [List.length_append, List.length_take, List.length_replicate, List.length_map, List.length_set, List.length_cons, List.length_nil, List.length_zipWith, List.length_drop, List.length_range]; first | done | omega))) only [go_sem, Nat.reduceAdd, Nat.reduceEqDiff, Nat.reduceLeDiff, Nat.reduceSub, impl_within_ok]
  refine ⟨fun h => ⟨fun h2 => ?_, fun h2 => ?_⟩, fun h => by simp [goodN, h]⟩
  · have hb : 1 ≤ n.pl ∧ n.pl ≤ 16 := by simpa [inB] using h
    have h3 := slices_ContainsFunc_sl_impl_Trans_impl_Trans_ok n.tr f_impl_GoodNet_1 [.pv (encN n) 0] rfl (fun _ _ => rfl) (fun t => !goodT n.pl t) (fun x hx => impl_GoodNet_1_ok n x hb (hn.2 x hx)) (by omega)
    simp (maxSteps := 2000000) (disch := (first | omega | (simp only [List.length_append, List.length_take, List.length_replicate, List.length_map, List.length_set, List.length_cons, List.length_nil, List.length_zipWith, List.length_drop, List.length_range]; first | done | omega))) only [go_sem, Nat.reduceAdd, Nat.reduceEqDiff, Nat.reduceLeDiff, Nat.reduceSub, h3]
    have : (n.tr.any fun t => !goodT n.pl t) = !n.tr.all (goodT n.pl) := by rw [List.any_eq_not_all_not]; simp
    have h4 : n.tr.length ≤ 24 := by omega
    simp only [this]
    simp [goodN, h, h4]
  · have : ¬ n.tr.length ≤ 24 := by omega
    simp [goodN, this]
theorem impl_GoodMark_ok (p : Int) (m : List Int) (hl : m.length < 2^62) : C f_impl_GoodMark [I p, ints m] [] = some (.bool (goodM p m), []) := by
  refine C_impl_GoodMark ?_
  simp (maxSteps := 2000000) (disch := (first | omega | (simp only [List.length_append, List.length_take, List.length_replicate, List.length_map, List.length_set, List.length_cons, List.length_nil, List.length_zipWith, List.length_drop, List.length_range]; first | done | omega))) only [ir_impl_GoodMark, go_sem, Nat.reduceAdd, Nat.reduceEqDiff, Nat.reduceLeDiff, Nat.reduceSub]
  simp (maxSteps := 2000000) (disch := (first | omega | (simp only [List.length_append, List.length_take, List.length_replicate, List.length_map, List.length_set, List.length_cons, List.length_nil, List.length_zipWith, List.length_drop, List.length_range]; first | done | omega))) only [go_sem, Nat.reduceAdd, Nat.reduceEqDiff, Nat.reduceLeDiff, Nat.reduceSub, impl_within_ok, impl_allWithin_ok m _ _ hl]
  unfold goodM; grind
theorem impl_isMarked_ok (n : Net) (m : List Int) (hn : smN n) (hm : m.length < 2^62) : C f_impl_isMarked [encN n, ints m] [] = some (.bool (marked n m), []) := by
  refine C_impl_isMarked ?_
  simp (maxSteps := 2000000) (disch := (first | omega | (simp only [List.length_append, List.length_take, List.length_replicate, List.length_map, List.length_set, List.length_cons, List.length_nil, List.length_zipWith, List.length_drop, List.length_range]; first | done | omega))) only [ir_impl_isMarked, go_sem, Nat.reduceAdd, Nat.reduceEqDiff, Nat.reduceLeDiff, Nat.reduceSub]
  simp (maxSteps := 2000000) (disch := (first | omega | (simp only [List.length_append, List.length_take, List.length_replicate, List.length_map, List.length_set, List.length_cons, List.length_nil, List.length_zipWith, List.length_drop, List.length_range]; first | done | omega))) only [go_sem, Nat.reduceAdd, Nat.reduceEqDiff, Nat.reduceLeDiff, Nat.reduceSub, impl_GoodNet_ok n hn, impl_GoodMark_ok n.pl m hm]
  unfold marked; grind
theorem impl_areTrans_ok (n : Net) (l : List Int) (hn : n.tr.length < 2^62) (hl : l.length < 2^62) : C f_impl_areTrans [encN n, ints l] [] = some (.bool (areTr n l), []) := by
  refine C_impl_areTrans ?_
  simp (maxSteps := 2000000) (disch := (first | omega | (simp only [List.length_append, List.length_take, List.length_replicate, List.length_map, List.length_set, List.length_cons, List.length_nil, List.length_zipWith, List.length_drop, List.length_range]; first | done | omega))) only [ir_impl_areTrans, go_sem, Nat.reduceAdd, Nat.reduceEqDiff, Nat.reduceLeDiff, Nat.reduceSub]
  simp (maxSteps := 2000000) (disch := (first | omega | (simp only [List.length_append, List.length_take, List.length_replicate, List.length_map, List.length_set, List.length_cons, List.length_nil, List.length_zipWith, List.length_drop, List.length_range]; first | done | omega))) only [go_sem, Nat.reduceAdd, Nat.reduceEqDiff, Nat.reduceLeDiff, Nat.reduceSub, impl_allWithin_ok l _ _ hl]
  unfold areTr; grind
theorem impl_isTrans_ok (n : Net) (t : Int) (hn : n.tr.length < 2^62) : C f_impl_isTrans [encN n, I t] [] = some (.bool (inB 0 (n.tr.length - 1) t), []) := by
  refine C_impl_isTrans ?_
  simp (maxSteps := 2000000) (disch := (first | omega | (simp only [List.length_append, List.length_take, List.length_replicate, List.length_map, List.length_set, List.length_cons, List.length_nil, List.length_zipWith, List.length_drop, List.length_range]; first | done | omega))) only [ir_impl_isTrans, go_sem, Nat.reduceAdd, Nat.reduceEqDiff, Nat.reduceLeDiff, Nat.reduceSub]
  simp (maxSteps := 2000000) (disch := (first | omega | (simp only [List.length_append, List.length_take, List.length_replicate, List.length_map, List.length_set, List.length_cons, List.length_nil, List.length_zipWith, List.length_drop, List.length_range]; first | done | omega))) only [go_sem, Nat.reduceAdd, Nat.reduceEqDiff, Nat.reduceLeDiff, Nat.reduceSub, impl_within_ok]
  grind
theorem impl_isEnabled_1_ok (m : List Int) (p : Int) (h : 0 ≤ p ∧ p.toNat < m.length) : C f_impl_isEnabled_1 [I p, .pv (.agg [ints m]) 0] [] = some (.bool (at_ m p == 0), []) := by
  obtain ⟨h1, h2⟩ := h
  refine C_impl_isEnabled_1 ?_
  simp (maxSteps := 2000000) (disch := (first | omega | (simp only [List.length_append, List.length_take, List.length_replicate, List.length_map, List.length_set, List.length_cons, List.length_nil, List.length_zipWith, List.length_drop, List.length_range]; first | done | omega))) only [ir_impl_isEnabled_1, go_sem, Nat.reduceAdd, Nat.reduceEqDiff, Nat.reduceLeDiff, Nat.reduceSub]
  simp only [at_eq h2]
  grind
theorem slices_IndexFunc_sl_int_int_ok (l : List Int) (g : FuncId) (caps : List PV) (hc : refsL caps = []) (hcv : ∀ m h, viewLWith [] m h caps = some caps) (p : Int → Bool) (hp : ∀ x ∈ l, C g (I x :: caps) [] = some (.bool (p x), [])) (hl : l.length < 2^62) :
    C f_slices_IndexFunc_sl_int_int [ints l, .clo g caps] [] = some (I (idxI l p), []) := by
  refine C_slices_IndexFunc_sl_int_int ?_
  simp (maxSteps := 2000000) (disch := (first | omega | (simp only [List.length_append, List.length_take, List.length_replicate, List.length_map, List.length_set, List.length_cons, List.length_nil, List.length_zipWith, List.length_drop, List.length_range]; first | done | omega))) only [ir_slices_IndexFunc_sl_int_int, go_sem, Nat.reduceAdd, Nat.reduceEqDiff, Nat.reduceLeDiff, Nat.reduceSub]
  refine W_for l.length (fun k s => s = ⟨[ints l, .clo g caps, .any, .any, I l.length, I k, .any, .any], []⟩ ∧ (l.take k).any p = false) ?_ ?_ ?_
  · simp (maxSteps := 2000000) (disch := (first | omega | (simp only [List.length_append, List.length_take, List.length_replicate, List.length_map, List.length_set, List.length_cons, List.length_nil, List.length_zipWith, List.length_drop, List.length_range]; first | done | omega))) only [go_sem, Nat.reduceAdd, Nat.reduceEqDiff, Nat.reduceLeDiff, Nat.reduceSub, hc]
    rfl
  · rintro k s hk ⟨rfl, hall⟩
    simp (maxSteps := 2000000) (disch := (first | omega | (simp only [List.length_append, List.length_take, List.length_replicate, List.length_map, List.length_set, List.length_cons, List.length_nil, List.length_zipWith, List.length_drop, List.length_range]; first | done | omega))) only [go_sem, Nat.reduceAdd, Nat.reduceEqDiff, Nat.reduceLeDiff, Nat.reduceSub, hc, hcv, hp _ (List.getElem_mem hk)]
    exact ⟨fun h => by rw [idxI_some hk hall h], fun h => ⟨rfl, any_take hk hall h⟩⟩
  · rintro s ⟨rfl, hall⟩
    simp (maxSteps := 2000000) (disch := (first | omega | (simp only [List.length_append, List.length_take, List.length_replicate, List.length_map, List.length_set, List.length_cons, List.length_nil, List.length_zipWith, List.length_drop, List.length_range]; first | done | omega))) only [go_sem, Nat.reduceAdd, Nat.reduceEqDiff, Nat.reduceLeDiff, Nat.reduceSub]
    rw [List.take_length] at hall
    rw [idxI_none hall]
theorem slices_ContainsFunc_sl_int_int_ok (l : List Int) (g : FuncId) (caps : List PV) (hc : refsL caps = []) (hcv : ∀ m h, viewLWith [] m h caps = some caps) (p : Int → Bool) (hp : ∀ x ∈ l, C g (I x :: caps) [] = some (.bool (p x), [])) (hl : l.length < 2^62) :
    C f_slices_ContainsFunc_sl_int_int [ints l, .clo g caps] [] = some (.bool (l.any p), []) := by
  refine C_slices_ContainsFunc_sl_int_int ?_
  simp (maxSteps := 2000000) (disch := (first | omega | (simp only [List.length_append, List.length_take, List.length_replicate, List.length_map, List.length_set, List.length_cons, List.length_nil, List.length_zipWith, List.length_drop, List.length_range]; first | done | omega))) only [ir_slices_ContainsFunc_sl_int_int, go_sem, Nat.reduceAdd, Nat.reduceEqDiff, Nat.reduceLeDiff, Nat.reduceSub]
  simp (maxSteps := 2000000) (disch := (first | omega | (simp only [List.length_append, List.length_take, List.length_replicate, List.length_map, List.length_set, List.length_cons, List.length_nil, List.length_zipWith, List.length_drop, List.length_range]; first | done | omega))) only [go_sem, Nat.reduceAdd, Nat.reduceEqDiff, Nat.reduceLeDiff, Nat.reduceSub, hc, hcv, slices_IndexFunc_sl_int_int_ok l g caps hc hcv p hp hl]
  have := idxI_any l p
  grind
theorem impl_isEnabled_ok (t : Tr) (m : List Int) (ht : ∀ q ∈ t.inn, 0 ≤ q ∧ q.toNat < m.length) (hl : t.inn.length < 2^62) : C f_impl_isEnabled [encT t, ints m] [] = some (.bool (canT t m), []) := by
  refine C_impl_isEnabled ?_
  simp (maxSteps := 2000000) (disch := (first | omega | (simp only [List.length_append, List.length_take, List.length_replicate, List.length_map, List.length_set, List.length_cons, List.length_nil, List.length_zipWith, List.length_drop, List.length_range]; first | done | omega))) only [ir_impl_isEnabled, go_sem, Nat.reduceAdd, Nat.reduceEqDiff, Nat.reduceLeDiff, Nat.reduceSub]
  have h := slices_ContainsFunc_sl_int_int_ok t.inn f_impl_isEnabled_1 [.pv (.agg [ints m]) 0] rfl (fun _ _ => rfl) (fun p => at_ m p == 0) (fun x hx => impl_isEnabled_1_ok m x (ht x hx)) hl
  simp (maxSteps := 2000000) (disch := (first | omega | (simp only [List.length_append, List.length_take, List.length_replicate, List.length_map, List.length_set, List.length_cons, List.length_nil, List.length_zipWith, List.length_drop, List.length_range]; first | done | omega))) only [go_sem, Nat.reduceAdd, Nat.reduceEqDiff, Nat.reduceLeDiff, Nat.reduceSub, h]
  have : (t.inn.any fun p => at_ m p == 0) = !canT t m := by rw [canT, List.any_eq_not_all_not]
  rw [this]; simp
theorem impl_fired_ok (t : Tr) (m : List Int) (h1 : ∀ q ∈ t.inn, 0 ≤ q ∧ q.toNat < m.length) (h2 : ∀ q ∈ t.out, 0 ≤ q ∧ q.toNat < m.length) (h3 : ∀ q ∈ t.rst, 0 ≤ q ∧ q.toNat < m.length) (hl : smT t) (hm : m.length < 2^30) (hb : ∀ x ∈ m, 0 ≤ x ∧ x ≤ 50) :
    C f_impl_fired [encT t, ints m] [] = some (.un t_int true 1 ((firedM t m).map I), []) := by
  obtain ⟨g1, g2, g3⟩ := hl
  refine C_impl_fired ?_
  simp (maxSteps := 2000000) (disch := (first | omega | (simp only [List.length_append, List.length_take, List.length_replicate, List.length_map, List.length_set, List.length_cons, List.length_nil, List.length_zipWith, List.length_drop, List.length_range]; first | done | omega))) only [ir_impl_fired, go_sem, Nat.reduceAdd, Nat.reduceEqDiff, Nat.reduceLeDiff, Nat.reduceSub]
  simp (maxSteps := 2000000) (disch := (first | omega | (simp only [List.length_append, List.length_take, List.length_replicate, List.length_map, List.length_set, List.length_cons, List.length_nil, List.length_zipWith, List.length_drop, List.length_range]; first | done | omega))) only [go_sem, Nat.reduceAdd, Nat.reduceEqDiff, Nat.reduceLeDiff, Nat.reduceSub, slices_Clone_sl_int_int_ok]
  refine W_for t.inn.length (fun k s => s = ⟨[.any, .any, .ptr 0 0, .any, .ref 1 1 0 m.length, .any, .any, .any, ints t.inn, I t.inn.length, I k, .any, .any, .any, .any, .any, .any, .any, .any, .any], [.box t_impl_Trans [ints t.inn, ints t.out, ints t.rst], .row t_int true 1 ((decL m (t.inn.take k)).map I)]⟩) ?_ ?_ ?_
  · simp (maxSteps := 2000000) (disch := (first | omega | (simp only [List.length_append, List.length_take, List.length_replicate, List.length_map, List.length_set, List.length_cons, List.length_nil, List.length_zipWith, List.length_drop, List.length_range]; first | done | omega))) only [go_sem, Nat.reduceAdd, Nat.reduceEqDiff, Nat.reduceLeDiff, Nat.reduceSub]
    rfl
  · rintro k s hk rfl
    obtain ⟨h4, h5⟩ := h1 _ (List.getElem_mem hk)
    have h6 := decL_len m (t.inn.take k)
    have h7 := at_bound (p := t.inn[k]) (decL_bound (l := t.inn.take k) hb (fun p hp => (h1 p (List.mem_of_mem_take hp)).2)) (by omega)
    have h8 : (t.inn.take k).length = k := by simp; omega
    simp (maxSteps := 2000000) (disch := (first | omega | (simp only [List.length_append, List.length_take, List.length_replicate, List.length_map, List.length_set, List.length_cons, List.length_nil, List.length_zipWith, List.length_drop, List.length_range]; first | done | omega))) only [go_sem, Nat.reduceAdd, Nat.reduceEqDiff, Nat.reduceLeDiff, Nat.reduceSub, at_eq]
    rw [decL_take hk]; rfl
  · rintro s rfl
    simp (maxSteps := 2000000) (disch := (first | omega | (simp only [List.length_append, List.length_take, List.length_replicate, List.length_map, List.length_set, List.length_cons, List.length_nil, List.length_zipWith, List.length_drop, List.length_range]; first | done | omega))) only [go_sem, Nat.reduceAdd, Nat.reduceEqDiff, Nat.reduceLeDiff, Nat.reduceSub, List.take_length]
    have b1 := decL_bound (l := t.inn) hb (fun p hp => (h1 p hp).2)
    have l1 := decL_len m t.inn
    generalize e1 : decL m t.inn = m1 at b1 l1 ⊢
    refine W_for t.rst.length (fun k s => s = ⟨[.any, .any, .ptr 0 0, .any, .ref 1 1 0 m.length, .any, .any, .any, .any, .any, .any, .any, ints t.rst, I t.rst.length, I k, .any, .any, .any, .any, .any], [.box t_impl_Trans [ints t.inn, ints t.out, ints t.rst], .row t_int true 1 ((zerL m1 (t.rst.take k)).map I)]⟩) ?_ ?_ ?_
    · simp (maxSteps := 2000000) (disch := (first | omega | (simp only [List.length_append, List.length_take, List.length_replicate, List.length_map, List.length_set, List.length_cons, List.length_nil, List.length_zipWith, List.length_drop, List.length_range]; first | done | omega))) only [go_sem, Nat.reduceAdd, Nat.reduceEqDiff, Nat.reduceLeDiff, Nat.reduceSub]
      rfl
    · rintro k s hk rfl
      obtain ⟨h4, h5⟩ := h3 _ (List.getElem_mem hk)
      have h6 := zerL_len m1 (t.rst.take k)
      simp (maxSteps := 2000000) (disch := (first | omega | (simp only [List.length_append, List.length_take, List.length_replicate, List.length_map, List.length_set, List.length_cons, List.length_nil, List.length_zipWith, List.length_drop, List.length_range]; first | done | omega))) only [go_sem, Nat.reduceAdd, Nat.reduceEqDiff, Nat.reduceLeDiff, Nat.reduceSub]
      rw [zerL_take hk]; rfl
    · rintro s rfl
      simp (maxSteps := 2000000) (disch := (first | omega | (simp only [List.length_append, List.length_take, List.length_replicate, List.length_map, List.length_set, List.length_cons, List.length_nil, List.length_zipWith, List.length_drop, List.length_range]; first | done | omega))) only [go_sem, Nat.reduceAdd, Nat.reduceEqDiff, Nat.reduceLeDiff, Nat.reduceSub, List.take_length]
      have b2 := zerL_bound (l := t.rst) b1 (by omega)
      have l2 := zerL_len m1 t.rst
      generalize e2 : zerL m1 t.rst = m2 at b2 l2 ⊢
      refine W_for t.out.length (fun k s => s = ⟨[.any, .any, .any, .any, .ref 0 1 0 m.length, .any, .any, .any, .any, .any, .any, .any, .any, .any, .any, .any, ints t.out, I t.out.length, I k, .any], [.row t_int true 1 ((incL m2 (t.out.take k)).map I)]⟩) ?_ ?_ ?_
      · simp (maxSteps := 2000000) (disch := (first | omega | (simp only [List.length_append, List.length_take, List.length_replicate, List.length_map, List.length_set, List.length_cons, List.length_nil, List.length_zipWith, List.length_drop, List.length_range]; first | done | omega))) only [go_sem, Nat.reduceAdd, Nat.reduceEqDiff, Nat.reduceLeDiff, Nat.reduceSub]
        rfl
      · rintro k s hk rfl
        obtain ⟨h4, h5⟩ := h2 _ (List.getElem_mem hk)
        have h6 := incL_len m2 (t.out.take k)
        have h7 := at_bound (p := t.out[k]) (incL_bound (l := t.out.take k) b2 (fun p hp => by have := (h2 p (List.mem_of_mem_take hp)).2; omega)) (by omega)
        have h8 : (t.out.take k).length = k := by simp; omega
        simp (maxSteps := 2000000) (disch := (first | omega | (simp only [List.length_append, List.length_take, List.length_replicate, List.length_map, List.length_set, List.length_cons, List.length_nil, List.length_zipWith, List.length_drop, List.length_range]; first | done | omega))) only [go_sem, Nat.reduceAdd, Nat.reduceEqDiff, Nat.reduceLeDiff, Nat.reduceSub, at_eq]
        rw [incL_take hk]; rfl
      · rintro s rfl
        have h6 := incL_len m2 t.out
        simp (maxSteps := 2000000) (disch := (first | omega | (simp only [List.length_append, List.length_take, List.length_replicate, List.length_map, List.length_set, List.length_cons, List.length_nil, List.length_zipWith, List.length_drop, List.length_range]; first | done | omega))) only [go_sem, Nat.reduceAdd, Nat.reduceEqDiff, Nat.reduceLeDiff, Nat.reduceSub, List.take_length]
        subst e2 e1; rfl
theorem impl_checkedMark_t (m : List Int) (hm : m.length < 2^62) (h : m.all (inB 0 50) = true) : C f_impl_checkedMark [ints m] [] = some (.tup [ints m, .bool true], []) := by
  refine C_impl_checkedMark ?_
  simp (maxSteps := 2000000) (disch := (first | omega | (simp only [List.length_append, List.length_take, List.length_replicate, List.length_map, List.length_set, List.length_cons, List.length_nil, List.length_zipWith, List.length_drop, List.length_range]; first | done | omega))) only [ir_impl_checkedMark, go_sem, Nat.reduceAdd, Nat.reduceEqDiff, Nat.reduceLeDiff, Nat.reduceSub]
  simp (maxSteps := 2000000) (disch := (first | omega | (simp only [List.length_append, List.length_take, List.length_replicate, List.length_map, List.length_set, List.length_cons, List.length_nil, List.length_zipWith, List.length_drop, List.length_range]; first | done | omega))) only [go_sem, Nat.reduceAdd, Nat.reduceEqDiff, Nat.reduceLeDiff, Nat.reduceSub, impl_allWithin_ok m _ _ hm, h]
theorem impl_checkedMark_f (m : List Int) (hm : m.length < 2^62) (h : m.all (inB 0 50) = false) : C f_impl_checkedMark [ints m] [] = some (.tup [.un t_int true 1 [], .bool false], []) := by
  refine C_impl_checkedMark ?_
  simp (maxSteps := 2000000) (disch := (first | omega | (simp only [List.length_append, List.length_take, List.length_replicate, List.length_map, List.length_set, List.length_cons, List.length_nil, List.length_zipWith, List.length_drop, List.length_range]; first | done | omega))) only [ir_impl_checkedMark, go_sem, Nat.reduceAdd, Nat.reduceEqDiff, Nat.reduceLeDiff, Nat.reduceSub]
  simp (maxSteps := 2000000) (disch := (first | omega | (simp only [List.length_append, List.length_take, List.length_replicate, List.length_map, List.length_set, List.length_cons, List.length_nil, List.length_zipWith, List.length_drop, List.length_range]; first | done | omega))) only [go_sem, Nat.reduceAdd, Nat.reduceEqDiff, Nat.reduceLeDiff, Nat.reduceSub, impl_allWithin_ok m _ _ hm, h]
theorem impl_Fire_t (n : Net) (m : List Int) (t : Int) (hn : smN n) (hm : m.length < 2^62) (h : okFire n m t = true) : C f_impl_Fire [encN n, ints m, I t] [] = some (.tup [ints (firedM (trAt n t) m), .bool true], []) := by
  have h0 := hn.1
  obtain ⟨h1, h2⟩ := Bool.and_eq_true .. ▸ h
  obtain ⟨h3, h4, h5, h6, h7, h8⟩ := canN_parts h1
  have hx := goodT_lt h8 (goodM_len h4).2.2.1
  have hy := goodT_lens h8 (by have := goodN_parts h3; omega)
  have hm := (goodM_len h4).2.2.2
  have hz := firedM_len (trAt n t) m
  refine C_impl_Fire ?_
  simp (maxSteps := 2000000) (disch := (first | omega | (simp only [List.length_append, List.length_take, List.length_replicate, List.length_map, List.length_set, List.length_cons, List.length_nil, List.length_zipWith, List.length_drop, List.length_range]; first | done | omega))) only [ir_impl_Fire, go_sem, Nat.reduceAdd, Nat.reduceEqDiff, Nat.reduceLeDiff, Nat.reduceSub]
  simp (maxSteps := 2000000) (disch := (first | omega | (simp only [List.length_append, List.length_take, List.length_replicate, List.length_map, List.length_set, List.length_cons, List.length_nil, List.length_zipWith, List.length_drop, List.length_range]; first | done | omega))) only [go_sem, Nat.reduceAdd, Nat.reduceEqDiff, Nat.reduceLeDiff, Nat.reduceSub, impl_isMarked_ok n m hn (by omega), impl_isTrans_ok n t (by omega), trAt_eq, impl_isEnabled_ok (trAt n t) m hx.1 (by omega), (show marked n m = true by simp [marked, h3, h4]), (show inB 0 (n.tr.length - 1) t = true by simp [inB]; omega), h7,
    impl_fired_ok (trAt n t) m hx.1 hx.2.1 hx.2.2 ⟨by omega, by omega, by omega⟩ (by omega) hm.2, impl_checkedMark_t (firedM (trAt n t) m) (by omega) h2]
theorem impl_Fire_f (n : Net) (m : List Int) (t : Int) (hn : smN n) (hm : m.length < 2^62) (h : okFire n m t = false) : C f_impl_Fire [encN n, ints m, I t] [] = some (.tup [.un t_int true 1 [], .bool false], []) := by
  have h0 := hn.1
  refine C_impl_Fire ?_
  simp (maxSteps := 2000000) (disch := (first | omega | (simp only [List.length_append, List.length_take, List.length_replicate, List.length_map, List.length_set, List.length_cons, List.length_nil, List.length_zipWith, List.length_drop, List.length_range]; first | done | omega))) only [ir_impl_Fire, go_sem, Nat.reduceAdd, Nat.reduceEqDiff, Nat.reduceLeDiff, Nat.reduceSub]
  simp (maxSteps := 2000000) (disch := (first | omega | (simp only [List.length_append, List.length_take, List.length_replicate, List.length_map, List.length_set, List.length_cons, List.length_nil, List.length_zipWith, List.length_drop, List.length_range]; first | done | omega))) only [go_sem, Nat.reduceAdd, Nat.reduceEqDiff, Nat.reduceLeDiff, Nat.reduceSub, impl_isMarked_ok n m hn hm, impl_isTrans_ok n t (by omega)]
  intro h1 h2
  obtain ⟨h3, h4⟩ := marked_parts h1
  have h6 : 0 ≤ t ∧ t.toNat < n.tr.length := by simp [inB] at h2; omega
  have h8 := (goodN_parts h3).2.2.2 _ (List.getElem_mem h6.2)
  rw [trAt_eq h6.2] at h8
  have hx := goodT_lt h8 (goodM_len h4).2.2.1
  have hy := goodT_lens h8 (by have := goodN_parts h3; omega)
  have hm := (goodM_len h4).2.2.2
  have hz := firedM_len (trAt n t) m
  simp (maxSteps := 2000000) (disch := (first | omega | (simp only [List.length_append, List.length_take, List.length_replicate, List.length_map, List.length_set, List.length_cons, List.length_nil, List.length_zipWith, List.length_drop, List.length_range]; first | done | omega))) only [go_sem, Nat.reduceAdd, Nat.reduceEqDiff, Nat.reduceLeDiff, Nat.reduceSub, trAt_eq, impl_isEnabled_ok (trAt n t) m hx.1 (by omega)]
  intro h7
  have h9 : (firedM (trAt n t) m).all (inB 0 50) = false := by simpa [okFire, canN, h1, h2, h7] using h
  simp (maxSteps := 2000000) (disch := (first | omega | (simp only [List.length_append, List.length_take, List.length_replicate, List.length_map, List.length_set, List.length_cons, List.length_nil, List.length_zipWith, List.length_drop, List.length_range]; first | done | omega))) only [go_sem, Nat.reduceAdd, Nat.reduceEqDiff, Nat.reduceLeDiff, Nat.reduceSub, trAt_eq, impl_fired_ok (trAt n t) m hx.1 hx.2.1 hx.2.2 ⟨by omega, by omega, by omega⟩ (by omega) hm.2, impl_checkedMark_f (firedM (trAt n t) m) (by omega) h9]
theorem impl_FireAll_ok (n : Net) (m l : List Int) (hn : smN n) (hm : m.length < 2^62) (hl : l.length < 2^62) : Lw (C f_impl_FireAll [encN n, ints m, ints l] []) fun r => ∃ X, r = (.tup [X, I (if okSeq n m l then many n m l else 0), .bool (okSeq n m l)], []) ∧ ((X = ints (if okSeq n m l then fsq n m (l.take (many n m l)) else []) ∧ okSeq n m l = true ∧ 0 < many n m l) ∨ (X = .un t_int true 1 ((if okSeq n m l then fsq n m (l.take (many n m l)) else []).map I) ∧ (okSeq n m l = true → many n m l = 0))) := by
  have h0 := hn.1
  refine E_impl_FireAll ?_
  simp (maxSteps := 2000000) (disch := (first | omega | (simp only [List.length_append, List.length_take, List.length_replicate, List.length_map, List.length_set, List.length_cons, List.length_nil, List.length_zipWith, List.length_drop, List.length_range]; first | done | omega))) only [ir_impl_FireAll, go_sem, Nat.reduceAdd, Nat.reduceEqDiff, Nat.reduceLeDiff, Nat.reduceSub]
  simp (maxSteps := 2000000) (disch := (first | omega | (simp only [List.length_append, List.length_take, List.length_replicate, List.length_map, List.length_set, List.length_cons, List.length_nil, List.length_zipWith, List.length_drop, List.length_range]; first | done | omega))) only [go_sem, Nat.reduceAdd, Nat.reduceEqDiff, Nat.reduceLeDiff, Nat.reduceSub, impl_isMarked_ok n m hn hm, impl_areTrans_ok n l (by omega) hl]
  cases h1 : marked n m with
  | false => simp [okSeq, h1]
  | true =>
    cases h2 : areTr n l with
    | false => simp [okSeq, h1, h2]
    | true =>
      have hok : okSeq n m l = true := by simp [okSeq, h1, h2]
      have h3 := (goodM_len (marked_parts h1).2).2.2.2.1
      simp only [go_sem, hok]
      simp (maxSteps := 2000000) (disch := (first | omega | (simp only [List.length_append, List.length_take, List.length_replicate, List.length_map, List.length_set, List.length_cons, List.length_nil, List.length_zipWith, List.length_drop, List.length_range]; first | done | omega))) only [go_sem, Nat.reduceAdd, Nat.reduceEqDiff, Nat.reduceLeDiff, Nat.reduceSub, slices_Clone_sl_int_int_ok]
      refine W_for l.length (fun k s => (∀ j, (hj : j < k) → (hjl : j < l.length) → okFire n (fsq n m (l.take j)) l[j] = true) ∧ ((s = ⟨[.any, .ref 0 1 0 m.length, ints l, .ptr 1 0, .any, .any, .any, .any, .any, .any, .any, .any, ints l, I l.length, I k, .any, .any], [.row t_int true 1 (m.map I), .box t_impl_Net [I n.pl, trs n.tr]]⟩ ∧ k = 0) ∨ s = ⟨[.any, ints (fsq n m (l.take k)), ints l, .ptr 0 0, .any, .any, .any, .any, .any, .any, .any, .any, ints l, I l.length, I k, .any, .any], [.box t_impl_Net [I n.pl, trs n.tr]]⟩ ∧ 0 < k)) ?_ ?_ ?_
      · refine ⟨fun j hj => by omega, .inl ⟨?_, rfl⟩⟩
        simp (maxSteps := 2000000) (disch := (first | omega | (simp only [List.length_append, List.length_take, List.length_replicate, List.length_map, List.length_set, List.length_cons, List.length_nil, List.length_zipWith, List.length_drop, List.length_range]; first | done | omega))) only [go_sem, Nat.reduceAdd, Nat.reduceEqDiff, Nat.reduceLeDiff, Nat.reduceSub]
        rfl
      · rintro k s hk ⟨hall, ⟨rfl, rfl⟩ | ⟨rfl, hk0⟩⟩
        · cases hf : okFire n m l[0] with
          | true =>
            simp (maxSteps := 2000000) (disch := (first | omega | (simp only [List.length_append, List.length_take, List.length_replicate, List.length_map, List.length_set, List.length_cons, List.length_nil, List.length_zipWith, List.length_drop, List.length_range]; first | done | omega))) only [go_sem, Nat.reduceAdd, Nat.reduceEqDiff, Nat.reduceLeDiff, Nat.reduceSub, impl_Fire_t n m l[0] hn hm hf]
            refine ⟨fun j hj hjl => ?_, ?_⟩
            · have : j = 0 := by omega
              subst this; simpa [fsq] using hf
            · rw [fsq_take hk, List.take_zero, fsq_nil]; exact ⟨rfl, by omega⟩
          | false =>
            have e : many n m l = 0 := many_eq (k := 0) (by omega) (fun j hj => by omega) (fun h => by simpa [fsq] using hf)
            simp (maxSteps := 2000000) (disch := (first | omega | (simp only [List.length_append, List.length_take, List.length_replicate, List.length_map, List.length_set, List.length_cons, List.length_nil, List.length_zipWith, List.length_drop, List.length_range]; first | done | omega))) only [go_sem, Nat.reduceAdd, Nat.reduceEqDiff, Nat.reduceLeDiff, Nat.reduceSub, impl_Fire_f n m l[0] hn hm hf]
            simp only [if_true, e, List.take_zero, fsq_nil]
            exact ⟨_, rfl, .inr ⟨rfl, trivial⟩⟩
        · have hlen := fsq_len n m (l.take k)
          cases hf : okFire n (fsq n m (l.take k)) l[k] with
          | true =>
            simp (maxSteps := 2000000) (disch := (first | omega | (simp only [List.length_append, List.length_take, List.length_replicate, List.length_map, List.length_set, List.length_cons, List.length_nil, List.length_zipWith, List.length_drop, List.length_range]; first | done | omega))) only [go_sem, Nat.reduceAdd, Nat.reduceEqDiff, Nat.reduceLeDiff, Nat.reduceSub, impl_Fire_t n (fsq n m (l.take k)) l[k] hn (by omega) hf]
            refine ⟨fun j hj hjl => ?_, ?_⟩
            · by_cases hjk : j < k
              · exact hall j hjk hjl
              · have : j = k := by omega
                subst this; exact hf
            · rw [fsq_take hk]; rfl
          | false =>
            have e : many n m l = k := many_eq (by omega) (fun j hj => hall j hj (by omega)) (fun h => hf)
            simp (maxSteps := 2000000) (disch := (first | omega | (simp only [List.length_append, List.length_take, List.length_replicate, List.length_map, List.length_set, List.length_cons, List.length_nil, List.length_zipWith, List.length_drop, List.length_range]; first | done | omega))) only [go_sem, Nat.reduceAdd, Nat.reduceEqDiff, Nat.reduceLeDiff, Nat.reduceSub, impl_Fire_f n (fsq n m (l.take k)) l[k] hn (by omega) hf]
            simp only [if_true, e]
            exact ⟨_, rfl, .inl ⟨rfl, hk0⟩⟩
      · rintro s ⟨hall, ⟨rfl, hk⟩ | ⟨rfl, hk0⟩⟩
        · have : l = [] := List.eq_nil_of_length_eq_zero hk
          subst this
          simp (maxSteps := 2000000) (disch := (first | omega | (simp only [List.length_append, List.length_take, List.length_replicate, List.length_map, List.length_set, List.length_cons, List.length_nil, List.length_zipWith, List.length_drop, List.length_range]; first | done | omega))) only [go_sem, Nat.reduceAdd, Nat.reduceEqDiff, Nat.reduceLeDiff, Nat.reduceSub]
          simp only [if_true, many, List.take_nil, fsq_nil]
          exact ⟨_, rfl, .inr ⟨rfl, trivial⟩⟩
        · have e : many n m l = l.length := many_eq (Nat.le_refl _) (fun j hj => hall j hj hj) (fun h => by omega)
          simp (maxSteps := 2000000) (disch := (first | omega | (simp only [List.length_append, List.length_take, List.length_replicate, List.length_map, List.length_set, List.length_cons, List.length_nil, List.length_zipWith, List.length_drop, List.length_range]; first | done | omega))) only [go_sem, Nat.reduceAdd, Nat.reduceEqDiff, Nat.reduceLeDiff, Nat.reduceSub]
          simp only [if_true, e, List.take_length]
          exact ⟨_, rfl, .inl ⟨rfl, hk0⟩⟩
theorem spec_FireAll_ok (n : Net) (m l : List Int) (hn : smN n) (hm : m.length < 2^62) (hl : l.length < 2^62) : C f_spec_FireAll [encN n, ints m, ints l] [] = some (.tup [.un t_int true 1 ((if okSeq n m l then fsq n m (l.take (many n m l)) else []).map I), I (if okSeq n m l then many n m l else 0), .bool (okSeq n m l)], []) := by
  have h0 := hn.1
  refine C_spec_FireAll ?_
  simp (maxSteps := 2000000) (disch := (first | omega | (simp only [List.length_append, List.length_take, List.length_replicate, List.length_map, List.length_set, List.length_cons, List.length_nil, List.length_zipWith, List.length_drop, List.length_range]; first | done | omega))) only [ir_spec_FireAll, go_sem, Nat.reduceAdd, Nat.reduceEqDiff, Nat.reduceLeDiff, Nat.reduceSub]
  simp (maxSteps := 2000000) (disch := (first | omega | (simp only [List.length_append, List.length_take, List.length_replicate, List.length_map, List.length_set, List.length_cons, List.length_nil, List.length_zipWith, List.length_drop, List.length_range]; first | done | omega))) only [go_sem, Nat.reduceAdd, Nat.reduceEqDiff, Nat.reduceLeDiff, Nat.reduceSub, spec_l2Marked_ok n m hn hm, spec_l1All_ok l _ _ hl]
  cases h1 : marked n m with
  | false => simp [okSeq, h1]
  | true =>
    cases h2 : areTr n l with
    | false =>
      simp only [go_sem, areTr, Bool.and_eq_false_iff, decide_eq_false_iff_not] at h2 ⊢
      have hok : okSeq n m l = false := by simp only [okSeq, areTr, h1, Bool.true_and, Bool.and_eq_false_iff, decide_eq_false_iff_not]; exact h2
      refine ⟨fun _ => by simp [hok], fun h3 => ⟨fun h4 => ?_, fun _ => by simp [hok]⟩⟩
      rcases h2 with h2 | h2
      · omega
      · rw [h4] at h2; cases h2
    | true =>
      have hok : okSeq n m l = true := by simp [okSeq, h1, h2]
      have h3 := (goodM_len (marked_parts h1).2).2.2.2.1
      simp only [areTr, Bool.and_eq_true, decide_eq_true_eq] at h2
      simp (maxSteps := 2000000) (disch := (first | omega | (simp only [List.length_append, List.length_take, List.length_replicate, List.length_map, List.length_set, List.length_cons, List.length_nil, List.length_zipWith, List.length_drop, List.length_range]; first | done | omega))) only [go_sem, Nat.reduceAdd, Nat.reduceEqDiff, Nat.reduceLeDiff, Nat.reduceSub, h2.1, h2.2]
      refine ⟨fun h => by omega, fun _ => ?_⟩
      simp (maxSteps := 2000000) (disch := (first | omega | (simp only [List.length_append, List.length_take, List.length_replicate, List.length_map, List.length_set, List.length_cons, List.length_nil, List.length_zipWith, List.length_drop, List.length_range]; first | done | omega))) only [go_sem, Nat.reduceAdd, Nat.reduceEqDiff, Nat.reduceLeDiff, Nat.reduceSub, spec_l1Own_ok m (by omega), hok]
      refine W_for l.length (fun k s => (∀ j, (hj : j < k) → (hjl : j < l.length) → okFire n (fsq n m (l.take j)) l[j] = true) ∧ s = ⟨[.any, .any, ints l, .ptr 0 0, .any, .any, .any, .ref 1 1 0 m.length, .any, .any, .any, .any, .any, ints l, I l.length, I k, .any, .any], [.box t_impl_Net [I n.pl, trs n.tr], .row t_int true 1 ((fsq n m (l.take k)).map I)]⟩) ?_ ?_ ?_
      · refine ⟨fun j hj => by omega, ?_⟩
        simp (maxSteps := 2000000) (disch := (first | omega | (simp only [List.length_append, List.length_take, List.length_replicate, List.length_map, List.length_set, List.length_cons, List.length_nil, List.length_zipWith, List.length_drop, List.length_range]; first | done | omega))) only [go_sem, Nat.reduceAdd, Nat.reduceEqDiff, Nat.reduceLeDiff, Nat.reduceSub]
        rfl
      · rintro k s hk ⟨hall, rfl⟩
        have hlen := fsq_len n m (l.take k)
        have hf1 := spec_Fire_ok n (fsq n m (l.take k)) l[k] hn (by omega)
        cases hf : okFire n (fsq n m (l.take k)) l[k] with
        | true =>
          simp only [hf, if_true] at hf1
          have hl2 := firedM_len (trAt n l[k]) (fsq n m (l.take k))
          simp (maxSteps := 2000000) (disch := (first | omega | (simp only [List.length_append, List.length_take, List.length_replicate, List.length_map, List.length_set, List.length_cons, List.length_nil, List.length_zipWith, List.length_drop, List.length_range]; first | done | omega))) only [go_sem, Nat.reduceAdd, Nat.reduceEqDiff, Nat.reduceLeDiff, Nat.reduceSub, hf1]
          refine ⟨fun j hj hjl => ?_, ?_⟩
          · by_cases hjk : j < k
            · exact hall j hjk hjl
            · have : j = k := by omega
              subst this; exact hf
          · rw [fsq_take hk, hl2, hlen]; rfl
        | false =>
          simp only [hf, if_false, Bool.false_eq_true] at hf1
          have e : many n m l = k := many_eq (by omega) (fun j hj => hall j hj (by omega)) (fun h => hf)
          simp (maxSteps := 2000000) (disch := (first | omega | (simp only [List.length_append, List.length_take, List.length_replicate, List.length_map, List.length_set, List.length_cons, List.length_nil, List.length_zipWith, List.length_drop, List.length_range]; first | done | omega))) only [go_sem, Nat.reduceAdd, Nat.reduceEqDiff, Nat.reduceLeDiff, Nat.reduceSub, hf1, e]
      · rintro s ⟨hall, rfl⟩
        have e : many n m l = l.length := many_eq (Nat.le_refl _) (fun j hj => hall j hj hj) (fun h => by omega)
        have hlen := fsq_len n m l
        simp (maxSteps := 2000000) (disch := (first | omega | (simp only [List.length_append, List.length_take, List.length_replicate, List.length_map, List.length_set, List.length_cons, List.length_nil, List.length_zipWith, List.length_drop, List.length_range]; first | done | omega))) only [go_sem, Nat.reduceAdd, Nat.reduceEqDiff, Nat.reduceLeDiff, Nat.reduceSub, e, List.take_length]
theorem laws_sameInts_ok (a b : List Int) (hl : a.length < 2^62) : C f_laws_sameInts [ints a, ints b] [] = some (.bool (decide (a = b)), []) := by
  refine C_laws_sameInts ?_
  simp (maxSteps := 2000000) (disch := (first | omega | (simp only [List.length_append, List.length_take, List.length_replicate, List.length_map, List.length_set, List.length_cons, List.length_nil, List.length_zipWith, List.length_drop, List.length_range]; first | done | omega))) only [ir_laws_sameInts, go_sem, Nat.reduceAdd, Nat.reduceEqDiff, Nat.reduceLeDiff, Nat.reduceSub]
  refine ⟨fun h => ?_, fun h => ?_⟩
  · have : a ≠ b := fun e => h (by rw [e])
    simp [this]
  refine W_for a.length (fun k s => s = ⟨[ints a, ints b, .any, .any, .any, I a.length, I k, .any, .any], []⟩ ∧ a.take k = b.take k) ?_ ?_ ?_
  · simp (maxSteps := 2000000) (disch := (first | omega | (simp only [List.length_append, List.length_take, List.length_replicate, List.length_map, List.length_set, List.length_cons, List.length_nil, List.length_zipWith, List.length_drop, List.length_range]; first | done | omega))) only [go_sem, Nat.reduceAdd, Nat.reduceEqDiff, Nat.reduceLeDiff, Nat.reduceSub]
    rfl
  · rintro k s hk ⟨rfl, hall⟩
    simp (maxSteps := 2000000) (disch := (first | omega | (simp only [List.length_append, List.length_take, List.length_replicate, List.length_map, List.length_set, List.length_cons, List.length_nil, List.length_zipWith, List.length_drop, List.length_range]; first | done | omega))) only [go_sem, Nat.reduceAdd, Nat.reduceEqDiff, Nat.reduceLeDiff, Nat.reduceSub]
    refine ⟨fun h => ?_, fun h => ⟨rfl, ?_⟩⟩
    · have : a ≠ b := fun e => h (by simp [e])
      simp [this]
    · rw [take_snoc hk, take_snoc (show k < b.length by omega), hall, h]
  · rintro s ⟨rfl, hall⟩
    simp (maxSteps := 2000000) (disch := (first | omega | (simp only [List.length_append, List.length_take, List.length_replicate, List.length_map, List.length_set, List.length_cons, List.length_nil, List.length_zipWith, List.length_drop, List.length_range]; first | done | omega))) only [go_sem, Nat.reduceAdd, Nat.reduceEqDiff, Nat.reduceLeDiff, Nat.reduceSub]
    rw [List.take_length, List.take_of_length_le (by omega)] at hall
    simp [hall]
theorem impl_enabled_ok (n : Net) (m : List Int) (hg : goodN n = true) (hm : (m.length : Int) = n.pl) : C f_impl_enabled [encN n, ints m] [] = some (.un t_int true 1 ((enabL n m).map I), []) := by
  have hb := goodN_parts hg
  refine C_impl_enabled ?_
  simp (maxSteps := 2000000) (disch := (first | omega | (simp only [List.length_append, List.length_take, List.length_replicate, List.length_map, List.length_set, List.length_cons, List.length_nil, List.length_zipWith, List.length_drop, List.length_range]; first | done | omega))) only [ir_impl_enabled, go_sem, Nat.reduceAdd, Nat.reduceEqDiff, Nat.reduceLeDiff, Nat.reduceSub]
  refine W_for n.tr.length (fun k s => s = ⟨[.any, ints m, .any, .any, .ref 0 1 0 (enabK n m k).length, .any, .any, trs n.tr, I n.tr.length, I k, .any, .any], [.row t_int true 1 ((enabK n m k).map I)]⟩) ?_ ?_ ?_
  · simp (maxSteps := 2000000) (disch := (first | omega | (simp only [List.length_append, List.length_take, List.length_replicate, List.length_map, List.length_set, List.length_cons, List.length_nil, List.length_zipWith, List.length_drop, List.length_range]; first | done | omega))) only [go_sem, Nat.reduceAdd, Nat.reduceEqDiff, Nat.reduceLeDiff, Nat.reduceSub]
    rfl
  · rintro k s hk rfl
    have hT := hb.2.2.2 _ (List.getElem_mem hk)
    have h2 := enabK_len n m k
    simp (maxSteps := 2000000) (disch := (first | omega | (simp only [List.length_append, List.length_take, List.length_replicate, List.length_map, List.length_set, List.length_cons, List.length_nil, List.length_zipWith, List.length_drop, List.length_range]; first | done | omega))) only [go_sem, Nat.reduceAdd, Nat.reduceEqDiff, Nat.reduceLeDiff, Nat.reduceSub, impl_isEnabled_ok _ m (goodT_lt hT hm).1 (by have := (goodT_lens hT (by omega)).1; omega)]
    refine ⟨fun h => ?_, fun h => ?_⟩
    · rw [enabK_t hk h, List.map_append]; simp
    · rw [enabK_f hk h]; rfl
  · rintro s rfl
    simp (maxSteps := 2000000) (disch := (first | omega | (simp only [List.length_append, List.length_take, List.length_replicate, List.length_map, List.length_set, List.length_cons, List.length_nil, List.length_zipWith, List.length_drop, List.length_range]; first | done | omega))) only [go_sem, Nat.reduceAdd, Nat.reduceEqDiff, Nat.reduceLeDiff, Nat.reduceSub]
    rfl
theorem impl_Enabled_ok (n : Net) (m : List Int) (hn : smN n) (hm : m.length < 2^62) : C f_impl_Enabled [encN n, ints m] [] = some (.tup [.un t_int true 1 ((if marked n m then enabL n m else []).map I), .bool (marked n m)], []) := by
  refine C_impl_Enabled ?_
  simp (maxSteps := 2000000) (disch := (first | omega | (simp only [List.length_append, List.length_take, List.length_replicate, List.length_map, List.length_set, List.length_cons, List.length_nil, List.length_zipWith, List.length_drop, List.length_range]; first | done | omega))) only [ir_impl_Enabled, go_sem, Nat.reduceAdd, Nat.reduceEqDiff, Nat.reduceLeDiff, Nat.reduceSub]
  simp (maxSteps := 2000000) (disch := (first | omega | (simp only [List.length_append, List.length_take, List.length_replicate, List.length_map, List.length_set, List.length_cons, List.length_nil, List.length_zipWith, List.length_drop, List.length_range]; first | done | omega))) only [go_sem, Nat.reduceAdd, Nat.reduceEqDiff, Nat.reduceLeDiff, Nat.reduceSub, impl_isMarked_ok n m hn hm]
  refine ⟨fun h => ?_, fun h => by simp [h]⟩
  obtain ⟨h1, h2⟩ := marked_parts h
  simp (maxSteps := 2000000) (disch := (first | omega | (simp only [List.length_append, List.length_take, List.length_replicate, List.length_map, List.length_set, List.length_cons, List.length_nil, List.length_zipWith, List.length_drop, List.length_range]; first | done | omega))) only [go_sem, Nat.reduceAdd, Nat.reduceEqDiff, Nat.reduceLeDiff, Nat.reduceSub, impl_enabled_ok n m h1 (goodM_len h2).2.2.1, h]
theorem laws_has_ok (l : List Int) (x : Int) (hl : l.length < 2^62) : C f_laws_has [ints l, I x] [] = some (.bool (decide (x ∈ l)), []) := by
  refine C_laws_has ?_
  simp (maxSteps := 2000000) (disch := (first | omega | (simp only [List.length_append, List.length_take, List.length_replicate, List.length_map, List.length_set, List.length_cons, List.length_nil, List.length_zipWith, List.length_drop, List.length_range]; first | done | omega))) only [ir_laws_has, go_sem, Nat.reduceAdd, Nat.reduceEqDiff, Nat.reduceLeDiff, Nat.reduceSub]
  refine W_for l.length (fun k s => s = ⟨[.any, I x, .any, .any, ints l, I l.length, I k, .any, .any], []⟩ ∧ (l.take k).any (fun y => y == x) = false) ?_ ?_ ?_
  · simp (maxSteps := 2000000) (disch := (first | omega | (simp only [List.length_append, List.length_take, List.length_replicate, List.length_map, List.length_set, List.length_cons, List.length_nil, List.length_zipWith, List.length_drop, List.length_range]; first | done | omega))) only [go_sem, Nat.reduceAdd, Nat.reduceEqDiff, Nat.reduceLeDiff, Nat.reduceSub]
    rfl
  · rintro k s hk ⟨rfl, hall⟩
    simp (maxSteps := 2000000) (disch := (first | omega | (simp only [List.length_append, List.length_take, List.length_replicate, List.length_map, List.length_set, List.length_cons, List.length_nil, List.length_zipWith, List.length_drop, List.length_range]; first | done | omega))) only [go_sem, Nat.reduceAdd, Nat.reduceEqDiff, Nat.reduceLeDiff, Nat.reduceSub]
    refine ⟨fun h => ?_, fun h => ⟨rfl, any_take hk hall (by simpa using h)⟩⟩
    have : x ∈ l := by rw [← h]; exact List.getElem_mem hk
    simp [this]
  · rintro s ⟨rfl, hall⟩
    simp (maxSteps := 2000000) (disch := (first | omega | (simp only [List.length_append, List.length_take, List.length_replicate, List.length_map, List.length_set, List.length_cons, List.length_nil, List.length_zipWith, List.length_drop, List.length_range]; first | done | omega))) only [go_sem, Nat.reduceAdd, Nat.reduceEqDiff, Nat.reduceLeDiff, Nat.reduceSub]
    rw [List.take_length, List.any_eq_false] at hall
    have : ¬ x ∈ l := fun h => by simpa using hall x h
    simp [this]
theorem spec_DrawFire_ok (bs : List Int) (hl : bs.length < 2^62) (hb : ∀ x ∈ bs, 0 ≤ x ∧ x < 256) :
    Lw (C f_spec_DrawFire [bys bs] []) fun r => ∃ (n : Net) (m : List Int) (t : Int), r = (.tup [.agg [I n.pl, .un t_impl_Trans false 3 (n.tr.map encT)], .un t_int true 1 (m.map I), I t], []) ∧ smNet n ∧ m.length ≤ 20 := by
  refine E_spec_DrawFire ?_
  simp (maxSteps := 2000000) (disch := (first | omega | (simp only [List.length_append, List.length_take, List.length_replicate, List.length_map, List.length_set, List.length_cons, List.length_nil, List.length_zipWith, List.length_drop, List.length_range]; first | done | omega))) only [ir_spec_DrawFire, go_sem, Nat.reduceAdd, Nat.reduceEqDiff, Nat.reduceLeDiff, Nat.reduceSub]
  obtain ⟨_, e1, n, a1, s1, rfl, h3, h4, h5⟩ := spec_l1Cur_net_ok true bs 0 0 (by omega) (by omega) hl hb
  obtain ⟨_, e2, m, a2, s2, rfl, h6, h7, h8, h9⟩ := spec_l1Cur_markOf_ok n h5.2.1 bs a1 s1 (by omega) (by omega) hl hb
  have e3 := spec_Enabled_ok n m h5.smN (by omega)
  obtain ⟨_, e4, x4, a4, s4, rfl, h11, h12⟩ := spec_l1Cur_one_ok 4 bs a2 s2 (by omega) (by omega) hl hb
  obtain ⟨_, e5, x5, a5, s5, rfl, h13, h14, h15, h16⟩ := spec_l1Cur_pick_ok 6 bs a2 s2 (by omega) (by omega) hl hb
  obtain ⟨_, e6, x6, a6, s6, rfl, h17, h18, h19, h20⟩ := spec_l1Cur_pick_ok 12 bs a5 s5 (by omega) (by omega) hl hb
  obtain ⟨_, e7, x7, a7, s7, rfl, h21, h22, h23, h24⟩ := spec_l1Cur_pick_ok 6 bs a4 s4 (by omega) (by omega) hl hb
  obtain ⟨_, e8, x8, a8, s8, rfl, h25, h26, h27, h28⟩ := spec_l1Cur_pick_ok 12 bs a7 s7 (by omega) (by omega) hl hb
  obtain ⟨_, e9, x9, a9, s9, rfl, h29, h30, h31, h32⟩ := spec_l1Cur_pick_ok (enabL n m).length bs a4 s4 (by omega) (by omega) hl hb
  cases hm : marked n m with
  | false =>
    simp only [hm] at e3
    simp (maxSteps := 2000000) (disch := (first | omega | (simp only [List.length_append, List.length_take, List.length_replicate, List.length_map, List.length_set, List.length_cons, List.length_nil, List.length_zipWith, List.length_drop, List.length_range]; first | done | omega))) only [go_sem, Nat.reduceAdd, Nat.reduceEqDiff, Nat.reduceLeDiff, Nat.reduceSub, e1, e2, e3, e5, e6]
    exact ⟨n, m, _, rfl, h5, h8⟩
  | true =>
    simp only [hm] at e3
    simp (maxSteps := 2000000) (disch := (first | omega | (simp only [List.length_append, List.length_take, List.length_replicate, List.length_map, List.length_set, List.length_cons, List.length_nil, List.length_zipWith, List.length_drop, List.length_range]; first | done | omega))) only [go_sem, Nat.reduceAdd, Nat.reduceEqDiff, Nat.reduceLeDiff, Nat.reduceSub, e1, e2, e3, e4]
    refine ⟨fun hp => ⟨fun hx => ?_, fun hx => ?_⟩, fun hp => ?_⟩
    · simp (maxSteps := 2000000) (disch := (first | omega | (simp only [List.length_append, List.length_take, List.length_replicate, List.length_map, List.length_set, List.length_cons, List.length_nil, List.length_zipWith, List.length_drop, List.length_range]; first | done | omega))) only [go_sem, Nat.reduceAdd, Nat.reduceEqDiff, Nat.reduceLeDiff, Nat.reduceSub, e7, e8]
      exact ⟨n, m, _, rfl, h5, h8⟩
    · simp (maxSteps := 2000000) (disch := (first | omega | (simp only [List.length_append, List.length_take, List.length_replicate, List.length_map, List.length_set, List.length_cons, List.length_nil, List.length_zipWith, List.length_drop, List.length_range]; first | done | omega))) only [go_sem, Nat.reduceAdd, Nat.reduceEqDiff, Nat.reduceLeDiff, Nat.reduceSub, e9]
      exact ⟨rfl, n, m, _, rfl, h5, h8⟩
    · simp (maxSteps := 2000000) (disch := (first | omega | (simp only [List.length_append, List.length_take, List.length_replicate, List.length_map, List.length_set, List.length_cons, List.length_nil, List.length_zipWith, List.length_drop, List.length_range]; first | done | omega))) only [go_sem, Nat.reduceAdd, Nat.reduceEqDiff, Nat.reduceLeDiff, Nat.reduceSub, e5, e6]
      exact ⟨n, m, _, rfl, h5, h8⟩
theorem laws_FnFired_ok (a0 b : List Int) (ha2 : ∀ x ∈ a0, 0 ≤ x ∧ x < 256) (hb2 : ∀ x ∈ b, 0 ≤ x ∧ x < 256) : C f_laws_FnFired [bys a0, bys b] [] = some (.bool true, []) := by
  refine C_laws_FnFired ?_
  simp (maxSteps := 2000000) (disch := (first | omega | (simp only [List.length_append, List.length_take, List.length_replicate, List.length_map, List.length_set, List.length_cons, List.length_nil, List.length_zipWith, List.length_drop, List.length_range]; first | done | omega))) only [ir_laws_FnFired, go_sem, Nat.reduceAdd, Nat.reduceEqDiff, Nat.reduceLeDiff, Nat.reduceSub]
  simp (maxSteps := 2000000) (disch := (first | omega | (simp only [List.length_append, List.length_take, List.length_replicate, List.length_map, List.length_set, List.length_cons, List.length_nil, List.length_zipWith, List.length_drop, List.length_range]; first | done | omega))) only [go_sem, Nat.reduceAdd, Nat.reduceEqDiff, Nat.reduceLeDiff, Nat.reduceSub, laws_big_ok]
  intro hbig
  simp only [Bool.or_eq_false_iff, decide_eq_false_iff_not] at hbig
  obtain ⟨_, e1, n, m, l, rfl, h1, h2, h3⟩ := spec_DrawFireAll_ok a0 (by omega) ha2
  have hsn := h1.smN
  obtain ⟨_, e2, X, rfl, hX⟩ := impl_FireAll_ok n m l hsn (by omega) (by omega)
  have e3 := spec_FireAll_ok n m l hsn (by omega) (by omega)
  have e4 := impl_GoodNet_ok n hsn
  have e5 := spec_GoodNet_ok n hsn
  have hlen := fsq_len n m (l.take (many n m l))
  have hml := many_le n m l
  obtain ⟨_, d1, u, v, t, rfl, g1, g2⟩ := spec_DrawFire_ok b (by omega) hb2
  have tl : (∃ y E, C f_impl_Fire [encN u, ints v, I t] [] = some (.tup [ints y, .bool true], []) ∧ C f_spec_Fire [encN u, ints v, I t] [] = some (.tup [.un t_int true 1 (y.map I), .bool true], []) ∧ C f_impl_Enabled [encN u, ints v] [] = some (.tup [.un t_int true 1 (E.map I), .bool true], []) ∧ C f_spec_Enabled [encN u, ints v] [] = some (.tup [.un t_int true 1 (E.map I), .bool true], []) ∧ C f_laws_sameInts [ints y, ints y] [] = some (.bool true, []) ∧ C f_laws_sameInts [ints E, ints E] [] = some (.bool true, []) ∧ C f_laws_has [ints E, I t] [] = some (.bool true, [])) ∨ (∃ E bb, C f_impl_Fire [encN u, ints v, I t] [] = some (.tup [.un t_int true 1 [], .bool false], []) ∧ C f_spec_Fire [encN u, ints v, I t] [] = some (.tup [.un t_int true 1 [], .bool false], []) ∧ C f_impl_Enabled [encN u, ints v] [] = some (.tup [.un t_int true 1 (E.map I), .bool bb], []) ∧ C f_spec_Enabled [encN u, ints v] [] = some (.tup [.un t_int true 1 (E.map I), .bool bb], []) ∧ C f_laws_sameInts [.sl true 1 [], .sl true 1 []] [] = some (.bool true, []) ∧ C f_laws_sameInts [ints E, ints E] [] = some (.bool true, [])) := by
    have t2 := spec_Fire_ok u v t g1.smN (by omega)
    have t3 := impl_Enabled_ok u v g1.smN (by omega)
    have t4 := spec_Enabled_ok u v g1.smN (by omega)
    have hEl : (enabL u v).length ≤ u.tr.length := enabK_len ..
    have hu := g1.1
    have t6 := laws_sameInts_ok (if marked u v then enabL u v else []) (if marked u v then enabL u v else []) (by split <;> simp; omega)
    simp only [decide_true] at t6
    cases hf : okFire u v t with
    | true =>
      have hmk := okFire_marked' hf
      have t5 := laws_sameInts_ok (firedM (trAt u t) v) (firedM (trAt u t) v) (by rw [firedM_len]; omega)
      have t7 := laws_has_ok (enabL u v) t (by omega)
      simp only [okFire_enab hf, decide_true] at t7 t5
      simp only [hmk, hf, if_true] at t2 t3 t4 t6
      exact .inl ⟨_, _, impl_Fire_t u v t g1.smN (by omega) hf, t2, t3, t4, t5, t6, t7⟩
    | false =>
      simp only [hf, Bool.false_eq_true, if_false, List.map_nil] at t2
      exact .inr ⟨_, _, impl_Fire_f u v t g1.smN (by omega) hf, t2, t3, t4, laws_sameInts_ok [] [] (by simp), t6⟩
  have n0 : C f_laws_sameInts [.sl true 1 [], .sl true 1 []] [] = some (.bool true, []) := laws_sameInts_ok [] [] (by simp)
  rcases hX with ⟨rfl, hok, hK⟩ | ⟨rfl, hK⟩
  · have hmk : marked n m = true := by simp only [okSeq, Bool.and_eq_true] at hok; exact hok.1
    have hg := (marked_parts hmk).1
    have hmp := (goodM_len (marked_parts hmk).2).2.2.1
    have hp16 := goodN_parts hg
    simp only [hg] at e4 e5
    simp only [hok, if_true] at e2 e3
    have hall : ∀ j, j < many n m l → (hjl : j < l.length) → okFire n (fsq n m (l.take j)) l[j] = true := fun j hj hjl => many_ok hj hjl
    generalize hKe : many n m l = K at *
    generalize hx : fsq n m (l.take K) = x at *
    have n1 := laws_sameInts_ok x x (by omega)
    simp only [decide_true] at n1
    simp (maxSteps := 2000000) (disch := (first | omega | (simp only [List.length_append, List.length_take, List.length_replicate, List.length_map, List.length_set, List.length_cons, List.length_nil, List.length_zipWith, List.length_drop, List.length_range]; first | done | omega))) only [go_sem, Nat.reduceAdd, Nat.reduceEqDiff, Nat.reduceLeDiff, Nat.reduceSub, e1, e2, e3, e4, e5, n1]
    refine W_for K (fun k s => (s = ⟨[.any, bys b, .any, .ptr 0 0, .any, .ref 1 1 0 l.length, ints x, I K, .bool true, .any, .any, .any, .ref 2 1 0 m.length, I k, .any, .any, .any, .any, .any, .any, .any, .any, .any, .any, .any, .any, .any, .any, .any, .any, .any, .any, .any, .any, .any, .any, .any, .any, .any, .any], [.box t_impl_Net [I n.pl, .ref 3 3 0 n.tr.length], .fro true 1 (l.map I), .fro true 1 (m.map I), .fro false 3 (n.tr.map encT)]⟩ ∧ k = 0) ∨ (s = ⟨[.any, bys b, .any, .ptr 0 0, .any, .ref 1 1 0 l.length, ints x, I K, .bool true, .any, .any, .any, ints (fsq n m (l.take k)), I k, .any, .any, .any, .any, .any, .any, .any, .any, .any, .any, .any, .any, .any, .any, .any, .any, .any, .any, .any, .any, .any, .any, .any, .any, .any, .any], [.box t_impl_Net [I n.pl, .ref 2 3 0 n.tr.length], .fro true 1 (l.map I), .fro false 3 (n.tr.map encT)]⟩ ∧ 0 < k)) ?_ ?_ ?_
    · refine .inl ⟨?_, rfl⟩
      simp (maxSteps := 2000000) (disch := (first | omega | (simp only [List.length_append, List.length_take, List.length_replicate, List.length_map, List.length_set, List.length_cons, List.length_nil, List.length_zipWith, List.length_drop, List.length_range]; first | done | omega))) only [go_sem, Nat.reduceAdd, Nat.reduceEqDiff, Nat.reduceLeDiff, Nat.reduceSub]
      rfl
    · rintro k s hk (⟨rfl, rfl⟩ | ⟨rfl, hk0⟩)
      · have hf := hall 0 hk (by omega)
        rw [List.take_zero, fsq_nil] at hf
        obtain ⟨c3, c4, c5, c6, c7, c8⟩ := canN_parts (Bool.and_eq_true .. ▸ hf).1
        have q1 := impl_Enabled_ok n m hsn (by omega)
        simp only [hmk, if_true] at q1
        have q2 := impl_Fire_t n m l[0] hsn (by omega) hf
        have hEl : (enabL n m).length ≤ n.tr.length := enabK_len ..
        have q3 := laws_has_ok (enabL n m) l[0] (by have := hsn.1; omega)
        simp only [okFire_enab hf, decide_true] at q3
        have hyl := firedM_len (trAt n l[0]) m
        have hmem : trAt n l[0] ∈ n.tr := by rw [← trAt_eq c6]; exact List.getElem_mem _
        have hz : fsq n m (l.take 1) = firedM (trAt n l[0]) m := by rw [fsq_take (k := 0) (by omega), List.take_zero, fsq_nil]
        generalize hy : firedM (trAt n l[0]) m = y at q2 hyl hz
        simp (maxSteps := 2000000) (disch := (first | omega | (simp only [List.length_append, List.length_take, List.length_replicate, List.length_map, List.length_set, List.length_cons, List.length_nil, List.length_zipWith, List.length_drop, List.length_range]; first | done | omega))) only [go_sem, Nat.reduceAdd, Nat.reduceEqDiff, Nat.reduceLeDiff, Nat.reduceSub, q1, q2, q3, trAt_eq]
        generalize hte : trAt n l[0] = tr at *

        have hT := (goodN_parts hg).2.2.2 tr hmem
        have hLs := goodT_lens hT (by omega)
        have hgl := goodT_lt hT (show (m.length : Int) = n.pl by omega)
        refine W_for y.length (fun p s => s = ⟨[.any, bys b, .any, .ptr 0 0, .any, .ref 1 1 0 l.length, ints x, I K, .bool true, .any, .any, .any, .ref 2 1 0 m.length, I 0, .any, .any, ints y, .any, .ptr 3 0, .any, .any, .any, .any, .any, .any, .any, .any, .any, .any, .any, .any, .any, .any, .any, .any, I y.length, I p, .any, .any, .any], [.box t_impl_Net [I n.pl, .ref 4 3 0 n.tr.length], .fro true 1 (l.map I), .fro true 1 (m.map I), .box t_impl_Trans [ints tr.inn, ints tr.out, ints tr.rst], .fro false 3 (n.tr.map encT)]⟩) ?_ ?_ ?_
        · simp (maxSteps := 2000000) (disch := (first | omega | (simp only [List.length_append, List.length_take, List.length_replicate, List.length_map, List.length_set, List.length_cons, List.length_nil, List.length_zipWith, List.length_drop, List.length_range]; first | done | omega))) only [go_sem, Nat.reduceAdd, Nat.reduceEqDiff, Nat.reduceLeDiff, Nat.reduceSub]
          rfl
        · rintro p s hp rfl
          have hpa : p < m.length := by omega
          simp (maxSteps := 2000000) (disch := (first | omega | (simp only [List.length_append, List.length_take, List.length_replicate, List.length_map, List.length_set, List.length_cons, List.length_nil, List.length_zipWith, List.length_drop, List.length_range]; first | done | omega))) only [go_sem, Nat.reduceAdd, Nat.reduceEqDiff, Nat.reduceLeDiff, Nat.reduceSub, laws_has_ok tr.inn p (by omega), laws_has_ok tr.out p (by omega), laws_has_ok tr.rst p (by omega)]
          refine ⟨fun _ => rfl, fun i1 => ⟨fun _ => rfl, fun i2 => ⟨fun _ => rfl, fun i3 => ?_⟩⟩⟩
          have hs : y[p]? = m[p]? := by
            rw [← hy]
            exact firedM_same (fun q hq e => i1 (by have := hgl.1 q hq; rwa [show (p : Int) = q by omega])) (fun q hq e => i2 (by have := hgl.2.1 q hq; rwa [show (p : Int) = q by omega])) (fun q hq e => i3 (by have := hgl.2.2 q hq; rwa [show (p : Int) = q by omega]))
          rw [List.getElem?_eq_getElem hp, List.getElem?_eq_getElem hpa] at hs
          simp only [Option.some.injEq] at hs
          exact ⟨fun h => (h hs).elim, fun _ => rfl⟩
        · rintro s rfl
          simp (maxSteps := 2000000) (disch := (first | omega | (simp only [List.length_append, List.length_take, List.length_replicate, List.length_map, List.length_set, List.length_cons, List.length_nil, List.length_zipWith, List.length_drop, List.length_range]; first | done | omega))) only [go_sem, Nat.reduceAdd, Nat.reduceEqDiff, Nat.reduceLeDiff, Nat.reduceSub]
          rw [hz]
          exact ⟨rfl, by omega⟩

      · have hlen2 := fsq_len n m (l.take k)
        have hkl : k < l.length := by omega
        have hf := hall k hk hkl
        have hmk2 := okFire_marked' hf
        generalize hae : fsq n m (l.take k) = a at *
        obtain ⟨c3, c4, c5, c6, c7, c8⟩ := canN_parts (Bool.and_eq_true .. ▸ hf).1
        have q1 := impl_Enabled_ok n a hsn (by omega)
        simp only [hmk2, if_true] at q1
        have q2 := impl_Fire_t n a l[k] hsn (by omega) hf
        have hEl : (enabL n a).length ≤ n.tr.length := enabK_len ..
        have q3 := laws_has_ok (enabL n a) l[k] (by have := hsn.1; omega)
        simp only [okFire_enab hf, decide_true] at q3
        have hyl := firedM_len (trAt n l[k]) a
        have hmem : trAt n l[k] ∈ n.tr := by rw [← trAt_eq c6]; exact List.getElem_mem _
        have hz : fsq n m (l.take (k + 1)) = firedM (trAt n l[k]) a := by rw [fsq_take hkl, hae]
        generalize hy : firedM (trAt n l[k]) a = y at q2 hyl hz
        simp (maxSteps := 2000000) (disch := (first | omega | (simp only [List.length_append, List.length_take, List.length_replicate, List.length_map, List.length_set, List.length_cons, List.length_nil, List.length_zipWith, List.length_drop, List.length_range]; first | done | omega))) only [go_sem, Nat.reduceAdd, Nat.reduceEqDiff, Nat.reduceLeDiff, Nat.reduceSub, q1, q2, q3, trAt_eq]
        generalize hte : trAt n l[k] = tr at *

        have hT := (goodN_parts hg).2.2.2 tr hmem
        have hLs := goodT_lens hT (by omega)
        have hgl := goodT_lt hT (show (a.length : Int) = n.pl by omega)
        refine W_for y.length (fun p s => s = ⟨[.any, bys b, .any, .ptr 0 0, .any, .ref 1 1 0 l.length, ints x, I K, .bool true, .any, .any, .any, ints a, I k, .any, .any, ints y, .any, .ptr 2 0, .any, .any, .any, .any, .any, .any, .any, .any, .any, .any, .any, .any, .any, .any, .any, .any, I y.length, I p, .any, .any, .any], [.box t_impl_Net [I n.pl, .ref 3 3 0 n.tr.length], .fro true 1 (l.map I), .box t_impl_Trans [ints tr.inn, ints tr.out, ints tr.rst], .fro false 3 (n.tr.map encT)]⟩) ?_ ?_ ?_
        · simp (maxSteps := 2000000) (disch := (first | omega | (simp only [List.length_append, List.length_take, List.length_replicate, List.length_map, List.length_set, List.length_cons, List.length_nil, List.length_zipWith, List.length_drop, List.length_range]; first | done | omega))) only [go_sem, Nat.reduceAdd, Nat.reduceEqDiff, Nat.reduceLeDiff, Nat.reduceSub]
          rfl
        · rintro p s hp rfl
          have hpa : p < a.length := by omega
          simp (maxSteps := 2000000) (disch := (first | omega | (simp only [List.length_append, List.length_take, List.length_replicate, List.length_map, List.length_set, List.length_cons, List.length_nil, List.length_zipWith, List.length_drop, List.length_range]; first | done | omega))) only [go_sem, Nat.reduceAdd, Nat.reduceEqDiff, Nat.reduceLeDiff, Nat.reduceSub, laws_has_ok tr.inn p (by omega), laws_has_ok tr.out p (by omega), laws_has_ok tr.rst p (by omega)]
          refine ⟨fun _ => rfl, fun i1 => ⟨fun _ => rfl, fun i2 => ⟨fun _ => rfl, fun i3 => ?_⟩⟩⟩
          have hs : y[p]? = a[p]? := by
            rw [← hy]
            exact firedM_same (fun q hq e => i1 (by have := hgl.1 q hq; rwa [show (p : Int) = q by omega])) (fun q hq e => i2 (by have := hgl.2.1 q hq; rwa [show (p : Int) = q by omega])) (fun q hq e => i3 (by have := hgl.2.2 q hq; rwa [show (p : Int) = q by omega]))
          rw [List.getElem?_eq_getElem hp, List.getElem?_eq_getElem hpa] at hs
          simp only [Option.some.injEq] at hs
          exact ⟨fun h => (h hs).elim, fun _ => rfl⟩
        · rintro s rfl
          simp (maxSteps := 2000000) (disch := (first | omega | (simp only [List.length_append, List.length_take, List.length_replicate, List.length_map, List.length_set, List.length_cons, List.length_nil, List.length_zipWith, List.length_drop, List.length_range]; first | done | omega))) only [go_sem, Nat.reduceAdd, Nat.reduceEqDiff, Nat.reduceLeDiff, Nat.reduceSub]
          rw [hz]
          rfl

    · rintro s (⟨rfl, hk⟩ | ⟨rfl, hk0⟩)
      · omega
      · simp only [hx]
        rcases tl with ⟨y, E, t1, t2, t3, t4, t5, t6, t7⟩ | ⟨E, bb, t1, t2, t3, t4, t5, t6⟩
        · simp (maxSteps := 2000000) (disch := (first | omega | (simp only [List.length_append, List.length_take, List.length_replicate, List.length_map, List.length_set, List.length_cons, List.length_nil, List.length_zipWith, List.length_drop, List.length_range]; first | done | omega))) only [go_sem, Nat.reduceAdd, Nat.reduceEqDiff, Nat.reduceLeDiff, Nat.reduceSub, n1, d1, t1, t2, t3, t4, t5, t6, t7]
        · simp (maxSteps := 2000000) (disch := (first | omega | (simp only [List.length_append, List.length_take, List.length_replicate, List.length_map, List.length_set, List.length_cons, List.length_nil, List.length_zipWith, List.length_drop, List.length_range]; first | done | omega))) only [go_sem, Nat.reduceAdd, Nat.reduceEqDiff, Nat.reduceLeDiff, Nat.reduceSub, n1, d1, t1, t2, t3, t4, t5, t6]
          cases bb <;> simp
  · have nE : C f_laws_sameInts [ints m, ints m] [] = some (.bool true, []) := by simpa using laws_sameInts_ok m m (by omega)
    cases hok : okSeq n m l with
    | true =>
      have hmk : marked n m = true := by simp only [okSeq, Bool.and_eq_true] at hok; exact hok.1
      have hg := (marked_parts hmk).1
      simp only [hg] at e4 e5
      simp only [hok, hK hok, if_true, List.take_zero, fsq_nil] at e2 e3
      simp (maxSteps := 2000000) (disch := (first | omega | (simp only [List.length_append, List.length_take, List.length_replicate, List.length_map, List.length_set, List.length_cons, List.length_nil, List.length_zipWith, List.length_drop, List.length_range]; first | done | omega))) only [go_sem, Nat.reduceAdd, Nat.reduceEqDiff, Nat.reduceLeDiff, Nat.reduceSub, e1, e2, e3, e4, e5, nE]
      refine W_for 0 (fun k s => s = ⟨[.any, bys b, .any, .ptr 0 0, .any, .ref 1 1 0 l.length, .ref 2 1 0 m.length, I 0, .bool true, .any, .any, .any, .ref 3 1 0 m.length, I 0, .any, .any, .any, .any, .any, .any, .any, .any, .any, .any, .any, .any, .any, .any, .any, .any, .any, .any, .any, .any, .any, .any, .any, .any, .any, .any], [.box t_impl_Net [I n.pl, .ref 4 3 0 n.tr.length], .row t_int true 1 (l.map I), .row t_int true 1 (m.map I), .row t_int true 1 (m.map I), .row t_impl_Trans false 3 (n.tr.map encT)]⟩) ?_ ?_ ?_
      · simp (maxSteps := 2000000) (disch := (first | omega | (simp only [List.length_append, List.length_take, List.length_replicate, List.length_map, List.length_set, List.length_cons, List.length_nil, List.length_zipWith, List.length_drop, List.length_range]; first | done | omega))) only [go_sem, Nat.reduceAdd, Nat.reduceEqDiff, Nat.reduceLeDiff, Nat.reduceSub]
        rfl
      · intro k s hk; omega
      · rintro s rfl
        rcases tl with ⟨y, E, t1, t2, t3, t4, t5, t6, t7⟩ | ⟨E, bb, t1, t2, t3, t4, t5, t6⟩
        · simp (maxSteps := 2000000) (disch := (first | omega | (simp only [List.length_append, List.length_take, List.length_replicate, List.length_map, List.length_set, List.length_cons, List.length_nil, List.length_zipWith, List.length_drop, List.length_range]; first | done | omega))) only [go_sem, Nat.reduceAdd, Nat.reduceEqDiff, Nat.reduceLeDiff, Nat.reduceSub, nE, d1, t1, t2, t3, t4, t5, t6, t7]
        · simp (maxSteps := 2000000) (disch := (first | omega | (simp only [List.length_append, List.length_take, List.length_replicate, List.length_map, List.length_set, List.length_cons, List.length_nil, List.length_zipWith, List.length_drop, List.length_range]; first | done | omega))) only [go_sem, Nat.reduceAdd, Nat.reduceEqDiff, Nat.reduceLeDiff, Nat.reduceSub, nE, d1, t1, t2, t3, t4, t5, t6]
          cases bb <;> simp
    | false =>
      simp only [hok, Bool.false_eq_true, if_false, List.map_nil] at e2 e3
      cases hg : goodN n <;> simp only [hg] at e4 e5
      all_goals
        simp (maxSteps := 2000000) (disch := (first | omega | (simp only [List.length_append, List.length_take, List.length_replicate, List.length_map, List.length_set, List.length_cons, List.length_nil, List.length_zipWith, List.length_drop, List.length_range]; first | done | omega))) only [go_sem, Nat.reduceAdd, Nat.reduceEqDiff, Nat.reduceLeDiff, Nat.reduceSub, e1, e2, e3, e4, e5, n0]
        refine W_for 0 (fun k s => s = ⟨[.any, bys b, .any, .ptr 0 0, .any, .ref 1 1 0 l.length, .ref 2 1 0 0, I 0, .bool false, .any, .any, .any, .ref 3 1 0 m.length, I 0, .any, .any, .any, .any, .any, .any, .any, .any, .any, .any, .any, .any, .any, .any, .any, .any, .any, .any, .any, .any, .any, .any, .any, .any, .any, .any], [.box t_impl_Net [I n.pl, .ref 4 3 0 n.tr.length], .row t_int true 1 (l.map I), .row t_int true 1 [], .row t_int true 1 (m.map I), .row t_impl_Trans false 3 (n.tr.map encT)]⟩) ?_ ?_ ?_
        · simp (maxSteps := 2000000) (disch := (first | omega | (simp only [List.length_append, List.length_take, List.length_replicate, List.length_map, List.length_set, List.length_cons, List.length_nil, List.length_zipWith, List.length_drop, List.length_range]; first | done | omega))) only [go_sem, Nat.reduceAdd, Nat.reduceEqDiff, Nat.reduceLeDiff, Nat.reduceSub]
        · intro k s hk; omega
        · rintro s rfl
          rcases tl with ⟨y, E, t1, t2, t3, t4, t5, t6, t7⟩ | ⟨E, bb, t1, t2, t3, t4, t5, t6⟩
          · simp (maxSteps := 2000000) (disch := (first | omega | (simp only [List.length_append, List.length_take, List.length_replicate, List.length_map, List.length_set, List.length_cons, List.length_nil, List.length_zipWith, List.length_drop, List.length_range]; first | done | omega))) only [go_sem, Nat.reduceAdd, Nat.reduceEqDiff, Nat.reduceLeDiff, Nat.reduceSub, n0, d1, t1, t2, t3, t4, t5, t6, t7]
          · simp (maxSteps := 2000000) (disch := (first | omega | (simp only [List.length_append, List.length_take, List.length_replicate, List.length_map, List.length_set, List.length_cons, List.length_nil, List.length_zipWith, List.length_drop, List.length_range]; first | done | omega))) only [go_sem, Nat.reduceAdd, Nat.reduceEqDiff, Nat.reduceLeDiff, Nat.reduceSub, n0, d1, t1, t2, t3, t4, t5, t6]
            cases bb <;> simp
end Go.Proofs.Ytngjepmopahgdaa.Pi
