/- The functions that the law reaches: what they answer. Conditions: those that each theorem names. -/
import Derived.Test.YtngjepmopahgdaaIrFnMonotone
import Derived.Test.YtngjepmopahgdaaPlBase
import Derived.Test.YtngjepmopahgdaaPlNet
import Derived.Test.YtngjepmopahgdaaPlFire
import Derived.Test.YtngjepmopahgdaaPlTurn
import Derived.Test.YtngjepmopahgdaaPlBack
import Derived.Test.YtngjepmopahgdaaPlFlow
namespace Go.Proofs.Ytngjepmopahgdaa.Pi
open Go
set_option linter.all false
set_option maxHeartbeats 4000000
set_option maxRecDepth 20000
theorem laws_big_ok (a b : List Int) : C f_laws_big [bys a, bys b] [] = some (.bool (decide (1048576 < (a.length : Int)) || decide (1048576 - (a.length : Int) < b.length)), []) := by
  refine C_laws_big ?_
  simp (maxSteps := 2000000) (disch := (first | omega | (simp only [List.length_append, List.length_take, List.length_replicate, List.length_map, List.length_set, List.length_cons, List.length_nil, List.length_zipWith, List.length_drop, List.length_range]; first | done | omega))) only [ir_laws_big, go_sem, Nat.reduceAdd, Nat.reduceEqDiff, Nat.reduceLeDiff, Nat.reduceSub]
  refine ⟨fun h => by simp [h], fun h => ?_⟩
  simp (maxSteps := 2000000) (disch := (first | omega | (simp only [List.length_append, List.length_take, List.length_replicate, List.length_map, List.length_set, List.length_cons, List.length_nil, List.length_zipWith, List.length_drop, List.length_range]; first | done | omega))) only [go_sem, Nat.reduceAdd, Nat.reduceEqDiff, Nat.reduceLeDiff, Nat.reduceSub]
  grind
theorem spec_l1Cur_next_ok (bs : List Int) (at_ sd : Int) (h0 : 0 ≤ at_) (h1 : at_ < 2^62) (hl : bs.length < 2^62) (hb : ∀ x ∈ bs, 0 ≤ x ∧ x < 256) :
    Lw (C f_spec_l1Cur_next [.ptr 0 0] [.box t_spec_l1Cur [bys bs, I at_, .int .u64 sd]]) fun r => ∃ x sd', r = (I x, [.box t_spec_l1Cur [bys bs, I (at_ + 1), .int .u64 sd']]) ∧ 0 ≤ x ∧ x < 256 := by
  refine E_spec_l1Cur_next ?_
  simp (maxSteps := 2000000) (disch := (first | omega | (simp only [List.length_append, List.length_take, List.length_replicate, List.length_map, List.length_set, List.length_cons, List.length_nil, List.length_zipWith, List.length_drop, List.length_range]; first | done | omega))) only [ir_spec_l1Cur_next, go_sem, Nat.reduceAdd, Nat.reduceEqDiff, Nat.reduceLeDiff, Nat.reduceSub]
  refine ⟨fun h => ?_, fun h => ?_⟩
  · have h2 : at_.toNat < bs.length := by omega
    have h3 := hb _ (List.getElem_mem h2)
    simp (maxSteps := 2000000) (disch := (first | omega | (simp only [List.length_append, List.length_take, List.length_replicate, List.length_map, List.length_set, List.length_cons, List.length_nil, List.length_zipWith, List.length_drop, List.length_range]; first | done | omega))) only [go_sem, Nat.reduceAdd, Nat.reduceEqDiff, Nat.reduceLeDiff, Nat.reduceSub]
    exact ⟨_, _, rfl, h3⟩
  · refine ⟨fun _ => ⟨_, _, rfl, by omega, by omega⟩, fun _ => ?_⟩
    generalize hw : IntKind.u64.wrap (IntKind.u64.wrap (IntKind.u64.wrap (sd * 6364136223846793005) + IntKind.u64.wrap 0) + 1442695040888963407) = w
    have hb := u64_bound (IntKind.u64.wrap (IntKind.u64.wrap (sd * 6364136223846793005) + IntKind.u64.wrap 0) + 1442695040888963407)
    rw [hw] at hb
    have h3 := and255 (x := w / 2 ^ min (Int.toNat 40) 64) (Int.ediv_nonneg hb.1 (by decide)) (Int.lt_of_le_of_lt (Int.ediv_le_self _ hb.1) hb.2)
    rw [wrap_i64 (by omega) (by omega)]
    exact ⟨_, _, rfl, h3⟩
theorem spec_l1Cur_pick_ok (n : Int) (bs : List Int) (at_ sd : Int) (h0 : 0 ≤ at_) (h1 : at_ < 2^61) (hl : bs.length < 2^62) (hb : ∀ x ∈ bs, 0 ≤ x ∧ x < 256) :
    Lw (C f_spec_l1Cur_pick [.ptr 0 0, I n] [.box t_spec_l1Cur [bys bs, I at_, .int .u64 sd]]) fun r => ∃ x at' sd', r = (I x, [.box t_spec_l1Cur [bys bs, I at', .int .u64 sd']]) ∧ at_ ≤ at' ∧ at' ≤ at_ + 2 ∧ 0 ≤ x ∧ (x = 0 ∨ x < n) := by
  refine E_spec_l1Cur_pick ?_
  simp (maxSteps := 2000000) (disch := (first | omega | (simp only [List.length_append, List.length_take, List.length_replicate, List.length_map, List.length_set, List.length_cons, List.length_nil, List.length_zipWith, List.length_drop, List.length_range]; first | done | omega))) only [ir_spec_l1Cur_pick, go_sem, Nat.reduceAdd, Nat.reduceEqDiff, Nat.reduceLeDiff, Nat.reduceSub]
  refine ⟨fun h => ⟨_, _, _, rfl, by omega, by omega, by omega, by omega⟩, fun h => ?_⟩
  obtain ⟨_, e1, x1, s1, rfl, h3, h4⟩ := spec_l1Cur_next_ok bs at_ sd h0 (by omega) hl hb
  obtain ⟨_, e2, x2, s2, rfl, h5, h6⟩ := spec_l1Cur_next_ok bs (at_ + 1) s1 (by omega) (by omega) hl hb
  simp (maxSteps := 2000000) (disch := (first | omega | (simp only [List.length_append, List.length_take, List.length_replicate, List.length_map, List.length_set, List.length_cons, List.length_nil, List.length_zipWith, List.length_drop, List.length_range]; first | done | omega))) only [go_sem, Nat.reduceAdd, Nat.reduceEqDiff, Nat.reduceLeDiff, Nat.reduceSub, e1, e2]
  refine ⟨fun _ => ⟨_, _, _, rfl, by omega, by omega, Int.tmod_nonneg _ (by omega), .inr (Int.tmod_lt_of_pos _ (by omega))⟩, fun _ => ⟨_, _, _, rfl, by omega, by omega, Int.tmod_nonneg _ (by omega), .inr (Int.tmod_lt_of_pos _ (by omega))⟩⟩
theorem spec_l1Put_ok (l : List Int) (x : Int) (hl : l.length < 2^30) : Lw (C f_spec_l1Put [.ref 0 1 0 l.length, I x] [.row t_int true 1 (l.map I)]) fun r => r = (.un t_int true 1 ((putI l x).map I), [.row t_int true 1 (l.map I)]) ∨ (r = (.ref 0 1 0 l.length, [.row t_int true 1 (l.map I)]) ∧ putI l x = l) := by
  refine E_spec_l1Put ?_
  simp (maxSteps := 2000000) (disch := (first | omega | (simp only [List.length_append, List.length_take, List.length_replicate, List.length_map, List.length_set, List.length_cons, List.length_nil, List.length_zipWith, List.length_drop, List.length_range]; first | done | omega))) only [ir_spec_l1Put, go_sem, Nat.reduceAdd, Nat.reduceEqDiff, Nat.reduceLeDiff, Nat.reduceSub]
  refine W_for l.length (fun k s => s = ⟨[.ref 0 1 0 l.length, I x, .any, I k, .any, .any, .any], [.row t_int true 1 (l.map I)]⟩ ∧ (l.take k).all (fun y => decide (y < x)) = true) ?_ ?_ ?_
  · simp (maxSteps := 2000000) (disch := (first | omega | (simp only [List.length_append, List.length_take, List.length_replicate, List.length_map, List.length_set, List.length_cons, List.length_nil, List.length_zipWith, List.length_drop, List.length_range]; first | done | omega))) only [go_sem, Nat.reduceAdd, Nat.reduceEqDiff, Nat.reduceLeDiff, Nat.reduceSub]
    rfl
  · rintro k s hk ⟨rfl, hall⟩
    simp (maxSteps := 2000000) (disch := (first | omega | (simp only [List.length_append, List.length_take, List.length_replicate, List.length_map, List.length_set, List.length_cons, List.length_nil, List.length_zipWith, List.length_drop, List.length_range]; first | done | omega))) only [go_sem, Nat.reduceAdd, Nat.reduceEqDiff, Nat.reduceLeDiff, Nat.reduceSub]
    refine ⟨fun h => ⟨rfl, all_take hk hall (by simpa using h)⟩, fun h => ⟨fun h2 => .inr (putI_eq hk hall h2), fun h2 => .inl ?_⟩⟩
    rw [putI_gt hall (fun _ => by omega) (by omega)]
    simp
  · rintro s ⟨rfl, hall⟩
    simp (maxSteps := 2000000) (disch := (first | omega | (simp only [List.length_append, List.length_take, List.length_replicate, List.length_map, List.length_set, List.length_cons, List.length_nil, List.length_zipWith, List.length_drop, List.length_range]; first | done | omega))) only [go_sem, Nat.reduceAdd, Nat.reduceEqDiff, Nat.reduceLeDiff, Nat.reduceSub]
    have e := putI_gt hall (fun h => by omega) (by omega)
    refine ⟨fun h => .inl ?_, fun h => .inl ?_⟩
    · rw [e]; simp
    · have : l = [] := List.eq_nil_of_length_eq_zero (by omega)
      subst this; rfl
theorem spec_l1Cur_someOf_ok (n least most : Int) (hlm : 0 ≤ least ∧ least ≤ most ∧ most ≤ 20) (bs : List Int) (at_ sd : Int) (h0 : 0 ≤ at_) (h1 : at_ < 2^60) (hl : bs.length < 2^62) (hb : ∀ x ∈ bs, 0 ≤ x ∧ x < 256) :
    Lw (C f_spec_l1Cur_someOf [.ptr 0 0, I n, I least, I most] [.box t_spec_l1Cur [bys bs, I at_, .int .u64 sd]]) fun r => ∃ (l : List Int) (at' sd' : Int), r = (.un t_int true 1 (l.map I), [.box t_spec_l1Cur [bys bs, I at', .int .u64 sd']]) ∧ at_ ≤ at' ∧ at' ≤ at_ + 50 ∧ l.length ≤ 20 ∧ ∀ x ∈ l, 0 ≤ x ∧ (x = 0 ∨ x < n) := by
  refine E_spec_l1Cur_someOf ?_
  simp (maxSteps := 2000000) (disch := (first | omega | (simp only [List.length_append, List.length_take, List.length_replicate, List.length_map, List.length_set, List.length_cons, List.length_nil, List.length_zipWith, List.length_drop, List.length_range]; first | done | omega))) only [ir_spec_l1Cur_someOf, go_sem, Nat.reduceAdd, Nat.reduceEqDiff, Nat.reduceLeDiff, Nat.reduceSub]
  obtain ⟨_, e1, x1, a1, s1, rfl, h3, h4, h5, h6⟩ := spec_l1Cur_pick_ok (most - least + 1) bs at_ sd h0 (by omega) hl hb
  simp (maxSteps := 2000000) (disch := (first | omega | (simp only [List.length_append, List.length_take, List.length_replicate, List.length_map, List.length_set, List.length_cons, List.length_nil, List.length_zipWith, List.length_drop, List.length_range]; first | done | omega))) only [go_sem, Nat.reduceAdd, Nat.reduceEqDiff, Nat.reduceLeDiff, Nat.reduceSub, e1]
  refine W_for (least + x1).toNat (fun k s => ∃ (l : List Int) (at' sd' : Int), s = ⟨[.ptr 0 0, I n, .any, .any, .any, .ref 1 1 0 l.length, I (least + x1 - k), .any], [.box t_spec_l1Cur [bys bs, I at', .int .u64 sd'], .row t_int true 1 (l.map I)]⟩ ∧ l.length ≤ k ∧ at_ ≤ at' ∧ at' ≤ at_ + 2 + 2 * k ∧ ∀ x ∈ l, 0 ≤ x ∧ (x = 0 ∨ x < n)) ?_ ?_ ?_
  · refine ⟨[], a1, s1, ?_, by simp, by omega, by omega, by simp⟩
    simp (maxSteps := 2000000) (disch := (first | omega | (simp only [List.length_append, List.length_take, List.length_replicate, List.length_map, List.length_set, List.length_cons, List.length_nil, List.length_zipWith, List.length_drop, List.length_range]; first | done | omega))) only [go_sem, Nat.reduceAdd, Nat.reduceEqDiff, Nat.reduceLeDiff, Nat.reduceSub]
    rw [show least + x1 - ((0 : Nat) : Int) = least + x1 by omega]
  · rintro k s hk ⟨l, a, sd, rfl, h7, h8, h9, h10⟩
    obtain ⟨_, e2, x2, a2, s2, rfl, h11, h12, h13, h14⟩ := spec_l1Cur_pick_ok n bs a sd (by omega) (by omega) hl hb
    have e : least + x1 - ((k + 1 : Nat) : Int) = least + x1 - k - 1 := by omega
    obtain ⟨_, e3, rfl | ⟨rfl, e4⟩⟩ := spec_l1Put_ok l x2 (by omega)
    · simp (maxSteps := 2000000) (disch := (first | omega | (simp only [List.length_append, List.length_take, List.length_replicate, List.length_map, List.length_set, List.length_cons, List.length_nil, List.length_zipWith, List.length_drop, List.length_range]; first | done | omega))) only [go_sem, Nat.reduceAdd, Nat.reduceEqDiff, Nat.reduceLeDiff, Nat.reduceSub, e2, e3]
      have := putI_len l x2
      refine ⟨putI l x2, a2, s2, by rw [e], by omega, by omega, by omega, fun y hy => ?_⟩
      rcases putI_mem hy with hy | rfl
      · exact h10 y hy
      · exact ⟨h13, h14⟩
    · simp (maxSteps := 2000000) (disch := (first | omega | (simp only [List.length_append, List.length_take, List.length_replicate, List.length_map, List.length_set, List.length_cons, List.length_nil, List.length_zipWith, List.length_drop, List.length_range]; first | done | omega))) only [go_sem, Nat.reduceAdd, Nat.reduceEqDiff, Nat.reduceLeDiff, Nat.reduceSub, e2, e3]
      exact ⟨l, a2, s2, by rw [e], by omega, by omega, by omega, h10⟩
  · rintro s ⟨l, a, sd, rfl, h7, h8, h9, h10⟩
    simp (maxSteps := 2000000) (disch := (first | omega | (simp only [List.length_append, List.length_take, List.length_replicate, List.length_map, List.length_set, List.length_cons, List.length_nil, List.length_zipWith, List.length_drop, List.length_range]; first | done | omega))) only [go_sem, Nat.reduceAdd, Nat.reduceEqDiff, Nat.reduceLeDiff, Nat.reduceSub]
    exact ⟨l, a, sd, rfl, by omega, by omega, by omega, h10⟩
theorem spec_l1Cur_one_ok (n : Int) (bs : List Int) (at_ sd : Int) (h0 : 0 ≤ at_) (h1 : at_ < 2^61) (hl : bs.length < 2^62) (hb : ∀ x ∈ bs, 0 ≤ x ∧ x < 256) :
    Lw (C f_spec_l1Cur_one [.ptr 0 0, I n] [.box t_spec_l1Cur [bys bs, I at_, .int .u64 sd]]) fun r => ∃ x at' sd', r = (.bool x, [.box t_spec_l1Cur [bys bs, I at', .int .u64 sd']]) ∧ at_ ≤ at' ∧ at' ≤ at_ + 2 := by
  refine E_spec_l1Cur_one ?_
  simp (maxSteps := 2000000) (disch := (first | omega | (simp only [List.length_append, List.length_take, List.length_replicate, List.length_map, List.length_set, List.length_cons, List.length_nil, List.length_zipWith, List.length_drop, List.length_range]; first | done | omega))) only [ir_spec_l1Cur_one, go_sem, Nat.reduceAdd, Nat.reduceEqDiff, Nat.reduceLeDiff, Nat.reduceSub]
  obtain ⟨_, e1, x1, a1, s1, rfl, h3, h4, h5⟩ := spec_l1Cur_pick_ok n bs at_ sd h0 h1 hl hb
  simp (maxSteps := 2000000) (disch := (first | omega | (simp only [List.length_append, List.length_take, List.length_replicate, List.length_map, List.length_set, List.length_cons, List.length_nil, List.length_zipWith, List.length_drop, List.length_range]; first | done | omega))) only [go_sem, Nat.reduceAdd, Nat.reduceEqDiff, Nat.reduceLeDiff, Nat.reduceSub, e1]
  exact ⟨fun _ => ⟨_, _, _, rfl, h3, h4⟩, fun _ => ⟨_, _, _, rfl, h3, h4⟩⟩
theorem spec_l1Cur_among_ok (l : List Int) (t : TypeId) (hne : 0 < l.length) (hln : l.length < 2^30) (bs : List Int) (at_ sd : Int) (h0 : 0 ≤ at_) (h1 : at_ < 2^61) (hl : bs.length < 2^62) (hb : ∀ x ∈ bs, 0 ≤ x ∧ x < 256) :
    Lw (C f_spec_l1Cur_among [.ptr 0 0, .ref 1 1 0 l.length] [.box t_spec_l1Cur [bys bs, I at_, .int .u64 sd], .row t true 1 (l.map I)]) fun r => ∃ x at' sd', r = (I x, [.box t_spec_l1Cur [bys bs, I at', .int .u64 sd'], .row t true 1 (l.map I)]) ∧ at_ ≤ at' ∧ at' ≤ at_ + 2 ∧ x ∈ l := by
  refine E_spec_l1Cur_among ?_
  simp (maxSteps := 2000000) (disch := (first | omega | (simp only [List.length_append, List.length_take, List.length_replicate, List.length_map, List.length_set, List.length_cons, List.length_nil, List.length_zipWith, List.length_drop, List.length_range]; first | done | omega))) only [ir_spec_l1Cur_among, go_sem, Nat.reduceAdd, Nat.reduceEqDiff, Nat.reduceLeDiff, Nat.reduceSub]
  obtain ⟨_, e1, x1, a1, s1, rfl, h3, h4, h5, h6⟩ := spec_l1Cur_pick_ok l.length bs at_ sd h0 h1 hl hb
  have h7 : x1.toNat < l.length := by omega
  simp (maxSteps := 2000000) (disch := (first | omega | (simp only [List.length_append, List.length_take, List.length_replicate, List.length_map, List.length_set, List.length_cons, List.length_nil, List.length_zipWith, List.length_drop, List.length_range]; first | done | omega))) only [go_sem, Nat.reduceAdd, Nat.reduceEqDiff, Nat.reduceLeDiff, Nat.reduceSub, e1]
  exact ⟨_, _, _, rfl, h3, h4, List.getElem_mem h7⟩
theorem spec_l1Cur_net_ok (rs : Bool) (bs : List Int) (at_ sd : Int) (h0 : 0 ≤ at_) (h1 : at_ < 2^59) (hl : bs.length < 2^62) (hb : ∀ x ∈ bs, 0 ≤ x ∧ x < 256) :
    Lw (C f_spec_l1Cur_net [.ptr 0 0, .bool rs] [.box t_spec_l1Cur [bys bs, I at_, .int .u64 sd]]) fun r => ∃ (n : Net) (at' sd' : Int), r = (.agg [I n.pl, .un t_impl_Trans false 3 (n.tr.map encT)], [.box t_spec_l1Cur [bys bs, I at', .int .u64 sd']]) ∧ at_ ≤ at' ∧ at' ≤ at_ + 1000 ∧ smNet n := by
  refine E_spec_l1Cur_net ?_
  simp (maxSteps := 2000000) (disch := (first | omega | (simp only [List.length_append, List.length_take, List.length_replicate, List.length_map, List.length_set, List.length_cons, List.length_nil, List.length_zipWith, List.length_drop, List.length_range]; first | done | omega))) only [ir_spec_l1Cur_net, go_sem, Nat.reduceAdd, Nat.reduceEqDiff, Nat.reduceLeDiff, Nat.reduceSub]
  obtain ⟨_, e1, x1, a1, s1, rfl, h3, h4, h5, h6⟩ := spec_l1Cur_pick_ok 4 bs at_ sd h0 (by omega) hl hb
  simp (maxSteps := 2000000) (disch := (first | omega | (simp only [List.length_append, List.length_take, List.length_replicate, List.length_map, List.length_set, List.length_cons, List.length_nil, List.length_zipWith, List.length_drop, List.length_range]; first | done | omega))) only [go_sem, Nat.reduceAdd, Nat.reduceEqDiff, Nat.reduceLeDiff, Nat.reduceSub, e1]
  obtain ⟨_, e2, x2, a2, s2, rfl, h7, h8, h9, h10⟩ := spec_l1Cur_pick_ok 5 bs a1 s1 (by omega) (by omega) hl hb
  simp (maxSteps := 2000000) (disch := (first | omega | (simp only [List.length_append, List.length_take, List.length_replicate, List.length_map, List.length_set, List.length_cons, List.length_nil, List.length_zipWith, List.length_drop, List.length_range]; first | done | omega))) only [go_sem, Nat.reduceAdd, Nat.reduceEqDiff, Nat.reduceLeDiff, Nat.reduceSub, e2]
  refine W_for (1 + x2).toNat (fun k s => ∃ (tr : List Tr) (at' sd' : Int), (s = ⟨[.ptr 0 0, .bool rs, .ptr 1 0, .ptr 2 0, I (1 + x2 - k), .any, .any, .any, .any, .any, .any, .any], [.box t_spec_l1Cur [bys bs, I at', .int .u64 sd'], .box t_impl_Net [I 0, .nil false 3], .box t_impl_Net [I (2 + x1), .ref 3 3 0 tr.length], .row t_impl_Trans false 3 (tr.map encT)]⟩ ∨ (s = ⟨[.ptr 0 0, .bool rs, .ptr 1 0, .ptr 2 0, I (1 + x2 - k), .any, .any, .any, .any, .any, .any, .any], [.box t_spec_l1Cur [bys bs, I at', .int .u64 sd'], .box t_impl_Net [I 0, .nil false 3], .box t_impl_Net [I (2 + x1), .nil false 3]]⟩ ∧ tr = [])) ∧ tr.length = k ∧ at_ ≤ at' ∧ at' ≤ at_ + 10 + 152 * k ∧ ∀ t ∈ tr, t.inn.length ≤ 20 ∧ t.out.length ≤ 20 ∧ t.rst.length ≤ 20) ?_ ?_ ?_
  · refine ⟨[], a2, s2, .inr ⟨?_, rfl⟩, rfl, by omega, by omega, by simp⟩
    simp (maxSteps := 2000000) (disch := (first | omega | (simp only [List.length_append, List.length_take, List.length_replicate, List.length_map, List.length_set, List.length_cons, List.length_nil, List.length_zipWith, List.length_drop, List.length_range]; first | done | omega))) only [go_sem, Nat.reduceAdd, Nat.reduceEqDiff, Nat.reduceLeDiff, Nat.reduceSub]
    rw [show 1 + x2 - ((0 : Nat) : Int) = 1 + x2 by omega]
  · rintro k s hk ⟨tr, a, sd, hs, rfl, h12, h13, h14⟩
    obtain ⟨_, f1, l1, a3, s3, rfl, g1, g2, g3, g4⟩ := spec_l1Cur_someOf_ok (2 + x1) 1 2 (by omega) bs a sd (by omega) (by omega) hl hb
    obtain ⟨_, f2, l2, a4, s4, rfl, g5, g6, g7, g8⟩ := spec_l1Cur_someOf_ok (2 + x1) 0 2 (by omega) bs a3 s3 (by omega) (by omega) hl hb
    obtain ⟨_, f3, b5, a5, s5, rfl, g9, g10⟩ := spec_l1Cur_one_ok 5 bs a4 s4 (by omega) (by omega) hl hb
    obtain ⟨_, f4, l6, a6, s6, rfl, g11, g12, g13, g14⟩ := spec_l1Cur_someOf_ok (2 + x1) 1 2 (by omega) bs a5 s5 (by omega) (by omega) hl hb
    have e : 1 + x2 - ((tr.length + 1 : Nat) : Int) = 1 + x2 - tr.length - 1 := by omega
    rcases hs with rfl | ⟨rfl, rfl⟩
    · simp (maxSteps := 2000000) (disch := (first | omega | (simp only [List.length_append, List.length_take, List.length_replicate, List.length_map, List.length_set, List.length_cons, List.length_nil, List.length_zipWith, List.length_drop, List.length_range]; first | done | omega))) only [go_sem, Nat.reduceAdd, Nat.reduceEqDiff, Nat.reduceLeDiff, Nat.reduceSub, f1, f2, f3, f4]
      have hs : ∀ (t : Tr), t.inn.length ≤ 20 ∧ t.out.length ≤ 20 ∧ t.rst.length ≤ 20 → ∀ u ∈ tr ++ [t], u.inn.length ≤ 20 ∧ u.out.length ≤ 20 ∧ u.rst.length ≤ 20 := by
        intro t ht u hu
        rcases List.mem_append.1 hu with hu | hu
        · exact h14 u hu
        · simp only [List.mem_singleton] at hu; subst hu; exact ht
      refine ⟨fun _ => ⟨fun _ => ⟨tr ++ [⟨l1, l2, l6⟩], a6, s6, .inl ?_, by simp, by omega, by simp at h13 ⊢; omega, hs _ ⟨g3, g7, g13⟩⟩, fun _ => ⟨tr ++ [⟨l1, l2, []⟩], a5, s5, .inl ?_, by simp, by omega, by simp at h13 ⊢; omega, hs _ ⟨g3, g7, by simp⟩⟩⟩, fun _ => ⟨tr ++ [⟨l1, l2, []⟩], a4, s4, .inl ?_, by simp, by omega, by simp at h13 ⊢; omega, hs _ ⟨g3, g7, by simp⟩⟩⟩ <;> (rw [e]; simp)
    · simp (maxSteps := 2000000) (disch := (first | omega | (simp only [List.length_append, List.length_take, List.length_replicate, List.length_map, List.length_set, List.length_cons, List.length_nil, List.length_zipWith, List.length_drop, List.length_range]; first | done | omega))) only [go_sem, Nat.reduceAdd, Nat.reduceEqDiff, Nat.reduceLeDiff, Nat.reduceSub, f1, f2, f3, f4]
      have hs : ∀ (t : Tr), t.inn.length ≤ 20 ∧ t.out.length ≤ 20 ∧ t.rst.length ≤ 20 → ∀ u ∈ ([] : List Tr) ++ [t], u.inn.length ≤ 20 ∧ u.out.length ≤ 20 ∧ u.rst.length ≤ 20 := by
        intro t ht u hu
        rcases List.mem_append.1 hu with hu | hu
        · exact h14 u hu
        · simp only [List.mem_singleton] at hu; subst hu; exact ht
      refine ⟨fun _ => ⟨fun _ => ⟨([] : List Tr) ++ [⟨l1, l2, l6⟩], a6, s6, .inl ?_, by simp, by omega, by simp at h13 ⊢; omega, hs _ ⟨g3, g7, g13⟩⟩, fun _ => ⟨([] : List Tr) ++ [⟨l1, l2, []⟩], a5, s5, .inl ?_, by simp, by omega, by simp at h13 ⊢; omega, hs _ ⟨g3, g7, by simp⟩⟩⟩, fun _ => ⟨([] : List Tr) ++ [⟨l1, l2, []⟩], a4, s4, .inl ?_, by simp, by omega, by simp at h13 ⊢; omega, hs _ ⟨g3, g7, by simp⟩⟩⟩ <;> (simp <;> omega)
  · rintro s ⟨tr, a, sd, hs, h11, h12, h13, h14⟩
    have hne : 0 < tr.length := by omega
    rcases hs with rfl | ⟨rfl, rfl⟩
    · obtain ⟨_, f1, x7, a7, s7, rfl, g1, g2, g3, g4⟩ := spec_l1Cur_pick_ok 40 bs a sd (by omega) (by omega) hl hb
      obtain ⟨_, f2, x8, a8, s8, rfl, g5, g6, g7⟩ := spec_l1Cur_among_ok [0, 1, 17] t_int (by decide) (by decide) bs a7 s7 (by omega) (by omega) hl hb
      simp only [go_sem, Nat.reduceAdd] at f2
      simp (maxSteps := 2000000) (disch := (first | omega | (simp only [List.length_append, List.length_take, List.length_replicate, List.length_map, List.length_set, List.length_cons, List.length_nil, List.length_zipWith, List.length_drop, List.length_range]; first | done | omega))) only [go_sem, Nat.reduceAdd, Nat.reduceEqDiff, Nat.reduceLeDiff, Nat.reduceSub, f1, f2]
      simp only [List.mem_cons, List.not_mem_nil, or_false] at g7
      have h15 := h14 tr[0] (List.getElem_mem hne)
      have hs : ∀ (t : Tr), t.inn.length ≤ 20 ∧ t.out.length ≤ 20 ∧ t.rst.length ≤ 20 → ∀ u ∈ tr.set 0 t, u.inn.length ≤ 20 ∧ u.out.length ≤ 20 ∧ u.rst.length ≤ 20 := by
        intro t ht u hu
        rcases List.mem_or_eq_of_mem_set hu with hu | rfl
        · exact h14 u hu
        · exact ht
      refine ⟨fun _ => ⟨⟨x8, tr⟩, a8, s8, rfl, by omega, by omega, by simp only [smNet]; omega, by simp only; omega, h14⟩, fun _ => ⟨fun _ => ?_, fun _ => ⟨fun _ => ?_, fun _ => ?_⟩⟩⟩
      · exact ⟨⟨2 + x1, tr.set 0 ⟨[], tr[0].out, tr[0].rst⟩⟩, a7, s7, by simp [List.map_set]; rfl, by omega, by omega, by simp; omega, by simp only; omega, hs _ ⟨by simp, h15.2.1, h15.2.2⟩⟩
      · exact ⟨⟨2 + x1, tr.set 0 ⟨tr[0].inn, [1, 0], tr[0].rst⟩⟩, a7, s7, by simp [List.map_set]; rfl, by omega, by omega, by simp; omega, by simp only; omega, hs _ ⟨h15.1, by simp, h15.2.2⟩⟩
      · exact ⟨⟨2 + x1, tr⟩, a7, s7, rfl, by omega, by omega, by simp only; omega, by simp only; omega, h14⟩
    · simp at hne
theorem spec_l1Most_ok (a b : Int) : C f_spec_l1Most [I a, I b] [] = some (I (max a b), []) := by
  refine C_spec_l1Most ?_
  simp (maxSteps := 2000000) (disch := (first | omega | (simp only [List.length_append, List.length_take, List.length_replicate, List.length_map, List.length_set, List.length_cons, List.length_nil, List.length_zipWith, List.length_drop, List.length_range]; first | done | omega))) only [ir_spec_l1Most, go_sem, Nat.reduceAdd, Nat.reduceEqDiff, Nat.reduceLeDiff, Nat.reduceSub]
  exact ⟨fun h => by rw [Int.max_eq_left (by omega)], fun h => by rw [Int.max_eq_right (by omega)]⟩
theorem spec_l1Cur_markOf_ok (n : Net) (hn : n.pl ≤ 20) (bs : List Int) (at_ sd : Int) (h0 : 0 ≤ at_) (h1 : at_ < 2^59) (hl : bs.length < 2^62) (hb : ∀ x ∈ bs, 0 ≤ x ∧ x < 256) :
    Lw (C f_spec_l1Cur_markOf [.ptr 0 0, .agg [I n.pl, .ref 1 3 0 n.tr.length]] [.box t_spec_l1Cur [bys bs, I at_, .int .u64 sd], .row t_impl_Trans false 3 (n.tr.map encT)]) fun r => ∃ (l : List Int) (at' sd' : Int), r = (.un t_int true 1 (l.map I), [.box t_spec_l1Cur [bys bs, I at', .int .u64 sd'], .row t_impl_Trans false 3 (n.tr.map encT)]) ∧ at_ ≤ at' ∧ at' ≤ at_ + 100 ∧ l.length ≤ 20 ∧ ∀ x ∈ l, -1 ≤ x ∧ x ≤ 51 := by
  refine E_spec_l1Cur_markOf ?_
  simp (maxSteps := 2000000) (disch := (first | omega | (simp only [List.length_append, List.length_take, List.length_replicate, List.length_map, List.length_set, List.length_cons, List.length_nil, List.length_zipWith, List.length_drop, List.length_range]; first | done | omega))) only [ir_spec_l1Cur_markOf, go_sem, Nat.reduceAdd, Nat.reduceEqDiff, Nat.reduceLeDiff, Nat.reduceSub]
  refine W_for n.pl.toNat (fun k s => ∃ (l : List Int) (at' sd' : Int), s = ⟨[.ptr 0 0, .any, .ptr 2 0, .any, .ref 3 1 0 l.length, I k, .any, .any], [.box t_spec_l1Cur [bys bs, I at', .int .u64 sd'], .row t_impl_Trans false 3 (n.tr.map encT), .box t_impl_Net [I n.pl, .ref 1 3 0 n.tr.length], .row t_int true 1 (l.map I)]⟩ ∧ l.length = k ∧ at_ ≤ at' ∧ at' ≤ at_ + 2 * k ∧ ∀ x ∈ l, 0 ≤ x ∧ x ≤ 3) ?_ ?_ ?_
  · refine ⟨[], at_, sd, ?_, rfl, by omega, by omega, by simp⟩
    simp (maxSteps := 2000000) (disch := (first | omega | (simp only [List.length_append, List.length_take, List.length_replicate, List.length_map, List.length_set, List.length_cons, List.length_nil, List.length_zipWith, List.length_drop, List.length_range]; first | done | omega))) only [go_sem, Nat.reduceAdd, Nat.reduceEqDiff, Nat.reduceLeDiff, Nat.reduceSub]
    rfl
  · rintro k s hk ⟨l, a, sd, rfl, rfl, h8, h9, h10⟩
    obtain ⟨_, e2, x2, a2, s2, rfl, h11, h12, h13, h14⟩ := spec_l1Cur_pick_ok 4 bs a sd (by omega) (by omega) hl hb
    simp (maxSteps := 2000000) (disch := (first | omega | (simp only [List.length_append, List.length_take, List.length_replicate, List.length_map, List.length_set, List.length_cons, List.length_nil, List.length_zipWith, List.length_drop, List.length_range]; first | done | omega))) only [go_sem, Nat.reduceAdd, Nat.reduceEqDiff, Nat.reduceLeDiff, Nat.reduceSub, e2, spec_l1Most_ok]
    refine ⟨l ++ [max 0 (x2 - 1)], a2, s2, by rw [List.map_append]; simp, by simp, by omega, by omega, ?_⟩
    intro x hx
    rcases List.mem_append.1 hx with hx | hx
    · exact h10 x hx
    · simp only [List.mem_cons, List.not_mem_nil, or_false] at hx; omega
  · rintro s ⟨l, a, sd, rfl, h7, h8, h9, h10⟩
    obtain ⟨_, e1, x1, a1, s1, rfl, h5, h6⟩ := spec_l1Cur_one_ok 30 bs a sd (by omega) (by omega) hl hb
    simp (maxSteps := 2000000) (disch := (first | omega | (simp only [List.length_append, List.length_take, List.length_replicate, List.length_map, List.length_set, List.length_cons, List.length_nil, List.length_zipWith, List.length_drop, List.length_range]; first | done | omega))) only [go_sem, Nat.reduceAdd, Nat.reduceEqDiff, Nat.reduceLeDiff, Nat.reduceSub, e1]
    obtain ⟨_, e3, x3, a3, s3, rfl, h11, h12, h13⟩ := spec_l1Cur_among_ok [50, 51, -1] t_int (by decide) (by decide) bs a1 s1 (by omega) (by omega) hl hb
    simp only [go_sem, Nat.reduceAdd] at e3
    simp (maxSteps := 2000000) (disch := (first | omega | (simp only [List.length_append, List.length_take, List.length_replicate, List.length_map, List.length_set, List.length_cons, List.length_nil, List.length_zipWith, List.length_drop, List.length_range]; first | done | omega))) only [go_sem, Nat.reduceAdd, Nat.reduceEqDiff, Nat.reduceLeDiff, Nat.reduceSub, e3]
    simp only [List.mem_cons, List.not_mem_nil, or_false] at h13
    refine ⟨fun h => ⟨fun h2 => ?_, fun h2 => ?_⟩, fun h => ?_⟩
    · simp (maxSteps := 2000000) (disch := (first | omega | (simp only [List.length_append, List.length_take, List.length_replicate, List.length_map, List.length_set, List.length_cons, List.length_nil, List.length_zipWith, List.length_drop, List.length_range]; first | done | omega))) only [go_sem, Nat.reduceAdd, Nat.reduceEqDiff, Nat.reduceLeDiff, Nat.reduceSub]
      refine ⟨l.set 0 x3, a3, s3, rfl, by omega, by omega, by simp; omega, fun x hx => ?_⟩
      rcases List.mem_or_eq_of_mem_set hx with hx | rfl
      · have := h10 x hx; omega
      · omega
    · exact ⟨l, a1, s1, rfl, by omega, by omega, by omega, fun x hx => by have := h10 x hx; omega⟩
    · exact ⟨l, a1, s1, rfl, by omega, by omega, by omega, fun x hx => by have := h10 x hx; omega⟩
theorem spec_l1In_ok (n lo hi : Int) : C f_spec_l1In [I n, I lo, I hi] [] = some (.bool (inB lo hi n), []) := by
  refine C_spec_l1In ?_
  simp (maxSteps := 2000000) (disch := (first | omega | (simp only [List.length_append, List.length_take, List.length_replicate, List.length_map, List.length_set, List.length_cons, List.length_nil, List.length_zipWith, List.length_drop, List.length_range]; first | done | omega))) only [ir_spec_l1In, go_sem, Nat.reduceAdd, Nat.reduceEqDiff, Nat.reduceLeDiff, Nat.reduceSub]
  unfold inB; grind
theorem spec_l1Places_ok (n : Int) : C f_spec_l1Places [I n] [] = some (.bool (inB 1 16 n), []) := by
  refine C_spec_l1Places ?_
  simp (maxSteps := 2000000) (disch := (first | omega | (simp only [List.length_append, List.length_take, List.length_replicate, List.length_map, List.length_set, List.length_cons, List.length_nil, List.length_zipWith, List.length_drop, List.length_range]; first | done | omega))) only [ir_spec_l1Places, go_sem, Nat.reduceAdd, Nat.reduceEqDiff, Nat.reduceLeDiff, Nat.reduceSub]
  simp (maxSteps := 2000000) (disch := (first | omega | (simp only [List.length_append, List.length_take, List.length_replicate, List.length_map, List.length_set, List.length_cons, List.length_nil, List.length_zipWith, List.length_drop, List.length_range]; first | done | omega))) only [go_sem, Nat.reduceAdd, Nat.reduceEqDiff, Nat.reduceLeDiff, Nat.reduceSub, spec_l1In_ok]
  grind
theorem spec_l1Rising_ok (l : List Int) (lo hi : Int) (hl : l.length < 2^62) : C f_spec_l1Rising [ints l, I lo, I hi] [] = some (.bool (incr l && l.all (inB lo hi)), []) := by
  refine C_spec_l1Rising ?_
  simp (maxSteps := 2000000) (disch := (first | omega | (simp only [List.length_append, List.length_take, List.length_replicate, List.length_map, List.length_set, List.length_cons, List.length_nil, List.length_zipWith, List.length_drop, List.length_range]; first | done | omega))) only [ir_spec_l1Rising, go_sem, Nat.reduceAdd, Nat.reduceEqDiff, Nat.reduceLeDiff, Nat.reduceSub]
  refine W_for l.length (fun k s => s = ⟨[ints l, I lo, I hi, .any, .any, .any, ints l, I l.length, I k, .any, .any], []⟩ ∧ (l.take k).Pairwise (· < ·) ∧ (l.take k).all (inB lo hi) = true) ?_ ?_ ?_
  · simp (maxSteps := 2000000) (disch := (first | omega | (simp only [List.length_append, List.length_take, List.length_replicate, List.length_map, List.length_set, List.length_cons, List.length_nil, List.length_zipWith, List.length_drop, List.length_range]; first | done | omega))) only [go_sem, Nat.reduceAdd, Nat.reduceEqDiff, Nat.reduceLeDiff, Nat.reduceSub]
    exact ⟨rfl, List.Pairwise.nil⟩
  · rintro k s hk ⟨rfl, hp, hall⟩
    simp (maxSteps := 2000000) (disch := (first | omega | (simp only [List.length_append, List.length_take, List.length_replicate, List.length_map, List.length_set, List.length_cons, List.length_nil, List.length_zipWith, List.length_drop, List.length_range]; first | done | omega))) only [go_sem, Nat.reduceAdd, Nat.reduceEqDiff, Nat.reduceLeDiff, Nat.reduceSub, spec_l1In_ok]
    refine ⟨fun h => ⟨fun h2 => ?_, fun h2 => ?_⟩, fun h => by rw [all_false hk h]; simp⟩
    · simp (maxSteps := 2000000) (disch := (first | omega | (simp only [List.length_append, List.length_take, List.length_replicate, List.length_map, List.length_set, List.length_cons, List.length_nil, List.length_zipWith, List.length_drop, List.length_range]; first | done | omega))) only [go_sem, Nat.reduceAdd, Nat.reduceEqDiff, Nat.reduceLeDiff, Nat.reduceSub]
      obtain ⟨j, rfl⟩ : ∃ j, k = j + 1 := ⟨k - 1, by omega⟩
      have e : (((j + 1 : Nat) : Int) - 1).toNat = j := by omega
      refine ⟨fun h3 => ?_, fun h3 => ⟨rfl, ?_, all_take hk hall h⟩⟩
      · rw [incr_not hk (by simp only [e] at h3; omega)]; rfl
      · exact incr_step hk hp (by simp only [e] at h3; omega)
    · obtain rfl : k = 0 := by omega
      exact ⟨rfl, incr_one, all_take hk hall h⟩
  · rintro s ⟨rfl, hp, hall⟩
    simp (maxSteps := 2000000) (disch := (first | omega | (simp only [List.length_append, List.length_take, List.length_replicate, List.length_map, List.length_set, List.length_cons, List.length_nil, List.length_zipWith, List.length_drop, List.length_range]; first | done | omega))) only [go_sem, Nat.reduceAdd, Nat.reduceEqDiff, Nat.reduceLeDiff, Nat.reduceSub]
    rw [List.take_length] at hp hall
    rw [hall, show incr l = true by simpa [incr] using hp]
    rfl
theorem spec_GoodNet_ok (n : Net) (hn : smN n) : C f_spec_GoodNet [encN n] [] = some (.bool (goodN n), []) := by
  have h0 := hn.1
  refine C_spec_GoodNet ?_
  simp (maxSteps := 2000000) (disch := (first | omega | (simp only [List.length_append, List.length_take, List.length_replicate, List.length_map, List.length_set, List.length_cons, List.length_nil, List.length_zipWith, List.length_drop, List.length_range]; first | done | omega))) only [ir_spec_GoodNet, go_sem, Nat.reduceAdd, Nat.reduceEqDiff, Nat.reduceLeDiff, Nat.reduceSub]
  simp (maxSteps := 2000000) (disch := (first | omega | (simp only [List.length_append, List.length_take, List.length_replicate, List.length_map, List.length_set, List.length_cons, List.length_nil, List.length_zipWith, List.length_drop, List.length_range]; first | done | omega))) only [go_sem, Nat.reduceAdd, Nat.reduceEqDiff, Nat.reduceLeDiff, Nat.reduceSub, spec_l1Places_ok]
  refine ⟨fun h => ⟨fun h2 => ?_, fun h2 => ?_⟩, fun h => by simp [goodN, h]⟩
  · have : ¬ n.tr.length ≤ 24 := by omega
    simp [goodN, this]
  have hb : 1 ≤ n.pl ∧ n.pl ≤ 16 := by simpa [inB] using h
  refine W_for n.tr.length (fun k s => s = ⟨[.any, .ptr 0 0, .any, .any, .any, trs n.tr, I n.tr.length, I k, .any, .any], [.box t_impl_Net [I n.pl, trs n.tr]]⟩ ∧ (n.tr.take k).all (goodT n.pl) = true) ?_ ?_ ?_
  · simp (maxSteps := 2000000) (disch := (first | omega | (simp only [List.length_append, List.length_take, List.length_replicate, List.length_map, List.length_set, List.length_cons, List.length_nil, List.length_zipWith, List.length_drop, List.length_range]; first | done | omega))) only [go_sem, Nat.reduceAdd, Nat.reduceEqDiff, Nat.reduceLeDiff, Nat.reduceSub]
    rfl
  · rintro k s hk ⟨rfl, hall⟩
    obtain ⟨h3, h4, h5⟩ := hn.2 _ (List.getElem_mem hk)
    simp (maxSteps := 2000000) (disch := (first | omega | (simp only [List.length_append, List.length_take, List.length_replicate, List.length_map, List.length_set, List.length_cons, List.length_nil, List.length_zipWith, List.length_drop, List.length_range]; first | done | omega))) only [go_sem, Nat.reduceAdd, Nat.reduceEqDiff, Nat.reduceLeDiff, Nat.reduceSub, spec_l1Rising_ok]
    simp only [places_eq]
    refine ⟨fun h6 => by rw [goodN_not hk (goodT_nil (by omega))], fun h6 => ⟨fun h7 => ⟨fun h8 => ⟨fun h9 => ⟨rfl, all_take hk hall (goodT_all (by omega) h7 h8 h9)⟩, fun h9 => by rw [goodN_not hk (by simp [goodT, h9])]⟩, fun h8 => by rw [goodN_not hk (by simp [goodT, h8])]⟩, fun h7 => by rw [goodN_not hk (by simp [goodT, h7])]⟩⟩
  · rintro s ⟨rfl, hall⟩
    simp (maxSteps := 2000000) (disch := (first | omega | (simp only [List.length_append, List.length_take, List.length_replicate, List.length_map, List.length_set, List.length_cons, List.length_nil, List.length_zipWith, List.length_drop, List.length_range]; first | done | omega))) only [go_sem, Nat.reduceAdd, Nat.reduceEqDiff, Nat.reduceLeDiff, Nat.reduceSub]
    rw [List.take_length] at hall
    simp [goodN, hall, h, show n.tr.length ≤ 24 by omega]
theorem spec_l1All_ok (l : List Int) (lo hi : Int) (hl : l.length < 2^62) : C f_spec_l1All [ints l, I lo, I hi] [] = some (.bool (l.all (inB lo hi)), []) := by
  refine C_spec_l1All ?_
  simp (maxSteps := 2000000) (disch := (first | omega | (simp only [List.length_append, List.length_take, List.length_replicate, List.length_map, List.length_set, List.length_cons, List.length_nil, List.length_zipWith, List.length_drop, List.length_range]; first | done | omega))) only [ir_spec_l1All, go_sem, Nat.reduceAdd, Nat.reduceEqDiff, Nat.reduceLeDiff, Nat.reduceSub]
  refine W_for l.length (fun k s => s = ⟨[.any, I lo, I hi, .any, .any, ints l, I l.length, I k, .any, .any], []⟩ ∧ (l.take k).all (inB lo hi) = true) ?_ ?_ ?_
  · simp (maxSteps := 2000000) (disch := (first | omega | (simp only [List.length_append, List.length_take, List.length_replicate, List.length_map, List.length_set, List.length_cons, List.length_nil, List.length_zipWith, List.length_drop, List.length_range]; first | done | omega))) only [go_sem, Nat.reduceAdd, Nat.reduceEqDiff, Nat.reduceLeDiff, Nat.reduceSub]
    rfl
  · rintro k s hk ⟨rfl, hall⟩
    simp (maxSteps := 2000000) (disch := (first | omega | (simp only [List.length_append, List.length_take, List.length_replicate, List.length_map, List.length_set, List.length_cons, List.length_nil, List.length_zipWith, List.length_drop, List.length_range]; first | done | omega))) only [go_sem, Nat.reduceAdd, Nat.reduceEqDiff, Nat.reduceLeDiff, Nat.reduceSub, spec_l1In_ok]
    exact ⟨fun h => ⟨rfl, all_take hk hall h⟩, fun h => by rw [all_false hk h]⟩
  · rintro s ⟨rfl, hall⟩
    simp (maxSteps := 2000000) (disch := (first | omega | (simp only [List.length_append, List.length_take, List.length_replicate, List.length_map, List.length_set, List.length_cons, List.length_nil, List.length_zipWith, List.length_drop, List.length_range]; first | done | omega))) only [go_sem, Nat.reduceAdd, Nat.reduceEqDiff, Nat.reduceLeDiff, Nat.reduceSub]
    rw [List.take_length] at hall
    rw [hall]
theorem spec_GoodMark_ok (p : Int) (m : List Int) (hl : m.length < 2^62) : C f_spec_GoodMark [I p, ints m] [] = some (.bool (goodM p m), []) := by
  refine C_spec_GoodMark ?_
  simp (maxSteps := 2000000) (disch := (first | omega | (simp only [List.length_append, List.length_take, List.length_replicate, List.length_map, List.length_set, List.length_cons, List.length_nil, List.length_zipWith, List.length_drop, List.length_range]; first | done | omega))) only [ir_spec_GoodMark, go_sem, Nat.reduceAdd, Nat.reduceEqDiff, Nat.reduceLeDiff, Nat.reduceSub]
  simp (maxSteps := 2000000) (disch := (first | omega | (simp only [List.length_append, List.length_take, List.length_replicate, List.length_map, List.length_set, List.length_cons, List.length_nil, List.length_zipWith, List.length_drop, List.length_range]; first | done | omega))) only [go_sem, Nat.reduceAdd, Nat.reduceEqDiff, Nat.reduceLeDiff, Nat.reduceSub, spec_l1Places_ok, spec_l1All_ok m _ _ hl]
  unfold goodM; grind
theorem spec_l2Marked_ok (n : Net) (m : List Int) (hn : smN n) (hm : m.length < 2^62) : C f_spec_l2Marked [encN n, ints m] [] = some (.bool (marked n m), []) := by
  refine C_spec_l2Marked ?_
  simp (maxSteps := 2000000) (disch := (first | omega | (simp only [List.length_append, List.length_take, List.length_replicate, List.length_map, List.length_set, List.length_cons, List.length_nil, List.length_zipWith, List.length_drop, List.length_range]; first | done | omega))) only [ir_spec_l2Marked, go_sem, Nat.reduceAdd, Nat.reduceEqDiff, Nat.reduceLeDiff, Nat.reduceSub]
  simp (maxSteps := 2000000) (disch := (first | omega | (simp only [List.length_append, List.length_take, List.length_replicate, List.length_map, List.length_set, List.length_cons, List.length_nil, List.length_zipWith, List.length_drop, List.length_range]; first | done | omega))) only [go_sem, Nat.reduceAdd, Nat.reduceEqDiff, Nat.reduceLeDiff, Nat.reduceSub, spec_GoodNet_ok n hn, spec_GoodMark_ok n.pl m hm]
  unfold marked; grind
theorem spec_l2Can_ok (t : Tr) (m : List Int) (ht : ∀ q ∈ t.inn, 0 ≤ q ∧ q.toNat < m.length) (hl : t.inn.length < 2^62) : C f_spec_l2Can [encT t, ints m] [] = some (.bool (canT t m), []) := by
  refine C_spec_l2Can ?_
  simp (maxSteps := 2000000) (disch := (first | omega | (simp only [List.length_append, List.length_take, List.length_replicate, List.length_map, List.length_set, List.length_cons, List.length_nil, List.length_zipWith, List.length_drop, List.length_range]; first | done | omega))) only [ir_spec_l2Can, go_sem, Nat.reduceAdd, Nat.reduceEqDiff, Nat.reduceLeDiff, Nat.reduceSub]
  refine W_for t.inn.length (fun k s => s = ⟨[.any, ints m, .any, .any, .any, ints t.inn, I t.inn.length, I k, .any, .any], []⟩ ∧ (t.inn.take k).all (fun p => !(at_ m p == 0)) = true) ?_ ?_ ?_
  · simp (maxSteps := 2000000) (disch := (first | omega | (simp only [List.length_append, List.length_take, List.length_replicate, List.length_map, List.length_set, List.length_cons, List.length_nil, List.length_zipWith, List.length_drop, List.length_range]; first | done | omega))) only [go_sem, Nat.reduceAdd, Nat.reduceEqDiff, Nat.reduceLeDiff, Nat.reduceSub]
    rfl
  · rintro k s hk ⟨rfl, hall⟩
    obtain ⟨h1, h2⟩ := ht _ (List.getElem_mem hk)
    simp (maxSteps := 2000000) (disch := (first | omega | (simp only [List.length_append, List.length_take, List.length_replicate, List.length_map, List.length_set, List.length_cons, List.length_nil, List.length_zipWith, List.length_drop, List.length_range]; first | done | omega))) only [go_sem, Nat.reduceAdd, Nat.reduceEqDiff, Nat.reduceLeDiff, Nat.reduceSub]
    refine ⟨fun h => ?_, fun h => ⟨rfl, all_take hk hall ?_⟩⟩
    · have : canT t m = false := all_false hk (by rw [at_eq h2] at h; simp [h])
      rw [this]
    · rw [at_eq h2] at h; simp [h]
  · rintro s ⟨rfl, hall⟩
    simp (maxSteps := 2000000) (disch := (first | omega | (simp only [List.length_append, List.length_take, List.length_replicate, List.length_map, List.length_set, List.length_cons, List.length_nil, List.length_zipWith, List.length_drop, List.length_range]; first | done | omega))) only [go_sem, Nat.reduceAdd, Nat.reduceEqDiff, Nat.reduceLeDiff, Nat.reduceSub]
    rw [List.take_length] at hall
    unfold canT; rw [hall]
theorem spec_l2Enabled_ok (n : Net) (m : List Int) (hg : goodN n = true) (hm : (m.length : Int) = n.pl) : C f_spec_l2Enabled [encN n, ints m] [] = some (.un t_int true 1 ((enabL n m).map I), []) := by
  have hb := goodN_parts hg
  refine C_spec_l2Enabled ?_
  simp (maxSteps := 2000000) (disch := (first | omega | (simp only [List.length_append, List.length_take, List.length_replicate, List.length_map, List.length_set, List.length_cons, List.length_nil, List.length_zipWith, List.length_drop, List.length_range]; first | done | omega))) only [ir_spec_l2Enabled, go_sem, Nat.reduceAdd, Nat.reduceEqDiff, Nat.reduceLeDiff, Nat.reduceSub]
  refine W_for n.tr.length (fun k s => s = ⟨[.any, ints m, .any, .any, .ref 0 1 0 (enabK n m k).length, .any, .any, trs n.tr, I n.tr.length, I k, .any, .any], [.row t_int true 1 ((enabK n m k).map I)]⟩) ?_ ?_ ?_
  · simp (maxSteps := 2000000) (disch := (first | omega | (simp only [List.length_append, List.length_take, List.length_replicate, List.length_map, List.length_set, List.length_cons, List.length_nil, List.length_zipWith, List.length_drop, List.length_range]; first | done | omega))) only [go_sem, Nat.reduceAdd, Nat.reduceEqDiff, Nat.reduceLeDiff, Nat.reduceSub]
    rfl
  · rintro k s hk rfl
    have hT := hb.2.2.2 _ (List.getElem_mem hk)
    have h2 := enabK_len n m k
    simp (maxSteps := 2000000) (disch := (first | omega | (simp only [List.length_append, List.length_take, List.length_replicate, List.length_map, List.length_set, List.length_cons, List.length_nil, List.length_zipWith, List.length_drop, List.length_range]; first | done | omega))) only [go_sem, Nat.reduceAdd, Nat.reduceEqDiff, Nat.reduceLeDiff, Nat.reduceSub, spec_l2Can_ok _ m (goodT_lt hT hm).1 (by have := (goodT_lens hT (by omega)).1; omega)]
    refine ⟨fun h => ?_, fun h => ?_⟩
    · rw [enabK_t hk h, List.map_append]; simp
    · rw [enabK_f hk h]; rfl
  · rintro s rfl
    simp (maxSteps := 2000000) (disch := (first | omega | (simp only [List.length_append, List.length_take, List.length_replicate, List.length_map, List.length_set, List.length_cons, List.length_nil, List.length_zipWith, List.length_drop, List.length_range]; first | done | omega))) only [go_sem, Nat.reduceAdd, Nat.reduceEqDiff, Nat.reduceLeDiff, Nat.reduceSub]
    rfl
theorem spec_Enabled_ok (n : Net) (m : List Int) (hn : smN n) (hm : m.length < 2^62) : C f_spec_Enabled [encN n, ints m] [] = some (.tup [.un t_int true 1 ((if marked n m then enabL n m else []).map I), .bool (marked n m)], []) := by
  refine C_spec_Enabled ?_
  simp (maxSteps := 2000000) (disch := (first | omega | (simp only [List.length_append, List.length_take, List.length_replicate, List.length_map, List.length_set, List.length_cons, List.length_nil, List.length_zipWith, List.length_drop, List.length_range]; first | done | omega))) only [ir_spec_Enabled, go_sem, Nat.reduceAdd, Nat.reduceEqDiff, Nat.reduceLeDiff, Nat.reduceSub]
  simp (maxSteps := 2000000) (disch := (first | omega | (simp only [List.length_append, List.length_take, List.length_replicate, List.length_map, List.length_set, List.length_cons, List.length_nil, List.length_zipWith, List.length_drop, List.length_range]; first | done | omega))) only [go_sem, Nat.reduceAdd, Nat.reduceEqDiff, Nat.reduceLeDiff, Nat.reduceSub, spec_l2Marked_ok n m hn hm]
  refine ⟨fun h => ?_, fun h => by simp [h]⟩
  obtain ⟨h1, h2⟩ := marked_parts h
  simp (maxSteps := 2000000) (disch := (first | omega | (simp only [List.length_append, List.length_take, List.length_replicate, List.length_map, List.length_set, List.length_cons, List.length_nil, List.length_zipWith, List.length_drop, List.length_range]; first | done | omega))) only [go_sem, Nat.reduceAdd, Nat.reduceEqDiff, Nat.reduceLeDiff, Nat.reduceSub, spec_l2Enabled_ok n m h1 (goodM_len h2).2.2.1, h]
theorem spec_DrawFire_ok (bs : List Int) (hl : bs.length < 2^62) (hb : ∀ x ∈ bs, 0 ≤ x ∧ x < 256) :
    Lw (C f_spec_DrawFire [bys bs] []) fun r => ∃ (n : Net) (m : List Int) (t : Int), r = (.tup [.agg [I n.pl, .un t_impl_Trans false 3 (n.tr.map encT)], .un t_int true 1 (m.map I), I t], []) ∧ smNet n ∧ m.length ≤ 20 := by
  refine E_spec_DrawFire ?_
  simp (maxSteps := 2000000) (disch := (first | omega | (simp only [List.length_append, List.length_take, List.length_replicate, List.length_map, List.length_set, List.length_cons, List.length_nil, List.length_zipWith, List.length_drop, List.length_range]; first | done | omega))) only [ir_spec_DrawFire, go_sem, Nat.reduceAdd, Nat.reduceEqDiff, Nat.reduceLeDiff, Nat.reduceSub]
  obtain ⟨_, e1, n, a1, s1, rfl, h3, h4, h5⟩ := spec_l1Cur_net_ok true bs 0 0 (by omega) (by omega) hl hb
  obtain ⟨_, e2, m, a2, s2, rfl, h6, h7, h8, h9⟩ := spec_l1Cur_markOf_ok n h5.2.1 bs a1 s1 (by omega) (by omega) hl hb
  have e3 := spec_Enabled_ok n m h5.smN (by omega)
  obtain ⟨_, e4, x4, a4, s4, rfl, h11, h12⟩ := spec_l1Cur_one_ok 4 bs a2 s2 (by omega) (by omega) hl hb
  obtain ⟨_, e5, x5, a5, s5, rfl, h13, h14, h15, h16⟩ := spec_l1Cur_pick_ok 6 bs a2 s2 (by omega) (by omega) hl hb
  obtain ⟨_, e6, x6, a6, s6, rfl, h17, h18, h19, h20⟩ := spec_l1Cur_pick_ok 12 bs a5 s5 (by omega) (by omega) hl hb
  obtain ⟨_, e7, x7, a7, s7, rfl, h21, h22, h23, h24⟩ := spec_l1Cur_pick_ok 6 bs a4 s4 (by omega) (by omega) hl hb
  obtain ⟨_, e8, x8, a8, s8, rfl, h25, h26, h27, h28⟩ := spec_l1Cur_pick_ok 12 bs a7 s7 (by omega) (by omega) hl hb
  obtain ⟨_, e9, x9, a9, s9, rfl, h29, h30, h31, h32⟩ := spec_l1Cur_pick_ok (enabL n m).length bs a4 s4 (by omega) (by omega) hl hb
  cases hm : marked n m with
  | false =>
    simp only [hm] at e3
    simp (maxSteps := 2000000) (disch := (first | omega | (simp only [List.length_append, List.length_take, List.length_replicate, List.length_map, List.length_set, List.length_cons, List.length_nil, List.length_zipWith, List.length_drop, List.length_range]; first | done | omega))) only [go_sem, Nat.reduceAdd, Nat.reduceEqDiff, Nat.reduceLeDiff, Nat.reduceSub, e1, e2, e3, e5, e6]
    exact ⟨n, m, _, rfl, h5, h8⟩
  | true =>
    simp only [hm] at e3
    simp (maxSteps := 2000000) (disch := (first | omega | (simp only [List.length_append, List.length_take, List.length_replicate, List.length_map, List.length_set, List.length_cons, List.length_nil, List.length_zipWith, List.length_drop, List.length_range]; first | done | omega))) only [go_sem, Nat.reduceAdd, Nat.reduceEqDiff, Nat.reduceLeDiff, Nat.reduceSub, e1, e2, e3, e4]
    refine ⟨fun hp => ⟨fun hx => ?_, fun hx => ?_⟩, fun hp => ?_⟩
    · simp (maxSteps := 2000000) (disch := (first | omega | (simp only [List.length_append, List.length_take, List.length_replicate, List.length_map, List.length_set, List.length_cons, List.length_nil, List.length_zipWith, List.length_drop, List.length_range]; first | done | omega))) only [go_sem, Nat.reduceAdd, Nat.reduceEqDiff, Nat.reduceLeDiff, Nat.reduceSub, e7, e8]
      exact ⟨n, m, _, rfl, h5, h8⟩
    · simp (maxSteps := 2000000) (disch := (first | omega | (simp only [List.length_append, List.length_take, List.length_replicate, List.length_map, List.length_set, List.length_cons, List.length_nil, List.length_zipWith, List.length_drop, List.length_range]; first | done | omega))) only [go_sem, Nat.reduceAdd, Nat.reduceEqDiff, Nat.reduceLeDiff, Nat.reduceSub, e9]
      exact ⟨rfl, n, m, _, rfl, h5, h8⟩
    · simp (maxSteps := 2000000) (disch := (first | omega | (simp only [List.length_append, List.length_take, List.length_replicate, List.length_map, List.length_set, List.length_cons, List.length_nil, List.length_zipWith, List.length_drop, List.length_range]; first | done | omega))) only [go_sem, Nat.reduceAdd, Nat.reduceEqDiff, Nat.reduceLeDiff, Nat.reduceSub, e5, e6]
      exact ⟨n, m, _, rfl, h5, h8⟩
theorem impl_within_ok (n lo hi : Int) : C f_impl_within [I n, I lo, I hi] [] = some (.bool (inB lo hi n), []) := by
  refine C_impl_within ?_
  simp (maxSteps := 2000000) (disch := (first | omega | (simp only [List.length_append, List.length_take, List.length_replicate, List.length_map, List.length_set, List.length_cons, List.length_nil, List.length_zipWith, List.length_drop, List.length_range]; first | done | omega))) only [ir_impl_within, go_sem, Nat.reduceAdd, Nat.reduceEqDiff, Nat.reduceLeDiff, Nat.reduceSub]
  unfold inB; grind
theorem impl_increasing_ok (l : List Int) (hl : l.length < 2^62) : C f_impl_increasing [ints l] [] = some (.bool (incr l), []) := by
  refine C_impl_increasing ?_
  simp (maxSteps := 2000000) (disch := (first | omega | (simp only [List.length_append, List.length_take, List.length_replicate, List.length_map, List.length_set, List.length_cons, List.length_nil, List.length_zipWith, List.length_drop, List.length_range]; first | done | omega))) only [ir_impl_increasing, go_sem, Nat.reduceAdd, Nat.reduceEqDiff, Nat.reduceLeDiff, Nat.reduceSub]
  refine W_for (l.length - 1) (fun k s => s = ⟨[ints l, .any, I (k + 1 : Int), .any, .any], []⟩ ∧ (l.take (k + 1)).Pairwise (· < ·)) ?_ ?_ ?_
  · simp (maxSteps := 2000000) (disch := (first | omega | (simp only [List.length_append, List.length_take, List.length_replicate, List.length_map, List.length_set, List.length_cons, List.length_nil, List.length_zipWith, List.length_drop, List.length_range]; first | done | omega))) only [go_sem, Nat.reduceAdd, Nat.reduceEqDiff, Nat.reduceLeDiff, Nat.reduceSub]
    exact ⟨rfl, incr_one⟩
  · rintro k s hk ⟨rfl, hp⟩
    simp (maxSteps := 2000000) (disch := (first | omega | (simp only [List.length_append, List.length_take, List.length_replicate, List.length_map, List.length_set, List.length_cons, List.length_nil, List.length_zipWith, List.length_drop, List.length_range]; first | done | omega))) only [go_sem, Nat.reduceAdd, Nat.reduceEqDiff, Nat.reduceLeDiff, Nat.reduceSub]
    have e1 : ((k : Int) + 1).toNat = k + 1 := by omega
    have e2 : ((k : Int) + 1 - 1).toNat = k := by omega
    simp only [e1, e2]
    refine ⟨fun h => by rw [incr_not (k := k) (by omega) (by omega)], fun h => ⟨rfl, incr_step (by omega) hp h⟩⟩
  · rintro s ⟨rfl, hp⟩
    simp (maxSteps := 2000000) (disch := (first | omega | (simp only [List.length_append, List.length_take, List.length_replicate, List.length_map, List.length_set, List.length_cons, List.length_nil, List.length_zipWith, List.length_drop, List.length_range]; first | done | omega))) only [go_sem, Nat.reduceAdd, Nat.reduceEqDiff, Nat.reduceLeDiff, Nat.reduceSub]
    rw [take_all (by omega)] at hp
    rw [show incr l = true by simpa [incr] using hp]
theorem impl_allWithin_ok (l : List Int) (lo hi : Int) (hl : l.length < 2^62) : C f_impl_allWithin [ints l, I lo, I hi] [] = some (.bool (l.all (inB lo hi)), []) := by
  refine C_impl_allWithin ?_
  simp (maxSteps := 2000000) (disch := (first | omega | (simp only [List.length_append, List.length_take, List.length_replicate, List.length_map, List.length_set, List.length_cons, List.length_nil, List.length_zipWith, List.length_drop, List.length_range]; first | done | omega))) only [ir_impl_allWithin, go_sem, Nat.reduceAdd, Nat.reduceEqDiff, Nat.reduceLeDiff, Nat.reduceSub]
  refine W_for l.length (fun k s => s = ⟨[.any, I lo, I hi, .any, .any, ints l, I l.length, I k, .any, .any], []⟩ ∧ (l.take k).all (inB lo hi) = true) ?_ ?_ ?_
  · simp (maxSteps := 2000000) (disch := (first | omega | (simp only [List.length_append, List.length_take, List.length_replicate, List.length_map, List.length_set, List.length_cons, List.length_nil, List.length_zipWith, List.length_drop, List.length_range]; first | done | omega))) only [go_sem, Nat.reduceAdd, Nat.reduceEqDiff, Nat.reduceLeDiff, Nat.reduceSub]
    rfl
  · rintro k s hk ⟨rfl, hall⟩
    simp (maxSteps := 2000000) (disch := (first | omega | (simp only [List.length_append, List.length_take, List.length_replicate, List.length_map, List.length_set, List.length_cons, List.length_nil, List.length_zipWith, List.length_drop, List.length_range]; first | done | omega))) only [go_sem, Nat.reduceAdd, Nat.reduceEqDiff, Nat.reduceLeDiff, Nat.reduceSub, impl_within_ok]
    exact ⟨fun h => ⟨rfl, all_take hk hall h⟩, fun h => by rw [all_false hk h]⟩
  · rintro s ⟨rfl, hall⟩
    simp (maxSteps := 2000000) (disch := (first | omega | (simp only [List.length_append, List.length_take, List.length_replicate, List.length_map, List.length_set, List.length_cons, List.length_nil, List.length_zipWith, List.length_drop, List.length_range]; first | done | omega))) only [go_sem, Nat.reduceAdd, Nat.reduceEqDiff, Nat.reduceLeDiff, Nat.reduceSub]
    rw [List.take_length] at hall
    rw [hall]
theorem impl_arePlaces_ok (n : Net) (l : List Int) (h : 1 ≤ n.pl ∧ n.pl ≤ 16) (hl : l.length < 2^62) : C f_impl_arePlaces [encN n, ints l] [] = some (.bool (places n.pl l), []) := by
  refine C_impl_arePlaces ?_
  simp (maxSteps := 2000000) (disch := (first | omega | (simp only [List.length_append, List.length_take, List.length_replicate, List.length_map, List.length_set, List.length_cons, List.length_nil, List.length_zipWith, List.length_drop, List.length_range]; first | done | omega))) only [ir_impl_arePlaces, go_sem, Nat.reduceAdd, Nat.reduceEqDiff, Nat.reduceLeDiff, Nat.reduceSub]
  simp (maxSteps := 2000000) (disch := (first | omega | (simp only [List.length_append, List.length_take, List.length_replicate, List.length_map, List.length_set, List.length_cons, List.length_nil, List.length_zipWith, List.length_drop, List.length_range]; first | done | omega))) only [go_sem, Nat.reduceAdd, Nat.reduceEqDiff, Nat.reduceLeDiff, Nat.reduceSub, impl_increasing_ok l hl, impl_allWithin_ok l _ _ hl]
  unfold places; grind
theorem impl_GoodNet_1_ok (n : Net) (t : Tr) (h : 1 ≤ n.pl ∧ n.pl ≤ 16) (ht : smT t) : C f_impl_GoodNet_1 [encT t, .pv (encN n) 0] [] = some (.bool (!goodT n.pl t), []) := by
  obtain ⟨h1, h2, h3⟩ := ht
  refine C_impl_GoodNet_1 ?_
  simp (maxSteps := 2000000) (disch := (first | omega | (simp only [List.length_append, List.length_take, List.length_replicate, List.length_map, List.length_set, List.length_cons, List.length_nil, List.length_zipWith, List.length_drop, List.length_range]; first | done | omega))) only [ir_impl_GoodNet_1, go_sem, Nat.reduceAdd, Nat.reduceEqDiff, Nat.reduceLeDiff, Nat.reduceSub]
  simp (maxSteps := 2000000) (disch := (first | omega | (simp only [List.length_append, List.length_take, List.length_replicate, List.length_map, List.length_set, List.length_cons, List.length_nil, List.length_zipWith, List.length_drop, List.length_range]; first | done | omega))) only [go_sem, Nat.reduceAdd, Nat.reduceEqDiff, Nat.reduceLeDiff, Nat.reduceSub, impl_arePlaces_ok n _ h]
  refine ⟨fun h6 => by rw [goodT_nil (by omega)]; rfl, fun h6 => ⟨fun h7 => ⟨fun h8 => ⟨fun h9 => by rw [goodT_all (by omega) h7 h8 h9]; rfl, fun h9 => by simp [goodT, h9]⟩, fun h8 => by simp [goodT, h8]⟩, fun h7 => by simp [goodT, h7]⟩⟩
theorem slices_IndexFunc_sl_impl_Trans_impl_Trans_ok (l : List Tr) (g : FuncId) (caps : List PV) (hc : refsL caps = []) (hcv : ∀ m h, viewLWith [] m h caps = some caps) (p : Tr → Bool) (hp : ∀ x ∈ l, C g (encT x :: caps) [] = some (.bool (p x), [])) (hl : l.length < 2^62) :
    C f_slices_IndexFunc_sl_impl_Trans_impl_Trans [trs l, .clo g caps] [] = some (I (idxI l p), []) := by
  refine C_slices_IndexFunc_sl_impl_Trans_impl_Trans ?_
  simp (maxSteps := 2000000) (disch := (first | omega | (simp only [List.length_append, List.length_take, List.length_replicate, List.length_map, List.length_set, List.length_cons, List.length_nil, List.length_zipWith, List.length_drop, List.length_range]; first | done | omega))) only [ir_slices_IndexFunc_sl_impl_Trans_impl_Trans, go_sem, Nat.reduceAdd, Nat.reduceEqDiff, Nat.reduceLeDiff, Nat.reduceSub]
  refine W_for l.length (fun k s => s = ⟨[trs l, .clo g caps, .any, .any, I l.length, I k, .any, .any], []⟩ ∧ (l.take k).any p = false) ?_ ?_ ?_
  · simp (maxSteps := 2000000) (disch := (first | omega | (simp only [List.length_append, List.length_take, List.length_replicate, List.length_map, List.length_set, List.length_cons, List.length_nil, List.length_zipWith, List.length_drop, List.length_range]; first | done | omega))) only [go_sem, Nat.reduceAdd, Nat.reduceEqDiff, Nat.reduceLeDiff, Nat.reduceSub, hc]
    rfl
  · rintro k s hk ⟨rfl, hall⟩
    simp (maxSteps := 2000000) (disch := (first | omega | (simp only [List.length_append, List.length_take, List.length_replicate, List.length_map, List.length_set, List.length_cons, List.length_nil, List.length_zipWith, List.length_drop, List.length_range]; first | done | omega))) only [go_sem, Nat.reduceAdd, Nat.reduceEqDiff, Nat.reduceLeDiff, Nat.reduceSub, hc, hcv, hp _ (List.getElem_mem hk)]
    exact ⟨fun h => by rw [idxI_some hk hall h], fun h => ⟨rfl, any_take hk hall h⟩⟩
  · rintro s ⟨rfl, hall⟩
    simp (maxSteps := 2000000) (disch := (first | omega | (simp only [List.length_append, List.length_take, List.length_replicate, List.length_map, List.length_set, List.length_cons, List.length_nil, List.length_zipWith, List.length_drop, List.length_range]; first | done | omega))) only [go_sem, Nat.reduceAdd, Nat.reduceEqDiff, Nat.reduceLeDiff, Nat.reduceSub]
    rw [List.take_length] at hall
    rw [idxI_none hall]
theorem slices_ContainsFunc_sl_impl_Trans_impl_Trans_ok (l : List Tr) (g : FuncId) (caps : List PV) (hc : refsL caps = []) (hcv : ∀ m h, viewLWith [] m h caps = some caps) (p : Tr → Bool) (hp : ∀ x ∈ l, C g (encT x :: caps) [] = some (.bool (p x), [])) (hl : l.length < 2^62) :
    C f_slices_ContainsFunc_sl_impl_Trans_impl_Trans [trs l, .clo g caps] [] = some (.bool (l.any p), []) := by
  refine C_slices_ContainsFunc_sl_impl_Trans_impl_Trans ?_
  simp (maxSteps := 2000000) (disch := (first | omega | (simp only [List.length_append, List.length_take, List.length_replicate, List.length_map, List.length_set, List.length_cons, List.length_nil, List.length_zipWith, List.length_drop, List.length_range]; first | done | omega))) only [ir_slices_ContainsFunc_sl_impl_Trans_impl_Trans, go_sem, Nat.reduceAdd, Nat.reduceEqDiff, Nat.reduceLeDiff, Nat.reduceSub]
  simp (maxSteps := 2000000) (disch := (first | omega | (simp only [List.length_append, List.length_take, List.length_replicate, List.length_map, List.length_set, List.length_cons, List.length_nil, List.length_zipWith, List.length_drop, List.length_range]; first | done | omega))) only [go_sem, Nat.reduceAdd, Nat.reduceEqDiff, Nat.reduceLeDiff, Nat.reduceSub, hc, hcv, slices_IndexFunc_sl_impl_Trans_impl_Trans_ok l g caps hc hcv p hp hl]
  have := idxI_any l p
  grind
theorem impl_GoodNet_ok (n : Net) (hn : smN n) : C f_impl_GoodNet [encN n] [] = some (.bool (goodN n), []) := by
  have h0 := hn.1
  refine C_impl_GoodNet ?_
  simp (maxSteps := 2000000) (disch := (first | omega | (simp only [List.length_append, List.length_take, List.length_replicate, List.length_map, List.length_set, List.length_cons, List.length_nil, List.length_zipWith, List.length_drop, List.length_range]; first | done | omega))) only [ir_impl_GoodNet, go_sem, Nat.reduceAdd, Nat.reduceEqDiff, Nat.reduceLeDiff, Nat.reduceSub]
  simp (maxSteps := 2000000) (disch := (first | omega | (simp only [List.length_append, List.length_take, List.length_replicate, List.length_map, List.length_set, List.length_cons, List.length_nil, List.length_zipWith, List.length_drop, List.length_range]; first | done | omega))) only [go_sem, Nat.reduceAdd, Nat.reduceEqDiff, Nat.reduceLeDiff, Nat.reduceSub, impl_within_ok]
  refine ⟨fun h => ⟨fun h2 => ?_, fun h2 => ?_⟩, fun h => by simp [goodN, h]⟩
  · have hb : 1 ≤ n.pl ∧ n.pl ≤ 16 := by simpa [inB] using h
    have h3 := slices_ContainsFunc_sl_impl_Trans_impl_Trans_ok n.tr f_impl_GoodNet_1 [.pv (encN n) 0] rfl (fun _ _ => rfl) (fun t => !goodT n.pl t) (fun x hx => impl_GoodNet_1_ok n x hb (hn.2 x hx)) (by omega)
    simp (maxSteps := 2000000) (disch := (first | omega | (simp only [List.length_append, List.length_take, List.length_replicate, List.length_map, List.length_set, List.length_cons, List.length_nil, List.length_zipWith, List.length_drop, List.length_range]; first | done | omega))) only [go_sem, Nat.reduceAdd, Nat.reduceEqDiff, Nat.reduceLeDiff, Nat.reduceSub, h3]
    have : (n.tr.any fun t => !goodT n.pl t) = !n.tr.all (goodT n.pl) := by rw [List.any_eq_not_all_not]; simp
    have h4 : n.tr.length ≤ 24 := by omega
    simp only [this]
    simp [goodN, h, h4]
  · have : ¬ n.tr.length ≤ 24 := by omega
    simp [goodN, this]
theorem impl_GoodMark_ok (p : Int) (m : List Int) (hl : m.length < 2^62) : C f_impl_GoodMark [I p, ints m] [] = some (.bool (goodM p m), []) := by
  refine C_impl_GoodMark ?_
  simp (maxSteps := 2000000) (disch := (first | omega | (simp only [List.length_append, List.length_take, List.length_replicate, List.length_map, List.length_set, List.length_cons, List.length_nil, List.length_zipWith, List.length_drop, List.length_range]; first | done | omega))) only [ir_impl_GoodMark, go_sem, Nat.reduceAdd, Nat.reduceEqDiff, Nat.reduceLeDiff, Nat.reduceSub]
  simp (maxSteps := 2000000) (disch := (first | omega | (simp only [List.length_append, List.length_take, List.length_replicate, List.length_map, List.length_set, List.length_cons, List.length_nil, List.length_zipWith, List.length_drop, List.length_range]; first | done | omega))) only [go_sem, Nat.reduceAdd, Nat.reduceEqDiff, Nat.reduceLeDiff, Nat.reduceSub, impl_within_ok, impl_allWithin_ok m _ _ hl]
  unfold goodM; grind
theorem impl_isMarked_ok (n : Net) (m : List Int) (hn : smN n) (hm : m.length < 2^62) : C f_impl_isMarked [encN n, ints m] [] = some (.bool (marked n m), []) := by
  refine C_impl_isMarked ?_
  simp (maxSteps := 2000000) (disch := (first | omega | (simp only [List.length_append, List.length_take, List.length_replicate, List.length_map, List.length_set, List.length_cons, List.length_nil, List.length_zipWith, List.length_drop, List.length_range]; first | done | omega))) only [ir_impl_isMarked, go_sem, Nat.reduceAdd, Nat.reduceEqDiff, Nat.reduceLeDiff, Nat.reduceSub]
  simp (maxSteps := 2000000) (disch := (first | omega | (simp only [List.length_append, List.length_take, List.length_replicate, List.length_map, List.length_set, List.length_cons, List.length_nil, List.length_zipWith, List.length_drop, List.length_range]; first | done | omega))) only [go_sem, Nat.reduceAdd, Nat.reduceEqDiff, Nat.reduceLeDiff, Nat.reduceSub, impl_GoodNet_ok n hn, impl_GoodMark_ok n.pl m hm]
  unfold marked; grind
theorem impl_isTrans_ok (n : Net) (t : Int) (hn : n.tr.length < 2^62) : C f_impl_isTrans [encN n, I t] [] = some (.bool (inB 0 (n.tr.length - 1) t), []) := by
  refine C_impl_isTrans ?_
  simp (maxSteps := 2000000) (disch := (first | omega | (simp only [List.length_append, List.length_take, List.length_replicate, List.length_map, List.length_set, List.length_cons, List.length_nil, List.length_zipWith, List.length_drop, List.length_range]; first | done | omega))) only [ir_impl_isTrans, go_sem, Nat.reduceAdd, Nat.reduceEqDiff, Nat.reduceLeDiff, Nat.reduceSub]
  simp (maxSteps := 2000000) (disch := (first | omega | (simp only [List.length_append, List.length_take, List.length_replicate, List.length_map, List.length_set, List.length_cons, List.length_nil, List.length_zipWith, List.length_drop, List.length_range]; first | done | omega))) only [go_sem, Nat.reduceAdd, Nat.reduceEqDiff, Nat.reduceLeDiff, Nat.reduceSub, impl_within_ok]
  grind
theorem impl_isEnabled_1_ok (m : List Int) (p : Int) (h : 0 ≤ p ∧ p.toNat < m.length) : C f_impl_isEnabled_1 [I p, .pv (.agg [ints m]) 0] [] = some (.bool (at_ m p == 0), []) := by
  obtain ⟨h1, h2⟩ := h
  refine C_impl_isEnabled_1 ?_
  simp (maxSteps := 2000000) (disch := (first | omega | (simp only [List.length_append, List.length_take, List.length_replicate, List.length_map, List.length_set, List.length_cons, List.length_nil, List.length_zipWith, List.length_drop, List.length_range]; first | done | omega))) only [ir_impl_isEnabled_1, go_sem, Nat.reduceAdd, Nat.reduceEqDiff, Nat.reduceLeDiff, Nat.reduceSub]
  simp only [at_eq h2]
  grind
theorem slices_IndexFunc_sl_int_int_ok (l : List Int) (g : FuncId) (caps : List PV) (hc : refsL caps = []) (hcv : ∀ m h, viewLWith [] m h caps = some caps) (p : Int → Bool) (hp : ∀ x ∈ l, C g (I x :: caps) [] = some (.bool (p x), [])) (hl : l.length < 2^62) :
    C f_slices_IndexFunc_sl_int_int [ints l, .clo g caps] [] = some (I (idxI l p), []) := by
  refine C_slices_IndexFunc_sl_int_int ?_
  simp (maxSteps := 2000000) (disch := (first | omega | (simp only [List.length_append, List.length_take, List.length_replicate, List.length_map, List.length_set, List.length_cons, List.length_nil, List.length_zipWith, List.length_drop, List.length_range]; first | done | omega))) only [ir_slices_IndexFunc_sl_int_int, go_sem, Nat.reduceAdd, Nat.reduceEqDiff, Nat.reduceLeDiff, Nat.reduceSub]
  refine W_for l.length (fun k s => s = ⟨[ints l, .clo g caps, .any, .any, I l.length, I k, .any, .any], []⟩ ∧ (l.take k).any p = false) ?_ ?_ ?_
  · simp (maxSteps := 2000000) (disch := (first | omega | (simp only [List.length_append, List.length_take, List.length_replicate, List.length_map, List.length_set, List.length_cons, List.length_nil, List.length_zipWith, List.length_drop, List.length_range]; first | done | omega))) only [go_sem, Nat.reduceAdd, Nat.reduceEqDiff, Nat.reduceLeDiff, Nat.reduceSub, hc]
    rfl
  · rintro k s hk ⟨rfl, hall⟩
    simp (maxSteps := 2000000) (disch := (first | omega | (simp only [List.length_append, List.length_take, List.length_replicate, List.length_map, List.length_set, List.length_cons, List.length_nil, List.length_zipWith, List.length_drop, List.length_range]; first | done | omega))) only [go_sem, Nat.reduceAdd, Nat.reduceEqDiff, Nat.reduceLeDiff, Nat.reduceSub, hc, hcv, hp _ (List.getElem_mem hk)]
    exact ⟨fun h => by rw [idxI_some hk hall h], fun h => ⟨rfl, any_take hk hall h⟩⟩
  · rintro s ⟨rfl, hall⟩
    simp (maxSteps := 2000000) (disch := (first | omega | (simp only [List.length_append, List.length_take, List.length_replicate, List.length_map, List.length_set, List.length_cons, List.length_nil, List.length_zipWith, List.length_drop, List.length_range]; first | done | omega))) only [go_sem, Nat.reduceAdd, Nat.reduceEqDiff, Nat.reduceLeDiff, Nat.reduceSub]
    rw [List.take_length] at hall
    rw [idxI_none hall]
theorem slices_ContainsFunc_sl_int_int_ok (l : List Int) (g : FuncId) (caps : List PV) (hc : refsL caps = []) (hcv : ∀ m h, viewLWith [] m h caps = some caps) (p : Int → Bool) (hp : ∀ x ∈ l, C g (I x :: caps) [] = some (.bool (p x), [])) (hl : l.length < 2^62) :
    C f_slices_ContainsFunc_sl_int_int [ints l, .clo g caps] [] = some (.bool (l.any p), []) := by
  refine C_slices_ContainsFunc_sl_int_int ?_
  simp (maxSteps := 2000000) (disch := (first | omega | (simp only [List.length_append, List.length_take, List.length_replicate, List.length_map, List.length_set, List.length_cons, List.length_nil, List.length_zipWith, List.length_drop, List.length_range]; first | done | omega))) only [ir_slices_ContainsFunc_sl_int_int, go_sem, Nat.reduceAdd, Nat.reduceEqDiff, Nat.reduceLeDiff, Nat.reduceSub]
  simp (maxSteps := 2000000) (disch := (first | omega | (simp only [List.length_append, List.length_take, List.length_replicate, List.length_map, List.length_set, List.length_cons, List.length_nil, List.length_zipWith, List.length_drop, List.length_range]; first | done | omega))) only [go_sem, Nat.reduceAdd, Nat.reduceEqDiff, Nat.reduceLeDiff, Nat.reduceSub, hc, hcv, slices_IndexFunc_sl_int_int_ok l g caps hc hcv p hp hl]
  have := idxI_any l p
  grind
theorem impl_isEnabled_ok (t : Tr) (m : List Int) (ht : ∀ q ∈ t.inn, 0 ≤ q ∧ q.toNat < m.length) (hl : t.inn.length < 2^62) : C f_impl_isEnabled [encT t, ints m] [] = some (.bool (canT t m), []) := by
  refine C_impl_isEnabled ?_
  simp (maxSteps := 2000000) (disch := (first | omega | (simp only [List.length_append, List.length_take, List.length_replicate, List.length_map, List.length_set, List.length_cons, List.length_nil, List.length_zipWith, List.length_drop, List.length_range]; first | done | omega))) only [ir_impl_isEnabled, go_sem, Nat.reduceAdd, Nat.reduceEqDiff, Nat.reduceLeDiff, Nat.reduceSub]
  have h := slices_ContainsFunc_sl_int_int_ok t.inn f_impl_isEnabled_1 [.pv (.agg [ints m]) 0] rfl (fun _ _ => rfl) (fun p => at_ m p == 0) (fun x hx => impl_isEnabled_1_ok m x (ht x hx)) hl
  simp (maxSteps := 2000000) (disch := (first | omega | (simp only [List.length_append, List.length_take, List.length_replicate, List.length_map, List.length_set, List.length_cons, List.length_nil, List.length_zipWith, List.length_drop, List.length_range]; first | done | omega))) only [go_sem, Nat.reduceAdd, Nat.reduceEqDiff, Nat.reduceLeDiff, Nat.reduceSub, h]
  have : (t.inn.any fun p => at_ m p == 0) = !canT t m := by rw [canT, List.any_eq_not_all_not]
  rw [this]; simp
theorem impl_fired_ok (t : Tr) (m : List Int) (h1 : ∀ q ∈ t.inn, 0 ≤ q ∧ q.toNat < m.length) (h2 : ∀ q ∈ t.out, 0 ≤ q ∧ q.toNat < m.length) (h3 : ∀ q ∈ t.rst, 0 ≤ q ∧ q.toNat < m.length) (hl : smT t) (hm : m.length < 2^30) (hb : ∀ x ∈ m, 0 ≤ x ∧ x ≤ 50) :
    C f_impl_fired [encT t, ints m] [] = some (.un t_int true 1 ((firedM t m).map I), []) := by
  obtain ⟨g1, g2, g3⟩ := hl
  refine C_impl_fired ?_
  simp (maxSteps := 2000000) (disch := (first | omega | (simp only [List.length_append, List.length_take, List.length_replicate, List.length_map, List.length_set, List.length_cons, List.length_nil, List.length_zipWith, List.length_drop, List.length_range]; first | done | omega))) only [ir_impl_fired, go_sem, Nat.reduceAdd, Nat.reduceEqDiff, Nat.reduceLeDiff, Nat.reduceSub]
  simp (maxSteps := 2000000) (disch := (first | omega | (simp only [List.length_append, List.length_take, List.length_replicate, List.length_map, List.length_set, List.length_cons, List.length_nil, List.length_zipWith, List.length_drop, List.length_range]; first | done | omega))) only [go_sem, Nat.reduceAdd, Nat.reduceEqDiff, Nat.reduceLeDiff, Nat.reduceSub, slices_Clone_sl_int_int_ok]
  refine W_for t.inn.length (fun k s => s = ⟨[.any, .any, .ptr 0 0, .any, .ref 1 1 0 m.length, .any, .any, .any, ints t.inn, I t.inn.length, I k, .any, .any, .any, .any, .any, .any, .any, .any, .any], [.box t_impl_Trans [ints t.inn, ints t.out, ints t.rst], .row t_int true 1 ((decL m (t.inn.take k)).map I)]⟩) ?_ ?_ ?_
  · simp (maxSteps := 2000000) (disch := (first | omega | (simp only [List.length_append, List.length_take, List.length_replicate, List.length_map, List.length_set, List.length_cons, List.length_nil, List.length_zipWith, List.length_drop, List.length_range]; first | done | omega))) only [go_sem, Nat.reduceAdd, Nat.reduceEqDiff, Nat.reduceLeDiff, Nat.reduceSub]
    rfl
  · rintro k s hk rfl
    obtain ⟨h4, h5⟩ := h1 _ (List.getElem_mem hk)
    have h6 := decL_len m (t.inn.take k)
    have h7 := at_bound (p := t.inn[k]) (decL_bound (l := t.inn.take k) hb (fun p hp => (h1 p (List.mem_of_mem_take hp)).2)) (by omega)
    have h8 : (t.inn.take k).length = k := by simp; omega
    simp (maxSteps := 2000000) (disch := (first | omega | (simp only [List.length_append, List.length_take, List.length_replicate, List.length_map, List.length_set, List.length_cons, List.length_nil, List.length_zipWith, List.length_drop, List.length_range]; first | done | omega))) only [go_sem, Nat.reduceAdd, Nat.reduceEqDiff, Nat.reduceLeDiff, Nat.reduceSub, at_eq]
    rw [decL_take hk]; rfl
  · rintro s rfl
    simp (maxSteps := 2000000) (disch := (first | omega | (simp only [List.length_append, List.length_take, List.length_replicate, List.length_map, List.length_set, List.length_cons, List.length_nil, List.length_zipWith, List.length_drop, List.length_range]; first | done | omega))) only [go_sem, Nat.reduceAdd, Nat.reduceEqDiff, Nat.reduceLeDiff, Nat.reduceSub, List.take_length]
    have b1 := decL_bound (l := t.inn) hb (fun p hp => (h1 p hp).2)
    have l1 := decL_len m t.inn
    generalize e1 : decL m t.inn = m1 at b1 l1 ⊢
    refine W_for t.rst.length (fun k s => s = ⟨[.any, .any, .ptr 0 0, .any, .ref 1 1 0 m.length, .any, .any, .any, .any, .any, .any, .any, ints t.rst, I t.rst.length, I k, .any, .any, .any, .any, .any], [.box t_impl_Trans [ints t.inn, ints t.out, ints t.rst], .row t_int true 1 ((zerL m1 (t.rst.take k)).map I)]⟩) ?_ ?_ ?_
    · simp (maxSteps := 2000000) (disch := (first | omega | (simp only [List.length_append, List.length_take, List.length_replicate, List.length_map, List.length_set, List.length_cons, List.length_nil, List.length_zipWith, List.length_drop, List.length_range]; first | done | omega))) only [go_sem, Nat.reduceAdd, Nat.reduceEqDiff, Nat.reduceLeDiff, Nat.reduceSub]
      rfl
    · rintro k s hk rfl
      obtain ⟨h4, h5⟩ := h3 _ (List.getElem_mem hk)
      have h6 := zerL_len m1 (t.rst.take k)
      simp (maxSteps := 2000000) (disch := (first | omega | (simp only [List.length_append, List.length_take, List.length_replicate, List.length_map, List.length_set, List.length_cons, List.length_nil, List.length_zipWith, List.length_drop, List.length_range]; first | done | omega))) only [go_sem, Nat.reduceAdd, Nat.reduceEqDiff, Nat.reduceLeDiff, Nat.reduceSub]
      rw [zerL_take hk]; rfl
    · rintro s rfl
      simp (maxSteps := 2000000) (disch := (first | omega | (simp only [List.length_append, List.length_take, List.length_replicate, List.length_map, List.length_set, List.length_cons, List.length_nil, List.length_zipWith, List.length_drop, List.length_range]; first | done | omega))) only [go_sem, Nat.reduceAdd, Nat.reduceEqDiff, Nat.reduceLeDiff, Nat.reduceSub, List.take_length]
      have b2 := zerL_bound (l := t.rst) b1 (by omega)
      have l2 := zerL_len m1 t.rst
      generalize e2 : zerL m1 t.rst = m2 at b2 l2 ⊢
      refine W_for t.out.length (fun k s => s = ⟨[.any, .any, .any, .any, .ref 0 1 0 m.length, .any, .any, .any, .any, .any, .any, .any, .any, .any, .any, .any, ints t.out, I t.out.length, I k, .any], [.row t_int true 1 ((incL m2 (t.out.take k)).map I)]⟩) ?_ ?_ ?_
      · simp (maxSteps := 2000000) (disch := (first | omega | (simp only [List.length_append, List.length_take, List.length_replicate, List.length_map, List.length_set, List.length_cons, List.length_nil, List.length_zipWith, List.length_drop, List.length_range]; first | done | omega))) only [go_sem, Nat.reduceAdd, Nat.reduceEqDiff, Nat.reduceLeDiff, Nat.reduceSub]
        rfl
      · rintro k s hk rfl
        obtain ⟨h4, h5⟩ := h2 _ (List.getElem_mem hk)
        have h6 := incL_len m2 (t.out.take k)
        have h7 := at_bound (p := t.out[k]) (incL_bound (l := t.out.take k) b2 (fun p hp => by have := (h2 p (List.mem_of_mem_take hp)).2; omega)) (by omega)
        have h8 : (t.out.take k).length = k := by simp; omega
        simp (maxSteps := 2000000) (disch := (first | omega | (simp only [List.length_append, List.length_take, List.length_replicate, List.length_map, List.length_set, List.length_cons, List.length_nil, List.length_zipWith, List.length_drop, List.length_range]; first | done | omega))) only [go_sem, Nat.reduceAdd, Nat.reduceEqDiff, Nat.reduceLeDiff, Nat.reduceSub, at_eq]
        rw [incL_take hk]; rfl
      · rintro s rfl
        have h6 := incL_len m2 t.out
        simp (maxSteps := 2000000) (disch := (first | omega | (simp only [List.length_append, List.length_take, List.length_replicate, List.length_map, List.length_set, List.length_cons, List.length_nil, List.length_zipWith, List.length_drop, List.length_range]; first | done | omega))) only [go_sem, Nat.reduceAdd, Nat.reduceEqDiff, Nat.reduceLeDiff, Nat.reduceSub, List.take_length]
        subst e2 e1; rfl
theorem impl_checkedMark_t (m : List Int) (hm : m.length < 2^62) (h : m.all (inB 0 50) = true) : C f_impl_checkedMark [ints m] [] = some (.tup [ints m, .bool true], []) := by
  refine C_impl_checkedMark ?_
  simp (maxSteps := 2000000) (disch := (first | omega | (simp only [List.length_append, List.length_take, List.length_replicate, List.length_map, List.length_set, List.length_cons, List.length_nil, List.length_zipWith, List.length_drop, List.length_range]; first | done | omega))) only [ir_impl_checkedMark, go_sem, Nat.reduceAdd, Nat.reduceEqDiff, Nat.reduceLeDiff, Nat.reduceSub]
  simp (maxSteps := 2000000) (disch := (first | omega | (simp only [List.length_append, List.length_take, List.length_replicate, List.length_map, List.length_set, List.length_cons, List.length_nil, List.length_zipWith, List.length_drop, List.length_range]; first | done | omega))) only [go_sem, Nat.reduceAdd, Nat.reduceEqDiff, Nat.reduceLeDiff, Nat.reduceSub, impl_allWithin_ok m _ _ hm, h]
theorem impl_checkedMark_f (m : List Int) (hm : m.length < 2^62) (h : m.all (inB 0 50) = false) : C f_impl_checkedMark [ints m] [] = some (.tup [.un t_int true 1 [], .bool false], []) := by
  refine C_impl_checkedMark ?_
  simp (maxSteps := 2000000) (disch := (first | omega | (simp only [List.length_append, List.length_take, List.length_replicate, List.length_map, List.length_set, List.length_cons, List.length_nil, List.length_zipWith, List.length_drop, List.length_range]; first | done | omega))) only [ir_impl_checkedMark, go_sem, Nat.reduceAdd, Nat.reduceEqDiff, Nat.reduceLeDiff, Nat.reduceSub]
  simp (maxSteps := 2000000) (disch := (first | omega | (simp only [List.length_append, List.length_take, List.length_replicate, List.length_map, List.length_set, List.length_cons, List.length_nil, List.length_zipWith, List.length_drop, List.length_range]; first | done | omega))) only [go_sem, Nat.reduceAdd, Nat.reduceEqDiff, Nat.reduceLeDiff, Nat.reduceSub, impl_allWithin_ok m _ _ hm, h]
theorem impl_Fire_t (n : Net) (m : List Int) (t : Int) (hn : smN n) (hm : m.length < 2^62) (h : okFire n m t = true) : C f_impl_Fire [encN n, ints m, I t] [] = some (.tup [ints (firedM (trAt n t) m), .bool true], []) := by
  have h0 := hn.1
  obtain ⟨h1, h2⟩ := Bool.and_eq_true .. ▸ h
  obtain ⟨h3, h4, h5, h6, h7, h8⟩ := canN_parts h1
  have hx := goodT_lt h8 (goodM_len h4).2.2.1
  have hy := goodT_lens h8 (by have := goodN_parts h3; omega)
  have hm := (goodM_len h4).2.2.2
  have hz := firedM_len (trAt n t) m
  refine C_impl_Fire ?_
  simp (maxSteps := 2000000) (disch := (first | omega | (simp only [List.length_append, List.length_take, List.length_replicate, List.length_map, List.length_set, List.length_cons, List.length_nil, List.length_zipWith, List.length_drop, List.length_range]; first | done | omega))) only [ir_impl_Fire, go_sem, Nat.reduceAdd, Nat.reduceEqDiff, Nat.reduceLeDiff, Nat.reduceSub]
  simp (maxSteps := 2000000) (disch := (first | omega | (simp only [List.length_append, List.length_take, List.length_replicate, List.length_map, List.length_set, List.length_cons, List.length_nil, List.length_zipWith, List.length_drop, List.length_range]; first | done | omega))) only [go_sem, Nat.reduceAdd, Nat.reduceEqDiff, Nat.reduceLeDiff, Nat.reduceSub, impl_isMarked_ok n m hn (by omega), impl_isTrans_ok n t (by omega), trAt_eq, impl_isEnabled_ok (trAt n t) m hx.1 (by omega), (show marked n m = true by simp [marked, h3, h4]), (show inB 0 (n.tr.length - 1) t = true by simp [inB]; omega), h7,
    impl_fired_ok (trAt n t) m hx.1 hx.2.1 hx.2.2 ⟨by omega, by omega, by omega⟩ (by omega) hm.2, impl_checkedMark_t (firedM (trAt n t) m) (by omega) h2]
theorem impl_Fire_f (n : Net) (m : List Int) (t : Int) (hn : smN n) (hm : m.length < 2^62) (h : okFire n m t = false) : C f_impl_Fire [encN n, ints m, I t] [] = some (.tup [.un t_int true 1 [], .bool false], []) := by
  have h0 := hn.1
  refine C_impl_Fire ?_
  simp (maxSteps := 2000000) (disch := (first | omega | (simp only [List.length_append, List.length_take, List.length_replicate, List.length_map, List.length_set, List.length_cons, List.length_nil, List.length_zipWith, List.length_drop, List.length_range]; first | done | omega))) only [ir_impl_Fire, go_sem, Nat.reduceAdd, Nat.reduceEqDiff, Nat.reduceLeDiff, Nat.reduceSub]
  simp (maxSteps := 2000000) (disch := (first | omega | (simp only [List.length_append, List.length_take, List.length_replicate, List.length_map, List.length_set, List.length_cons, List.length_nil, List.length_zipWith, List.length_drop, List.length_range]; first | done | omega))) only [go_sem, Nat.reduceAdd, Nat.reduceEqDiff, Nat.reduceLeDiff, Nat.reduceSub, impl_isMarked_ok n m hn hm, impl_isTrans_ok n t (by omega)]
  intro h1 h2
  obtain ⟨h3, h4⟩ := marked_parts h1
  have h6 : 0 ≤ t ∧ t.toNat < n.tr.length := by simp [inB] at h2; omega
  have h8 := (goodN_parts h3).2.2.2 _ (List.getElem_mem h6.2)
  rw [trAt_eq h6.2] at h8
  have hx := goodT_lt h8 (goodM_len h4).2.2.1
  have hy := goodT_lens h8 (by have := goodN_parts h3; omega)
  have hm := (goodM_len h4).2.2.2
  have hz := firedM_len (trAt n t) m
  simp (maxSteps := 2000000) (disch := (first | omega | (simp only [List.length_append, List.length_take, List.length_replicate, List.length_map, List.length_set, List.length_cons, List.length_nil, List.length_zipWith, List.length_drop, List.length_range]; first | done | omega))) only [go_sem, Nat.reduceAdd, Nat.reduceEqDiff, Nat.reduceLeDiff, Nat.reduceSub, trAt_eq, impl_isEnabled_ok (trAt n t) m hx.1 (by omega)]
  intro h7
  have h9 : (firedM (trAt n t) m).all (inB 0 50) = false := by simpa [okFire, canN, h1, h2, h7] using h
  simp (maxSteps := 2000000) (disch := (first | omega | (simp only [List.length_append, List.length_take, List.length_replicate, List.length_map, List.length_set, List.length_cons, List.length_nil, List.length_zipWith, List.length_drop, List.length_range]; first | done | omega))) only [go_sem, Nat.reduceAdd, Nat.reduceEqDiff, Nat.reduceLeDiff, Nat.reduceSub, trAt_eq, impl_fired_ok (trAt n t) m hx.1 hx.2.1 hx.2.2 ⟨by omega, by omega, by omega⟩ (by omega) hm.2, impl_checkedMark_f (firedM (trAt n t) m) (by omega) h9]
theorem spec_l1Own_ok (l : List Int) (h : l.length < 2^36) : C f_spec_l1Own [ints l] [] = some (.un t_int true 1 (l.map I), []) := by
  refine C_spec_l1Own ?_
  simp (maxSteps := 2000000) (disch := (first | omega | (simp only [List.length_append, List.length_take, List.length_replicate, List.length_map, List.length_set, List.length_cons, List.length_nil, List.length_zipWith, List.length_drop, List.length_range]; first | done | omega))) only [ir_spec_l1Own, go_sem, Nat.reduceAdd, Nat.reduceEqDiff, Nat.reduceLeDiff, Nat.reduceSub]
theorem spec_l2Fire_ok (t : Tr) (m : List Int) (h1 : ∀ q ∈ t.inn, 0 ≤ q ∧ q.toNat < m.length) (h2 : ∀ q ∈ t.out, 0 ≤ q ∧ q.toNat < m.length) (h3 : ∀ q ∈ t.rst, 0 ≤ q ∧ q.toNat < m.length) (hl : smT t) (hm : m.length < 2^30) (hb : ∀ x ∈ m, 0 ≤ x ∧ x ≤ 50) :
    C f_spec_l2Fire [encT t, ints m] [] = some (.un t_int true 1 ((firedM t m).map I), []) := by
  obtain ⟨g1, g2, g3⟩ := hl
  refine C_spec_l2Fire ?_
  simp (maxSteps := 2000000) (disch := (first | omega | (simp only [List.length_append, List.length_take, List.length_replicate, List.length_map, List.length_set, List.length_cons, List.length_nil, List.length_zipWith, List.length_drop, List.length_range]; first | done | omega))) only [ir_spec_l2Fire, go_sem, Nat.reduceAdd, Nat.reduceEqDiff, Nat.reduceLeDiff, Nat.reduceSub]
  simp (maxSteps := 2000000) (disch := (first | omega | (simp only [List.length_append, List.length_take, List.length_replicate, List.length_map, List.length_set, List.length_cons, List.length_nil, List.length_zipWith, List.length_drop, List.length_range]; first | done | omega))) only [go_sem, Nat.reduceAdd, Nat.reduceEqDiff, Nat.reduceLeDiff, Nat.reduceSub, spec_l1Own_ok m (by omega)]
  refine W_for t.inn.length (fun k s => s = ⟨[.any, .any, .ptr 0 0, .any, .ref 1 1 0 m.length, .any, .any, .any, ints t.inn, I t.inn.length, I k, .any, .any, .any, .any, .any, .any, .any, .any, .any], [.box t_impl_Trans [ints t.inn, ints t.out, ints t.rst], .row t_int true 1 ((decL m (t.inn.take k)).map I)]⟩) ?_ ?_ ?_
  · simp (maxSteps := 2000000) (disch := (first | omega | (simp only [List.length_append, List.length_take, List.length_replicate, List.length_map, List.length_set, List.length_cons, List.length_nil, List.length_zipWith, List.length_drop, List.length_range]; first | done | omega))) only [go_sem, Nat.reduceAdd, Nat.reduceEqDiff, Nat.reduceLeDiff, Nat.reduceSub]
    rfl
  · rintro k s hk rfl
    obtain ⟨h4, h5⟩ := h1 _ (List.getElem_mem hk)
    have h6 := decL_len m (t.inn.take k)
    have h7 := at_bound (p := t.inn[k]) (decL_bound (l := t.inn.take k) hb (fun p hp => (h1 p (List.mem_of_mem_take hp)).2)) (by omega)
    have h8 : (t.inn.take k).length = k := by simp; omega
    simp (maxSteps := 2000000) (disch := (first | omega | (simp only [List.length_append, List.length_take, List.length_replicate, List.length_map, List.length_set, List.length_cons, List.length_nil, List.length_zipWith, List.length_drop, List.length_range]; first | done | omega))) only [go_sem, Nat.reduceAdd, Nat.reduceEqDiff, Nat.reduceLeDiff, Nat.reduceSub, at_eq]
    rw [decL_take hk]; rfl
  · rintro s rfl
    simp (maxSteps := 2000000) (disch := (first | omega | (simp only [List.length_append, List.length_take, List.length_replicate, List.length_map, List.length_set, List.length_cons, List.length_nil, List.length_zipWith, List.length_drop, List.length_range]; first | done | omega))) only [go_sem, Nat.reduceAdd, Nat.reduceEqDiff, Nat.reduceLeDiff, Nat.reduceSub, List.take_length]
    have b1 := decL_bound (l := t.inn) hb (fun p hp => (h1 p hp).2)
    have l1 := decL_len m t.inn
    generalize e1 : decL m t.inn = m1 at b1 l1 ⊢
    refine W_for t.rst.length (fun k s => s = ⟨[.any, .any, .ptr 0 0, .any, .ref 1 1 0 m.length, .any, .any, .any, .any, .any, .any, .any, ints t.rst, I t.rst.length, I k, .any, .any, .any, .any, .any], [.box t_impl_Trans [ints t.inn, ints t.out, ints t.rst], .row t_int true 1 ((zerL m1 (t.rst.take k)).map I)]⟩) ?_ ?_ ?_
    · simp (maxSteps := 2000000) (disch := (first | omega | (simp only [List.length_append, List.length_take, List.length_replicate, List.length_map, List.length_set, List.length_cons, List.length_nil, List.length_zipWith, List.length_drop, List.length_range]; first | done | omega))) only [go_sem, Nat.reduceAdd, Nat.reduceEqDiff, Nat.reduceLeDiff, Nat.reduceSub]
      rfl
    · rintro k s hk rfl
      obtain ⟨h4, h5⟩ := h3 _ (List.getElem_mem hk)
      have h6 := zerL_len m1 (t.rst.take k)
      simp (maxSteps := 2000000) (disch := (first | omega | (simp only [List.length_append, List.length_take, List.length_replicate, List.length_map, List.length_set, List.length_cons, List.length_nil, List.length_zipWith, List.length_drop, List.length_range]; first | done | omega))) only [go_sem, Nat.reduceAdd, Nat.reduceEqDiff, Nat.reduceLeDiff, Nat.reduceSub]
      rw [zerL_take hk]; rfl
    · rintro s rfl
      simp (maxSteps := 2000000) (disch := (first | omega | (simp only [List.length_append, List.length_take, List.length_replicate, List.length_map, List.length_set, List.length_cons, List.length_nil, List.length_zipWith, List.length_drop, List.length_range]; first | done | omega))) only [go_sem, Nat.reduceAdd, Nat.reduceEqDiff, Nat.reduceLeDiff, Nat.reduceSub, List.take_length]
      have b2 := zerL_bound (l := t.rst) b1 (by omega)
      have l2 := zerL_len m1 t.rst
      generalize e2 : zerL m1 t.rst = m2 at b2 l2 ⊢
      refine W_for t.out.length (fun k s => s = ⟨[.any, .any, .any, .any, .ref 0 1 0 m.length, .any, .any, .any, .any, .any, .any, .any, .any, .any, .any, .any, ints t.out, I t.out.length, I k, .any], [.row t_int true 1 ((incL m2 (t.out.take k)).map I)]⟩) ?_ ?_ ?_
      · simp (maxSteps := 2000000) (disch := (first | omega | (simp only [List.length_append, List.length_take, List.length_replicate, List.length_map, List.length_set, List.length_cons, List.length_nil, List.length_zipWith, List.length_drop, List.length_range]; first | done | omega))) only [go_sem, Nat.reduceAdd, Nat.reduceEqDiff, Nat.reduceLeDiff, Nat.reduceSub]
        rfl
      · rintro k s hk rfl
        obtain ⟨h4, h5⟩ := h2 _ (List.getElem_mem hk)
        have h6 := incL_len m2 (t.out.take k)
        have h7 := at_bound (p := t.out[k]) (incL_bound (l := t.out.take k) b2 (fun p hp => by have := (h2 p (List.mem_of_mem_take hp)).2; omega)) (by omega)
        have h8 : (t.out.take k).length = k := by simp; omega
        simp (maxSteps := 2000000) (disch := (first | omega | (simp only [List.length_append, List.length_take, List.length_replicate, List.length_map, List.length_set, List.length_cons, List.length_nil, List.length_zipWith, List.length_drop, List.length_range]; first | done | omega))) only [go_sem, Nat.reduceAdd, Nat.reduceEqDiff, Nat.reduceLeDiff, Nat.reduceSub, at_eq]
        rw [incL_take hk]; rfl
      · rintro s rfl
        have h6 := incL_len m2 t.out
        simp (maxSteps := 2000000) (disch := (first | omega | (simp only [List.length_append, List.length_take, List.length_replicate, List.length_map, List.length_set, List.length_cons, List.length_nil, List.length_zipWith, List.length_drop, List.length_range]; first | done | omega))) only [go_sem, Nat.reduceAdd, Nat.reduceEqDiff, Nat.reduceLeDiff, Nat.reduceSub, List.take_length]
        subst e2 e1; rfl
theorem spec_Fire_ok (n : Net) (m : List Int) (t : Int) (hn : smN n) (hm : m.length < 2^62) : C f_spec_Fire [encN n, ints m, I t] [] = some (.tup [.un t_int true 1 ((if okFire n m t then firedM (trAt n t) m else []).map I), .bool (okFire n m t)], []) := by
  have h0 := hn.1
  refine C_spec_Fire ?_
  simp (maxSteps := 2000000) (disch := (first | omega | (simp only [List.length_append, List.length_take, List.length_replicate, List.length_map, List.length_set, List.length_cons, List.length_nil, List.length_zipWith, List.length_drop, List.length_range]; first | done | omega))) only [ir_spec_Fire, go_sem, Nat.reduceAdd, Nat.reduceEqDiff, Nat.reduceLeDiff, Nat.reduceSub]
  simp (maxSteps := 2000000) (disch := (first | omega | (simp only [List.length_append, List.length_take, List.length_replicate, List.length_map, List.length_set, List.length_cons, List.length_nil, List.length_zipWith, List.length_drop, List.length_range]; first | done | omega))) only [go_sem, Nat.reduceAdd, Nat.reduceEqDiff, Nat.reduceLeDiff, Nat.reduceSub, spec_l2Marked_ok n m hn hm, spec_l1In_ok]
  refine ⟨fun h1 => ⟨fun h2 => ?_, fun h2 => by simp [okFire, canN, h2]⟩, fun h1 => by simp [okFire, canN, h1]⟩
  obtain ⟨h3, h4⟩ := marked_parts h1
  have h6 : 0 ≤ t ∧ t.toNat < n.tr.length := by simp [inB] at h2; omega
  have h8 := (goodN_parts h3).2.2.2 _ (List.getElem_mem h6.2)
  rw [trAt_eq h6.2] at h8
  have hx := goodT_lt h8 (goodM_len h4).2.2.1
  have hy := goodT_lens h8 (by have := goodN_parts h3; omega)
  have hm := (goodM_len h4).2.2
  have hz := firedM_len (trAt n t) m
  simp (maxSteps := 2000000) (disch := (first | omega | (simp only [List.length_append, List.length_take, List.length_replicate, List.length_map, List.length_set, List.length_cons, List.length_nil, List.length_zipWith, List.length_drop, List.length_range]; first | done | omega))) only [go_sem, Nat.reduceAdd, Nat.reduceEqDiff, Nat.reduceLeDiff, Nat.reduceSub, trAt_eq, spec_l2Can_ok (trAt n t) m hx.1 (by omega)]
  refine ⟨fun h7 => ?_, fun h7 => by simp [okFire, canN, h7]⟩
  have hg : goodM n.pl (firedM (trAt n t) m) = okFire n m t := by
    have h9 : inB 1 16 n.pl = true := by have := goodN_parts h3; simp [inB]; omega
    have h10 : (((firedM (trAt n t) m).length : Int) == n.pl) = true := by simp [hz]; omega
    simp only [goodM, okFire, canN, h1, h2, h7, h9, h10, Bool.true_and, Bool.and_self]
  simp (maxSteps := 2000000) (disch := (first | omega | (simp only [List.length_append, List.length_take, List.length_replicate, List.length_map, List.length_set, List.length_cons, List.length_nil, List.length_zipWith, List.length_drop, List.length_range]; first | done | omega))) only [go_sem, Nat.reduceAdd, Nat.reduceEqDiff, Nat.reduceLeDiff, Nat.reduceSub, trAt_eq, spec_l2Fire_ok (trAt n t) m hx.1 hx.2.1 hx.2.2 ⟨by omega, by omega, by omega⟩ (by omega) hm.2.2, spec_GoodMark_ok n.pl (firedM (trAt n t) m) (by omega), hg]
  refine ⟨fun h => by simp [h], fun h => by simp [h]⟩
theorem impl_hasResets_1_ok (t : Tr) : C f_impl_hasResets_1 [encT t] [] = some (.bool (decide (0 < t.rst.length)), []) := by
  refine C_impl_hasResets_1 ?_
  simp (maxSteps := 2000000) (disch := (first | omega | (simp only [List.length_append, List.length_take, List.length_replicate, List.length_map, List.length_set, List.length_cons, List.length_nil, List.length_zipWith, List.length_drop, List.length_range]; first | done | omega))) only [ir_impl_hasResets_1, go_sem, Nat.reduceAdd, Nat.reduceEqDiff, Nat.reduceLeDiff, Nat.reduceSub]
  grind
theorem impl_hasResets_ok (n : Net) (hl : n.tr.length < 2^62) : C f_impl_hasResets [encN n] [] = some (.bool (hasR n), []) := by
  refine C_impl_hasResets ?_
  simp (maxSteps := 2000000) (disch := (first | omega | (simp only [List.length_append, List.length_take, List.length_replicate, List.length_map, List.length_set, List.length_cons, List.length_nil, List.length_zipWith, List.length_drop, List.length_range]; first | done | omega))) only [ir_impl_hasResets, go_sem, Nat.reduceAdd, Nat.reduceEqDiff, Nat.reduceLeDiff, Nat.reduceSub]
  have h := slices_ContainsFunc_sl_impl_Trans_impl_Trans_ok n.tr f_impl_hasResets_1 [] rfl (fun _ _ => rfl) (fun t => decide (0 < t.rst.length)) (fun x _ => impl_hasResets_1_ok x) hl
  simp (maxSteps := 2000000) (disch := (first | omega | (simp only [List.length_append, List.length_take, List.length_replicate, List.length_map, List.length_set, List.length_cons, List.length_nil, List.length_zipWith, List.length_drop, List.length_range]; first | done | omega))) only [go_sem, Nat.reduceAdd, Nat.reduceEqDiff, Nat.reduceLeDiff, Nat.reduceSub, h]
  unfold hasR; grind
theorem impl_HasResets_ok (n : Net) (hn : smN n) : C f_impl_HasResets [encN n] [] = some (.tup [.bool (goodN n && hasR n), .bool (goodN n)], []) := by
  have h0 := hn.1
  refine C_impl_HasResets ?_
  simp (maxSteps := 2000000) (disch := (first | omega | (simp only [List.length_append, List.length_take, List.length_replicate, List.length_map, List.length_set, List.length_cons, List.length_nil, List.length_zipWith, List.length_drop, List.length_range]; first | done | omega))) only [ir_impl_HasResets, go_sem, Nat.reduceAdd, Nat.reduceEqDiff, Nat.reduceLeDiff, Nat.reduceSub]
  simp (maxSteps := 2000000) (disch := (first | omega | (simp only [List.length_append, List.length_take, List.length_replicate, List.length_map, List.length_set, List.length_cons, List.length_nil, List.length_zipWith, List.length_drop, List.length_range]; first | done | omega))) only [go_sem, Nat.reduceAdd, Nat.reduceEqDiff, Nat.reduceLeDiff, Nat.reduceSub, impl_GoodNet_ok n hn, impl_hasResets_ok n (by omega)]
  grind
theorem laws_sameInts_ok (a b : List Int) (hl : a.length < 2^62) : C f_laws_sameInts [ints a, ints b] [] = some (.bool (decide (a = b)), []) := by
  refine C_laws_sameInts ?_
  simp (maxSteps := 2000000) (disch := (first | omega | (simp only [List.length_append, List.length_take, List.length_replicate, List.length_map, List.length_set, List.length_cons, List.length_nil, List.length_zipWith, List.length_drop, List.length_range]; first | done | omega))) only [ir_laws_sameInts, go_sem, Nat.reduceAdd, Nat.reduceEqDiff, Nat.reduceLeDiff, Nat.reduceSub]
  refine ⟨fun h => ?_, fun h => ?_⟩
  · have : a ≠ b := fun e => h (by rw [e])
    simp [this]
  refine W_for a.length (fun k s => s = ⟨[ints a, ints b, .any, .any, .any, I a.length, I k, .any, .any], []⟩ ∧ a.take k = b.take k) ?_ ?_ ?_
  · simp (maxSteps := 2000000) (disch := (first | omega | (simp only [List.length_append, List.length_take, List.length_replicate, List.length_map, List.length_set, List.length_cons, List.length_nil, List.length_zipWith, List.length_drop, List.length_range]; first | done | omega))) only [go_sem, Nat.reduceAdd, Nat.reduceEqDiff, Nat.reduceLeDiff, Nat.reduceSub]
    rfl
  · rintro k s hk ⟨rfl, hall⟩
    simp (maxSteps := 2000000) (disch := (first | omega | (simp only [List.length_append, List.length_take, List.length_replicate, List.length_map, List.length_set, List.length_cons, List.length_nil, List.length_zipWith, List.length_drop, List.length_range]; first | done | omega))) only [go_sem, Nat.reduceAdd, Nat.reduceEqDiff, Nat.reduceLeDiff, Nat.reduceSub]
    refine ⟨fun h => ?_, fun h => ⟨rfl, ?_⟩⟩
    · have : a ≠ b := fun e => h (by simp [e])
      simp [this]
    · rw [take_snoc hk, take_snoc (show k < b.length by omega), hall, h]
  · rintro s ⟨rfl, hall⟩
    simp (maxSteps := 2000000) (disch := (first | omega | (simp only [List.length_append, List.length_take, List.length_replicate, List.length_map, List.length_set, List.length_cons, List.length_nil, List.length_zipWith, List.length_drop, List.length_range]; first | done | omega))) only [go_sem, Nat.reduceAdd, Nat.reduceEqDiff, Nat.reduceLeDiff, Nat.reduceSub]
    rw [List.take_length, List.take_of_length_le (by omega)] at hall
    simp [hall]
theorem laws_numberOf_ok (l : List Int) (hl : l.length < 2^62) (hb : ∀ x ∈ l, 0 ≤ x ∧ x < 256) : Lw (C f_laws_numberOf [bys l] []) fun r => ∃ x : Int, r = (I x, []) ∧ 0 ≤ x ∧ x < 1000003 := by
  refine E_laws_numberOf ?_
  simp (maxSteps := 2000000) (disch := (first | omega | (simp only [List.length_append, List.length_take, List.length_replicate, List.length_map, List.length_set, List.length_cons, List.length_nil, List.length_zipWith, List.length_drop, List.length_range]; first | done | omega))) only [ir_laws_numberOf, go_sem, Nat.reduceAdd, Nat.reduceEqDiff, Nat.reduceLeDiff, Nat.reduceSub]
  refine W_for l.length (fun k s => ∃ x : Int, s = ⟨[.any, .any, I x, .any, bys l, I l.length, I k, .any], []⟩ ∧ 0 ≤ x ∧ x < 1000003) ?_ ?_ ?_
  · refine ⟨0, ?_, by omega, by omega⟩
    simp (maxSteps := 2000000) (disch := (first | omega | (simp only [List.length_append, List.length_take, List.length_replicate, List.length_map, List.length_set, List.length_cons, List.length_nil, List.length_zipWith, List.length_drop, List.length_range]; first | done | omega))) only [go_sem, Nat.reduceAdd, Nat.reduceEqDiff, Nat.reduceLeDiff, Nat.reduceSub]
    rfl
  · rintro k s hk ⟨x, rfl, h1, h2⟩
    have := hb _ (List.getElem_mem hk)
    simp (maxSteps := 2000000) (disch := (first | omega | (simp only [List.length_append, List.length_take, List.length_replicate, List.length_map, List.length_set, List.length_cons, List.length_nil, List.length_zipWith, List.length_drop, List.length_range]; first | done | omega))) only [go_sem, Nat.reduceAdd, Nat.reduceEqDiff, Nat.reduceLeDiff, Nat.reduceSub]
    exact ⟨_, rfl, Int.tmod_nonneg _ (by omega), Int.tmod_lt_of_pos _ (by omega)⟩
  · rintro s ⟨x, rfl, h1, h2⟩
    simp (maxSteps := 2000000) (disch := (first | omega | (simp only [List.length_append, List.length_take, List.length_replicate, List.length_map, List.length_set, List.length_cons, List.length_nil, List.length_zipWith, List.length_drop, List.length_range]; first | done | omega))) only [go_sem, Nat.reduceAdd, Nat.reduceEqDiff, Nat.reduceLeDiff, Nat.reduceSub]
    exact ⟨_, rfl, h1, h2⟩
theorem impl_areMarks_1_ok (p : Int) (m : List Int) (hl : m.length < 2^62) : C f_impl_areMarks_1 [ints m, .pv (.agg [I p]) 0] [] = some (.bool (!goodM p m), []) := by
  refine C_impl_areMarks_1 ?_
  simp (maxSteps := 2000000) (disch := (first | omega | (simp only [List.length_append, List.length_take, List.length_replicate, List.length_map, List.length_set, List.length_cons, List.length_nil, List.length_zipWith, List.length_drop, List.length_range]; first | done | omega))) only [ir_impl_areMarks_1, go_sem, Nat.reduceAdd, Nat.reduceEqDiff, Nat.reduceLeDiff, Nat.reduceSub]
  simp (maxSteps := 2000000) (disch := (first | omega | (simp only [List.length_append, List.length_take, List.length_replicate, List.length_map, List.length_set, List.length_cons, List.length_nil, List.length_zipWith, List.length_drop, List.length_range]; first | done | omega))) only [go_sem, Nat.reduceAdd, Nat.reduceEqDiff, Nat.reduceLeDiff, Nat.reduceSub, impl_GoodMark_ok p m hl]
  grind
theorem slices_IndexFunc_sl_sl_int_sl_int_ok (l : List (List Int)) (g : FuncId) (caps : List PV) (hc : refsL caps = []) (hcv : ∀ m h, viewLWith [] m h caps = some caps) (p : List Int → Bool) (hp : ∀ x ∈ l, C g (ints x :: caps) [] = some (.bool (p x), [])) (hl : l.length < 2^62) :
    C f_slices_IndexFunc_sl_sl_int_sl_int [rows l, .clo g caps] [] = some (I (idxI l p), []) := by
  refine C_slices_IndexFunc_sl_sl_int_sl_int ?_
  simp (maxSteps := 2000000) (disch := (first | omega | (simp only [List.length_append, List.length_take, List.length_replicate, List.length_map, List.length_set, List.length_cons, List.length_nil, List.length_zipWith, List.length_drop, List.length_range]; first | done | omega))) only [ir_slices_IndexFunc_sl_sl_int_sl_int, go_sem, Nat.reduceAdd, Nat.reduceEqDiff, Nat.reduceLeDiff, Nat.reduceSub]
  refine W_for l.length (fun k s => s = ⟨[rows l, .clo g caps, .any, .any, I l.length, I k, .any, .any], []⟩ ∧ (l.take k).any p = false) ?_ ?_ ?_
  · simp (maxSteps := 2000000) (disch := (first | omega | (simp only [List.length_append, List.length_take, List.length_replicate, List.length_map, List.length_set, List.length_cons, List.length_nil, List.length_zipWith, List.length_drop, List.length_range]; first | done | omega))) only [go_sem, Nat.reduceAdd, Nat.reduceEqDiff, Nat.reduceLeDiff, Nat.reduceSub, hc]
    rfl
  · rintro k s hk ⟨rfl, hall⟩
    simp (maxSteps := 2000000) (disch := (first | omega | (simp only [List.length_append, List.length_take, List.length_replicate, List.length_map, List.length_set, List.length_cons, List.length_nil, List.length_zipWith, List.length_drop, List.length_range]; first | done | omega))) only [go_sem, Nat.reduceAdd, Nat.reduceEqDiff, Nat.reduceLeDiff, Nat.reduceSub, hc, hcv, hp _ (List.getElem_mem hk)]
    exact ⟨fun h => by rw [idxI_some hk hall h], fun h => ⟨rfl, any_take hk hall h⟩⟩
  · rintro s ⟨rfl, hall⟩
    simp (maxSteps := 2000000) (disch := (first | omega | (simp only [List.length_append, List.length_take, List.length_replicate, List.length_map, List.length_set, List.length_cons, List.length_nil, List.length_zipWith, List.length_drop, List.length_range]; first | done | omega))) only [go_sem, Nat.reduceAdd, Nat.reduceEqDiff, Nat.reduceLeDiff, Nat.reduceSub]
    rw [List.take_length] at hall
    rw [idxI_none hall]
theorem slices_ContainsFunc_sl_sl_int_sl_int_ok (l : List (List Int)) (g : FuncId) (caps : List PV) (hc : refsL caps = []) (hcv : ∀ m h, viewLWith [] m h caps = some caps) (p : List Int → Bool) (hp : ∀ x ∈ l, C g (ints x :: caps) [] = some (.bool (p x), [])) (hl : l.length < 2^62) :
    C f_slices_ContainsFunc_sl_sl_int_sl_int [rows l, .clo g caps] [] = some (.bool (l.any p), []) := by
  refine C_slices_ContainsFunc_sl_sl_int_sl_int ?_
  simp (maxSteps := 2000000) (disch := (first | omega | (simp only [List.length_append, List.length_take, List.length_replicate, List.length_map, List.length_set, List.length_cons, List.length_nil, List.length_zipWith, List.length_drop, List.length_range]; first | done | omega))) only [ir_slices_ContainsFunc_sl_sl_int_sl_int, go_sem, Nat.reduceAdd, Nat.reduceEqDiff, Nat.reduceLeDiff, Nat.reduceSub]
  simp (maxSteps := 2000000) (disch := (first | omega | (simp only [List.length_append, List.length_take, List.length_replicate, List.length_map, List.length_set, List.length_cons, List.length_nil, List.length_zipWith, List.length_drop, List.length_range]; first | done | omega))) only [go_sem, Nat.reduceAdd, Nat.reduceEqDiff, Nat.reduceLeDiff, Nat.reduceSub, hc, hcv, slices_IndexFunc_sl_sl_int_sl_int_ok l g caps hc hcv p hp hl]
  have := idxI_any l p
  grind
theorem impl_areMarks_ok (p : Int) (l : List (List Int)) (hl : l.length < 2^62) (hm : ∀ m ∈ l, m.length < 2^62) : C f_impl_areMarks [I p, rows l] [] = some (.bool (l.all (goodM p)), []) := by
  refine C_impl_areMarks ?_
  simp (maxSteps := 2000000) (disch := (first | omega | (simp only [List.length_append, List.length_take, List.length_replicate, List.length_map, List.length_set, List.length_cons, List.length_nil, List.length_zipWith, List.length_drop, List.length_range]; first | done | omega))) only [ir_impl_areMarks, go_sem, Nat.reduceAdd, Nat.reduceEqDiff, Nat.reduceLeDiff, Nat.reduceSub]
  have h := slices_ContainsFunc_sl_sl_int_sl_int_ok l f_impl_areMarks_1 [.pv (.agg [I p]) 0] rfl (fun _ _ => rfl) (fun m => !goodM p m) (fun x hx => impl_areMarks_1_ok p x (hm x hx)) hl
  simp (maxSteps := 2000000) (disch := (first | omega | (simp only [List.length_append, List.length_take, List.length_replicate, List.length_map, List.length_set, List.length_cons, List.length_nil, List.length_zipWith, List.length_drop, List.length_range]; first | done | omega))) only [go_sem, Nat.reduceAdd, Nat.reduceEqDiff, Nat.reduceLeDiff, Nat.reduceSub, h]
  have : (l.any fun m => !goodM p m) = !l.all (goodM p) := by rw [List.any_eq_not_all_not]; simp
  rw [this]; grind
theorem impl_combined_ok (a b : List Int) (g : FuncId) (op : Int → Int → Int) (hp : ∀ x ∈ a, ∀ y ∈ b, C g [I x, I y] [] = some (I (op x y), [])) (hl : a.length ≤ b.length) (hb : b.length < 2^30) :
    C f_impl_combined [ints a, ints b, .clo g []] [] = some (.un t_int true 1 ((List.zipWith op a b).map I), []) := by
  refine C_impl_combined ?_
  simp (maxSteps := 2000000) (disch := (first | omega | (simp only [List.length_append, List.length_take, List.length_replicate, List.length_map, List.length_set, List.length_cons, List.length_nil, List.length_zipWith, List.length_drop, List.length_range]; first | done | omega))) only [ir_impl_combined, go_sem, Nat.reduceAdd, Nat.reduceEqDiff, Nat.reduceLeDiff, Nat.reduceSub]
  have hz : (List.zipWith op a b).length = a.length := by simp; omega
  refine W_for a.length (fun k s => s = ⟨[.any, ints b, .clo g [], .any, .ref 0 1 0 a.length, .any, .any, ints a, I a.length, I k, .any], [.row t_int true 1 (((List.zipWith op a b).take k ++ List.replicate (a.length - k) 0).map I)]⟩) ?_ ?_ ?_
  · simp (maxSteps := 2000000) (disch := (first | omega | (simp only [List.length_append, List.length_take, List.length_replicate, List.length_map, List.length_set, List.length_cons, List.length_nil, List.length_zipWith, List.length_drop, List.length_range]; first | done | omega))) only [go_sem, Nat.reduceAdd, Nat.reduceEqDiff, Nat.reduceLeDiff, Nat.reduceSub]
    simp
  · rintro k s hk rfl
    simp (maxSteps := 2000000) (disch := (first | omega | (simp only [List.length_append, List.length_take, List.length_replicate, List.length_map, List.length_set, List.length_cons, List.length_nil, List.length_zipWith, List.length_drop, List.length_range]; first | done | omega))) only [go_sem, Nat.reduceAdd, Nat.reduceEqDiff, Nat.reduceLeDiff, Nat.reduceSub, hp _ (List.getElem_mem hk) _ (List.getElem_mem (show k < b.length by omega))]
    rw [fill_next (List.zipWith op a b) 0 a.length k hz hk _ (by simp [List.getElem?_zipWith, hk, show k < b.length by omega])]; rfl
  · rintro s rfl
    simp (maxSteps := 2000000) (disch := (first | omega | (simp only [List.length_append, List.length_take, List.length_replicate, List.length_map, List.length_set, List.length_cons, List.length_nil, List.length_zipWith, List.length_drop, List.length_range]; first | done | omega))) only [go_sem, Nat.reduceAdd, Nat.reduceEqDiff, Nat.reduceLeDiff, Nat.reduceSub, List.replicate_zero]
theorem impl_AddMarks_1_ok (x y : Int) (hx : 0 ≤ x ∧ x ≤ 50) (hy : 0 ≤ y ∧ y ≤ 50) : C f_impl_AddMarks_1 [I x, I y] [] = some (I (x + y), []) := by
  refine C_impl_AddMarks_1 ?_
  simp (maxSteps := 2000000) (disch := (first | omega | (simp only [List.length_append, List.length_take, List.length_replicate, List.length_map, List.length_set, List.length_cons, List.length_nil, List.length_zipWith, List.length_drop, List.length_range]; first | done | omega))) only [ir_impl_AddMarks_1, go_sem, Nat.reduceAdd, Nat.reduceEqDiff, Nat.reduceLeDiff, Nat.reduceSub]
theorem impl_AddMarks_t (p : Int) (a b : List Int) (ha : a.length < 2^62) (hb : b.length < 2^62) (h : okAdd p a b = true) : C f_impl_AddMarks [I p, ints a, ints b] [] = some (.tup [ints (addM a b), .bool true], []) := by
  refine C_impl_AddMarks ?_
  simp (maxSteps := 2000000) (disch := (first | omega | (simp only [List.length_append, List.length_take, List.length_replicate, List.length_map, List.length_set, List.length_cons, List.length_nil, List.length_zipWith, List.length_drop, List.length_range]; first | done | omega))) only [ir_impl_AddMarks, go_sem, Nat.reduceAdd, Nat.reduceEqDiff, Nat.reduceLeDiff, Nat.reduceSub]
  have h0 := impl_areMarks_ok p [a, b] (by simp) (by simp [ha, hb])
  simp only [okAdd, Bool.and_eq_true] at h
  obtain ⟨⟨h3, h4⟩, h5⟩ := h
  obtain ⟨h1, h2⟩ := goodM_two (show (goodM p a && goodM p b) = true by simp [h3, h4])
  simp only [rows, go_sem, h3, h4] at h0
  simp (maxSteps := 2000000) (disch := (first | omega | (simp only [List.length_append, List.length_take, List.length_replicate, List.length_map, List.length_set, List.length_cons, List.length_nil, List.length_zipWith, List.length_drop, List.length_range]; first | done | omega))) only [go_sem, Nat.reduceAdd, Nat.reduceEqDiff, Nat.reduceLeDiff, Nat.reduceSub, h0, (show C f_impl_combined [ints a, ints b, .clo f_impl_AddMarks_1 []] [] = some (.un t_int true 1 ((addM a b).map I), []) from impl_combined_ok a b f_impl_AddMarks_1 (· + ·) (fun x hx y hy => impl_AddMarks_1_ok x y ((goodM_len h3).2.2.2.2 x hx) ((goodM_len h4).2.2.2.2 y hy)) (by omega) (by omega)), impl_checkedMark_t (addM a b) (by simp [addM]; omega) h5]
theorem impl_AddMarks_f (p : Int) (a b : List Int) (ha : a.length < 2^62) (hb : b.length < 2^62) (h : okAdd p a b = false) : C f_impl_AddMarks [I p, ints a, ints b] [] = some (.tup [.un t_int true 1 [], .bool false], []) := by
  refine C_impl_AddMarks ?_
  simp (maxSteps := 2000000) (disch := (first | omega | (simp only [List.length_append, List.length_take, List.length_replicate, List.length_map, List.length_set, List.length_cons, List.length_nil, List.length_zipWith, List.length_drop, List.length_range]; first | done | omega))) only [ir_impl_AddMarks, go_sem, Nat.reduceAdd, Nat.reduceEqDiff, Nat.reduceLeDiff, Nat.reduceSub]
  have h0 := impl_areMarks_ok p [a, b] (by simp) (by simp [ha, hb])
  simp only [rows, go_sem] at h0
  simp (maxSteps := 2000000) (disch := (first | omega | (simp only [List.length_append, List.length_take, List.length_replicate, List.length_map, List.length_set, List.length_cons, List.length_nil, List.length_zipWith, List.length_drop, List.length_range]; first | done | omega))) only [go_sem, Nat.reduceAdd, Nat.reduceEqDiff, Nat.reduceLeDiff, Nat.reduceSub, h0]
  intro h6
  obtain ⟨h1, h2⟩ := goodM_two h6
  have h5 : (addM a b).all (inB 0 50) = false := by simpa [okAdd, h6] using h
  simp only [Bool.and_eq_true] at h6
  obtain ⟨h3, h4⟩ := h6
  simp (maxSteps := 2000000) (disch := (first | omega | (simp only [List.length_append, List.length_take, List.length_replicate, List.length_map, List.length_set, List.length_cons, List.length_nil, List.length_zipWith, List.length_drop, List.length_range]; first | done | omega))) only [go_sem, Nat.reduceAdd, Nat.reduceEqDiff, Nat.reduceLeDiff, Nat.reduceSub, (show C f_impl_combined [ints a, ints b, .clo f_impl_AddMarks_1 []] [] = some (.un t_int true 1 ((addM a b).map I), []) from impl_combined_ok a b f_impl_AddMarks_1 (· + ·) (fun x hx y hy => impl_AddMarks_1_ok x y ((goodM_len h3).2.2.2.2 x hx) ((goodM_len h4).2.2.2.2 y hy)) (by omega) (by omega)), impl_checkedMark_f (addM a b) (by simp [addM]; omega) h5]
theorem laws_FnMonotone_ok (a b : List Int) (ha2 : ∀ x ∈ a, 0 ≤ x ∧ x < 256) (hb2 : ∀ x ∈ b, 0 ≤ x ∧ x < 256) : C f_laws_FnMonotone [bys a, bys b] [] = some (.bool true, []) := by
  refine C_laws_FnMonotone ?_
  simp (maxSteps := 2000000) (disch := (first | omega | (simp only [List.length_append, List.length_take, List.length_replicate, List.length_map, List.length_set, List.length_cons, List.length_nil, List.length_zipWith, List.length_drop, List.length_range]; first | done | omega))) only [ir_laws_FnMonotone, go_sem, Nat.reduceAdd, Nat.reduceEqDiff, Nat.reduceLeDiff, Nat.reduceSub]
  simp (maxSteps := 2000000) (disch := (first | omega | (simp only [List.length_append, List.length_take, List.length_replicate, List.length_map, List.length_set, List.length_cons, List.length_nil, List.length_zipWith, List.length_drop, List.length_range]; first | done | omega))) only [go_sem, Nat.reduceAdd, Nat.reduceEqDiff, Nat.reduceLeDiff, Nat.reduceSub, laws_big_ok]
  intro hbig
  simp only [Bool.or_eq_false_iff, decide_eq_false_iff_not] at hbig
  obtain ⟨_, e1, n, m, t, rfl, h1, h2⟩ := spec_DrawFire_ok a (by omega) ha2
  obtain ⟨_, e5, w, rfl, h3, h4⟩ := laws_numberOf_ok b (by omega) hb2
  have e3 := spec_Fire_ok n m t h1.smN (by omega)
  have e4 := impl_HasResets_ok n h1.smN
  have hz := firedM_len (trAt n t) m
  simp (maxSteps := 2000000) (disch := (first | omega | (simp only [List.length_append, List.length_take, List.length_replicate, List.length_map, List.length_set, List.length_cons, List.length_nil, List.length_zipWith, List.length_drop, List.length_range]; first | done | omega))) only [go_sem, Nat.reduceAdd, Nat.reduceEqDiff, Nat.reduceLeDiff, Nat.reduceSub, e1]
  have n0 : C f_laws_sameInts [.sl true 1 [], .sl true 1 []] [] = some (.bool true, []) := laws_sameInts_ok [] [] (by simp)
  cases hf : okFire n m t with
  | false =>
    simp only [hf, Bool.false_eq_true, if_false, List.map_nil] at e3
    simp (maxSteps := 2000000) (disch := (first | omega | (simp only [List.length_append, List.length_take, List.length_replicate, List.length_map, List.length_set, List.length_cons, List.length_nil, List.length_zipWith, List.length_drop, List.length_range]; first | done | omega))) only [go_sem, Nat.reduceAdd, Nat.reduceEqDiff, Nat.reduceLeDiff, Nat.reduceSub, impl_Fire_f n m t h1.smN (by omega) hf, e3, e4, n0]
  | true =>
    simp only [hf, if_true] at e3
    simp (maxSteps := 2000000) (disch := (first | omega | (simp only [List.length_append, List.length_take, List.length_replicate, List.length_map, List.length_set, List.length_cons, List.length_nil, List.length_zipWith, List.length_drop, List.length_range]; first | done | omega))) only [go_sem, Nat.reduceAdd, Nat.reduceEqDiff, Nat.reduceLeDiff, Nat.reduceSub, impl_Fire_t n m t h1.smN (by omega) hf, e3, e4, laws_sameInts_ok (firedM (trAt n t) m) (firedM (trAt n t) m) (by omega)]
    intro hr hg
    have hpl := (goodN_parts hg).1
    have hb16 := (goodN_parts hg).2.1
    refine W_for n.pl.toNat (fun k s => ∃ d : List Int, s = ⟨[.any, bys b, .any, .ptr 0 0, .ref 1 1 0 m.length, I t, ints (firedM (trAt n t) m), .any, .any, .any, .any, .any, .ref 2 1 0 d.length, I k, .any, .any, .any, .any, .any, .any, .any, .any, .any, .any], [.box t_impl_Net [I n.pl, .ref 3 3 0 n.tr.length], .fro true 1 (m.map I), .row t_int true 1 (d.map I), .fro false 3 (n.tr.map encT)]⟩ ∧ d.length = k) ?_ ?_ ?_
    · refine ⟨[], ?_, rfl⟩
      simp (maxSteps := 2000000) (disch := (first | omega | (simp only [List.length_append, List.length_take, List.length_replicate, List.length_map, List.length_set, List.length_cons, List.length_nil, List.length_zipWith, List.length_drop, List.length_range]; first | done | omega))) only [go_sem, Nat.reduceAdd, Nat.reduceEqDiff, Nat.reduceLeDiff, Nat.reduceSub]
      rfl
    · rintro k s hk ⟨d, rfl, rfl⟩
      simp (maxSteps := 2000000) (disch := (first | omega | (simp only [List.length_append, List.length_take, List.length_replicate, List.length_map, List.length_set, List.length_cons, List.length_nil, List.length_zipWith, List.length_drop, List.length_range]; first | done | omega))) only [go_sem, Nat.reduceAdd, Nat.reduceEqDiff, Nat.reduceLeDiff, Nat.reduceSub, e5]
      refine ⟨d ++ [_], by rw [List.map_append]; simp; rfl, by simp⟩
    · rintro s ⟨d, rfl, hd⟩
      have hx : (firedM (trAt n t) m).length < 2^62 := by omega
      have hy : (addM m d).length < 2^62 := by simp [addM]; omega
      have hw : (addM (firedM (trAt n t) m) d).length < 2^62 := by simp [addM]; omega
      have rest : ∀ v : Bool, v = okAdd n.pl (firedM (trAt n t) m) d → C f_impl_AddMarks [I n.pl, ints (firedM (trAt n t) m), ints d] [] = some (if v then (.tup [ints (addM (firedM (trAt n t) m) d), .bool true]) else (.tup [.un t_int true 1 [], .bool false]), []) := by
        rintro v rfl
        cases hB : okAdd n.pl (firedM (trAt n t) m) d with
        | false => exact impl_AddMarks_f n.pl _ d hx (by omega) hB
        | true => exact impl_AddMarks_t n.pl _ d hx (by omega) hB
      have fire : ∀ (a : List Int) (v : Bool), a.length < 2^62 → v = okFire n a t → C f_impl_Fire [encN n, ints a, I t] [] = some (if v then (.tup [ints (firedM (trAt n t) a), .bool true]) else (.tup [.un t_int true 1 [], .bool false]), []) := by
        rintro a v ha rfl
        cases hB : okFire n a t with
        | false => exact impl_Fire_f n a t h1.smN ha hB
        | true => exact impl_Fire_t n a t h1.smN ha hB
      cases hA : okAdd n.pl m d with
      | false =>
        have f0 : C f_impl_Fire [encN n, .sl true 1 [], I t] [] = _ := fire [] _ (by simp) rfl
        have r0 := rest _ rfl
        cases hB : okAdd n.pl (firedM (trAt n t) m) d <;> cases hC : okFire n [] t <;> simp only [hB, hC, if_true, Bool.false_eq_true, if_false, List.map_nil] at f0 r0 <;>
          simp (maxSteps := 2000000) (disch := (first | omega | (simp only [List.length_append, List.length_take, List.length_replicate, List.length_map, List.length_set, List.length_cons, List.length_nil, List.length_zipWith, List.length_drop, List.length_range]; first | done | omega))) only [go_sem, Nat.reduceAdd, Nat.reduceEqDiff, Nat.reduceLeDiff, Nat.reduceSub, impl_AddMarks_f n.pl m d (by omega) (by omega) hA, r0, f0]
      | true =>
        have f0 := fire (addM m d) _ hy rfl
        have r0 := rest _ rfl
        have hg2 := canN_parts (Bool.and_eq_true .. ▸ hf).1
        have hgl := goodT_lt hg2.2.2.2.2.2 (goodM_len hg2.2.1).2.2.1
        have hrs : (trAt n t).rst = [] := by
          rw [← trAt_eq hg2.2.2.2.1]
          exact hasR_no (by simpa [hg] using hr) _
        have key : firedM (trAt n t) (addM m d) = addM (firedM (trAt n t) m) d := firedM_addM (by have := (goodM_len hg2.2.1).2.2.1; omega) hrs hgl.1 hgl.2.1
        have s0 := laws_sameInts_ok (addM (firedM (trAt n t) m) d) (addM (firedM (trAt n t) m) d) hw
        rw [key] at f0
        have mono := okFire_addM hf (by simpa [hg] using hr) hA
        cases hB : okAdd n.pl (firedM (trAt n t) m) d <;> cases hC : okFire n (addM m d) t <;> simp only [hB, hC, if_true, Bool.false_eq_true, if_false, true_implies, Bool.false_eq_true, false_implies] at f0 r0 mono <;>
          simp (maxSteps := 2000000) (disch := (first | omega | (simp only [List.length_append, List.length_take, List.length_replicate, List.length_map, List.length_set, List.length_cons, List.length_nil, List.length_zipWith, List.length_drop, List.length_range]; first | done | omega))) only [go_sem, Nat.reduceAdd, Nat.reduceEqDiff, Nat.reduceLeDiff, Nat.reduceSub, impl_AddMarks_t n.pl m d (by omega) (by omega) hA, r0, f0, s0]
end Go.Proofs.Ytngjepmopahgdaa.Pi
