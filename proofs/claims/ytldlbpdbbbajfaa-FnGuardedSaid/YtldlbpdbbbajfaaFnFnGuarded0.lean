/- The functions that the law reaches: what they answer. Conditions: those that each theorem names. -/
import Derived.Test.YtldlbpdbbbajfaaIrFnGuarded
import Derived.Test.YtldlbpdbbbajfaaPlBase
import Derived.Test.YtldlbpdbbbajfaaPlNet
import Derived.Test.YtldlbpdbbbajfaaPlFire
import Derived.Test.YtldlbpdbbbajfaaPlTurn
import Derived.Test.YtldlbpdbbbajfaaPlBack
import Derived.Test.YtldlbpdbbbajfaaPlFlow
import Derived.Test.YtldlbpdbbbajfaaPlMask
import Derived.Test.YtldlbpdbbbajfaaPlSiph
import Derived.Test.YtldlbpdbbbajfaaPlKept
import Derived.Test.YtldlbpdbbbajfaaPlBits
import Derived.Test.YtldlbpdbbbajfaaPlSpace
import Derived.Test.YtldlbpdbbbajfaaPlWay
import Derived.Test.YtldlbpdbbbajfaaPlGuard
namespace Go.Proofs.Ytldlbpdbbbajfaa.Pi
open Go
set_option linter.all false
set_option maxHeartbeats 4000000
set_option maxRecDepth 20000
theorem laws_big_ok (a b : List Int) : C f_laws_big [bys a, bys b] [] = some (.bool (decide (1048576 < (a.length : Int)) || decide (1048576 - (a.length : Int) < b.length)), []) := by
  refine C_laws_big ?_
  simp (maxSteps := 2000000) (disch := (first | omega | (simp only [List.length_append, List.length_take, List.length_replicate, List.length_map, List.length_set, List.length_cons, List.length_nil, List.length_zipWith, List.length_drop, List.length_range]; first | done | omega))) only [ir_laws_big, go_sem, Nat.reduceAdd, Nat.reduceEqDiff, Nat.reduceLeDiff, Nat.reduceSub]
  refine ⟨fun h => by simp [h], fun h => ?_⟩
  simp (maxSteps := 2000000) (disch := (first | omega | (simp only [List.length_append, List.length_take, List.length_replicate, List.length_map, List.length_set, List.length_cons, List.length_nil, List.length_zipWith, List.length_drop, List.length_range]; first | done | omega))) only [go_sem, Nat.reduceAdd, Nat.reduceEqDiff, Nat.reduceLeDiff, Nat.reduceSub]
  grind
theorem spec_l1Cur_next_ok (bs : List Int) (at_ sd : Int) (h0 : 0 ≤ at_) (h1 : at_ < 2^62) (hl : bs.length < 2^62) (hb : ∀ x ∈ bs, 0 ≤ x ∧ x < 256) :
    Lw (C f_spec_l1Cur_next [.ptr 0 0] [.box t_spec_l1Cur [bys bs, I at_, .int .u64 sd]]) fun r => ∃ x sd', r = (I x, [.box t_spec_l1Cur [bys bs, I (at_ + 1), .int .u64 sd']]) ∧ 0 ≤ x ∧ x < 256 := by
  refine E_spec_l1Cur_next ?_
  simp (maxSteps := 2000000) (disch := (first | omega | (simp only [List.length_append, List.length_take, List.length_replicate, List.length_map, List.length_set, List.length_cons, List.length_nil, List.length_zipWith, List.length_drop, List.length_range]; first | done | omega))) only [ir_spec_l1Cur_next, go_sem, Nat.reduceAdd, Nat.reduceEqDiff, Nat.reduceLeDiff, Nat.reduceSub]
  refine ⟨fun h => ?_, fun h => ?_⟩
  · have h2 : at_.toNat < bs.length := by omega
    have h3 := hb _ (List.getElem_mem h2)
    simp (maxSteps := 2000000) (disch := (first | omega | (simp only [List.length_append, List.length_take, List.length_replicate, List.length_map, List.length_set, List.length_cons, List.length_nil, List.length_zipWith, List.length_drop, List.length_range]; first | done | omega))) only [go_sem, Nat.reduceAdd, Nat.reduceEqDiff, Nat.reduceLeDiff, Nat.reduceSub]
    exact ⟨_, _, rfl, h3⟩
  · refine ⟨fun _ => ⟨_, _, rfl, by omega, by omega⟩, fun _ => ?_⟩
    generalize hw : IntKind.u64.wrap (IntKind.u64.wrap (IntKind.u64.wrap (sd * 6364136223846793005) + IntKind.u64.wrap 0) + 1442695040888963407) = w
    have hb := u64_bound (IntKind.u64.wrap (IntKind.u64.wrap (sd * 6364136223846793005) + IntKind.u64.wrap 0) + 1442695040888963407)
    rw [hw] at hb
    have h3 := and255 (x := w / 2 ^ min (Int.toNat 40) 64) (Int.ediv_nonneg hb.1 (by decide)) (Int.lt_of_le_of_lt (Int.ediv_le_self _ hb.1) hb.2)
    rw [wrap_i64 (by omega) (by omega)]
    exact ⟨_, _, rfl, h3⟩
theorem spec_l1Cur_pick_ok (n : Int) (bs : List Int) (at_ sd : Int) (h0 : 0 ≤ at_) (h1 : at_ < 2^61) (hl : bs.length < 2^62) (hb : ∀ x ∈ bs, 0 ≤ x ∧ x < 256) :
    Lw (C f_spec_l1Cur_pick [.ptr 0 0, I n] [.box t_spec_l1Cur [bys bs, I at_, .int .u64 sd]]) fun r => ∃ x at' sd', r = (I x, [.box t_spec_l1Cur [bys bs, I at', .int .u64 sd']]) ∧ at_ ≤ at' ∧ at' ≤ at_ + 2 ∧ 0 ≤ x ∧ (x = 0 ∨ x < n) := by
  refine E_spec_l1Cur_pick ?_
  simp (maxSteps := 2000000) (disch := (first | omega | (simp only [List.length_append, List.length_take, List.length_replicate, List.length_map, List.length_set, List.length_cons, List.length_nil, List.length_zipWith, List.length_drop, List.length_range]; first | done | omega))) only [ir_spec_l1Cur_pick, go_sem, Nat.reduceAdd, Nat.reduceEqDiff, Nat.reduceLeDiff, Nat.reduceSub]
  refine ⟨fun h => ⟨_, _, _, rfl, by omega, by omega, by omega, by omega⟩, fun h => ?_⟩
  obtain ⟨_, e1, x1, s1, rfl, h3, h4⟩ := spec_l1Cur_next_ok bs at_ sd h0 (by omega) hl hb
  obtain ⟨_, e2, x2, s2, rfl, h5, h6⟩ := spec_l1Cur_next_ok bs (at_ + 1) s1 (by omega) (by omega) hl hb
  simp (maxSteps := 2000000) (disch := (first | omega | (simp only [List.length_append, List.length_take, List.length_replicate, List.length_map, List.length_set, List.length_cons, List.length_nil, List.length_zipWith, List.length_drop, List.length_range]; first | done | omega))) only [go_sem, Nat.reduceAdd, Nat.reduceEqDiff, Nat.reduceLeDiff, Nat.reduceSub, e1, e2]
  refine ⟨fun _ => ⟨_, _, _, rfl, by omega, by omega, Int.tmod_nonneg _ (by omega), .inr (Int.tmod_lt_of_pos _ (by omega))⟩, fun _ => ⟨_, _, _, rfl, by omega, by omega, Int.tmod_nonneg _ (by omega), .inr (Int.tmod_lt_of_pos _ (by omega))⟩⟩
theorem spec_l1Cur_one_ok (n : Int) (bs : List Int) (at_ sd : Int) (h0 : 0 ≤ at_) (h1 : at_ < 2^61) (hl : bs.length < 2^62) (hb : ∀ x ∈ bs, 0 ≤ x ∧ x < 256) :
    Lw (C f_spec_l1Cur_one [.ptr 0 0, I n] [.box t_spec_l1Cur [bys bs, I at_, .int .u64 sd]]) fun r => ∃ x at' sd', r = (.bool x, [.box t_spec_l1Cur [bys bs, I at', .int .u64 sd']]) ∧ at_ ≤ at' ∧ at' ≤ at_ + 2 := by
  refine E_spec_l1Cur_one ?_
  simp (maxSteps := 2000000) (disch := (first | omega | (simp only [List.length_append, List.length_take, List.length_replicate, List.length_map, List.length_set, List.length_cons, List.length_nil, List.length_zipWith, List.length_drop, List.length_range]; first | done | omega))) only [ir_spec_l1Cur_one, go_sem, Nat.reduceAdd, Nat.reduceEqDiff, Nat.reduceLeDiff, Nat.reduceSub]
  obtain ⟨_, e1, x1, a1, s1, rfl, h3, h4, h5⟩ := spec_l1Cur_pick_ok n bs at_ sd h0 h1 hl hb
  simp (maxSteps := 2000000) (disch := (first | omega | (simp only [List.length_append, List.length_take, List.length_replicate, List.length_map, List.length_set, List.length_cons, List.length_nil, List.length_zipWith, List.length_drop, List.length_range]; first | done | omega))) only [go_sem, Nat.reduceAdd, Nat.reduceEqDiff, Nat.reduceLeDiff, Nat.reduceSub, e1]
  exact ⟨fun _ => ⟨_, _, _, rfl, h3, h4⟩, fun _ => ⟨_, _, _, rfl, h3, h4⟩⟩
theorem spec_l1Put_ok (l : List Int) (x : Int) (hl : l.length < 2^30) : Lw (C f_spec_l1Put [.ref 0 1 0 l.length, I x] [.row t_int true 1 (l.map I)]) fun r => r = (.un t_int true 1 ((putI l x).map I), [.row t_int true 1 (l.map I)]) ∨ (r = (.ref 0 1 0 l.length, [.row t_int true 1 (l.map I)]) ∧ putI l x = l) := by
  refine E_spec_l1Put ?_
  simp (maxSteps := 2000000) (disch := (first | omega | (simp only [List.length_append, List.length_take, List.length_replicate, List.length_map, List.length_set, List.length_cons, List.length_nil, List.length_zipWith, List.length_drop, List.length_range]; first | done | omega))) only [ir_spec_l1Put, go_sem, Nat.reduceAdd, Nat.reduceEqDiff, Nat.reduceLeDiff, Nat.reduceSub]
  refine W_for l.length (fun k s => s = ⟨[.ref 0 1 0 l.length, I x, .any, I k, .any, .any, .any], [.row t_int true 1 (l.map I)]⟩ ∧ (l.take k).all (fun y => decide (y < x)) = true) ?_ ?_ ?_
  · simp (maxSteps := 2000000) (disch := (first | omega | (simp only [List.length_append, List.length_take, List.length_replicate, List.length_map, List.length_set, List.length_cons, List.length_nil, List.length_zipWith, List.length_drop, List.length_range]; first | done | omega))) only [go_sem, Nat.reduceAdd, Nat.reduceEqDiff, Nat.reduceLeDiff, Nat.reduceSub]
    rfl
  · rintro k s hk ⟨rfl, hall⟩
    simp (maxSteps := 2000000) (disch := (first | omega | (simp only [List.length_append, List.length_take, List.length_replicate, List.length_map, List.length_set, List.length_cons, List.length_nil, List.length_zipWith, List.length_drop, List.length_range]; first | done | omega))) only [go_sem, Nat.reduceAdd, Nat.reduceEqDiff, Nat.reduceLeDiff, Nat.reduceSub]
    refine ⟨fun h => ⟨rfl, all_take hk hall (by simpa using h)⟩, fun h => ⟨fun h2 => .inr (putI_eq hk hall h2), fun h2 => .inl ?_⟩⟩
    rw [putI_gt hall (fun _ => by omega) (by omega)]
    simp
  · rintro s ⟨rfl, hall⟩
    simp (maxSteps := 2000000) (disch := (first | omega | (simp only [List.length_append, List.length_take, List.length_replicate, List.length_map, List.length_set, List.length_cons, List.length_nil, List.length_zipWith, List.length_drop, List.length_range]; first | done | omega))) only [go_sem, Nat.reduceAdd, Nat.reduceEqDiff, Nat.reduceLeDiff, Nat.reduceSub]
    have e := putI_gt hall (fun h => by omega) (by omega)
    refine ⟨fun h => .inl ?_, fun h => .inl ?_⟩
    · rw [e]; simp
    · have : l = [] := List.eq_nil_of_length_eq_zero (by omega)
      subst this; rfl
theorem spec_l1Cur_someOf_ok (n least most : Int) (hlm : 0 ≤ least ∧ least ≤ most ∧ most ≤ 20) (bs : List Int) (at_ sd : Int) (h0 : 0 ≤ at_) (h1 : at_ < 2^60) (hl : bs.length < 2^62) (hb : ∀ x ∈ bs, 0 ≤ x ∧ x < 256) :
    Lw (C f_spec_l1Cur_someOf [.ptr 0 0, I n, I least, I most] [.box t_spec_l1Cur [bys bs, I at_, .int .u64 sd]]) fun r => ∃ (l : List Int) (at' sd' : Int), r = (.un t_int true 1 (l.map I), [.box t_spec_l1Cur [bys bs, I at', .int .u64 sd']]) ∧ at_ ≤ at' ∧ at' ≤ at_ + 50 ∧ l.length ≤ 20 ∧ ∀ x ∈ l, 0 ≤ x ∧ (x = 0 ∨ x < n) := by
  refine E_spec_l1Cur_someOf ?_
  simp (maxSteps := 2000000) (disch := (first | omega | (simp only [List.length_append, List.length_take, List.length_replicate, List.length_map, List.length_set, List.length_cons, List.length_nil, List.length_zipWith, List.length_drop, List.length_range]; first | done | omega))) only [ir_spec_l1Cur_someOf, go_sem, Nat.reduceAdd, Nat.reduceEqDiff, Nat.reduceLeDiff, Nat.reduceSub]
  obtain ⟨_, e1, x1, a1, s1, rfl, h3, h4, h5, h6⟩ := spec_l1Cur_pick_ok (most - least + 1) bs at_ sd h0 (by omega) hl hb
  simp (maxSteps := 2000000) (disch := (first | omega | (simp only [List.length_append, List.length_take, List.length_replicate, List.length_map, List.length_set, List.length_cons, List.length_nil, List.length_zipWith, List.length_drop, List.length_range]; first | done | omega))) only [go_sem, Nat.reduceAdd, Nat.reduceEqDiff, Nat.reduceLeDiff, Nat.reduceSub, e1]
  refine W_for (least + x1).toNat (fun k s => ∃ (l : List Int) (at' sd' : Int), s = ⟨[.ptr 0 0, I n, .any, .any, .any, .ref 1 1 0 l.length, I (least + x1 - k), .any], [.box t_spec_l1Cur [bys bs, I at', .int .u64 sd'], .row t_int true 1 (l.map I)]⟩ ∧ l.length ≤ k ∧ at_ ≤ at' ∧ at' ≤ at_ + 2 + 2 * k ∧ ∀ x ∈ l, 0 ≤ x ∧ (x = 0 ∨ x < n)) ?_ ?_ ?_
  · refine ⟨[], a1, s1, ?_, by simp, by omega, by omega, by simp⟩
    simp (maxSteps := 2000000) (disch := (first | omega | (simp only [List.length_append, List.length_take, List.length_replicate, List.length_map, List.length_set, List.length_cons, List.length_nil, List.length_zipWith, List.length_drop, List.length_range]; first | done | omega))) only [go_sem, Nat.reduceAdd, Nat.reduceEqDiff, Nat.reduceLeDiff, Nat.reduceSub]
    rw [show least + x1 - ((0 : Nat) : Int) = least + x1 by omega]
  · rintro k s hk ⟨l, a, sd, rfl, h7, h8, h9, h10⟩
    obtain ⟨_, e2, x2, a2, s2, rfl, h11, h12, h13, h14⟩ := spec_l1Cur_pick_ok n bs a sd (by omega) (by omega) hl hb
    have e : least + x1 - ((k + 1 : Nat) : Int) = least + x1 - k - 1 := by omega
    obtain ⟨_, e3, rfl | ⟨rfl, e4⟩⟩ := spec_l1Put_ok l x2 (by omega)
    · simp (maxSteps := 2000000) (disch := (first | omega | (simp only [List.length_append, List.length_take, List.length_replicate, List.length_map, List.length_set, List.length_cons, List.length_nil, List.length_zipWith, List.length_drop, List.length_range]; first | done | omega))) only [go_sem, Nat.reduceAdd, Nat.reduceEqDiff, Nat.reduceLeDiff, Nat.reduceSub, e2, e3]
      have := putI_len l x2
      refine ⟨putI l x2, a2, s2, by rw [e], by omega, by omega, by omega, fun y hy => ?_⟩
      rcases putI_mem hy with hy | rfl
      · exact h10 y hy
      · exact ⟨h13, h14⟩
    · simp (maxSteps := 2000000) (disch := (first | omega | (simp only [List.length_append, List.length_take, List.length_replicate, List.length_map, List.length_set, List.length_cons, List.length_nil, List.length_zipWith, List.length_drop, List.length_range]; first | done | omega))) only [go_sem, Nat.reduceAdd, Nat.reduceEqDiff, Nat.reduceLeDiff, Nat.reduceSub, e2, e3]
      exact ⟨l, a2, s2, by rw [e], by omega, by omega, by omega, h10⟩
  · rintro s ⟨l, a, sd, rfl, h7, h8, h9, h10⟩
    simp (maxSteps := 2000000) (disch := (first | omega | (simp only [List.length_append, List.length_take, List.length_replicate, List.length_map, List.length_set, List.length_cons, List.length_nil, List.length_zipWith, List.length_drop, List.length_range]; first | done | omega))) only [go_sem, Nat.reduceAdd, Nat.reduceEqDiff, Nat.reduceLeDiff, Nat.reduceSub]
    exact ⟨l, a, sd, rfl, by omega, by omega, by omega, h10⟩
theorem spec_l1Cur_among_ok (l : List Int) (t : TypeId) (hne : 0 < l.length) (hln : l.length < 2^30) (bs : List Int) (at_ sd : Int) (h0 : 0 ≤ at_) (h1 : at_ < 2^61) (hl : bs.length < 2^62) (hb : ∀ x ∈ bs, 0 ≤ x ∧ x < 256) :
    Lw (C f_spec_l1Cur_among [.ptr 0 0, .ref 1 1 0 l.length] [.box t_spec_l1Cur [bys bs, I at_, .int .u64 sd], .row t true 1 (l.map I)]) fun r => ∃ x at' sd', r = (I x, [.box t_spec_l1Cur [bys bs, I at', .int .u64 sd'], .row t true 1 (l.map I)]) ∧ at_ ≤ at' ∧ at' ≤ at_ + 2 ∧ x ∈ l := by
  refine E_spec_l1Cur_among ?_
  simp (maxSteps := 2000000) (disch := (first | omega | (simp only [List.length_append, List.length_take, List.length_replicate, List.length_map, List.length_set, List.length_cons, List.length_nil, List.length_zipWith, List.length_drop, List.length_range]; first | done | omega))) only [ir_spec_l1Cur_among, go_sem, Nat.reduceAdd, Nat.reduceEqDiff, Nat.reduceLeDiff, Nat.reduceSub]
  obtain ⟨_, e1, x1, a1, s1, rfl, h3, h4, h5, h6⟩ := spec_l1Cur_pick_ok l.length bs at_ sd h0 h1 hl hb
  have h7 : x1.toNat < l.length := by omega
  simp (maxSteps := 2000000) (disch := (first | omega | (simp only [List.length_append, List.length_take, List.length_replicate, List.length_map, List.length_set, List.length_cons, List.length_nil, List.length_zipWith, List.length_drop, List.length_range]; first | done | omega))) only [go_sem, Nat.reduceAdd, Nat.reduceEqDiff, Nat.reduceLeDiff, Nat.reduceSub, e1]
  exact ⟨_, _, _, rfl, h3, h4, List.getElem_mem h7⟩
theorem spec_l1Cur_net_ok (rs : Bool) (bs : List Int) (at_ sd : Int) (h0 : 0 ≤ at_) (h1 : at_ < 2^59) (hl : bs.length < 2^62) (hb : ∀ x ∈ bs, 0 ≤ x ∧ x < 256) :
    Lw (C f_spec_l1Cur_net [.ptr 0 0, .bool rs] [.box t_spec_l1Cur [bys bs, I at_, .int .u64 sd]]) fun r => ∃ (n : Net) (at' sd' : Int), r = (.agg [I n.pl, .un t_impl_Trans false 3 (n.tr.map encT)], [.box t_spec_l1Cur [bys bs, I at', .int .u64 sd']]) ∧ at_ ≤ at' ∧ at' ≤ at_ + 1000 ∧ smNet n := by
  refine E_spec_l1Cur_net ?_
  simp (maxSteps := 2000000) (disch := (first | omega | (simp only [List.length_append, List.length_take, List.length_replicate, List.length_map, List.length_set, List.length_cons, List.length_nil, List.length_zipWith, List.length_drop, List.length_range]; first | done | omega))) only [ir_spec_l1Cur_net, go_sem, Nat.reduceAdd, Nat.reduceEqDiff, Nat.reduceLeDiff, Nat.reduceSub]
  obtain ⟨_, e1, x1, a1, s1, rfl, h3, h4, h5, h6⟩ := spec_l1Cur_pick_ok 4 bs at_ sd h0 (by omega) hl hb
  simp (maxSteps := 2000000) (disch := (first | omega | (simp only [List.length_append, List.length_take, List.length_replicate, List.length_map, List.length_set, List.length_cons, List.length_nil, List.length_zipWith, List.length_drop, List.length_range]; first | done | omega))) only [go_sem, Nat.reduceAdd, Nat.reduceEqDiff, Nat.reduceLeDiff, Nat.reduceSub, e1]
  obtain ⟨_, e2, x2, a2, s2, rfl, h7, h8, h9, h10⟩ := spec_l1Cur_pick_ok 5 bs a1 s1 (by omega) (by omega) hl hb
  simp (maxSteps := 2000000) (disch := (first | omega | (simp only [List.length_append, List.length_take, List.length_replicate, List.length_map, List.length_set, List.length_cons, List.length_nil, List.length_zipWith, List.length_drop, List.length_range]; first | done | omega))) only [go_sem, Nat.reduceAdd, Nat.reduceEqDiff, Nat.reduceLeDiff, Nat.reduceSub, e2]
  refine W_for (1 + x2).toNat (fun k s => ∃ (tr : List Tr) (at' sd' : Int), (s = ⟨[.ptr 0 0, .bool rs, .ptr 1 0, .ptr 2 0, I (1 + x2 - k), .any, .any, .any, .any, .any, .any, .any], [.box t_spec_l1Cur [bys bs, I at', .int .u64 sd'], .box t_impl_Net [I 0, .nil false 3], .box t_impl_Net [I (2 + x1), .ref 3 3 0 tr.length], .row t_impl_Trans false 3 (tr.map encT)]⟩ ∨ (s = ⟨[.ptr 0 0, .bool rs, .ptr 1 0, .ptr 2 0, I (1 + x2 - k), .any, .any, .any, .any, .any, .any, .any], [.box t_spec_l1Cur [bys bs, I at', .int .u64 sd'], .box t_impl_Net [I 0, .nil false 3], .box t_impl_Net [I (2 + x1), .nil false 3]]⟩ ∧ tr = [])) ∧ tr.length = k ∧ at_ ≤ at' ∧ at' ≤ at_ + 10 + 152 * k ∧ ∀ t ∈ tr, t.inn.length ≤ 20 ∧ t.out.length ≤ 20 ∧ t.rst.length ≤ 20) ?_ ?_ ?_
  · refine ⟨[], a2, s2, .inr ⟨?_, rfl⟩, rfl, by omega, by omega, by simp⟩
    simp (maxSteps := 2000000) (disch := (first | omega | (simp only [List.length_append, List.length_take, List.length_replicate, List.length_map, List.length_set, List.length_cons, List.length_nil, List.length_zipWith, List.length_drop, List.length_range]; first | done | omega))) only [go_sem, Nat.reduceAdd, Nat.reduceEqDiff, Nat.reduceLeDiff, Nat.reduceSub]
    rw [show 1 + x2 - ((0 : Nat) : Int) = 1 + x2 by omega]
  · rintro k s hk ⟨tr, a, sd, hs, rfl, h12, h13, h14⟩
    obtain ⟨_, f1, l1, a3, s3, rfl, g1, g2, g3, g4⟩ := spec_l1Cur_someOf_ok (2 + x1) 1 2 (by omega) bs a sd (by omega) (by omega) hl hb
    obtain ⟨_, f2, l2, a4, s4, rfl, g5, g6, g7, g8⟩ := spec_l1Cur_someOf_ok (2 + x1) 0 2 (by omega) bs a3 s3 (by omega) (by omega) hl hb
    obtain ⟨_, f3, b5, a5, s5, rfl, g9, g10⟩ := spec_l1Cur_one_ok 5 bs a4 s4 (by omega) (by omega) hl hb
    obtain ⟨_, f4, l6, a6, s6, rfl, g11, g12, g13, g14⟩ := spec_l1Cur_someOf_ok (2 + x1) 1 2 (by omega) bs a5 s5 (by omega) (by omega) hl hb
    have e : 1 + x2 - ((tr.length + 1 : Nat) : Int) = 1 + x2 - tr.length - 1 := by omega
    rcases hs with rfl | ⟨rfl, rfl⟩
    · simp (maxSteps := 2000000) (disch := (first | omega | (simp only [List.length_append, List.length_take, List.length_replicate, List.length_map, List.length_set, List.length_cons, List.length_nil, List.length_zipWith, List.length_drop, List.length_range]; first | done | omega))) only [go_sem, Nat.reduceAdd, Nat.reduceEqDiff, Nat.reduceLeDiff, Nat.reduceSub, f1, f2, f3, f4]
      have hs : ∀ (t : Tr), t.inn.length ≤ 20 ∧ t.out.length ≤ 20 ∧ t.rst.length ≤ 20 → ∀ u ∈ tr ++ [t], u.inn.length ≤ 20 ∧ u.out.length ≤ 20 ∧ u.rst.length ≤ 20 := by
        intro t ht u hu
        rcases List.mem_append.1 hu with hu | hu
        · exact h14 u hu
        · simp only [List.mem_singleton] at hu; subst hu; exact ht
      refine ⟨fun _ => ⟨fun _ => ⟨tr ++ [⟨l1, l2, l6⟩], a6, s6, .inl ?_, by simp, by omega, by simp at h13 ⊢; omega, hs _ ⟨g3, g7, g13⟩⟩, fun _ => ⟨tr ++ [⟨l1, l2, []⟩], a5, s5, .inl ?_, by simp, by omega, by simp at h13 ⊢; omega, hs _ ⟨g3, g7, by simp⟩⟩⟩, fun _ => ⟨tr ++ [⟨l1, l2, []⟩], a4, s4, .inl ?_, by simp, by omega, by simp at h13 ⊢; omega, hs _ ⟨g3, g7, by simp⟩⟩⟩ <;> (rw [e]; simp)
    · simp (maxSteps := 2000000) (disch := (first | omega | (simp only [List.length_append, List.length_take, List.length_replicate, List.length_map, List.length_set, List.length_cons, List.length_nil, List.length_zipWith, List.length_drop, List.length_range]; first | done | omega))) only [go_sem, Nat.reduceAdd, Nat.reduceEqDiff, Nat.reduceLeDiff, Nat.reduceSub, f1, f2, f3, f4]
      have hs : ∀ (t : Tr), t.inn.length ≤ 20 ∧ t.out.length ≤ 20 ∧ t.rst.length ≤ 20 → ∀ u ∈ ([] : List Tr) ++ [t], u.inn.length ≤ 20 ∧ u.out.length ≤ 20 ∧ u.rst.length ≤ 20 := by
        intro t ht u hu
        rcases List.mem_append.1 hu with hu | hu
        · exact h14 u hu
        · simp only [List.mem_singleton] at hu; subst hu; exact ht
      refine ⟨fun _ => ⟨fun _ => ⟨([] : List Tr) ++ [⟨l1, l2, l6⟩], a6, s6, .inl ?_, by simp, by omega, by simp at h13 ⊢; omega, hs _ ⟨g3, g7, g13⟩⟩, fun _ => ⟨([] : List Tr) ++ [⟨l1, l2, []⟩], a5, s5, .inl ?_, by simp, by omega, by simp at h13 ⊢; omega, hs _ ⟨g3, g7, by simp⟩⟩⟩, fun _ => ⟨([] : List Tr) ++ [⟨l1, l2, []⟩], a4, s4, .inl ?_, by simp, by omega, by simp at h13 ⊢; omega, hs _ ⟨g3, g7, by simp⟩⟩⟩ <;> (simp <;> omega)
  · rintro s ⟨tr, a, sd, hs, h11, h12, h13, h14⟩
    have hne : 0 < tr.length := by omega
    rcases hs with rfl | ⟨rfl, rfl⟩
    · obtain ⟨_, f1, x7, a7, s7, rfl, g1, g2, g3, g4⟩ := spec_l1Cur_pick_ok 40 bs a sd (by omega) (by omega) hl hb
      obtain ⟨_, f2, x8, a8, s8, rfl, g5, g6, g7⟩ := spec_l1Cur_among_ok [0, 1, 17] t_int (by decide) (by decide) bs a7 s7 (by omega) (by omega) hl hb
      simp only [go_sem, Nat.reduceAdd] at f2
      simp (maxSteps := 2000000) (disch := (first | omega | (simp only [List.length_append, List.length_take, List.length_replicate, List.length_map, List.length_set, List.length_cons, List.length_nil, List.length_zipWith, List.length_drop, List.length_range]; first | done | omega))) only [go_sem, Nat.reduceAdd, Nat.reduceEqDiff, Nat.reduceLeDiff, Nat.reduceSub, f1, f2]
      simp only [List.mem_cons, List.not_mem_nil, or_false] at g7
      have h15 := h14 tr[0] (List.getElem_mem hne)
      have hs : ∀ (t : Tr), t.inn.length ≤ 20 ∧ t.out.length ≤ 20 ∧ t.rst.length ≤ 20 → ∀ u ∈ tr.set 0 t, u.inn.length ≤ 20 ∧ u.out.length ≤ 20 ∧ u.rst.length ≤ 20 := by
        intro t ht u hu
        rcases List.mem_or_eq_of_mem_set hu with hu | rfl
        · exact h14 u hu
        · exact ht
      refine ⟨fun _ => ⟨⟨x8, tr⟩, a8, s8, rfl, by omega, by omega, by simp only [smNet]; omega, by simp only; omega, h14⟩, fun _ => ⟨fun _ => ?_, fun _ => ⟨fun _ => ?_, fun _ => ?_⟩⟩⟩
      · exact ⟨⟨2 + x1, tr.set 0 ⟨[], tr[0].out, tr[0].rst⟩⟩, a7, s7, by simp [List.map_set]; rfl, by omega, by omega, by simp; omega, by simp only; omega, hs _ ⟨by simp, h15.2.1, h15.2.2⟩⟩
      · exact ⟨⟨2 + x1, tr.set 0 ⟨tr[0].inn, [1, 0], tr[0].rst⟩⟩, a7, s7, by simp [List.map_set]; rfl, by omega, by omega, by simp; omega, by simp only; omega, hs _ ⟨h15.1, by simp, h15.2.2⟩⟩
      · exact ⟨⟨2 + x1, tr⟩, a7, s7, rfl, by omega, by omega, by simp only; omega, by simp only; omega, h14⟩
    · simp at hne
theorem spec_l1Most_ok (a b : Int) : C f_spec_l1Most [I a, I b] [] = some (I (max a b), []) := by
  refine C_spec_l1Most ?_
  simp (maxSteps := 2000000) (disch := (first | omega | (simp only [List.length_append, List.length_take, List.length_replicate, List.length_map, List.length_set, List.length_cons, List.length_nil, List.length_zipWith, List.length_drop, List.length_range]; first | done | omega))) only [ir_spec_l1Most, go_sem, Nat.reduceAdd, Nat.reduceEqDiff, Nat.reduceLeDiff, Nat.reduceSub]
  exact ⟨fun h => by rw [Int.max_eq_left (by omega)], fun h => by rw [Int.max_eq_right (by omega)]⟩
theorem spec_l1Least_ok (a b : Int) : C f_spec_l1Least [I a, I b] [] = some (I (min a b), []) := by
  refine C_spec_l1Least ?_
  simp (maxSteps := 2000000) (disch := (first | omega | (simp only [List.length_append, List.length_take, List.length_replicate, List.length_map, List.length_set, List.length_cons, List.length_nil, List.length_zipWith, List.length_drop, List.length_range]; first | done | omega))) only [ir_spec_l1Least, go_sem, Nat.reduceAdd, Nat.reduceEqDiff, Nat.reduceLeDiff, Nat.reduceSub]
  exact ⟨fun h => by rw [Int.min_eq_left (by omega)], fun h => by rw [Int.min_eq_right (by omega)]⟩
theorem spec_l1Put_nil (x : Int) : C f_spec_l1Put [.nil true 1, I x] [] = some (.un t_int true 1 [I x], []) := by
  refine C_spec_l1Put ?_
  simp (maxSteps := 2000000) (disch := (first | omega | (simp only [List.length_append, List.length_take, List.length_replicate, List.length_map, List.length_set, List.length_cons, List.length_nil, List.length_zipWith, List.length_drop, List.length_range]; first | done | omega))) only [ir_spec_l1Put, go_sem, Nat.reduceAdd, Nat.reduceEqDiff, Nat.reduceLeDiff, Nat.reduceSub]
  refine W_for 0 (fun k s => s = ⟨[.nil true 1, I x, .any, I 0, .any, .any, .any], []⟩) ?_ ?_ ?_
  · simp (maxSteps := 2000000) (disch := (first | omega | (simp only [List.length_append, List.length_take, List.length_replicate, List.length_map, List.length_set, List.length_cons, List.length_nil, List.length_zipWith, List.length_drop, List.length_range]; first | done | omega))) only [go_sem, Nat.reduceAdd, Nat.reduceEqDiff, Nat.reduceLeDiff, Nat.reduceSub]
  · intro k s hk; omega
  · rintro s rfl
    simp (maxSteps := 2000000) (disch := (first | omega | (simp only [List.length_append, List.length_take, List.length_replicate, List.length_map, List.length_set, List.length_cons, List.length_nil, List.length_zipWith, List.length_drop, List.length_range]; first | done | omega))) only [go_sem, Nat.reduceAdd, Nat.reduceEqDiff, Nat.reduceLeDiff, Nat.reduceSub]
theorem spec_l1Put_sl (l : List Int) (x : Int) (hl : l.length < 2^30) : Lw (C f_spec_l1Put [ints l, I x] []) fun r => r = (.un t_int true 1 ((putI l x).map I), []) ∨ (r = (ints l, []) ∧ putI l x = l) := by
  refine E_spec_l1Put ?_
  simp (maxSteps := 2000000) (disch := (first | omega | (simp only [List.length_append, List.length_take, List.length_replicate, List.length_map, List.length_set, List.length_cons, List.length_nil, List.length_zipWith, List.length_drop, List.length_range]; first | done | omega))) only [ir_spec_l1Put, go_sem, Nat.reduceAdd, Nat.reduceEqDiff, Nat.reduceLeDiff, Nat.reduceSub]
  refine W_for l.length (fun k s => s = ⟨[ints l, I x, .any, I k, .any, .any, .any], []⟩ ∧ (l.take k).all (fun y => decide (y < x)) = true) ?_ ?_ ?_
  · simp (maxSteps := 2000000) (disch := (first | omega | (simp only [List.length_append, List.length_take, List.length_replicate, List.length_map, List.length_set, List.length_cons, List.length_nil, List.length_zipWith, List.length_drop, List.length_range]; first | done | omega))) only [go_sem, Nat.reduceAdd, Nat.reduceEqDiff, Nat.reduceLeDiff, Nat.reduceSub]
    rfl
  · rintro k s hk ⟨rfl, hall⟩
    simp (maxSteps := 2000000) (disch := (first | omega | (simp only [List.length_append, List.length_take, List.length_replicate, List.length_map, List.length_set, List.length_cons, List.length_nil, List.length_zipWith, List.length_drop, List.length_range]; first | done | omega))) only [go_sem, Nat.reduceAdd, Nat.reduceEqDiff, Nat.reduceLeDiff, Nat.reduceSub]
    refine ⟨fun h => ⟨rfl, all_take hk hall (by simpa using h)⟩, fun h => ⟨fun h2 => .inr (putI_eq hk hall h2), fun h2 => .inl ?_⟩⟩
    rw [putI_gt hall (fun _ => by omega) (by omega)]
    simp
  · rintro s ⟨rfl, hall⟩
    simp (maxSteps := 2000000) (disch := (first | omega | (simp only [List.length_append, List.length_take, List.length_replicate, List.length_map, List.length_set, List.length_cons, List.length_nil, List.length_zipWith, List.length_drop, List.length_range]; first | done | omega))) only [go_sem, Nat.reduceAdd, Nat.reduceEqDiff, Nat.reduceLeDiff, Nat.reduceSub]
    have e := putI_gt hall (fun h => by omega) (by omega)
    refine .inl ?_
    rw [e]; simp
theorem spec_l1Cur_grow_all (bs : List Int) (hl : bs.length < 2^62) (hb : ∀ x ∈ bs, 0 ≤ x ∧ x < 256) : ∀ d : Nat,
    (∀ (D a b pl at_ sd : Int), D = d → 0 ≤ pl → pl ≤ 13 → 0 ≤ at_ → at_ + growC d < 2^60 → growT d ≤ 1000 →
      Lw (C f_spec_l1Cur_grow [.ptr 0 0, .ptr 1 0, I a, I b, I D] [.box t_spec_l1Cur [bys bs, I at_, .int .u64 sd], .box t_impl_Net [I pl, .nil false 3]]) fun r => ∃ (pl' : Int) (tr' : List Tr) (at' sd' : Int), r = (.tup [], [.box t_spec_l1Cur [bys bs, I at', .int .u64 sd'], .box t_impl_Net [I pl', .ref 2 3 0 tr'.length], .row t_impl_Trans false 3 (tr'.map encT)]) ∧ pl ≤ pl' ∧ pl' ≤ 13 ∧ 0 < tr'.length ∧ tr'.length ≤ growT d ∧ smq 10 tr' ∧ at_ ≤ at' ∧ at' ≤ at_ + growC d) ∧
    (∀ (D a b pl at_ sd : Int) (tr : List Tr), D = d → 0 ≤ pl → pl ≤ 13 → 0 ≤ at_ → at_ + growC d < 2^60 → tr.length + growT d ≤ 1000 → smq 10 tr →
      Lw (C f_spec_l1Cur_grow [.ptr 0 0, .ptr 1 0, I a, I b, I D] [.box t_spec_l1Cur [bys bs, I at_, .int .u64 sd], .box t_impl_Net [I pl, .ref 2 3 0 tr.length], .row t_impl_Trans false 3 (tr.map encT)]) fun r => ∃ (pl' : Int) (tr' : List Tr) (at' sd' : Int), r = (.tup [], [.box t_spec_l1Cur [bys bs, I at', .int .u64 sd'], .box t_impl_Net [I pl', .ref 3 3 0 tr'.length], .dead, .row t_impl_Trans false 3 (tr'.map encT)]) ∧ pl ≤ pl' ∧ pl' ≤ 13 ∧ tr.length < tr'.length ∧ tr'.length ≤ tr.length + growT d ∧ smq 10 tr' ∧ at_ ≤ at' ∧ at' ≤ at_ + growC d) := by
  intro d
  induction d with
  | zero =>
    have c0 : growT 0 = 1 := rfl
    refine ⟨fun D a b pl at_ sd hD h1 h2 h3 h4 h5 => ?_, fun D a b pl at_ sd tr hD h1 h2 h3 h4 h5 h6 => ?_⟩
    · obtain rfl : D = 0 := by omega
      refine E_spec_l1Cur_grow ?_
      simp (maxSteps := 2000000) (disch := (first | omega | (simp only [List.length_append, List.length_take, List.length_replicate, List.length_map, List.length_set, List.length_cons, List.length_nil, List.length_zipWith, List.length_drop, List.length_range]; first | done | omega))) only [ir_spec_l1Cur_grow, go_sem, Nat.reduceAdd, Nat.reduceEqDiff, Nat.reduceLeDiff, Nat.reduceSub]
      exact ⟨pl, [⟨[a], [b], []⟩], at_, sd, by simp, by omega, by omega, by simp, by simp only [List.length_append, List.length_cons, List.length_nil]; omega, smq_snoc smq_nil (by simp), by omega, by omega⟩
    · obtain rfl : D = 0 := by omega
      refine E_spec_l1Cur_grow ?_
      simp (maxSteps := 2000000) (disch := (first | omega | (simp only [List.length_append, List.length_take, List.length_replicate, List.length_map, List.length_set, List.length_cons, List.length_nil, List.length_zipWith, List.length_drop, List.length_range]; first | done | omega))) only [ir_spec_l1Cur_grow, go_sem, Nat.reduceAdd, Nat.reduceEqDiff, Nat.reduceLeDiff, Nat.reduceSub]
      exact ⟨pl, tr ++ [⟨[a], [b], []⟩], at_, sd, by rw [List.map_append]; simp, by omega, by omega, by simp, by simp only [List.length_append, List.length_cons, List.length_nil]; omega, smq_snoc h6 (by simp), by omega, by omega⟩
  | succ d ih =>
    obtain ⟨ih1, ih2⟩ := ih
    have c1 : growC (d + 1) = 2 + 2 * growC d := rfl
    have c0 : growT (d + 1) = 2 + 2 * growT d := rfl
    refine ⟨fun D a b pl at_ sd hD h1 h2 h3 h4 h5 => ?_, fun D a b pl at_ sd tr hD h1 h2 h3 h4 h5 h6 => ?_⟩
    · have hD0 : ¬ D = 0 := by omega
      have hDT := growT_ge d
      have hD1 : D ≤ 1000 := by omega
      refine E_spec_l1Cur_grow ?_
      simp (maxSteps := 2000000) (disch := (first | omega | (simp only [List.length_append, List.length_take, List.length_replicate, List.length_map, List.length_set, List.length_cons, List.length_nil, List.length_zipWith, List.length_drop, List.length_range]; first | done | omega))) only [ir_spec_l1Cur_grow, go_sem, Nat.reduceAdd, Nat.reduceEqDiff, Nat.reduceLeDiff, Nat.reduceSub]
      refine ⟨fun h => ⟨pl, [⟨[a], [b], []⟩], at_, sd, by simp, by omega, by omega, by simp, by simp only [List.length_append, List.length_cons, List.length_nil]; omega, smq_snoc smq_nil (by simp), by omega, by omega⟩, fun hp9 => ?_⟩
      obtain ⟨_, e1, x1, a1, s1, rfl, h7, h8, h9, h10⟩ := spec_l1Cur_pick_ok 5 bs at_ sd (by omega) (by omega) hl hb
      obtain ⟨_, fA, pA, tA, aA, sA, rfl, kA1, kA2, kA3, kA4, kA5, kA6, kA7⟩ := ih1 (D - 1) a pl (pl + 1) a1 s1 (by omega) (by omega) (by omega) (by omega) (by omega) (by omega)
      obtain ⟨_, gA, pA', tA', aA', sA', rfl, lA1, lA2, lA3, lA4, lA5, lA6, lA7⟩ := ih2 (D - 1) pl b pA aA sA tA (by omega) (by omega) (by omega) (by omega) (by omega) (by omega) kA5
      obtain ⟨_, fB, pB, tB, aB, sB, rfl, kB1, kB2, kB3, kB4, kB5, kB6, kB7⟩ := ih1 (D - 1) a b pl a1 s1 (by omega) (by omega) (by omega) (by omega) (by omega) (by omega)
      obtain ⟨_, gB, pB', tB', aB', sB', rfl, lB1, lB2, lB3, lB4, lB5, lB6, lB7⟩ := ih2 (D - 1) a b pB aB sB tB (by omega) (by omega) (by omega) (by omega) (by omega) (by omega) kB5
      obtain ⟨_, fC, pC, tC, aC, sC, rfl, kC1, kC2, kC3, kC4, kC5, kC6, kC7⟩ := ih2 (D - 1) pl (pl + 2) (pl + 4) a1 s1 ([] ++ [⟨[a], [pl, pl + 1], []⟩, ⟨[pl + 2, pl + 3], [b], []⟩]) (by omega) (by omega) (by omega) (by omega) (by omega) (by simp only [List.length_append, List.length_cons, List.length_nil]; omega) (by have := smq_snoc (q := 10) (smq_snoc (q := 10) smq_nil (t := ⟨[a], [pl, pl + 1], []⟩) (by simp)) (t := ⟨[pl + 2, pl + 3], [b], []⟩) (by simp); simpa using this)
      obtain ⟨_, gC, pC', tC', aC', sC', rfl, lC1, lC2, lC3, lC4, lC5, lC6, lC7⟩ := ih2 (D - 1) (pl + 1) (pl + 3) pC aC sC tC (by omega) (by omega) (by omega) (by omega) (by omega) (by simp only [List.length_append, List.length_cons, List.length_nil] at kC4; omega) kC5
      obtain ⟨_, fE, pE, tE, aE, sE, rfl, kE1, kE2, kE3, kE4, kE5, kE6, kE7⟩ := ih2 (D - 1) pl (pl + 1) (pl + 2) a1 s1 ([] ++ [⟨[a], [pl], []⟩, ⟨[pl + 1], [b], []⟩]) (by omega) (by omega) (by omega) (by omega) (by omega) (by simp only [List.length_append, List.length_cons, List.length_nil]; omega) (by have := smq_snoc (q := 10) (smq_snoc (q := 10) smq_nil (t := ⟨[a], [pl], []⟩) (by simp)) (t := ⟨[pl + 1], [b], []⟩) (by simp); simpa using this)
      obtain ⟨_, gE, pE', tE', aE', sE', rfl, lE1, lE2, lE3, lE4, lE5, lE6, lE7⟩ := ih2 (D - 1) (pl + 1) pl pE aE sE tE (by omega) (by omega) (by omega) (by omega) (by omega) (by simp only [List.length_append, List.length_cons, List.length_nil] at kE4; omega) kE5
      simp only [List.length_append, List.length_cons, List.length_nil] at kC3 kC4 kE3 kE4
      simp only [encT, ints, List.map_append, List.map_cons, List.map_nil, List.length_append, List.length_cons, List.length_nil, List.nil_append, Nat.reduceAdd, Nat.zero_add] at fC fE
      simp (maxSteps := 2000000) (disch := (first | omega | (simp only [List.length_append, List.length_take, List.length_replicate, List.length_map, List.length_set, List.length_cons, List.length_nil, List.length_zipWith, List.length_drop, List.length_range]; first | done | omega))) only [go_sem, Nat.reduceAdd, Nat.reduceEqDiff, Nat.reduceLeDiff, Nat.reduceSub, e1, fA, gA, fB, gB, fC, gC, fE, gE, spec_l1Put_nil]
      exact ⟨fun _ => ⟨pA', tA', aA', sA', rfl, by omega, by omega, by omega, by omega, lA5, by omega, by omega⟩, fun _ => ⟨fun _ => ⟨pA', tA', aA', sA', rfl, by omega, by omega, by omega, by omega, lA5, by omega, by omega⟩, fun _ => ⟨fun _ => ⟨pB', tB', aB', sB', rfl, by omega, by omega, by omega, by omega, lB5, by omega, by omega⟩, fun _ => ⟨fun _ => ⟨rfl, ⟨pC', tC', aC', sC', rfl, by omega, by omega, by omega, by omega, lC5, by omega, by omega⟩⟩, fun _ => ⟨pE', tE', aE', sE', rfl, by omega, by omega, by omega, by omega, lE5, by omega, by omega⟩⟩⟩⟩⟩

    · have hD0 : ¬ D = 0 := by omega
      have hDT := growT_ge d
      have hD1 : D ≤ 1000 := by omega
      refine E_spec_l1Cur_grow ?_
      simp (maxSteps := 2000000) (disch := (first | omega | (simp only [List.length_append, List.length_take, List.length_replicate, List.length_map, List.length_set, List.length_cons, List.length_nil, List.length_zipWith, List.length_drop, List.length_range]; first | done | omega))) only [ir_spec_l1Cur_grow, go_sem, Nat.reduceAdd, Nat.reduceEqDiff, Nat.reduceLeDiff, Nat.reduceSub]
      refine ⟨fun h => ⟨pl, tr ++ [⟨[a], [b], []⟩], at_, sd, by rw [List.map_append]; simp, by omega, by omega, by simp, by simp only [List.length_append, List.length_cons, List.length_nil]; omega, smq_snoc h6 (by simp), by omega, by omega⟩, fun hp9 => ⟨fun h => ⟨pl, tr ++ [⟨[a], [b], []⟩], at_, sd, by rw [List.map_append]; simp, by omega, by omega, by simp, by simp only [List.length_append, List.length_cons, List.length_nil]; omega, smq_snoc h6 (by simp), by omega, by omega⟩, fun hp12 => ?_⟩⟩
      obtain ⟨_, e1, x1, a1, s1, rfl, h7, h8, h9, h10⟩ := spec_l1Cur_pick_ok 5 bs at_ sd (by omega) (by omega) hl hb
      obtain ⟨_, fA, pA, tA, aA, sA, rfl, kA1, kA2, kA3, kA4, kA5, kA6, kA7⟩ := ih2 (D - 1) a pl (pl + 1) a1 s1 tr (by omega) (by omega) (by omega) (by omega) (by omega) (by omega) h6
      obtain ⟨_, gA, pA', tA', aA', sA', rfl, lA1, lA2, lA3, lA4, lA5, lA6, lA7⟩ := ih2 (D - 1) pl b pA aA sA tA (by omega) (by omega) (by omega) (by omega) (by omega) (by omega) kA5
      obtain ⟨_, fB, pB, tB, aB, sB, rfl, kB1, kB2, kB3, kB4, kB5, kB6, kB7⟩ := ih2 (D - 1) a b pl a1 s1 tr (by omega) (by omega) (by omega) (by omega) (by omega) (by omega) h6
      obtain ⟨_, gB, pB', tB', aB', sB', rfl, lB1, lB2, lB3, lB4, lB5, lB6, lB7⟩ := ih2 (D - 1) a b pB aB sB tB (by omega) (by omega) (by omega) (by omega) (by omega) (by omega) kB5
      obtain ⟨_, fC, pC, tC, aC, sC, rfl, kC1, kC2, kC3, kC4, kC5, kC6, kC7⟩ := ih2 (D - 1) pl (pl + 2) (pl + 4) a1 s1 (tr ++ [⟨[a], [pl, pl + 1], []⟩, ⟨[pl + 2, pl + 3], [b], []⟩]) (by omega) (by omega) (by omega) (by omega) (by omega) (by simp only [List.length_append, List.length_cons, List.length_nil]; omega) (by have := smq_snoc (q := 10) (smq_snoc (q := 10) h6 (t := ⟨[a], [pl, pl + 1], []⟩) (by simp)) (t := ⟨[pl + 2, pl + 3], [b], []⟩) (by simp); simpa using this)
      obtain ⟨_, gC, pC', tC', aC', sC', rfl, lC1, lC2, lC3, lC4, lC5, lC6, lC7⟩ := ih2 (D - 1) (pl + 1) (pl + 3) pC aC sC tC (by omega) (by omega) (by omega) (by omega) (by omega) (by simp only [List.length_append, List.length_cons, List.length_nil] at kC4; omega) kC5
      obtain ⟨_, fE, pE, tE, aE, sE, rfl, kE1, kE2, kE3, kE4, kE5, kE6, kE7⟩ := ih2 (D - 1) pl (pl + 1) (pl + 2) a1 s1 (tr ++ [⟨[a], [pl], []⟩, ⟨[pl + 1], [b], []⟩]) (by omega) (by omega) (by omega) (by omega) (by omega) (by simp only [List.length_append, List.length_cons, List.length_nil]; omega) (by have := smq_snoc (q := 10) (smq_snoc (q := 10) h6 (t := ⟨[a], [pl], []⟩) (by simp)) (t := ⟨[pl + 1], [b], []⟩) (by simp); simpa using this)
      obtain ⟨_, gE, pE', tE', aE', sE', rfl, lE1, lE2, lE3, lE4, lE5, lE6, lE7⟩ := ih2 (D - 1) (pl + 1) pl pE aE sE tE (by omega) (by omega) (by omega) (by omega) (by omega) (by simp only [List.length_append, List.length_cons, List.length_nil] at kE4; omega) kE5
      simp only [List.length_append, List.length_cons, List.length_nil] at kC3 kC4 kE3 kE4
      simp only [encT, ints, List.map_append, List.map_cons, List.map_nil, List.length_append, List.length_cons, List.length_nil, List.nil_append, Nat.reduceAdd, Nat.zero_add] at fC fE
      simp (maxSteps := 2000000) (disch := (first | omega | (simp only [List.length_append, List.length_take, List.length_replicate, List.length_map, List.length_set, List.length_cons, List.length_nil, List.length_zipWith, List.length_drop, List.length_range]; first | done | omega))) only [go_sem, Nat.reduceAdd, Nat.reduceEqDiff, Nat.reduceLeDiff, Nat.reduceSub, e1, fA, gA, fB, gB, fC, gC, fE, gE, spec_l1Put_nil]
      exact ⟨fun _ => ⟨pA', tA', aA', sA', rfl, by omega, by omega, by omega, by omega, lA5, by omega, by omega⟩, fun _ => ⟨fun _ => ⟨pA', tA', aA', sA', rfl, by omega, by omega, by omega, by omega, lA5, by omega, by omega⟩, fun _ => ⟨fun _ => ⟨pB', tB', aB', sB', rfl, by omega, by omega, by omega, by omega, lB5, by omega, by omega⟩, fun _ => ⟨fun _ => ⟨rfl, ⟨pC', tC', aC', sC', rfl, by omega, by omega, by omega, by omega, lC5, by omega, by omega⟩⟩, fun _ => ⟨pE', tE', aE', sE', rfl, by omega, by omega, by omega, by omega, lE5, by omega, by omega⟩⟩⟩⟩⟩
theorem spec_l1Cur_flow_ok (rs : Bool) (bs : List Int) (at_ sd : Int) (h0 : 0 ≤ at_) (h1 : at_ < 2^59) (hl : bs.length < 2^62) (hb : ∀ x ∈ bs, 0 ≤ x ∧ x < 256) :
    Lw (C f_spec_l1Cur_flow [.ptr 0 0, .bool rs] [.box t_spec_l1Cur [bys bs, I at_, .int .u64 sd]]) fun r => ∃ (f : Fl) (at' sd' : Int), r = (.agg [I f.net.pl, .un t_impl_Trans false 3 (f.net.tr.map encT), I f.src, I f.dst], [.box t_spec_l1Cur [bys bs, I at', .int .u64 sd']]) ∧ at_ ≤ at' ∧ at' ≤ at_ + 200 ∧ smNet f.net := by
  obtain ⟨_, e1, x1, a1, s1, rfl, h3, h4, h5, h6⟩ := spec_l1Cur_pick_ok 3 bs at_ sd h0 (by omega) hl hb
  obtain ⟨d, hd⟩ : ∃ d : Nat, 1 + x1 = d := ⟨(1 + x1).toNat, by omega⟩
  have hd3 := growT_le3 (d := d) (by omega)
  obtain ⟨_, e2, pl, tr, a2, s2, rfl, g1, g2, g3, g4, g5, g6, g7⟩ := (spec_l1Cur_grow_all bs hl hb d).1 (1 + x1) 0 1 2 a1 s1 hd (by omega) (by omega) (by omega) (by omega) (by omega)
  obtain ⟨_, e3, x3, a3, s3, rfl, k1, k2, k3, k4⟩ := spec_l1Cur_pick_ok tr.length bs a2 s2 (by omega) (by omega) hl hb
  obtain ⟨_, e4, x4, a4, s4, rfl, k5, k6, k7, k8⟩ := spec_l1Cur_pick_ok 9 bs a3 s3 (by omega) (by omega) hl hb
  have hx3 : x3.toNat < tr.length := by omega
  have hk := g5 _ (List.getElem_mem hx3)
  have g8 : smq 20 tr := smq_mono (by decide) g5
  have fin : ∀ (a sd : Int), a4 ≤ a → a ≤ a4 + 150 → ∃ (b : Bool) (y z : Int) (a' s' a'' s'' : Int), C f_spec_l1Cur_one [.ptr 0 0, I 30] [.box t_spec_l1Cur [bys bs, I a, .int .u64 sd]] = some (.bool b, [.box t_spec_l1Cur [bys bs, I a', .int .u64 s']]) ∧ C f_spec_l1Cur_among [.ptr 0 0, .ref 1 1 0 4] [.box t_spec_l1Cur [bys bs, I a', .int .u64 s'], .row t_int true 1 [I 0, I (-1), I 2, I 17]] = some (I z, [.box t_spec_l1Cur [bys bs, I a'', .int .u64 s''], .row t_int true 1 [I 0, I (-1), I 2, I 17]]) ∧ a ≤ a' ∧ a' ≤ a + 2 ∧ a' ≤ a'' ∧ a'' ≤ a' + 2 := by
    intro a sd ha1 ha2
    obtain ⟨_, f1, b, a', s', rfl, j1, j2⟩ := spec_l1Cur_one_ok 30 bs a sd (by omega) (by omega) hl hb
    obtain ⟨_, f2, z, a'', s'', rfl, j3, j4, j5⟩ := spec_l1Cur_among_ok [0, -1, 2, 17] t_int (by decide) (by decide) bs a' s' (by omega) (by omega) hl hb
    exact ⟨b, 0, z, a', s', a'', s'', f1, f2, j1, j2, j3, j4⟩
  refine E_spec_l1Cur_flow ?_
  simp (maxSteps := 2000000) (disch := (first | omega | (simp only [List.length_append, List.length_take, List.length_replicate, List.length_map, List.length_set, List.length_cons, List.length_nil, List.length_zipWith, List.length_drop, List.length_range]; first | done | omega))) only [ir_spec_l1Cur_flow, go_sem, Nat.reduceAdd, Nat.reduceEqDiff, Nat.reduceLeDiff, Nat.reduceSub]
  simp (maxSteps := 2000000) (disch := (first | omega | (simp only [List.length_append, List.length_take, List.length_replicate, List.length_map, List.length_set, List.length_cons, List.length_nil, List.length_zipWith, List.length_drop, List.length_range]; first | done | omega))) only [go_sem, Nat.reduceAdd, Nat.reduceEqDiff, Nat.reduceLeDiff, Nat.reduceSub, e1, e2, e3, e4]
  refine ⟨fun hx => ?_, fun hx0 => ⟨fun hx => ?_, fun hx1 => ⟨fun hx => ?_, fun hx2 => ⟨fun hx => ⟨fun hr => ?_, fun hr => ?_⟩, fun hx3' => ?_⟩⟩⟩⟩
  · obtain ⟨_, f5, x5, a5, s5, rfl, j1, j2, j3, j4⟩ := spec_l1Cur_pick_ok pl bs a4 s4 (by omega) (by omega) hl hb
    obtain ⟨_, f6, x6, a6, s6, rfl, j5, j6, j7, j8⟩ := spec_l1Cur_pick_ok pl bs a5 s5 (by omega) (by omega) hl hb
    obtain ⟨b, y, z, a', s', a'', s'', t1, t2, t3, t4, t5, t6⟩ := fin a6 s6 (by omega) (by omega)
    simp (maxSteps := 2000000) (disch := (first | omega | (simp only [List.length_append, List.length_take, List.length_replicate, List.length_map, List.length_set, List.length_cons, List.length_nil, List.length_zipWith, List.length_drop, List.length_range]; first | done | omega))) only [go_sem, Nat.reduceAdd, Nat.reduceEqDiff, Nat.reduceLeDiff, Nat.reduceSub, f5, f6, t1, t2]
    refine ⟨rfl, ?_⟩
    exact ⟨fun _ => ⟨⟨⟨pl, tr ++ [⟨[x5], [x6], []⟩]⟩, 0, z⟩, a'', s'', by simp [List.map_set]; try rfl, by omega, by omega, ⟨by simp; try omega, by simp only; omega, smq_snoc g8 (by simp)⟩⟩, fun _ => ⟨⟨⟨pl, tr ++ [⟨[x5], [x6], []⟩]⟩, 0, 1⟩, a', s', by simp [List.map_set]; try rfl, by omega, by omega, ⟨by simp; try omega, by simp only; omega, smq_snoc g8 (by simp)⟩⟩⟩
  · obtain ⟨_, f5, x5, a5, s5, rfl, j1, j2, j3, j4⟩ := spec_l1Cur_pick_ok pl bs a4 s4 (by omega) (by omega) hl hb
    obtain ⟨b, y, z, a', s', a'', s'', t1, t2, t3, t4, t5, t6⟩ := fin a5 s5 (by omega) (by omega)
    have hpl := putI_len tr[x3.toNat].out x5
    obtain ⟨_, f6, rfl | ⟨rfl, f7⟩⟩ := spec_l1Put_sl tr[x3.toNat].out x5 (by omega)
    · simp (maxSteps := 2000000) (disch := (first | omega | (simp only [List.length_append, List.length_take, List.length_replicate, List.length_map, List.length_set, List.length_cons, List.length_nil, List.length_zipWith, List.length_drop, List.length_range]; first | done | omega))) only [go_sem, Nat.reduceAdd, Nat.reduceEqDiff, Nat.reduceLeDiff, Nat.reduceSub, f5, f6, t1, t2]
      refine ⟨rfl, ?_⟩
      exact ⟨fun _ => ⟨⟨⟨pl, tr.set x3.toNat ⟨tr[x3.toNat].inn, putI tr[x3.toNat].out x5, tr[x3.toNat].rst⟩⟩, 0, z⟩, a'', s'', by simp [List.map_set]; try rfl, by omega, by omega, ⟨by simp; try omega, by simp only; omega, smq_set g8 (by simp only; omega)⟩⟩, fun _ => ⟨⟨⟨pl, tr.set x3.toNat ⟨tr[x3.toNat].inn, putI tr[x3.toNat].out x5, tr[x3.toNat].rst⟩⟩, 0, 1⟩, a', s', by simp [List.map_set]; try rfl, by omega, by omega, ⟨by simp; try omega, by simp only; omega, smq_set g8 (by simp only; omega)⟩⟩⟩
    · simp (maxSteps := 2000000) (disch := (first | omega | (simp only [List.length_append, List.length_take, List.length_replicate, List.length_map, List.length_set, List.length_cons, List.length_nil, List.length_zipWith, List.length_drop, List.length_range]; first | done | omega))) only [go_sem, Nat.reduceAdd, Nat.reduceEqDiff, Nat.reduceLeDiff, Nat.reduceSub, f5, f6, t1, t2]
      refine ⟨rfl, ?_⟩
      exact ⟨fun _ => ⟨⟨⟨pl, tr.set x3.toNat ⟨tr[x3.toNat].inn, tr[x3.toNat].out, tr[x3.toNat].rst⟩⟩, 0, z⟩, a'', s'', by simp [List.map_set]; try rfl, by omega, by omega, ⟨by simp; try omega, by simp only; omega, smq_set g8 (by simp only; omega)⟩⟩, fun _ => ⟨⟨⟨pl, tr.set x3.toNat ⟨tr[x3.toNat].inn, tr[x3.toNat].out, tr[x3.toNat].rst⟩⟩, 0, 1⟩, a', s', by simp [List.map_set]; try rfl, by omega, by omega, ⟨by simp; try omega, by simp only; omega, smq_set g8 (by simp only; omega)⟩⟩⟩
  · obtain ⟨_, f5, x5, a5, s5, rfl, j1, j2, j3, j4⟩ := spec_l1Cur_pick_ok pl bs a4 s4 (by omega) (by omega) hl hb
    obtain ⟨b, y, z, a', s', a'', s'', t1, t2, t3, t4, t5, t6⟩ := fin a5 s5 (by omega) (by omega)
    have hpl := putI_len tr[x3.toNat].inn x5
    obtain ⟨_, f6, rfl | ⟨rfl, f7⟩⟩ := spec_l1Put_sl tr[x3.toNat].inn x5 (by omega)
    · simp (maxSteps := 2000000) (disch := (first | omega | (simp only [List.length_append, List.length_take, List.length_replicate, List.length_map, List.length_set, List.length_cons, List.length_nil, List.length_zipWith, List.length_drop, List.length_range]; first | done | omega))) only [go_sem, Nat.reduceAdd, Nat.reduceEqDiff, Nat.reduceLeDiff, Nat.reduceSub, f5, f6, t1, t2]
      refine ⟨rfl, ?_⟩
      exact ⟨fun _ => ⟨⟨⟨pl, tr.set x3.toNat ⟨putI tr[x3.toNat].inn x5, tr[x3.toNat].out, tr[x3.toNat].rst⟩⟩, 0, z⟩, a'', s'', by simp [List.map_set]; try rfl, by omega, by omega, ⟨by simp; try omega, by simp only; omega, smq_set g8 (by simp only; omega)⟩⟩, fun _ => ⟨⟨⟨pl, tr.set x3.toNat ⟨putI tr[x3.toNat].inn x5, tr[x3.toNat].out, tr[x3.toNat].rst⟩⟩, 0, 1⟩, a', s', by simp [List.map_set]; try rfl, by omega, by omega, ⟨by simp; try omega, by simp only; omega, smq_set g8 (by simp only; omega)⟩⟩⟩
    · simp (maxSteps := 2000000) (disch := (first | omega | (simp only [List.length_append, List.length_take, List.length_replicate, List.length_map, List.length_set, List.length_cons, List.length_nil, List.length_zipWith, List.length_drop, List.length_range]; first | done | omega))) only [go_sem, Nat.reduceAdd, Nat.reduceEqDiff, Nat.reduceLeDiff, Nat.reduceSub, f5, f6, t1, t2]
      refine ⟨rfl, ?_⟩
      exact ⟨fun _ => ⟨⟨⟨pl, tr.set x3.toNat ⟨tr[x3.toNat].inn, tr[x3.toNat].out, tr[x3.toNat].rst⟩⟩, 0, z⟩, a'', s'', by simp [List.map_set]; try rfl, by omega, by omega, ⟨by simp; try omega, by simp only; omega, smq_set g8 (by simp only; omega)⟩⟩, fun _ => ⟨⟨⟨pl, tr.set x3.toNat ⟨tr[x3.toNat].inn, tr[x3.toNat].out, tr[x3.toNat].rst⟩⟩, 0, 1⟩, a', s', by simp [List.map_set]; try rfl, by omega, by omega, ⟨by simp; try omega, by simp only; omega, smq_set g8 (by simp only; omega)⟩⟩⟩
  · obtain ⟨_, f5, l5, a5, s5, rfl, j1, j2, j3, j4⟩ := spec_l1Cur_someOf_ok pl 1 2 (by omega) bs a4 s4 (by omega) (by omega) hl hb
    obtain ⟨b, y, z, a', s', a'', s'', t1, t2, t3, t4, t5, t6⟩ := fin a5 s5 (by omega) (by omega)
    simp (maxSteps := 2000000) (disch := (first | omega | (simp only [List.length_append, List.length_take, List.length_replicate, List.length_map, List.length_set, List.length_cons, List.length_nil, List.length_zipWith, List.length_drop, List.length_range]; first | done | omega))) only [go_sem, Nat.reduceAdd, Nat.reduceEqDiff, Nat.reduceLeDiff, Nat.reduceSub, f5, t1, t2]
    exact ⟨fun _ => ⟨⟨⟨pl, tr.set x3.toNat ⟨tr[x3.toNat].inn, tr[x3.toNat].out, l5⟩⟩, 0, z⟩, a'', s'', by simp [List.map_set]; try rfl, by omega, by omega, ⟨by simp; try omega, by simp only; omega, smq_set g8 (by simp only; omega)⟩⟩, fun _ => ⟨⟨⟨pl, tr.set x3.toNat ⟨tr[x3.toNat].inn, tr[x3.toNat].out, l5⟩⟩, 0, 1⟩, a', s', by simp [List.map_set]; try rfl, by omega, by omega, ⟨by simp; try omega, by simp only; omega, smq_set g8 (by simp only; omega)⟩⟩⟩
  · obtain ⟨b, y, z, a', s', a'', s'', t1, t2, t3, t4, t5, t6⟩ := fin a4 s4 (by omega) (by omega)
    simp (maxSteps := 2000000) (disch := (first | omega | (simp only [List.length_append, List.length_take, List.length_replicate, List.length_map, List.length_set, List.length_cons, List.length_nil, List.length_zipWith, List.length_drop, List.length_range]; first | done | omega))) only [go_sem, Nat.reduceAdd, Nat.reduceEqDiff, Nat.reduceLeDiff, Nat.reduceSub, t1, t2]
    exact ⟨fun _ => ⟨⟨⟨pl, tr⟩, 0, z⟩, a'', s'', by simp [List.map_set]; try rfl, by omega, by omega, ⟨by simp; try omega, by simp only; omega, g8⟩⟩, fun _ => ⟨⟨⟨pl, tr⟩, 0, 1⟩, a', s', by simp [List.map_set]; try rfl, by omega, by omega, ⟨by simp; try omega, by simp only; omega, g8⟩⟩⟩
  · obtain ⟨b, y, z, a', s', a'', s'', t1, t2, t3, t4, t5, t6⟩ := fin a4 s4 (by omega) (by omega)
    simp (maxSteps := 2000000) (disch := (first | omega | (simp only [List.length_append, List.length_take, List.length_replicate, List.length_map, List.length_set, List.length_cons, List.length_nil, List.length_zipWith, List.length_drop, List.length_range]; first | done | omega))) only [go_sem, Nat.reduceAdd, Nat.reduceEqDiff, Nat.reduceLeDiff, Nat.reduceSub, t1, t2]
    exact ⟨fun _ => ⟨⟨⟨pl, tr⟩, 0, z⟩, a'', s'', by simp [List.map_set]; try rfl, by omega, by omega, ⟨by simp; try omega, by simp only; omega, g8⟩⟩, fun _ => ⟨⟨⟨pl, tr⟩, 0, 1⟩, a', s', by simp [List.map_set]; try rfl, by omega, by omega, ⟨by simp; try omega, by simp only; omega, g8⟩⟩⟩
theorem spec_l1Cur_kept_ok (bs : List Int) (at_ sd : Int) (h0 : 0 ≤ at_) (h1 : at_ < 2^58) (hl : bs.length < 2^62) (hb : ∀ x ∈ bs, 0 ≤ x ∧ x < 256) :
    Lw (C f_spec_l1Cur_kept [.ptr 0 0] [.box t_spec_l1Cur [bys bs, I at_, .int .u64 sd]]) fun r => ∃ (n : Net) (at' sd' : Int), r = (.agg [I n.pl, .un t_impl_Trans false 3 (n.tr.map encT)], [.box t_spec_l1Cur [bys bs, I at', .int .u64 sd']]) ∧ at_ ≤ at' ∧ at' ≤ at_ + 4000 ∧ smNet n := by
  obtain ⟨_, e1, b1, a1, s1, rfl, h3, h4⟩ := spec_l1Cur_one_ok 20 bs at_ sd h0 (by omega) hl hb
  obtain ⟨_, e2, n, a2, s2, rfl, h5, h6, g3⟩ := spec_l1Cur_net_ok b1 bs a1 s1 (by omega) (by omega) hl hb
  obtain ⟨_, e3, b2, a3, s3, rfl, h7, h8⟩ := spec_l1Cur_one_ok 2 bs a2 s2 (by omega) (by omega) hl hb
  have fin : ∀ (a sd : Int), a3 ≤ a → a ≤ a3 + 2000 → ∃ (b : Bool) (a' s' : Int) (f : Fl) (a'' s'' : Int), C f_spec_l1Cur_one [.ptr 0 0, I 3] [.box t_spec_l1Cur [bys bs, I a, .int .u64 sd]] = some (.bool b, [.box t_spec_l1Cur [bys bs, I a', .int .u64 s']]) ∧ C f_spec_l1Cur_flow [.ptr 0 0, .bool false] [.box t_spec_l1Cur [bys bs, I a', .int .u64 s']] = some (.agg [I f.net.pl, .un t_impl_Trans false 3 (f.net.tr.map encT), I f.src, I f.dst], [.box t_spec_l1Cur [bys bs, I a'', .int .u64 s'']]) ∧ a ≤ a' ∧ a' ≤ a + 2 ∧ a' ≤ a'' ∧ a'' ≤ a' + 200 ∧ smNet f.net := by
    intro a sd ha1 ha2
    obtain ⟨_, f1, b, a', s', rfl, j1, j2⟩ := spec_l1Cur_one_ok 3 bs a sd (by omega) (by omega) hl hb
    obtain ⟨_, f2, f, a'', s'', rfl, j3, j4, j5⟩ := spec_l1Cur_flow_ok false bs a' s' (by omega) (by omega) hl hb
    exact ⟨b, a', s', f, a'', s'', f1, f2, j1, j2, j3, j4, j5⟩
  have hn30 := g3.1
  cases b1
  all_goals
    cases b2 with
    | false =>
      obtain ⟨b, a', s', f, a'', s'', t1, t2, t3, t4, t5, t6, t7⟩ := fin a3 s3 (by omega) (by omega)
      refine E_spec_l1Cur_kept ?_
      simp (maxSteps := 2000000) (disch := (first | omega | (simp only [List.length_append, List.length_take, List.length_replicate, List.length_map, List.length_set, List.length_cons, List.length_nil, List.length_zipWith, List.length_drop, List.length_range]; first | done | omega))) only [ir_spec_l1Cur_kept, go_sem, Nat.reduceAdd, Nat.reduceEqDiff, Nat.reduceLeDiff, Nat.reduceSub]
      simp (maxSteps := 2000000) (disch := (first | omega | (simp only [List.length_append, List.length_take, List.length_replicate, List.length_map, List.length_set, List.length_cons, List.length_nil, List.length_zipWith, List.length_drop, List.length_range]; first | done | omega))) only [go_sem, Nat.reduceAdd, Nat.reduceEqDiff, Nat.reduceLeDiff, Nat.reduceSub, e1, e2, e3, t1, t2]
      exact ⟨fun _ => ⟨f.net, a'', s'', rfl, by omega, by omega, t7⟩, fun _ => ⟨n, a', s', rfl, by omega, by omega, g3⟩⟩
    | true =>
      refine E_spec_l1Cur_kept ?_
      simp (maxSteps := 2000000) (disch := (first | omega | (simp only [List.length_append, List.length_take, List.length_replicate, List.length_map, List.length_set, List.length_cons, List.length_nil, List.length_zipWith, List.length_drop, List.length_range]; first | done | omega))) only [ir_spec_l1Cur_kept, go_sem, Nat.reduceAdd, Nat.reduceEqDiff, Nat.reduceLeDiff, Nat.reduceSub]
      simp (maxSteps := 2000000) (disch := (first | omega | (simp only [List.length_append, List.length_take, List.length_replicate, List.length_map, List.length_set, List.length_cons, List.length_nil, List.length_zipWith, List.length_drop, List.length_range]; first | done | omega))) only [go_sem, Nat.reduceAdd, Nat.reduceEqDiff, Nat.reduceLeDiff, Nat.reduceSub, e1, e2, e3]
      refine W_for n.tr.length (fun k s => ∃ (tr : List Tr) (a sd : Int), s = ⟨[.ptr 0 0, .ptr 1 0, .ptr 2 0, .any, .any, .any, .ref 3 3 0 n.tr.length, I n.tr.length, I k, .any, .any], [.box t_spec_l1Cur [bys bs, I a, .int .u64 sd], .box t_impl_Net [I 0, .nil false 3], .box t_impl_Net [I n.pl, .ref 3 3 0 n.tr.length], .row t_impl_Trans false 3 (tr.map encT)]⟩ ∧ tr.length = n.tr.length ∧ a3 ≤ a ∧ a ≤ a3 + 50 * k ∧ smq 20 tr) ?_ ?_ ?_
      · refine ⟨n.tr, a3, s3, ?_, rfl, by omega, by omega, g3.2.2⟩
        simp (maxSteps := 2000000) (disch := (first | omega | (simp only [List.length_append, List.length_take, List.length_replicate, List.length_map, List.length_set, List.length_cons, List.length_nil, List.length_zipWith, List.length_drop, List.length_range]; first | done | omega))) only [go_sem, Nat.reduceAdd, Nat.reduceEqDiff, Nat.reduceLeDiff, Nat.reduceSub]
        rfl
      · rintro k s hk ⟨tr, a, sd, rfl, hl2, ha1, ha2, hq⟩
        have hk2 : k < tr.length := by omega
        have hqk := hq _ (List.getElem_mem hk2)
        obtain ⟨_, k1, l5, a5, s5, rfl, k2, k3, k4, k5⟩ := spec_l1Cur_someOf_ok (max 2 n.pl) 1 1 (by omega) bs a sd (by omega) (by omega) hl hb
        simp (maxSteps := 2000000) (disch := (first | omega | (simp only [List.length_append, List.length_take, List.length_replicate, List.length_map, List.length_set, List.length_cons, List.length_nil, List.length_zipWith, List.length_drop, List.length_range]; first | done | omega))) only [go_sem, Nat.reduceAdd, Nat.reduceEqDiff, Nat.reduceLeDiff, Nat.reduceSub, spec_l1Most_ok, k1, spec_l1Least_ok, List.getElem_set_self, List.set_set]
        refine ⟨tr.set k ⟨tr[k].inn.take (min 1 (tr[k].inn.length : Int)).toNat, l5, tr[k].rst⟩, a5, s5, ?_, by simpa using hl2, by omega, by omega, smq_set hq ⟨by simp only [List.length_take]; omega, by simp only; omega, hqk.2.2⟩⟩
        simp [List.map_set, List.map_take, encT, ints]
      · rintro s ⟨tr, a, sd, rfl, hl2, ha1, ha2, hq⟩
        obtain ⟨b, a', s', f, a'', s'', t1, t2, t3, t4, t5, t6, t7⟩ := fin a sd (by omega) (by omega)
        simp (maxSteps := 2000000) (disch := (first | omega | (simp only [List.length_append, List.length_take, List.length_replicate, List.length_map, List.length_set, List.length_cons, List.length_nil, List.length_zipWith, List.length_drop, List.length_range]; first | done | omega))) only [go_sem, Nat.reduceAdd, Nat.reduceEqDiff, Nat.reduceLeDiff, Nat.reduceSub, t1, t2]
        exact ⟨fun _ => ⟨f.net, a'', s'', rfl, by omega, by omega, t7⟩, fun _ => ⟨⟨n.pl, tr⟩, a', s', by simp [hl2], by omega, by omega, ⟨by simp only; omega, g3.2.1, hq⟩⟩⟩
theorem spec_l1Cur_markOf_ok (n : Net) (hn : n.pl ≤ 20) (bs : List Int) (at_ sd : Int) (h0 : 0 ≤ at_) (h1 : at_ < 2^59) (hl : bs.length < 2^62) (hb : ∀ x ∈ bs, 0 ≤ x ∧ x < 256) :
    Lw (C f_spec_l1Cur_markOf [.ptr 0 0, .agg [I n.pl, .ref 1 3 0 n.tr.length]] [.box t_spec_l1Cur [bys bs, I at_, .int .u64 sd], .row t_impl_Trans false 3 (n.tr.map encT)]) fun r => ∃ (l : List Int) (at' sd' : Int), r = (.un t_int true 1 (l.map I), [.box t_spec_l1Cur [bys bs, I at', .int .u64 sd'], .row t_impl_Trans false 3 (n.tr.map encT)]) ∧ at_ ≤ at' ∧ at' ≤ at_ + 100 ∧ l.length ≤ 20 ∧ ∀ x ∈ l, -1 ≤ x ∧ x ≤ 51 := by
  refine E_spec_l1Cur_markOf ?_
  simp (maxSteps := 2000000) (disch := (first | omega | (simp only [List.length_append, List.length_take, List.length_replicate, List.length_map, List.length_set, List.length_cons, List.length_nil, List.length_zipWith, List.length_drop, List.length_range]; first | done | omega))) only [ir_spec_l1Cur_markOf, go_sem, Nat.reduceAdd, Nat.reduceEqDiff, Nat.reduceLeDiff, Nat.reduceSub]
  refine W_for n.pl.toNat (fun k s => ∃ (l : List Int) (at' sd' : Int), s = ⟨[.ptr 0 0, .any, .ptr 2 0, .any, .ref 3 1 0 l.length, I k, .any, .any], [.box t_spec_l1Cur [bys bs, I at', .int .u64 sd'], .row t_impl_Trans false 3 (n.tr.map encT), .box t_impl_Net [I n.pl, .ref 1 3 0 n.tr.length], .row t_int true 1 (l.map I)]⟩ ∧ l.length = k ∧ at_ ≤ at' ∧ at' ≤ at_ + 2 * k ∧ ∀ x ∈ l, 0 ≤ x ∧ x ≤ 3) ?_ ?_ ?_
  · refine ⟨[], at_, sd, ?_, rfl, by omega, by omega, by simp⟩
    simp (maxSteps := 2000000) (disch := (first | omega | (simp only [List.length_append, List.length_take, List.length_replicate, List.length_map, List.length_set, List.length_cons, List.length_nil, List.length_zipWith, List.length_drop, List.length_range]; first | done | omega))) only [go_sem, Nat.reduceAdd, Nat.reduceEqDiff, Nat.reduceLeDiff, Nat.reduceSub]
    rfl
  · rintro k s hk ⟨l, a, sd, rfl, rfl, h8, h9, h10⟩
    obtain ⟨_, e2, x2, a2, s2, rfl, h11, h12, h13, h14⟩ := spec_l1Cur_pick_ok 4 bs a sd (by omega) (by omega) hl hb
    simp (maxSteps := 2000000) (disch := (first | omega | (simp only [List.length_append, List.length_take, List.length_replicate, List.length_map, List.length_set, List.length_cons, List.length_nil, List.length_zipWith, List.length_drop, List.length_range]; first | done | omega))) only [go_sem, Nat.reduceAdd, Nat.reduceEqDiff, Nat.reduceLeDiff, Nat.reduceSub, e2, spec_l1Most_ok]
    refine ⟨l ++ [max 0 (x2 - 1)], a2, s2, by rw [List.map_append]; simp, by simp, by omega, by omega, ?_⟩
    intro x hx
    rcases List.mem_append.1 hx with hx | hx
    · exact h10 x hx
    · simp only [List.mem_cons, List.not_mem_nil, or_false] at hx; omega
  · rintro s ⟨l, a, sd, rfl, h7, h8, h9, h10⟩
    obtain ⟨_, e1, x1, a1, s1, rfl, h5, h6⟩ := spec_l1Cur_one_ok 30 bs a sd (by omega) (by omega) hl hb
    simp (maxSteps := 2000000) (disch := (first | omega | (simp only [List.length_append, List.length_take, List.length_replicate, List.length_map, List.length_set, List.length_cons, List.length_nil, List.length_zipWith, List.length_drop, List.length_range]; first | done | omega))) only [go_sem, Nat.reduceAdd, Nat.reduceEqDiff, Nat.reduceLeDiff, Nat.reduceSub, e1]
    obtain ⟨_, e3, x3, a3, s3, rfl, h11, h12, h13⟩ := spec_l1Cur_among_ok [50, 51, -1] t_int (by decide) (by decide) bs a1 s1 (by omega) (by omega) hl hb
    simp only [go_sem, Nat.reduceAdd] at e3
    simp (maxSteps := 2000000) (disch := (first | omega | (simp only [List.length_append, List.length_take, List.length_replicate, List.length_map, List.length_set, List.length_cons, List.length_nil, List.length_zipWith, List.length_drop, List.length_range]; first | done | omega))) only [go_sem, Nat.reduceAdd, Nat.reduceEqDiff, Nat.reduceLeDiff, Nat.reduceSub, e3]
    simp only [List.mem_cons, List.not_mem_nil, or_false] at h13
    refine ⟨fun h => ⟨fun h2 => ?_, fun h2 => ?_⟩, fun h => ?_⟩
    · simp (maxSteps := 2000000) (disch := (first | omega | (simp only [List.length_append, List.length_take, List.length_replicate, List.length_map, List.length_set, List.length_cons, List.length_nil, List.length_zipWith, List.length_drop, List.length_range]; first | done | omega))) only [go_sem, Nat.reduceAdd, Nat.reduceEqDiff, Nat.reduceLeDiff, Nat.reduceSub]
      refine ⟨l.set 0 x3, a3, s3, rfl, by omega, by omega, by simp; omega, fun x hx => ?_⟩
      rcases List.mem_or_eq_of_mem_set hx with hx | rfl
      · have := h10 x hx; omega
      · omega
    · exact ⟨l, a1, s1, rfl, by omega, by omega, by omega, fun x hx => by have := h10 x hx; omega⟩
    · exact ⟨l, a1, s1, rfl, by omega, by omega, by omega, fun x hx => by have := h10 x hx; omega⟩
theorem spec_DrawIsGuarded_ok (bs : List Int) (hl : bs.length < 2^62) (hb : ∀ x ∈ bs, 0 ≤ x ∧ x < 256) :
    Lw (C f_spec_DrawIsGuarded [bys bs] []) fun r => ∃ (n : Net) (m : List Int), r = (.tup [.agg [I n.pl, .un t_impl_Trans false 3 (n.tr.map encT)], .un t_int true 1 (m.map I)], []) ∧ smNet n ∧ m.length ≤ 20 := by
  obtain ⟨_, e1, n, a1, s1, rfl, h3, h4, h5⟩ := spec_l1Cur_kept_ok bs 0 0 (by omega) (by omega) hl hb
  obtain ⟨_, e3, m, a3, s3, rfl, h9, h10, h11, h12⟩ := spec_l1Cur_markOf_ok n h5.2.1 bs a1 s1 (by omega) (by omega) hl hb
  refine E_spec_DrawIsGuarded ?_
  simp (maxSteps := 2000000) (disch := (first | omega | (simp only [List.length_append, List.length_take, List.length_replicate, List.length_map, List.length_set, List.length_cons, List.length_nil, List.length_zipWith, List.length_drop, List.length_range]; first | done | omega))) only [ir_spec_DrawIsGuarded, go_sem, Nat.reduceAdd, Nat.reduceEqDiff, Nat.reduceLeDiff, Nat.reduceSub]
  simp (maxSteps := 2000000) (disch := (first | omega | (simp only [List.length_append, List.length_take, List.length_replicate, List.length_map, List.length_set, List.length_cons, List.length_nil, List.length_zipWith, List.length_drop, List.length_range]; first | done | omega))) only [go_sem, Nat.reduceAdd, Nat.reduceEqDiff, Nat.reduceLeDiff, Nat.reduceSub, e1, e3]
  refine ⟨rfl, ?_⟩
  exact ⟨n, m, rfl, h5, h11⟩
theorem impl_within_ok (n lo hi : Int) : C f_impl_within [I n, I lo, I hi] [] = some (.bool (inB lo hi n), []) := by
  refine C_impl_within ?_
  simp (maxSteps := 2000000) (disch := (first | omega | (simp only [List.length_append, List.length_take, List.length_replicate, List.length_map, List.length_set, List.length_cons, List.length_nil, List.length_zipWith, List.length_drop, List.length_range]; first | done | omega))) only [ir_impl_within, go_sem, Nat.reduceAdd, Nat.reduceEqDiff, Nat.reduceLeDiff, Nat.reduceSub]
  unfold inB; grind
theorem impl_increasing_ok (l : List Int) (hl : l.length < 2^62) : C f_impl_increasing [ints l] [] = some (.bool (incr l), []) := by
  refine C_impl_increasing ?_
  simp (maxSteps := 2000000) (disch := (first | omega | (simp only [List.length_append, List.length_take, List.length_replicate, List.length_map, List.length_set, List.length_cons, List.length_nil, List.length_zipWith, List.length_drop, List.length_range]; first | done | omega))) only [ir_impl_increasing, go_sem, Nat.reduceAdd, Nat.reduceEqDiff, Nat.reduceLeDiff, Nat.reduceSub]
  refine W_for (l.length - 1) (fun k s => s = ⟨[ints l, .any, I (k + 1 : Int), .any, .any], []⟩ ∧ (l.take (k + 1)).Pairwise (· < ·)) ?_ ?_ ?_
  · simp (maxSteps := 2000000) (disch := (first | omega | (simp only [List.length_append, List.length_take, List.length_replicate, List.length_map, List.length_set, List.length_cons, List.length_nil, List.length_zipWith, List.length_drop, List.length_range]; first | done | omega))) only [go_sem, Nat.reduceAdd, Nat.reduceEqDiff, Nat.reduceLeDiff, Nat.reduceSub]
    exact ⟨rfl, incr_one⟩
  · rintro k s hk ⟨rfl, hp⟩
    simp (maxSteps := 2000000) (disch := (first | omega | (simp only [List.length_append, List.length_take, List.length_replicate, List.length_map, List.length_set, List.length_cons, List.length_nil, List.length_zipWith, List.length_drop, List.length_range]; first | done | omega))) only [go_sem, Nat.reduceAdd, Nat.reduceEqDiff, Nat.reduceLeDiff, Nat.reduceSub]
    have e1 : ((k : Int) + 1).toNat = k + 1 := by omega
    have e2 : ((k : Int) + 1 - 1).toNat = k := by omega
    simp only [e1, e2]
    refine ⟨fun h => by rw [incr_not (k := k) (by omega) (by omega)], fun h => ⟨rfl, incr_step (by omega) hp h⟩⟩
  · rintro s ⟨rfl, hp⟩
    simp (maxSteps := 2000000) (disch := (first | omega | (simp only [List.length_append, List.length_take, List.length_replicate, List.length_map, List.length_set, List.length_cons, List.length_nil, List.length_zipWith, List.length_drop, List.length_range]; first | done | omega))) only [go_sem, Nat.reduceAdd, Nat.reduceEqDiff, Nat.reduceLeDiff, Nat.reduceSub]
    rw [take_all (by omega)] at hp
    rw [show incr l = true by simpa [incr] using hp]
theorem impl_allWithin_ok (l : List Int) (lo hi : Int) (hl : l.length < 2^62) : C f_impl_allWithin [ints l, I lo, I hi] [] = some (.bool (l.all (inB lo hi)), []) := by
  refine C_impl_allWithin ?_
  simp (maxSteps := 2000000) (disch := (first | omega | (simp only [List.length_append, List.length_take, List.length_replicate, List.length_map, List.length_set, List.length_cons, List.length_nil, List.length_zipWith, List.length_drop, List.length_range]; first | done | omega))) only [ir_impl_allWithin, go_sem, Nat.reduceAdd, Nat.reduceEqDiff, Nat.reduceLeDiff, Nat.reduceSub]
  refine W_for l.length (fun k s => s = ⟨[.any, I lo, I hi, .any, .any, ints l, I l.length, I k, .any, .any], []⟩ ∧ (l.take k).all (inB lo hi) = true) ?_ ?_ ?_
  · simp (maxSteps := 2000000) (disch := (first | omega | (simp only [List.length_append, List.length_take, List.length_replicate, List.length_map, List.length_set, List.length_cons, List.length_nil, List.length_zipWith, List.length_drop, List.length_range]; first | done | omega))) only [go_sem, Nat.reduceAdd, Nat.reduceEqDiff, Nat.reduceLeDiff, Nat.reduceSub]
    rfl
  · rintro k s hk ⟨rfl, hall⟩
    simp (maxSteps := 2000000) (disch := (first | omega | (simp only [List.length_append, List.length_take, List.length_replicate, List.length_map, List.length_set, List.length_cons, List.length_nil, List.length_zipWith, List.length_drop, List.length_range]; first | done | omega))) only [go_sem, Nat.reduceAdd, Nat.reduceEqDiff, Nat.reduceLeDiff, Nat.reduceSub, impl_within_ok]
    exact ⟨fun h => ⟨rfl, all_take hk hall h⟩, fun h => by rw [all_false hk h]⟩
  · rintro s ⟨rfl, hall⟩
    simp (maxSteps := 2000000) (disch := (first | omega | (simp only [List.length_append, List.length_take, List.length_replicate, List.length_map, List.length_set, List.length_cons, List.length_nil, List.length_zipWith, List.length_drop, List.length_range]; first | done | omega))) only [go_sem, Nat.reduceAdd, Nat.reduceEqDiff, Nat.reduceLeDiff, Nat.reduceSub]
    rw [List.take_length] at hall
    rw [hall]
theorem impl_arePlaces_ok (n : Net) (l : List Int) (h : 1 ≤ n.pl ∧ n.pl ≤ 16) (hl : l.length < 2^62) : C f_impl_arePlaces [encN n, ints l] [] = some (.bool (places n.pl l), []) := by
  refine C_impl_arePlaces ?_
  simp (maxSteps := 2000000) (disch := (first | omega | (simp only [List.length_append, List.length_take, List.length_replicate, List.length_map, List.length_set, List.length_cons, List.length_nil, List.length_zipWith, List.length_drop, List.length_range]; first | done | omega))) only [ir_impl_arePlaces, go_sem, Nat.reduceAdd, Nat.reduceEqDiff, Nat.reduceLeDiff, Nat.reduceSub]
  simp (maxSteps := 2000000) (disch := (first | omega | (simp only [List.length_append, List.length_take, List.length_replicate, List.length_map, List.length_set, List.length_cons, List.length_nil, List.length_zipWith, List.length_drop, List.length_range]; first | done | omega))) only [go_sem, Nat.reduceAdd, Nat.reduceEqDiff, Nat.reduceLeDiff, Nat.reduceSub, impl_increasing_ok l hl, impl_allWithin_ok l _ _ hl]
  unfold places; grind
theorem impl_GoodNet_1_ok (n : Net) (t : Tr) (h : 1 ≤ n.pl ∧ n.pl ≤ 16) (ht : smT t) : C f_impl_GoodNet_1 [encT t, .pv (encN n) 0] [] = some (.bool (!goodT n.pl t), []) := by
  obtain ⟨h1, h2, h3⟩ := ht
  refine C_impl_GoodNet_1 ?_
  simp (maxSteps := 2000000) (disch := (first | omega | (simp only [List.length_append, List.length_take, List.length_replicate, List.length_map, List.length_set, List.length_cons, List.length_nil, List.length_zipWith, List.length_drop, List.length_range]; first | done | omega))) only [ir_impl_GoodNet_1, go_sem, Nat.reduceAdd, Nat.reduceEqDiff, Nat.reduceLeDiff, Nat.reduceSub]
  simp (maxSteps := 2000000) (disch := (first | omega | (simp only [List.length_append, List.length_take, List.length_replicate, List.length_map, List.length_set, List.length_cons, List.length_nil, List.length_zipWith, List.length_drop, List.length_range]; first | done | omega))) only [go_sem, Nat.reduceAdd, Nat.reduceEqDiff, Nat.reduceLeDiff, Nat.reduceSub, impl_arePlaces_ok n _ h]
  refine ⟨fun h6 => by rw [goodT_nil (by omega)]; rfl, fun h6 => ⟨fun h7 => ⟨fun h8 => ⟨fun h9 => by rw [goodT_all (by omega) h7 h8 h9]; rfl, fun h9 => by simp [goodT, h9]⟩, fun h8 => by simp [goodT, h8]⟩, fun h7 => by simp [goodT, h7]⟩⟩
theorem slices_IndexFunc_sl_impl_Trans_impl_Trans_ok (l : List Tr) (g : FuncId) (caps : List PV) (hc : refsL caps = []) (hcv : ∀ m h, viewLWith [] m h caps = some caps) (p : Tr → Bool) (hp : ∀ x ∈ l, C g (encT x :: caps) [] = some (.bool (p x), [])) (hl : l.length < 2^62) :
    C f_slices_IndexFunc_sl_impl_Trans_impl_Trans [trs l, .clo g caps] [] = some (I (idxI l p), []) := by
  refine C_slices_IndexFunc_sl_impl_Trans_impl_Trans ?_
  simp (maxSteps := 2000000) (disch := (first | omega | (simp only [List.length_append, List.length_take, List.length_replicate, List.length_map, List.length_set, List.length_cons, List.length_nil, List.length_zipWith, List.length_drop, List.length_range]; first | done | omega))) only [ir_slices_IndexFunc_sl_impl_Trans_impl_Trans, go_sem, Nat.reduceAdd, Nat.reduceEqDiff, Nat.reduceLeDiff, Nat.reduceSub]
  refine W_for l.length (fun k s => s = ⟨[trs l, .clo g caps, .any, .any, I l.length, I k, .any, .any], []⟩ ∧ (l.take k).any p = false) ?_ ?_ ?_
  · simp (maxSteps := 2000000) (disch := (first | omega | (simp only [List.length_append, List.length_take, List.length_replicate, List.length_map, List.length_set, List.length_cons, List.length_nil, List.length_zipWith, List.length_drop, List.length_range]; first | done | omega))) only [go_sem, Nat.reduceAdd, Nat.reduceEqDiff, Nat.reduceLeDiff, Nat.reduceSub, hc]
    rfl
  · rintro k s hk ⟨rfl, hall⟩
    simp (maxSteps := 2000000) (disch := (first | omega | (simp only [List.length_append, List.length_take, List.length_replicate, List.length_map, List.length_set, List.length_cons, List.length_nil, List.length_zipWith, List.length_drop, List.length_range]; first | done | omega))) only [go_sem, Nat.reduceAdd, Nat.reduceEqDiff, Nat.reduceLeDiff, Nat.reduceSub, hc, hcv, hp _ (List.getElem_mem hk)]
    exact ⟨fun h => by rw [idxI_some hk hall h], fun h => ⟨rfl, any_take hk hall h⟩⟩
  · rintro s ⟨rfl, hall⟩
    simp (maxSteps := 2000000) (disch := (first | omega | (simp only [List.length_append, List.length_take, List.length_replicate, List.length_map, List.length_set, List.length_cons, List.length_nil, List.length_zipWith, List.length_drop, List.length_range]; first | done | omega))) only [go_sem, Nat.reduceAdd, Nat.reduceEqDiff, Nat.reduceLeDiff, Nat.reduceSub]
    rw [List.take_length] at hall
    rw [idxI_none hall]
theorem slices_ContainsFunc_sl_impl_Trans_impl_Trans_ok (l : List Tr) (g : FuncId) (caps : List PV) (hc : refsL caps = []) (hcv : ∀ m h, viewLWith [] m h caps = some caps) (p : Tr → Bool) (hp : ∀ x ∈ l, C g (encT x :: caps) [] = some (.bool (p x), [])) (hl : l.length < 2^62) :
    C f_slices_ContainsFunc_sl_impl_Trans_impl_Trans [trs l, .clo g caps] [] = some (.bool (l.any p), []) := by
  refine C_slices_ContainsFunc_sl_impl_Trans_impl_Trans ?_
  simp (maxSteps := 2000000) (disch := (first | omega | (simp only [List.length_append, List.length_take, List.length_replicate, List.length_map, List.length_set, List.length_cons, List.length_nil, List.length_zipWith, List.length_drop, List.length_range]; first | done | omega))) only [ir_slices_ContainsFunc_sl_impl_Trans_impl_Trans, go_sem, Nat.reduceAdd, Nat.reduceEqDiff, Nat.reduceLeDiff, Nat.reduceSub]
  simp (maxSteps := 2000000) (disch := (first | omega | (simp only [List.length_append, List.length_take, List.length_replicate, List.length_map, List.length_set, List.length_cons, List.length_nil, List.length_zipWith, List.length_drop, List.length_range]; first | done | omega))) only [go_sem, Nat.reduceAdd, Nat.reduceEqDiff, Nat.reduceLeDiff, Nat.reduceSub, hc, hcv, slices_IndexFunc_sl_impl_Trans_impl_Trans_ok l g caps hc hcv p hp hl]
  have := idxI_any l p
  grind
theorem impl_GoodNet_ok (n : Net) (hn : smN n) : C f_impl_GoodNet [encN n] [] = some (.bool (goodN n), []) := by
  have h0 := hn.1
  refine C_impl_GoodNet ?_
  simp (maxSteps := 2000000) (disch := (first | omega | (simp only [List.length_append, List.length_take, List.length_replicate, List.length_map, List.length_set, List.length_cons, List.length_nil, List.length_zipWith, List.length_drop, List.length_range]; first | done | omega))) only [ir_impl_GoodNet, go_sem, Nat.reduceAdd, Nat.reduceEqDiff, Nat.reduceLeDiff, Nat.reduceSub]
  simp (maxSteps := 2000000) (disch := (first | omega | (simp only [List.length_append, List.length_take, List.length_replicate, List.length_map, List.length_set, List.length_cons, List.length_nil, List.length_zipWith, List.length_drop, List.length_range]; first | done | omega))) only [go_sem, Nat.reduceAdd, Nat.reduceEqDiff, Nat.reduceLeDiff, Nat.reduceSub, impl_within_ok]
  refine ⟨fun h => ⟨fun h2 => ?_, fun h2 => ?_⟩, fun h => by simp [goodN, h]⟩
  · have hb : 1 ≤ n.pl ∧ n.pl ≤ 16 := by simpa [inB] using h
    have h3 := slices_ContainsFunc_sl_impl_Trans_impl_Trans_ok n.tr f_impl_GoodNet_1 [.pv (encN n) 0] rfl (fun _ _ => rfl) (fun t => !goodT n.pl t) (fun x hx => impl_GoodNet_1_ok n x hb (hn.2 x hx)) (by omega)
    simp (maxSteps := 2000000) (disch := (first | omega | (simp only [List.length_append, List.length_take, List.length_replicate, List.length_map, List.length_set, List.length_cons, List.length_nil, List.length_zipWith, List.length_drop, List.length_range]; first | done | omega))) only [go_sem, Nat.reduceAdd, Nat.reduceEqDiff, Nat.reduceLeDiff, Nat.reduceSub, h3]
    have : (n.tr.any fun t => !goodT n.pl t) = !n.tr.all (goodT n.pl) := by rw [List.any_eq_not_all_not]; simp
    have h4 : n.tr.length ≤ 24 := by omega
    simp only [this]
    simp [goodN, h, h4]
  · have : ¬ n.tr.length ≤ 24 := by omega
    simp [goodN, this]
theorem impl_hasResets_1_ok (t : Tr) : C f_impl_hasResets_1 [encT t] [] = some (.bool (decide (0 < t.rst.length)), []) := by
  refine C_impl_hasResets_1 ?_
  simp (maxSteps := 2000000) (disch := (first | omega | (simp only [List.length_append, List.length_take, List.length_replicate, List.length_map, List.length_set, List.length_cons, List.length_nil, List.length_zipWith, List.length_drop, List.length_range]; first | done | omega))) only [ir_impl_hasResets_1, go_sem, Nat.reduceAdd, Nat.reduceEqDiff, Nat.reduceLeDiff, Nat.reduceSub]
  grind
theorem impl_hasResets_ok (n : Net) (hl : n.tr.length < 2^62) : C f_impl_hasResets [encN n] [] = some (.bool (hasR n), []) := by
  refine C_impl_hasResets ?_
  simp (maxSteps := 2000000) (disch := (first | omega | (simp only [List.length_append, List.length_take, List.length_replicate, List.length_map, List.length_set, List.length_cons, List.length_nil, List.length_zipWith, List.length_drop, List.length_range]; first | done | omega))) only [ir_impl_hasResets, go_sem, Nat.reduceAdd, Nat.reduceEqDiff, Nat.reduceLeDiff, Nat.reduceSub]
  have h := slices_ContainsFunc_sl_impl_Trans_impl_Trans_ok n.tr f_impl_hasResets_1 [] rfl (fun _ _ => rfl) (fun t => decide (0 < t.rst.length)) (fun x _ => impl_hasResets_1_ok x) hl
  simp (maxSteps := 2000000) (disch := (first | omega | (simp only [List.length_append, List.length_take, List.length_replicate, List.length_map, List.length_set, List.length_cons, List.length_nil, List.length_zipWith, List.length_drop, List.length_range]; first | done | omega))) only [go_sem, Nat.reduceAdd, Nat.reduceEqDiff, Nat.reduceLeDiff, Nat.reduceSub, h]
  unfold hasR; grind
theorem impl_isPlain_ok (n : Net) (hn : smN n) : C f_impl_isPlain [encN n] [] = some (.bool (plainN n), []) := by
  have h0 := hn.1
  refine C_impl_isPlain ?_
  simp (maxSteps := 2000000) (disch := (first | omega | (simp only [List.length_append, List.length_take, List.length_replicate, List.length_map, List.length_set, List.length_cons, List.length_nil, List.length_zipWith, List.length_drop, List.length_range]; first | done | omega))) only [ir_impl_isPlain, go_sem, Nat.reduceAdd, Nat.reduceEqDiff, Nat.reduceLeDiff, Nat.reduceSub]
  simp (maxSteps := 2000000) (disch := (first | omega | (simp only [List.length_append, List.length_take, List.length_replicate, List.length_map, List.length_set, List.length_cons, List.length_nil, List.length_zipWith, List.length_drop, List.length_range]; first | done | omega))) only [go_sem, Nat.reduceAdd, Nat.reduceEqDiff, Nat.reduceLeDiff, Nat.reduceSub, impl_GoodNet_ok n hn, impl_hasResets_ok n (by omega)]
  unfold plainN; grind
theorem impl_isSmall_ok (n : Net) (hn : smN n) : C f_impl_isSmall [encN n] [] = some (.bool (okSm n), []) := by
  have e1 := impl_isPlain_ok n hn
  unfold okSm
  cases hp : plainN n <;> rw [hp] at e1
  all_goals
    refine C_impl_isSmall ?_
    simp (maxSteps := 2000000) (disch := (first | omega | (simp only [List.length_append, List.length_take, List.length_replicate, List.length_map, List.length_set, List.length_cons, List.length_nil, List.length_zipWith, List.length_drop, List.length_range]; first | done | omega))) only [ir_impl_isSmall, go_sem, Nat.reduceAdd, Nat.reduceEqDiff, Nat.reduceLeDiff, Nat.reduceSub]
    simp (maxSteps := 2000000) (disch := (first | omega | (simp only [List.length_append, List.length_take, List.length_replicate, List.length_map, List.length_set, List.length_cons, List.length_nil, List.length_zipWith, List.length_drop, List.length_range]; first | done | omega))) only [go_sem, Nat.reduceAdd, Nat.reduceEqDiff, Nat.reduceLeDiff, Nat.reduceSub, e1]
    try grind
theorem impl_GoodMark_ok (p : Int) (m : List Int) (hl : m.length < 2^62) : C f_impl_GoodMark [I p, ints m] [] = some (.bool (goodM p m), []) := by
  refine C_impl_GoodMark ?_
  simp (maxSteps := 2000000) (disch := (first | omega | (simp only [List.length_append, List.length_take, List.length_replicate, List.length_map, List.length_set, List.length_cons, List.length_nil, List.length_zipWith, List.length_drop, List.length_range]; first | done | omega))) only [ir_impl_GoodMark, go_sem, Nat.reduceAdd, Nat.reduceEqDiff, Nat.reduceLeDiff, Nat.reduceSub]
  simp (maxSteps := 2000000) (disch := (first | omega | (simp only [List.length_append, List.length_take, List.length_replicate, List.length_map, List.length_set, List.length_cons, List.length_nil, List.length_zipWith, List.length_drop, List.length_range]; first | done | omega))) only [go_sem, Nat.reduceAdd, Nat.reduceEqDiff, Nat.reduceLeDiff, Nat.reduceSub, impl_within_ok, impl_allWithin_ok m _ _ hl]
  unfold goodM; grind
theorem impl_maskOf_ok (l : List Int) (h : ∀ p ∈ l, 0 ≤ p ∧ p < 62) (hl : l.length < 2^62 := by omega) : C f_impl_maskOf [ints l] [] = some (I (maskN l), []) := by
  refine C_impl_maskOf ?_
  simp (maxSteps := 2000000) (disch := (first | omega | (simp only [List.length_append, List.length_take, List.length_replicate, List.length_map, List.length_set, List.length_cons, List.length_nil, List.length_zipWith, List.length_drop, List.length_range]; first | done | omega))) only [ir_impl_maskOf, go_sem, Nat.reduceAdd, Nat.reduceEqDiff, Nat.reduceLeDiff, Nat.reduceSub]
  refine W_for l.length (fun k s => s = ⟨[.any, .any, I (maskN (l.take k)), .any, ints l, I l.length, I k, .any], []⟩) ?_ ?_ ?_
  · simp (maxSteps := 2000000) (disch := (first | omega | (simp only [List.length_append, List.length_take, List.length_replicate, List.length_map, List.length_set, List.length_cons, List.length_nil, List.length_zipWith, List.length_drop, List.length_range]; first | done | omega))) only [go_sem, Nat.reduceAdd, Nat.reduceEqDiff, Nat.reduceLeDiff, Nat.reduceSub]
    rfl
  · rintro k s hk rfl
    have h1 := h _ (List.getElem_mem hk)
    have h2 : maskN (l.take k) < 2 ^ 62 := maskN_lt (q := 62) (fun p hp => h p (List.mem_of_mem_take hp))
    have h3 : 2 ^ l[k].toNat < 2 ^ 62 := Nat.pow_lt_pow_right (by decide) (by omega)
    have h4 : (1 : Int) * 2 ^ min l[k].toNat 64 = ((2 ^ l[k].toNat : Nat) : Int) := by rw [show min l[k].toNat 64 = l[k].toNat by omega]; simp
    have h5 : IntKind.i64.wrap ((2 ^ l[k].toNat : Nat) : Int) = ((2 ^ l[k].toNat : Nat) : Int) := wraps_i62 _ (Int.natCast_nonneg _) (by exact_mod_cast h3)
    simp (maxSteps := 2000000) (disch := (first | omega | (simp only [List.length_append, List.length_take, List.length_replicate, List.length_map, List.length_set, List.length_cons, List.length_nil, List.length_zipWith, List.length_drop, List.length_range]; first | done | omega))) only [go_sem, Nat.reduceAdd, Nat.reduceEqDiff, Nat.reduceLeDiff, Nat.reduceSub, h4, h5, or_i64 h2 h3]
    rw [maskN_take hk]; rfl
  · rintro s rfl
    simp (maxSteps := 2000000) (disch := (first | omega | (simp only [List.length_append, List.length_take, List.length_replicate, List.length_map, List.length_set, List.length_cons, List.length_nil, List.length_zipWith, List.length_drop, List.length_range]; first | done | omega))) only [go_sem, Nat.reduceAdd, Nat.reduceEqDiff, Nat.reduceLeDiff, Nat.reduceSub, List.take_length]
theorem impl_bigTrap_false (n : Net) (set : List Int) (hg : goodN n = true) (hs : ∀ p ∈ set, 0 ≤ p ∧ p < n.pl) : C f_impl_bigTrap [encN n, I (maskN set), .bool false] [] = some (I (maskN (bigS n false set)), []) := by
  have hb := goodN_parts hg
  have ms : ∀ s : List Int, (∀ p ∈ s, p ∈ set) → (∀ p ∈ s, 0 ≤ p ∧ p < 62) := fun s h p hp => by have := hs p (h p hp); omega
  have mk : ∀ s : List Int, (∀ p ∈ s, 0 ≤ p ∧ p < 62) → maskN s < 2 ^ 62 := fun s h => maskN_lt (q := 62) h
  refine C_impl_bigTrap ?_
  simp (maxSteps := 2000000) (disch := (first | omega | (simp only [List.length_append, List.length_take, List.length_replicate, List.length_map, List.length_set, List.length_cons, List.length_nil, List.length_zipWith, List.length_drop, List.length_range]; first | done | omega))) only [ir_impl_bigTrap, go_sem, Nat.reduceAdd, Nat.reduceEqDiff, Nat.reduceLeDiff, Nat.reduceSub]
  refine W_down (fun k s => ∃ c : List Int, (∀ p ∈ c, p ∈ set) ∧ ((k = c.length + 1 ∧ s = ⟨[.any, I (maskN c), .bool false, .ptr 0 0, .any, .bool true, .any, .any, .any, .any, .any, .any, .any, .any, .any, .any], [.box t_impl_Net [I n.pl, trs n.tr]]⟩ ∧ bigS n false c = bigS n false set) ∨ (k = 0 ∧ s = ⟨[.any, I (maskN c), .bool false, .ptr 0 0, .any, .bool false, .any, .any, .any, .any, .any, .any, .any, .any, .any, .any], [.box t_impl_Net [I n.pl, trs n.tr]]⟩ ∧ c = bigS n false set))) (set.length + 1) ?_ ?_
  · refine ⟨set, fun p hp => hp, .inl ⟨rfl, ?_, rfl⟩⟩
    simp (maxSteps := 2000000) (disch := (first | omega | (simp only [List.length_append, List.length_take, List.length_replicate, List.length_map, List.length_set, List.length_cons, List.length_nil, List.length_zipWith, List.length_drop, List.length_range]; first | done | omega))) only [go_sem, Nat.reduceAdd, Nat.reduceEqDiff, Nat.reduceLeDiff, Nat.reduceSub]
  · rintro k0 s ⟨c, hcs, ⟨rfl, rfl, hc⟩ | ⟨rfl, rfl, rfl⟩⟩
    · simp (maxSteps := 2000000) (disch := (first | omega | (simp only [List.length_append, List.length_take, List.length_replicate, List.length_map, List.length_set, List.length_cons, List.length_nil, List.length_zipWith, List.length_drop, List.length_range]; first | done | omega))) only [go_sem, Nat.reduceAdd, Nat.reduceEqDiff, Nat.reduceLeDiff, Nat.reduceSub]
      refine W_for n.tr.length (fun k s => s = ⟨[.any, I (maskN (shK n false c k).set), .bool false, .ptr 0 0, .any, .bool (shK n false c k).ch, .any, .any, .any, .any, trs n.tr, I n.tr.length, I k, .any, .any, .any], [.box t_impl_Net [I n.pl, trs n.tr]]⟩) ?_ ?_ ?_
      · simp (maxSteps := 2000000) (disch := (first | omega | (simp only [List.length_append, List.length_take, List.length_replicate, List.length_map, List.length_set, List.length_cons, List.length_nil, List.length_zipWith, List.length_drop, List.length_range]; first | done | omega))) only [go_sem, Nat.reduceAdd, Nat.reduceEqDiff, Nat.reduceLeDiff, Nat.reduceSub]
        rfl
      · rintro k s hk rfl
        have hT := hb.2.2.2 _ (List.getElem_mem hk)
        have hLs := goodT_lens hT (by omega)
        obtain ⟨_, g1, g2, g3⟩ := goodT_parts hT
        have p1 := places_in g1
        have p2 := places_in g2
        have hsub := (shK_sub n false c k).1
        have htr : n.tr[k] = trN n k := (trN_eq hk).symm
        rw [htr] at hLs p1 p2
        have hstep := shK_succ n false c k
        have s1 : badS false (trN n k) (shK n false c k).set = false → shK n false c (k + 1) = shK n false c k := fun h => hstep.trans (shStep_no h)
        have s2 : badS false (trN n k) (shK n false c k).set = true → shK n false c (k + 1) = ⟨wout (shK n false c k).set (sideI false (trN n k)), true⟩ := fun h => hstep.trans (shStep_yes h)
        simp only [badS, sideI, sideO, Bool.false_eq_true, if_false, if_true] at s1 s2
        clear hstep
        generalize shK n false c k = d at *
        generalize shK n false c (k + 1) = d' at *
        have q0 : ∀ p ∈ d.set, 0 ≤ p ∧ p < 62 := ms d.set (fun p hp => hcs p (hsub p hp))
        have q1 : ∀ p ∈ (trN n k).inn, 0 ≤ p ∧ p < 62 := fun p hp => by have := p1 p hp; omega
        have q2 : ∀ p ∈ (trN n k).out, 0 ≤ p ∧ p < 62 := fun p hp => by have := p2 p hp; omega
        have m1 := mask_meet (fun p hp => (q1 p hp).1) (fun p hp => (q0 p hp).1)
        have m2 := mask_meet (fun p hp => (q2 p hp).1) (fun p hp => (q0 p hp).1)
        simp (maxSteps := 2000000) (disch := (first | omega | (simp only [List.length_append, List.length_take, List.length_replicate, List.length_map, List.length_set, List.length_cons, List.length_nil, List.length_zipWith, List.length_drop, List.length_range]; first | done | omega))) only [go_sem, Nat.reduceAdd, Nat.reduceEqDiff, Nat.reduceLeDiff, Nat.reduceSub, htr, impl_maskOf_ok (trN n k).inn q1, impl_maskOf_ok (trN n k).out q2, and_i64 (mk _ q1) (mk _ q0), and_i64 (mk _ q2) (mk _ q0), andNot_i64 (mk _ q0) (mk _ q1), andNot_i64 (mk _ q0) (mk _ q2), wout_mask q0 q1, wout_mask q0 q2]
        have M1 : ∀ l : List Int, meetB l d.set = decide ((maskN l &&& maskN d.set) ≠ 0) → ¬ ((maskN l &&& maskN d.set : Nat) : Int) = 0 → meetB l d.set = true := fun l e h => by rw [e]; exact decide_eq_true (fun e2 => h (by rw [e2]; rfl))
        have N1 : ∀ l : List Int, meetB l d.set = decide ((maskN l &&& maskN d.set) ≠ 0) → ((maskN l &&& maskN d.set : Nat) : Int) = 0 → meetB l d.set = false := fun l e h => by rw [e]; exact decide_eq_false (fun e2 => e2 (by exact_mod_cast h))
        refine ⟨fun h1 => ⟨fun h2 => ?_, fun h2 => ?_⟩, fun h1 => ?_⟩
        · rw [s2 (by rw [M1 _ m1 h1, N1 _ m2 h2]; rfl)]; rfl
        · rw [s1 (by rw [M1 _ m1 h1, M1 _ m2 h2]; rfl)]; rfl
        · rw [s1 (by rw [N1 _ m1 h1]; rfl)]; rfl
      · rintro s rfl
        simp (maxSteps := 2000000) (disch := (first | omega | (simp only [List.length_append, List.length_take, List.length_replicate, List.length_map, List.length_set, List.length_cons, List.length_nil, List.length_zipWith, List.length_drop, List.length_range]; first | done | omega))) only [go_sem, Nat.reduceAdd, Nat.reduceEqDiff, Nat.reduceLeDiff, Nat.reduceSub]
        have hsub := (shK_sub n false c n.tr.length).1
        cases e : isS n false c with
        | true =>
          have h1 := shK_is e (Nat.le_refl n.tr.length)
          rw [bigS_is e] at hc
          refine ⟨0, by omega, c, hcs, .inr ⟨rfl, ?_, hc⟩⟩
          rw [h1]
        | false =>
          have h1 := shRound_not e
          have h2 := (shK_len n false c n.tr.length).2.1 h1
          rw [bigS_next e] at hc
          refine ⟨(shRound n false c).set.length + 1, by unfold shRound; omega, (shRound n false c).set, fun p hp => hcs p (hsub p hp), .inl ⟨rfl, ?_, hc⟩⟩
          unfold shRound at h1 ⊢
          rw [h1]
    · simp (maxSteps := 2000000) (disch := (first | omega | (simp only [List.length_append, List.length_take, List.length_replicate, List.length_map, List.length_set, List.length_cons, List.length_nil, List.length_zipWith, List.length_drop, List.length_range]; first | done | omega))) only [go_sem, Nat.reduceAdd, Nat.reduceEqDiff, Nat.reduceLeDiff, Nat.reduceSub]
theorem impl_bigTrap_true (n : Net) (set : List Int) (hg : goodN n = true) (hs : ∀ p ∈ set, 0 ≤ p ∧ p < n.pl) : C f_impl_bigTrap [encN n, I (maskN set), .bool true] [] = some (I (maskN (bigS n true set)), []) := by
  have hb := goodN_parts hg
  have ms : ∀ s : List Int, (∀ p ∈ s, p ∈ set) → (∀ p ∈ s, 0 ≤ p ∧ p < 62) := fun s h p hp => by have := hs p (h p hp); omega
  have mk : ∀ s : List Int, (∀ p ∈ s, 0 ≤ p ∧ p < 62) → maskN s < 2 ^ 62 := fun s h => maskN_lt (q := 62) h
  refine C_impl_bigTrap ?_
  simp (maxSteps := 2000000) (disch := (first | omega | (simp only [List.length_append, List.length_take, List.length_replicate, List.length_map, List.length_set, List.length_cons, List.length_nil, List.length_zipWith, List.length_drop, List.length_range]; first | done | omega))) only [ir_impl_bigTrap, go_sem, Nat.reduceAdd, Nat.reduceEqDiff, Nat.reduceLeDiff, Nat.reduceSub]
  refine W_down (fun k s => ∃ c : List Int, (∀ p ∈ c, p ∈ set) ∧ ((k = c.length + 1 ∧ s = ⟨[.any, I (maskN c), .bool true, .ptr 0 0, .any, .bool true, .any, .any, .any, .any, .any, .any, .any, .any, .any, .any], [.box t_impl_Net [I n.pl, trs n.tr]]⟩ ∧ bigS n true c = bigS n true set) ∨ (k = 0 ∧ s = ⟨[.any, I (maskN c), .bool true, .ptr 0 0, .any, .bool false, .any, .any, .any, .any, .any, .any, .any, .any, .any, .any], [.box t_impl_Net [I n.pl, trs n.tr]]⟩ ∧ c = bigS n true set))) (set.length + 1) ?_ ?_
  · refine ⟨set, fun p hp => hp, .inl ⟨rfl, ?_, rfl⟩⟩
    simp (maxSteps := 2000000) (disch := (first | omega | (simp only [List.length_append, List.length_take, List.length_replicate, List.length_map, List.length_set, List.length_cons, List.length_nil, List.length_zipWith, List.length_drop, List.length_range]; first | done | omega))) only [go_sem, Nat.reduceAdd, Nat.reduceEqDiff, Nat.reduceLeDiff, Nat.reduceSub]
  · rintro k0 s ⟨c, hcs, ⟨rfl, rfl, hc⟩ | ⟨rfl, rfl, rfl⟩⟩
    · simp (maxSteps := 2000000) (disch := (first | omega | (simp only [List.length_append, List.length_take, List.length_replicate, List.length_map, List.length_set, List.length_cons, List.length_nil, List.length_zipWith, List.length_drop, List.length_range]; first | done | omega))) only [go_sem, Nat.reduceAdd, Nat.reduceEqDiff, Nat.reduceLeDiff, Nat.reduceSub]
      refine W_for n.tr.length (fun k s => s = ⟨[.any, I (maskN (shK n true c k).set), .bool true, .ptr 0 0, .any, .bool (shK n true c k).ch, .any, .any, .any, .any, trs n.tr, I n.tr.length, I k, .any, .any, .any], [.box t_impl_Net [I n.pl, trs n.tr]]⟩) ?_ ?_ ?_
      · simp (maxSteps := 2000000) (disch := (first | omega | (simp only [List.length_append, List.length_take, List.length_replicate, List.length_map, List.length_set, List.length_cons, List.length_nil, List.length_zipWith, List.length_drop, List.length_range]; first | done | omega))) only [go_sem, Nat.reduceAdd, Nat.reduceEqDiff, Nat.reduceLeDiff, Nat.reduceSub]
        rfl
      · rintro k s hk rfl
        have hT := hb.2.2.2 _ (List.getElem_mem hk)
        have hLs := goodT_lens hT (by omega)
        obtain ⟨_, g1, g2, g3⟩ := goodT_parts hT
        have p1 := places_in g1
        have p2 := places_in g2
        have hsub := (shK_sub n true c k).1
        have htr : n.tr[k] = trN n k := (trN_eq hk).symm
        rw [htr] at hLs p1 p2
        have hstep := shK_succ n true c k
        have s1 : badS true (trN n k) (shK n true c k).set = false → shK n true c (k + 1) = shK n true c k := fun h => hstep.trans (shStep_no h)
        have s2 : badS true (trN n k) (shK n true c k).set = true → shK n true c (k + 1) = ⟨wout (shK n true c k).set (sideI true (trN n k)), true⟩ := fun h => hstep.trans (shStep_yes h)
        simp only [badS, sideI, sideO, Bool.false_eq_true, if_false, if_true] at s1 s2
        clear hstep
        generalize shK n true c k = d at *
        generalize shK n true c (k + 1) = d' at *
        have q0 : ∀ p ∈ d.set, 0 ≤ p ∧ p < 62 := ms d.set (fun p hp => hcs p (hsub p hp))
        have q1 : ∀ p ∈ (trN n k).inn, 0 ≤ p ∧ p < 62 := fun p hp => by have := p1 p hp; omega
        have q2 : ∀ p ∈ (trN n k).out, 0 ≤ p ∧ p < 62 := fun p hp => by have := p2 p hp; omega
        have m1 := mask_meet (fun p hp => (q1 p hp).1) (fun p hp => (q0 p hp).1)
        have m2 := mask_meet (fun p hp => (q2 p hp).1) (fun p hp => (q0 p hp).1)
        simp (maxSteps := 2000000) (disch := (first | omega | (simp only [List.length_append, List.length_take, List.length_replicate, List.length_map, List.length_set, List.length_cons, List.length_nil, List.length_zipWith, List.length_drop, List.length_range]; first | done | omega))) only [go_sem, Nat.reduceAdd, Nat.reduceEqDiff, Nat.reduceLeDiff, Nat.reduceSub, htr, impl_maskOf_ok (trN n k).inn q1, impl_maskOf_ok (trN n k).out q2, and_i64 (mk _ q1) (mk _ q0), and_i64 (mk _ q2) (mk _ q0), andNot_i64 (mk _ q0) (mk _ q1), andNot_i64 (mk _ q0) (mk _ q2), wout_mask q0 q1, wout_mask q0 q2]
        have M1 : ∀ l : List Int, meetB l d.set = decide ((maskN l &&& maskN d.set) ≠ 0) → ¬ ((maskN l &&& maskN d.set : Nat) : Int) = 0 → meetB l d.set = true := fun l e h => by rw [e]; exact decide_eq_true (fun e2 => h (by rw [e2]; rfl))
        have N1 : ∀ l : List Int, meetB l d.set = decide ((maskN l &&& maskN d.set) ≠ 0) → ((maskN l &&& maskN d.set : Nat) : Int) = 0 → meetB l d.set = false := fun l e h => by rw [e]; exact decide_eq_false (fun e2 => e2 (by exact_mod_cast h))
        refine ⟨fun h1 => ⟨fun h2 => ?_, fun h2 => ?_⟩, fun h1 => ?_⟩
        · rw [s2 (by rw [M1 _ m2 h1, N1 _ m1 h2]; rfl)]; rfl
        · rw [s1 (by rw [M1 _ m2 h1, M1 _ m1 h2]; rfl)]; rfl
        · rw [s1 (by rw [N1 _ m2 h1]; rfl)]; rfl
      · rintro s rfl
        simp (maxSteps := 2000000) (disch := (first | omega | (simp only [List.length_append, List.length_take, List.length_replicate, List.length_map, List.length_set, List.length_cons, List.length_nil, List.length_zipWith, List.length_drop, List.length_range]; first | done | omega))) only [go_sem, Nat.reduceAdd, Nat.reduceEqDiff, Nat.reduceLeDiff, Nat.reduceSub]
        have hsub := (shK_sub n true c n.tr.length).1
        cases e : isS n true c with
        | true =>
          have h1 := shK_is e (Nat.le_refl n.tr.length)
          rw [bigS_is e] at hc
          refine ⟨0, by omega, c, hcs, .inr ⟨rfl, ?_, hc⟩⟩
          rw [h1]
        | false =>
          have h1 := shRound_not e
          have h2 := (shK_len n true c n.tr.length).2.1 h1
          rw [bigS_next e] at hc
          refine ⟨(shRound n true c).set.length + 1, by unfold shRound; omega, (shRound n true c).set, fun p hp => hcs p (hsub p hp), .inl ⟨rfl, ?_, hc⟩⟩
          unfold shRound at h1 ⊢
          rw [h1]
    · simp (maxSteps := 2000000) (disch := (first | omega | (simp only [List.length_append, List.length_take, List.length_replicate, List.length_map, List.length_set, List.length_cons, List.length_nil, List.length_zipWith, List.length_drop, List.length_range]; first | done | omega))) only [go_sem, Nat.reduceAdd, Nat.reduceEqDiff, Nat.reduceLeDiff, Nat.reduceSub]
theorem mask_dec {n : Net} {sp : Bool} {s : List Int} (hk : okSet n s = true) : decide (((maskN (bigS n sp s) : Nat) : Int) = ((maskN s : Nat) : Int)) = isS n sp s := by
  have h1 := okSet_parts hk
  have h2 := okSet_parts (okSet_big (sp := sp) hk)
  rw [← bigS_eq, decide_eq_decide]
  constructor
  · intro h
    exact maskN_inj h2.2.2.1 h1.2.2.1 (fun p hp => (h2.2.2.2 p hp).1) (fun p hp => (h1.2.2.2 p hp).1) (by exact_mod_cast h)
  · intro h; rw [h]
theorem impl_isSiphon_ok (n : Net) (s : List Int) (hk : okSet n s = true) : C f_impl_isSiphon [encN n, I (maskN s)] [] = some (.bool (isS n true s), []) := by
  have h1 := okSet_parts hk
  have e := mask_dec (sp := true) hk
  refine C_impl_isSiphon ?_
  simp (maxSteps := 2000000) (disch := (first | omega | (simp only [List.length_append, List.length_take, List.length_replicate, List.length_map, List.length_set, List.length_cons, List.length_nil, List.length_zipWith, List.length_drop, List.length_range]; first | done | omega))) only [ir_impl_isSiphon, go_sem, Nat.reduceAdd, Nat.reduceEqDiff, Nat.reduceLeDiff, Nat.reduceSub]
  simp (maxSteps := 2000000) (disch := (first | omega | (simp only [List.length_append, List.length_take, List.length_replicate, List.length_map, List.length_set, List.length_cons, List.length_nil, List.length_zipWith, List.length_drop, List.length_range]; first | done | omega))) only [go_sem, Nat.reduceAdd, Nat.reduceEqDiff, Nat.reduceLeDiff, Nat.reduceSub, impl_bigTrap_true n s h1.1 h1.2.2.2]
  rw [← e]
  grind
theorem impl_IsGuarded_1_ok (n : Net) (r : Nat) (hs : okSm n = true) (hr : r < 2 ^ n.pl.toNat) (hr2 : r < 2 ^ 20) : C f_impl_IsGuarded_1 [I r, .pv (encN n) 0] [] = some (.bool (isS n true (setN r)), []) := by
  have h := impl_isSiphon_ok n (setN r) (okSet_setN hs hr)
  rw [setN_mask hr2] at h
  refine C_impl_IsGuarded_1 ?_
  simp (maxSteps := 2000000) (disch := (first | omega | (simp only [List.length_append, List.length_take, List.length_replicate, List.length_map, List.length_set, List.length_cons, List.length_nil, List.length_zipWith, List.length_drop, List.length_range]; first | done | omega))) only [ir_impl_IsGuarded_1, go_sem, Nat.reduceAdd, Nat.reduceEqDiff, Nat.reduceLeDiff, Nat.reduceSub]
  simp (maxSteps := 2000000) (disch := (first | omega | (simp only [List.length_append, List.length_take, List.length_replicate, List.length_map, List.length_set, List.length_cons, List.length_nil, List.length_zipWith, List.length_drop, List.length_range]; first | done | omega))) only [go_sem, Nat.reduceAdd, Nat.reduceEqDiff, Nat.reduceLeDiff, Nat.reduceSub, h]
  grind
theorem impl_smallSets_1_ok (x r : Nat) (hx : x < 2 ^ 62) (hr : r < 2 ^ 62) : C f_impl_smallSets_1 [I x, .pv (.agg [I r]) 0] [] = some (.bool (decide (x &&& r = x)), []) := by
  have h := andNot_i64 hx hr
  have h2 := andNot_zero hx hr
  refine C_impl_smallSets_1 ?_
  simp (maxSteps := 2000000) (disch := (first | omega | (simp only [List.length_append, List.length_take, List.length_replicate, List.length_map, List.length_set, List.length_cons, List.length_nil, List.length_zipWith, List.length_drop, List.length_range]; first | done | omega))) only [ir_impl_smallSets_1, go_sem, Nat.reduceAdd, Nat.reduceEqDiff, Nat.reduceLeDiff, Nat.reduceSub]
  simp (maxSteps := 2000000) (disch := (first | omega | (simp only [List.length_append, List.length_take, List.length_replicate, List.length_map, List.length_set, List.length_cons, List.length_nil, List.length_zipWith, List.length_drop, List.length_range]; first | done | omega))) only [go_sem, Nat.reduceAdd, Nat.reduceEqDiff, Nat.reduceLeDiff, Nat.reduceSub, h]
  generalize x &&& (2 ^ 64 - (r + 1)) = z at *
  try grind
theorem slices_IndexFunc_sl_int_int_ok (l : List Int) (g : FuncId) (caps : List PV) (hc : refsL caps = []) (hcv : ∀ m h, viewLWith [] m h caps = some caps) (p : Int → Bool) (hp : ∀ x ∈ l, C g (I x :: caps) [] = some (.bool (p x), [])) (hl : l.length < 2^62) :
    C f_slices_IndexFunc_sl_int_int [ints l, .clo g caps] [] = some (I (idxI l p), []) := by
  refine C_slices_IndexFunc_sl_int_int ?_
  simp (maxSteps := 2000000) (disch := (first | omega | (simp only [List.length_append, List.length_take, List.length_replicate, List.length_map, List.length_set, List.length_cons, List.length_nil, List.length_zipWith, List.length_drop, List.length_range]; first | done | omega))) only [ir_slices_IndexFunc_sl_int_int, go_sem, Nat.reduceAdd, Nat.reduceEqDiff, Nat.reduceLeDiff, Nat.reduceSub]
  refine W_for l.length (fun k s => s = ⟨[ints l, .clo g caps, .any, .any, I l.length, I k, .any, .any], []⟩ ∧ (l.take k).any p = false) ?_ ?_ ?_
  · simp (maxSteps := 2000000) (disch := (first | omega | (simp only [List.length_append, List.length_take, List.length_replicate, List.length_map, List.length_set, List.length_cons, List.length_nil, List.length_zipWith, List.length_drop, List.length_range]; first | done | omega))) only [go_sem, Nat.reduceAdd, Nat.reduceEqDiff, Nat.reduceLeDiff, Nat.reduceSub, hc]
    rfl
  · rintro k s hk ⟨rfl, hall⟩
    simp (maxSteps := 2000000) (disch := (first | omega | (simp only [List.length_append, List.length_take, List.length_replicate, List.length_map, List.length_set, List.length_cons, List.length_nil, List.length_zipWith, List.length_drop, List.length_range]; first | done | omega))) only [go_sem, Nat.reduceAdd, Nat.reduceEqDiff, Nat.reduceLeDiff, Nat.reduceSub, hc, hcv, hp _ (List.getElem_mem hk)]
    exact ⟨fun h => by rw [idxI_some hk hall h], fun h => ⟨rfl, any_take hk hall h⟩⟩
  · rintro s ⟨rfl, hall⟩
    simp (maxSteps := 2000000) (disch := (first | omega | (simp only [List.length_append, List.length_take, List.length_replicate, List.length_map, List.length_set, List.length_cons, List.length_nil, List.length_zipWith, List.length_drop, List.length_range]; first | done | omega))) only [go_sem, Nat.reduceAdd, Nat.reduceEqDiff, Nat.reduceLeDiff, Nat.reduceSub]
    rw [List.take_length] at hall
    rw [idxI_none hall]
theorem slices_ContainsFunc_sl_int_int_ok (l : List Int) (g : FuncId) (caps : List PV) (hc : refsL caps = []) (hcv : ∀ m h, viewLWith [] m h caps = some caps) (p : Int → Bool) (hp : ∀ x ∈ l, C g (I x :: caps) [] = some (.bool (p x), [])) (hl : l.length < 2^62) :
    C f_slices_ContainsFunc_sl_int_int [ints l, .clo g caps] [] = some (.bool (l.any p), []) := by
  refine C_slices_ContainsFunc_sl_int_int ?_
  simp (maxSteps := 2000000) (disch := (first | omega | (simp only [List.length_append, List.length_take, List.length_replicate, List.length_map, List.length_set, List.length_cons, List.length_nil, List.length_zipWith, List.length_drop, List.length_range]; first | done | omega))) only [ir_slices_ContainsFunc_sl_int_int, go_sem, Nat.reduceAdd, Nat.reduceEqDiff, Nat.reduceLeDiff, Nat.reduceSub]
  simp (maxSteps := 2000000) (disch := (first | omega | (simp only [List.length_append, List.length_take, List.length_replicate, List.length_map, List.length_set, List.length_cons, List.length_nil, List.length_zipWith, List.length_drop, List.length_range]; first | done | omega))) only [go_sem, Nat.reduceAdd, Nat.reduceEqDiff, Nat.reduceLeDiff, Nat.reduceSub, hc, hcv, slices_IndexFunc_sl_int_int_ok l g caps hc hcv p hp hl]
  have := idxI_any l p
  grind
theorem impl_smallSets_ok (n : Net) (g : FuncId) (caps : List PV) (hc : refsL caps = []) (hcv : ∀ m h, viewLWith [] m h caps = some caps) (hrn : ∀ h, renL h caps = caps) (f : Nat → Bool) (hn : smN n) (hp0 : 1 ≤ n.pl ∧ n.pl ≤ 16) (hf : ∀ r : Nat, r < 2 ^ n.pl.toNat → C g (I r :: caps) [] = some (.bool (f r), [])) : C f_impl_smallSets [encN n, .clo g caps] [] = some (.un t_int true 1 ((smK f (2 ^ n.pl.toNat - 1)).map fun (r : Nat) => I (r : Int)), []) := by
  obtain ⟨q, hq⟩ : ∃ q : Nat, n.pl = q := ⟨n.pl.toNat, by omega⟩
  have hq2 : n.pl.toNat = q := by omega
  have hp10 : 2 ^ q ≤ 2 ^ 16 := Nat.pow_le_pow_right (by decide) (by omega)
  have hp0' : 0 < 2 ^ q := Nat.pow_pos (by decide)
  have hsh : IntKind.i64.wrap (1 * 2 ^ min n.pl.toNat 64) = ((2 ^ q : Nat) : Int) := by
    rw [hq2, show min q 64 = q by omega, show (1 : Int) * 2 ^ q = ((2 ^ q : Nat) : Int) by simp, IntKind.wrap_i64]; omega
  have htn := hn.1
  rw [hq2] at hf ⊢
  generalize hQ : 2 ^ q = Q at *
  refine C_impl_smallSets ?_
  simp (maxSteps := 2000000) (disch := (first | omega | (simp only [List.length_append, List.length_take, List.length_replicate, List.length_map, List.length_set, List.length_cons, List.length_nil, List.length_zipWith, List.length_drop, List.length_range]; first | done | omega))) only [ir_impl_smallSets, go_sem, Nat.reduceAdd, Nat.reduceEqDiff, Nat.reduceLeDiff, Nat.reduceSub]
  refine W_for (Q - 1) (fun k s => s = ⟨[.any, .clo g caps, .ptr 0 0, .any, .ref 1 1 0 (smK f k).length, .ptr 2 0, .any, .any, .any], [.box t_impl_Net [I n.pl, trs n.tr], .row t_int true 1 ((smK f k).map fun (r : Nat) => I (r : Int)), .box t_int [I (k + 1)]]⟩) ?_ ?_ ?_
  · simp (maxSteps := 2000000) (disch := (first | omega | (simp only [List.length_append, List.length_take, List.length_replicate, List.length_map, List.length_set, List.length_cons, List.length_nil, List.length_zipWith, List.length_drop, List.length_range]; first | done | omega))) only [go_sem, Nat.reduceAdd, Nat.reduceEqDiff, Nat.reduceLeDiff, Nat.reduceSub, hc, hrn]
    rfl
  · rintro k s hk rfl
    have hlk := smK_len f k
    have hin := smK_in f k
    have hst := @smK_t f k
    have hsf := @smK_f f k
    have e1 := hf (k + 1) (by omega)
    have e2 := slices_ContainsFunc_sl_int_int_ok ((smK f k).map fun (r : Nat) => (r : Int)) f_impl_smallSets_1 [.pv (.agg [I ((k + 1 : Nat) : Int)]) 0] rfl (fun _ _ => rfl) (fun x => decide (x.toNat &&& (k + 1) = x.toNat)) (fun x hx => by
      obtain ⟨y, hy, rfl⟩ := List.mem_map.1 hx
      have := hin y hy
      simpa using impl_smallSets_1_ok y (k + 1) (by omega) (by omega)) (by simp; omega)
    rw [Int.natCast_add, show ((1 : Nat) : Int) = 1 from rfl] at e1 e2
    have e3 : (((smK f k).map fun (r : Nat) => (r : Int)).any fun x => decide (x.toNat &&& (k + 1) = x.toNat)) = !(smK f k).all (fun x => !decide (x &&& (k + 1) = x)) := by
      rw [List.any_map, List.any_eq_not_all_not]; simp [Function.comp_def]
    rw [e3] at e2
    generalize smK f (k + 1) = M' at *
    generalize smK f k = M at *
    generalize f (k + 1) = b0 at *
    simp only [ints, List.map_map, Function.comp_def] at e2
    generalize M.all (fun x => !decide (x &&& (k + 1) = x)) = b1 at *
    cases b0 <;> cases b1
    all_goals
      simp (maxSteps := 2000000) (disch := (first | omega | (simp only [List.length_append, List.length_take, List.length_replicate, List.length_map, List.length_set, List.length_cons, List.length_nil, List.length_zipWith, List.length_drop, List.length_range]; first | done | omega))) only [go_sem, Nat.reduceAdd, Nat.reduceEqDiff, Nat.reduceLeDiff, Nat.reduceSub, hsh, e1, e2, hc, hcv, hrn]
      first | (rw [hsf rfl]; rfl) | (rw [hst rfl rfl, List.map_append, List.length_append]; rfl)
  · rintro s rfl
    have hlk := smK_len f (Q - 1)
    generalize smK f (Q - 1) = L at *
    simp (maxSteps := 2000000) (disch := (first | omega | (simp only [List.length_append, List.length_take, List.length_replicate, List.length_map, List.length_set, List.length_cons, List.length_nil, List.length_zipWith, List.length_drop, List.length_range]; first | done | omega))) only [go_sem, Nat.reduceAdd, Nat.reduceEqDiff, Nat.reduceLeDiff, Nat.reduceSub, hsh]
theorem impl_setOf_ok (l : List Int) (h : ∀ p ∈ l, 0 ≤ p ∧ p < 30) (hi : incr l = true) (hl : l.length < 2^30) : C f_impl_setOf [I (maskN l)] [] = some (.un t_int true 1 (l.map I), []) := by
  have hp : l.Pairwise (· < ·) := by simpa [incr] using hi
  have h0 : ∀ p ∈ l, 0 ≤ p := fun p hp => (h p hp).1
  have hm : maskN l < 2 ^ 30 := maskN_lt (q := 30) h
  refine C_impl_setOf ?_
  simp (maxSteps := 2000000) (disch := (first | omega | (simp only [List.length_append, List.length_take, List.length_replicate, List.length_map, List.length_set, List.length_cons, List.length_nil, List.length_zipWith, List.length_drop, List.length_range]; first | done | omega))) only [ir_impl_setOf, go_sem, Nat.reduceAdd, Nat.reduceEqDiff, Nat.reduceLeDiff, Nat.reduceSub]
  refine W_down (fun j s => ∃ k : Nat, j + k = 40 ∧ k ≤ 31 ∧ s = ⟨[I (maskN l), .any, .ref 0 1 0 (below l k).length, I k, .any, .any], [.row t_int true 1 ((below l k).map I)]⟩) 40 ?_ ?_
  · refine ⟨0, rfl, by omega, ?_⟩
    rw [below_zero h0]
    simp (maxSteps := 2000000) (disch := (first | omega | (simp only [List.length_append, List.length_take, List.length_replicate, List.length_map, List.length_set, List.length_cons, List.length_nil, List.length_zipWith, List.length_drop, List.length_range]; first | done | omega))) only [go_sem, Nat.reduceAdd, Nat.reduceEqDiff, Nat.reduceLeDiff, Nat.reduceSub]
    rfl
  · rintro j s ⟨k, hj, hk, rfl⟩
    have hbl := below_len l k
    have e1 : ((maskN l : Nat) : Int) / 2 ^ min k 64 = ((maskN l / 2 ^ k : Nat) : Int) := by
      rw [show min k 64 = k by omega]; simp
    have e2 : maskN l / 2 ^ k < 2 ^ 62 := Nat.lt_of_le_of_lt (Nat.div_le_self _ _) (by omega)
    have e3 := and_i64 (a := maskN l / 2 ^ k) (b := 1) e2 (by decide)
    rw [Nat.and_one_is_mod] at e3
    simp (maxSteps := 2000000) (disch := (first | omega | (simp only [List.length_append, List.length_take, List.length_replicate, List.length_map, List.length_set, List.length_cons, List.length_nil, List.length_zipWith, List.length_drop, List.length_range]; first | done | omega))) only [go_sem, Nat.reduceAdd, Nat.reduceEqDiff, Nat.reduceLeDiff, Nat.reduceSub, e1]
    have eb := mask_odd h0 k
    have hone : ((1 : Nat) : Int) = 1 := rfl
    rw [hone] at e3
    refine ⟨fun hne => ?_, fun hz => ?_⟩
    · have hk30 : k < 30 := by
        rcases Nat.lt_or_ge k 30 with h5 | h5
        · exact h5
        · exact (hne (by rw [Nat.div_eq_of_lt (Nat.lt_of_lt_of_le hm (Nat.pow_le_pow_right (by decide) h5))]; rfl)).elim
      refine ⟨fun h1 => ⟨j - 1, by omega, k + 1, by omega, by omega, ?_⟩, fun h1 => ⟨j - 1, by omega, k + 1, by omega, by omega, ?_⟩⟩
      · have hm1 : maskN l / 2 ^ k % 2 = 1 := by rw [e3] at h1; omega
        rw [decide_eq_true hm1] at eb
        rw [below_succ hp, if_pos (by simpa [hasB] using eb), List.map_append]
        simp
      · have hm1 : ¬ maskN l / 2 ^ k % 2 = 1 := by rw [e3] at h1; omega
        rw [decide_eq_false hm1] at eb
        rw [below_succ hp, if_neg (by simpa [hasB] using eb), List.append_nil]
        rfl
    · rw [below_all (mask_shift h0 k (by exact_mod_cast hz))]
theorem impl_IsGuarded_2_ok (p : Int) (m : List Int) (hp : 0 ≤ p ∧ p.toNat < m.length) : C f_impl_IsGuarded_2 [I p, .pv (.agg [ints m]) 0] [] = some (.bool (decide (0 < at_ m p)), []) := by
  refine C_impl_IsGuarded_2 ?_
  simp (maxSteps := 2000000) (disch := (first | omega | (simp only [List.length_append, List.length_take, List.length_replicate, List.length_map, List.length_set, List.length_cons, List.length_nil, List.length_zipWith, List.length_drop, List.length_range]; first | done | omega))) only [ir_impl_IsGuarded_2, go_sem, Nat.reduceAdd, Nat.reduceEqDiff, Nat.reduceLeDiff, Nat.reduceSub]
  simp (maxSteps := 2000000) (disch := (first | omega | (simp only [List.length_append, List.length_take, List.length_replicate, List.length_map, List.length_set, List.length_cons, List.length_nil, List.length_zipWith, List.length_drop, List.length_range]; first | done | omega))) only [go_sem, Nat.reduceAdd, Nat.reduceEqDiff, Nat.reduceLeDiff, Nat.reduceSub, at_eq]
  grind
theorem impl_IsGuarded_ok (n : Net) (m : List Int) (hn : smN n) (hm : m.length < 2^62) : C f_impl_IsGuarded [encN n, ints m] [] = some (.tup [.bool (okSm n && goodM n.pl m && guardB n m), .bool (okSm n && goodM n.pl m)], []) := by
  have e1 := impl_isSmall_ok n hn
  have e0 := impl_GoodMark_ok n.pl m hm
  cases hk : okSm n <;> rw [hk] at e1
  · refine C_impl_IsGuarded ?_
    simp (maxSteps := 2000000) (disch := (first | omega | (simp only [List.length_append, List.length_take, List.length_replicate, List.length_map, List.length_set, List.length_cons, List.length_nil, List.length_zipWith, List.length_drop, List.length_range]; first | done | omega))) only [ir_impl_IsGuarded, go_sem, Nat.reduceAdd, Nat.reduceEqDiff, Nat.reduceLeDiff, Nat.reduceSub]
    simp (maxSteps := 2000000) (disch := (first | omega | (simp only [List.length_append, List.length_take, List.length_replicate, List.length_map, List.length_set, List.length_cons, List.length_nil, List.length_zipWith, List.length_drop, List.length_range]; first | done | omega))) only [go_sem, Nat.reduceAdd, Nat.reduceEqDiff, Nat.reduceLeDiff, Nat.reduceSub, e1]
    try rfl
  · cases hgm : goodM n.pl m <;> rw [hgm] at e0
    · refine C_impl_IsGuarded ?_
      simp (maxSteps := 2000000) (disch := (first | omega | (simp only [List.length_append, List.length_take, List.length_replicate, List.length_map, List.length_set, List.length_cons, List.length_nil, List.length_zipWith, List.length_drop, List.length_range]; first | done | omega))) only [ir_impl_IsGuarded, go_sem, Nat.reduceAdd, Nat.reduceEqDiff, Nat.reduceLeDiff, Nat.reduceSub]
      simp (maxSteps := 2000000) (disch := (first | omega | (simp only [List.length_append, List.length_take, List.length_replicate, List.length_map, List.length_set, List.length_cons, List.length_nil, List.length_zipWith, List.length_drop, List.length_range]; first | done | omega))) only [go_sem, Nat.reduceAdd, Nat.reduceEqDiff, Nat.reduceLeDiff, Nat.reduceSub, e1, e0]
      try rfl
    · obtain ⟨hg, hr, h10⟩ := okSm_parts hk
      obtain ⟨m1, m2, m3, m4, m5⟩ := goodM_len hgm
      have h := smallS_in h10
      have h3 : 2 ^ n.pl.toNat ≤ 2 ^ 10 := Nat.pow_le_pow_right (by decide) (by omega)
      have e2 := impl_smallSets_ok n f_impl_IsGuarded_1 [.pv (encN n) 0] rfl (fun _ _ => rfl) (fun _ => rfl) (fun r => isS n true (setN r)) hn (by omega) (fun r hr => impl_IsGuarded_1_ok n r hk hr (by omega))
      rw [show smK (fun r => isS n true (setN r)) (2 ^ n.pl.toNat - 1) = smallS n from rfl] at e2
      unfold guardB
      generalize smallS n = L at *
      refine C_impl_IsGuarded ?_
      simp (maxSteps := 2000000) (disch := (first | omega | (simp only [List.length_append, List.length_take, List.length_replicate, List.length_map, List.length_set, List.length_cons, List.length_nil, List.length_zipWith, List.length_drop, List.length_range]; first | done | omega))) only [ir_impl_IsGuarded, go_sem, Nat.reduceAdd, Nat.reduceEqDiff, Nat.reduceLeDiff, Nat.reduceSub]
      simp (maxSteps := 2000000) (disch := (first | omega | (simp only [List.length_append, List.length_take, List.length_replicate, List.length_map, List.length_set, List.length_cons, List.length_nil, List.length_zipWith, List.length_drop, List.length_range]; first | done | omega))) only [go_sem, Nat.reduceAdd, Nat.reduceEqDiff, Nat.reduceLeDiff, Nat.reduceSub, e1, e0, e2]
      refine W_for L.length (fun k s => s = ⟨[.any, .any, .ptr 0 0, .ptr 1 0, .any, .any, .any, .any, .ref 2 1 0 L.length, I L.length, I k, .any, .any], [.box t_impl_Net [I n.pl, trs n.tr], .box t_sl_int [ints m], .row t_int true 1 (L.map fun (r : Nat) => I (r : Int))]⟩ ∧ (L.take k).all (fun r => (bigS n false (setN r)).any fun p => decide (0 < at_ m p)) = true) ?_ ?_ ?_
      · refine ⟨?_, by simp⟩
        simp (maxSteps := 2000000) (disch := (first | omega | (simp only [List.length_append, List.length_take, List.length_replicate, List.length_map, List.length_set, List.length_cons, List.length_nil, List.length_zipWith, List.length_drop, List.length_range]; first | done | omega))) only [go_sem, Nat.reduceAdd, Nat.reduceEqDiff, Nat.reduceLeDiff, Nat.reduceSub]
        rfl
      · rintro k s hk2 ⟨rfl, ha⟩
        have hm2 := h.1 _ (List.getElem_mem hk2)
        have ho := okSet_setN hk hm2.2.1
        have hob := okSet_big (sp := false) ho
        have t1 := impl_bigTrap_false n (setN L[k]) hg (okSet_parts ho).2.2.2
        rw [setN_mask hm2.2.2] at t1
        have hin := (okSet_parts hob).2.2.2
        have hic := (okSet_parts hob).2.2.1
        have hbl := okSet_len hob
        have t2 := impl_setOf_ok (bigS n false (setN L[k])) (fun p hp => by have := hin p hp; omega) hic (by omega)
        have t3 := slices_ContainsFunc_sl_int_int_ok (bigS n false (setN L[k])) f_impl_IsGuarded_2 [.pv (.agg [ints m]) 0] rfl (fun _ _ => rfl) (fun p => decide (0 < at_ m p)) (fun p hp => impl_IsGuarded_2_ok p m (by have := hin p hp; omega)) (by omega)
        simp (maxSteps := 2000000) (disch := (first | omega | (simp only [List.length_append, List.length_take, List.length_replicate, List.length_map, List.length_set, List.length_cons, List.length_nil, List.length_zipWith, List.length_drop, List.length_range]; first | done | omega))) only [go_sem, Nat.reduceAdd, Nat.reduceEqDiff, Nat.reduceLeDiff, Nat.reduceSub, t1, t2, t3]
        exact ⟨fun h7 => ⟨rfl, all_take hk2 ha h7⟩, fun h7 => by rw [all_false (p := fun r => (bigS n false (setN r)).any fun p => decide (0 < at_ m p)) hk2 h7]⟩
      · rintro s ⟨rfl, ha⟩
        rw [List.take_length] at ha
        simp (maxSteps := 2000000) (disch := (first | omega | (simp only [List.length_append, List.length_take, List.length_replicate, List.length_map, List.length_set, List.length_cons, List.length_nil, List.length_zipWith, List.length_drop, List.length_range]; first | done | omega))) only [go_sem, Nat.reduceAdd, Nat.reduceEqDiff, Nat.reduceLeDiff, Nat.reduceSub]
        rw [ha]
theorem spec_l1In_ok (n lo hi : Int) : C f_spec_l1In [I n, I lo, I hi] [] = some (.bool (inB lo hi n), []) := by
  refine C_spec_l1In ?_
  simp (maxSteps := 2000000) (disch := (first | omega | (simp only [List.length_append, List.length_take, List.length_replicate, List.length_map, List.length_set, List.length_cons, List.length_nil, List.length_zipWith, List.length_drop, List.length_range]; first | done | omega))) only [ir_spec_l1In, go_sem, Nat.reduceAdd, Nat.reduceEqDiff, Nat.reduceLeDiff, Nat.reduceSub]
  unfold inB; grind
theorem spec_l1Places_ok (n : Int) : C f_spec_l1Places [I n] [] = some (.bool (inB 1 16 n), []) := by
  refine C_spec_l1Places ?_
  simp (maxSteps := 2000000) (disch := (first | omega | (simp only [List.length_append, List.length_take, List.length_replicate, List.length_map, List.length_set, List.length_cons, List.length_nil, List.length_zipWith, List.length_drop, List.length_range]; first | done | omega))) only [ir_spec_l1Places, go_sem, Nat.reduceAdd, Nat.reduceEqDiff, Nat.reduceLeDiff, Nat.reduceSub]
  simp (maxSteps := 2000000) (disch := (first | omega | (simp only [List.length_append, List.length_take, List.length_replicate, List.length_map, List.length_set, List.length_cons, List.length_nil, List.length_zipWith, List.length_drop, List.length_range]; first | done | omega))) only [go_sem, Nat.reduceAdd, Nat.reduceEqDiff, Nat.reduceLeDiff, Nat.reduceSub, spec_l1In_ok]
  grind
theorem spec_l1Rising_ok (l : List Int) (lo hi : Int) (hl : l.length < 2^62) : C f_spec_l1Rising [ints l, I lo, I hi] [] = some (.bool (incr l && l.all (inB lo hi)), []) := by
  refine C_spec_l1Rising ?_
  simp (maxSteps := 2000000) (disch := (first | omega | (simp only [List.length_append, List.length_take, List.length_replicate, List.length_map, List.length_set, List.length_cons, List.length_nil, List.length_zipWith, List.length_drop, List.length_range]; first | done | omega))) only [ir_spec_l1Rising, go_sem, Nat.reduceAdd, Nat.reduceEqDiff, Nat.reduceLeDiff, Nat.reduceSub]
  refine W_for l.length (fun k s => s = ⟨[ints l, I lo, I hi, .any, .any, .any, ints l, I l.length, I k, .any, .any], []⟩ ∧ (l.take k).Pairwise (· < ·) ∧ (l.take k).all (inB lo hi) = true) ?_ ?_ ?_
  · simp (maxSteps := 2000000) (disch := (first | omega | (simp only [List.length_append, List.length_take, List.length_replicate, List.length_map, List.length_set, List.length_cons, List.length_nil, List.length_zipWith, List.length_drop, List.length_range]; first | done | omega))) only [go_sem, Nat.reduceAdd, Nat.reduceEqDiff, Nat.reduceLeDiff, Nat.reduceSub]
    exact ⟨rfl, List.Pairwise.nil⟩
  · rintro k s hk ⟨rfl, hp, hall⟩
    simp (maxSteps := 2000000) (disch := (first | omega | (simp only [List.length_append, List.length_take, List.length_replicate, List.length_map, List.length_set, List.length_cons, List.length_nil, List.length_zipWith, List.length_drop, List.length_range]; first | done | omega))) only [go_sem, Nat.reduceAdd, Nat.reduceEqDiff, Nat.reduceLeDiff, Nat.reduceSub, spec_l1In_ok]
    refine ⟨fun h => ⟨fun h2 => ?_, fun h2 => ?_⟩, fun h => by rw [all_false hk h]; simp⟩
    · simp (maxSteps := 2000000) (disch := (first | omega | (simp only [List.length_append, List.length_take, List.length_replicate, List.length_map, List.length_set, List.length_cons, List.length_nil, List.length_zipWith, List.length_drop, List.length_range]; first | done | omega))) only [go_sem, Nat.reduceAdd, Nat.reduceEqDiff, Nat.reduceLeDiff, Nat.reduceSub]
      obtain ⟨j, rfl⟩ : ∃ j, k = j + 1 := ⟨k - 1, by omega⟩
      have e : (((j + 1 : Nat) : Int) - 1).toNat = j := by omega
      refine ⟨fun h3 => ?_, fun h3 => ⟨rfl, ?_, all_take hk hall h⟩⟩
      · rw [incr_not hk (by simp only [e] at h3; omega)]; rfl
      · exact incr_step hk hp (by simp only [e] at h3; omega)
    · obtain rfl : k = 0 := by omega
      exact ⟨rfl, incr_one, all_take hk hall h⟩
  · rintro s ⟨rfl, hp, hall⟩
    simp (maxSteps := 2000000) (disch := (first | omega | (simp only [List.length_append, List.length_take, List.length_replicate, List.length_map, List.length_set, List.length_cons, List.length_nil, List.length_zipWith, List.length_drop, List.length_range]; first | done | omega))) only [go_sem, Nat.reduceAdd, Nat.reduceEqDiff, Nat.reduceLeDiff, Nat.reduceSub]
    rw [List.take_length] at hp hall
    rw [hall, show incr l = true by simpa [incr] using hp]
    rfl
theorem spec_GoodNet_ok (n : Net) (hn : smN n) : C f_spec_GoodNet [encN n] [] = some (.bool (goodN n), []) := by
  have h0 := hn.1
  refine C_spec_GoodNet ?_
  simp (maxSteps := 2000000) (disch := (first | omega | (simp only [List.length_append, List.length_take, List.length_replicate, List.length_map, List.length_set, List.length_cons, List.length_nil, List.length_zipWith, List.length_drop, List.length_range]; first | done | omega))) only [ir_spec_GoodNet, go_sem, Nat.reduceAdd, Nat.reduceEqDiff, Nat.reduceLeDiff, Nat.reduceSub]
  simp (maxSteps := 2000000) (disch := (first | omega | (simp only [List.length_append, List.length_take, List.length_replicate, List.length_map, List.length_set, List.length_cons, List.length_nil, List.length_zipWith, List.length_drop, List.length_range]; first | done | omega))) only [go_sem, Nat.reduceAdd, Nat.reduceEqDiff, Nat.reduceLeDiff, Nat.reduceSub, spec_l1Places_ok]
  refine ⟨fun h => ⟨fun h2 => ?_, fun h2 => ?_⟩, fun h => by simp [goodN, h]⟩
  · have : ¬ n.tr.length ≤ 24 := by omega
    simp [goodN, this]
  have hb : 1 ≤ n.pl ∧ n.pl ≤ 16 := by simpa [inB] using h
  refine W_for n.tr.length (fun k s => s = ⟨[.any, .ptr 0 0, .any, .any, .any, trs n.tr, I n.tr.length, I k, .any, .any], [.box t_impl_Net [I n.pl, trs n.tr]]⟩ ∧ (n.tr.take k).all (goodT n.pl) = true) ?_ ?_ ?_
  · simp (maxSteps := 2000000) (disch := (first | omega | (simp only [List.length_append, List.length_take, List.length_replicate, List.length_map, List.length_set, List.length_cons, List.length_nil, List.length_zipWith, List.length_drop, List.length_range]; first | done | omega))) only [go_sem, Nat.reduceAdd, Nat.reduceEqDiff, Nat.reduceLeDiff, Nat.reduceSub]
    rfl
  · rintro k s hk ⟨rfl, hall⟩
    obtain ⟨h3, h4, h5⟩ := hn.2 _ (List.getElem_mem hk)
    simp (maxSteps := 2000000) (disch := (first | omega | (simp only [List.length_append, List.length_take, List.length_replicate, List.length_map, List.length_set, List.length_cons, List.length_nil, List.length_zipWith, List.length_drop, List.length_range]; first | done | omega))) only [go_sem, Nat.reduceAdd, Nat.reduceEqDiff, Nat.reduceLeDiff, Nat.reduceSub, spec_l1Rising_ok]
    simp only [places_eq]
    refine ⟨fun h6 => by rw [goodN_not hk (goodT_nil (by omega))], fun h6 => ⟨fun h7 => ⟨fun h8 => ⟨fun h9 => ⟨rfl, all_take hk hall (goodT_all (by omega) h7 h8 h9)⟩, fun h9 => by rw [goodN_not hk (by simp [goodT, h9])]⟩, fun h8 => by rw [goodN_not hk (by simp [goodT, h8])]⟩, fun h7 => by rw [goodN_not hk (by simp [goodT, h7])]⟩⟩
  · rintro s ⟨rfl, hall⟩
    simp (maxSteps := 2000000) (disch := (first | omega | (simp only [List.length_append, List.length_take, List.length_replicate, List.length_map, List.length_set, List.length_cons, List.length_nil, List.length_zipWith, List.length_drop, List.length_range]; first | done | omega))) only [go_sem, Nat.reduceAdd, Nat.reduceEqDiff, Nat.reduceLeDiff, Nat.reduceSub]
    rw [List.take_length] at hall
    simp [goodN, hall, h, show n.tr.length ≤ 24 by omega]
theorem spec_l2Resets_ok (n : Net) (hl : n.tr.length < 2^62) : C f_spec_l2Resets [encN n] [] = some (.bool (hasR n), []) := by
  refine C_spec_l2Resets ?_
  simp (maxSteps := 2000000) (disch := (first | omega | (simp only [List.length_append, List.length_take, List.length_replicate, List.length_map, List.length_set, List.length_cons, List.length_nil, List.length_zipWith, List.length_drop, List.length_range]; first | done | omega))) only [ir_spec_l2Resets, go_sem, Nat.reduceAdd, Nat.reduceEqDiff, Nat.reduceLeDiff, Nat.reduceSub]
  refine W_for n.tr.length (fun k s => s = ⟨[.any, .any, .any, .any, trs n.tr, I n.tr.length, I k, .any, .any], []⟩ ∧ (n.tr.take k).any (fun t => decide (0 < t.rst.length)) = false) ?_ ?_ ?_
  · simp (maxSteps := 2000000) (disch := (first | omega | (simp only [List.length_append, List.length_take, List.length_replicate, List.length_map, List.length_set, List.length_cons, List.length_nil, List.length_zipWith, List.length_drop, List.length_range]; first | done | omega))) only [go_sem, Nat.reduceAdd, Nat.reduceEqDiff, Nat.reduceLeDiff, Nat.reduceSub]
    rfl
  · rintro k s hk ⟨rfl, hall⟩
    simp (maxSteps := 2000000) (disch := (first | omega | (simp only [List.length_append, List.length_take, List.length_replicate, List.length_map, List.length_set, List.length_cons, List.length_nil, List.length_zipWith, List.length_drop, List.length_range]; first | done | omega))) only [go_sem, Nat.reduceAdd, Nat.reduceEqDiff, Nat.reduceLeDiff, Nat.reduceSub]
    refine ⟨fun h => ?_, fun h => ⟨rfl, any_take hk hall (decide_eq_false (by omega))⟩⟩
    have : hasR n = true := any_true hk (decide_eq_true (by omega))
    rw [this]
  · rintro s ⟨rfl, hall⟩
    simp (maxSteps := 2000000) (disch := (first | omega | (simp only [List.length_append, List.length_take, List.length_replicate, List.length_map, List.length_set, List.length_cons, List.length_nil, List.length_zipWith, List.length_drop, List.length_range]; first | done | omega))) only [go_sem, Nat.reduceAdd, Nat.reduceEqDiff, Nat.reduceLeDiff, Nat.reduceSub]
    rw [List.take_length] at hall
    unfold hasR; rw [hall]
theorem spec_l7Plain_ok (n : Net) (hn : smN n) : C f_spec_l7Plain [encN n] [] = some (.bool (plainN n), []) := by
  have h0 := hn.1
  refine C_spec_l7Plain ?_
  simp (maxSteps := 2000000) (disch := (first | omega | (simp only [List.length_append, List.length_take, List.length_replicate, List.length_map, List.length_set, List.length_cons, List.length_nil, List.length_zipWith, List.length_drop, List.length_range]; first | done | omega))) only [ir_spec_l7Plain, go_sem, Nat.reduceAdd, Nat.reduceEqDiff, Nat.reduceLeDiff, Nat.reduceSub]
  simp (maxSteps := 2000000) (disch := (first | omega | (simp only [List.length_append, List.length_take, List.length_replicate, List.length_map, List.length_set, List.length_cons, List.length_nil, List.length_zipWith, List.length_drop, List.length_range]; first | done | omega))) only [go_sem, Nat.reduceAdd, Nat.reduceEqDiff, Nat.reduceLeDiff, Nat.reduceSub, spec_GoodNet_ok n hn, spec_l2Resets_ok n (by omega)]
  unfold plainN; grind
theorem spec_l1All_ok (l : List Int) (lo hi : Int) (hl : l.length < 2^62) : C f_spec_l1All [ints l, I lo, I hi] [] = some (.bool (l.all (inB lo hi)), []) := by
  refine C_spec_l1All ?_
  simp (maxSteps := 2000000) (disch := (first | omega | (simp only [List.length_append, List.length_take, List.length_replicate, List.length_map, List.length_set, List.length_cons, List.length_nil, List.length_zipWith, List.length_drop, List.length_range]; first | done | omega))) only [ir_spec_l1All, go_sem, Nat.reduceAdd, Nat.reduceEqDiff, Nat.reduceLeDiff, Nat.reduceSub]
  refine W_for l.length (fun k s => s = ⟨[.any, I lo, I hi, .any, .any, ints l, I l.length, I k, .any, .any], []⟩ ∧ (l.take k).all (inB lo hi) = true) ?_ ?_ ?_
  · simp (maxSteps := 2000000) (disch := (first | omega | (simp only [List.length_append, List.length_take, List.length_replicate, List.length_map, List.length_set, List.length_cons, List.length_nil, List.length_zipWith, List.length_drop, List.length_range]; first | done | omega))) only [go_sem, Nat.reduceAdd, Nat.reduceEqDiff, Nat.reduceLeDiff, Nat.reduceSub]
    rfl
  · rintro k s hk ⟨rfl, hall⟩
    simp (maxSteps := 2000000) (disch := (first | omega | (simp only [List.length_append, List.length_take, List.length_replicate, List.length_map, List.length_set, List.length_cons, List.length_nil, List.length_zipWith, List.length_drop, List.length_range]; first | done | omega))) only [go_sem, Nat.reduceAdd, Nat.reduceEqDiff, Nat.reduceLeDiff, Nat.reduceSub, spec_l1In_ok]
    exact ⟨fun h => ⟨rfl, all_take hk hall h⟩, fun h => by rw [all_false hk h]⟩
  · rintro s ⟨rfl, hall⟩
    simp (maxSteps := 2000000) (disch := (first | omega | (simp only [List.length_append, List.length_take, List.length_replicate, List.length_map, List.length_set, List.length_cons, List.length_nil, List.length_zipWith, List.length_drop, List.length_range]; first | done | omega))) only [go_sem, Nat.reduceAdd, Nat.reduceEqDiff, Nat.reduceLeDiff, Nat.reduceSub]
    rw [List.take_length] at hall
    rw [hall]
theorem spec_GoodMark_ok (p : Int) (m : List Int) (hl : m.length < 2^62) : C f_spec_GoodMark [I p, ints m] [] = some (.bool (goodM p m), []) := by
  refine C_spec_GoodMark ?_
  simp (maxSteps := 2000000) (disch := (first | omega | (simp only [List.length_append, List.length_take, List.length_replicate, List.length_map, List.length_set, List.length_cons, List.length_nil, List.length_zipWith, List.length_drop, List.length_range]; first | done | omega))) only [ir_spec_GoodMark, go_sem, Nat.reduceAdd, Nat.reduceEqDiff, Nat.reduceLeDiff, Nat.reduceSub]
  simp (maxSteps := 2000000) (disch := (first | omega | (simp only [List.length_append, List.length_take, List.length_replicate, List.length_map, List.length_set, List.length_cons, List.length_nil, List.length_zipWith, List.length_drop, List.length_range]; first | done | omega))) only [go_sem, Nat.reduceAdd, Nat.reduceEqDiff, Nat.reduceLeDiff, Nat.reduceSub, spec_l1Places_ok, spec_l1All_ok m _ _ hl]
  unfold goodM; grind
theorem spec_l1Set_ok (l : List Int) (h : ∀ p ∈ l, 0 ≤ p ∧ p < 30) (hi : incr l = true) (hl : l.length < 2^30) : C f_spec_l1Set [I (maskN l)] [] = some (.un t_int true 1 (l.map I), []) := by
  have hp : l.Pairwise (· < ·) := by simpa [incr] using hi
  have h0 : ∀ p ∈ l, 0 ≤ p := fun p hp => (h p hp).1
  have hm : maskN l < 2 ^ 30 := maskN_lt (q := 30) h
  refine C_spec_l1Set ?_
  simp (maxSteps := 2000000) (disch := (first | omega | (simp only [List.length_append, List.length_take, List.length_replicate, List.length_map, List.length_set, List.length_cons, List.length_nil, List.length_zipWith, List.length_drop, List.length_range]; first | done | omega))) only [ir_spec_l1Set, go_sem, Nat.reduceAdd, Nat.reduceEqDiff, Nat.reduceLeDiff, Nat.reduceSub]
  refine W_down (fun j s => ∃ k : Nat, j + k = 40 ∧ k ≤ 31 ∧ s = ⟨[I (maskN l), .any, .ref 0 1 0 (below l k).length, I k, .any, .any], [.row t_int true 1 ((below l k).map I)]⟩) 40 ?_ ?_
  · refine ⟨0, rfl, by omega, ?_⟩
    rw [below_zero h0]
    simp (maxSteps := 2000000) (disch := (first | omega | (simp only [List.length_append, List.length_take, List.length_replicate, List.length_map, List.length_set, List.length_cons, List.length_nil, List.length_zipWith, List.length_drop, List.length_range]; first | done | omega))) only [go_sem, Nat.reduceAdd, Nat.reduceEqDiff, Nat.reduceLeDiff, Nat.reduceSub]
    rfl
  · rintro j s ⟨k, hj, hk, rfl⟩
    have hbl := below_len l k
    have e1 : ((maskN l : Nat) : Int) / 2 ^ min k 64 = ((maskN l / 2 ^ k : Nat) : Int) := by
      rw [show min k 64 = k by omega]; simp
    have e2 : maskN l / 2 ^ k < 2 ^ 62 := Nat.lt_of_le_of_lt (Nat.div_le_self _ _) (by omega)
    have e3 := and_i64 (a := maskN l / 2 ^ k) (b := 1) e2 (by decide)
    rw [Nat.and_one_is_mod] at e3
    have hk64 : IntKind.u64.wrap (k : Int) = k := by rw [IntKind.wrap_u64]; omega
    simp (maxSteps := 2000000) (disch := (first | omega | (simp only [List.length_append, List.length_take, List.length_replicate, List.length_map, List.length_set, List.length_cons, List.length_nil, List.length_zipWith, List.length_drop, List.length_range]; first | done | omega))) only [go_sem, Nat.reduceAdd, Nat.reduceEqDiff, Nat.reduceLeDiff, Nat.reduceSub, hk64, e1]
    have eb := mask_odd h0 k
    have hone : ((1 : Nat) : Int) = 1 := rfl
    rw [hone] at e3
    refine ⟨fun hne => ?_, fun hz => ?_⟩
    · have hk30 : k < 30 := by
        rcases Nat.lt_or_ge k 30 with h5 | h5
        · exact h5
        · have h6 : maskN l / 2 ^ k = 0 := Nat.div_eq_of_lt (Nat.lt_of_lt_of_le hm (Nat.pow_le_pow_right (by decide) h5))
          omega
      refine ⟨fun h1 => ⟨j - 1, by omega, k + 1, by omega, by omega, ?_⟩, fun h1 => ⟨j - 1, by omega, k + 1, by omega, by omega, ?_⟩⟩
      · have hm1 : maskN l / 2 ^ k % 2 = 1 := by rw [e3] at h1; omega
        rw [decide_eq_true hm1] at eb
        rw [below_succ hp, if_pos (by simpa [hasB] using eb), List.map_append]
        simp
      · have hm1 : ¬ maskN l / 2 ^ k % 2 = 1 := by rw [e3] at h1; omega
        rw [decide_eq_false hm1] at eb
        rw [below_succ hp, if_neg (by simpa [hasB] using eb), List.append_nil]
        rfl
    · have hz2 : maskN l / 2 ^ k = 0 := by
        clear e1 e3
        generalize maskN l / 2 ^ k = z at hz
        omega
      rw [below_all (mask_shift h0 k hz2)]
theorem spec_l1Has_ok (l : List Int) (x : Int) (hl : l.length < 2^62) : C f_spec_l1Has [ints l, I x] [] = some (.bool (hasB l x), []) := by
  refine C_spec_l1Has ?_
  simp (maxSteps := 2000000) (disch := (first | omega | (simp only [List.length_append, List.length_take, List.length_replicate, List.length_map, List.length_set, List.length_cons, List.length_nil, List.length_zipWith, List.length_drop, List.length_range]; first | done | omega))) only [ir_spec_l1Has, go_sem, Nat.reduceAdd, Nat.reduceEqDiff, Nat.reduceLeDiff, Nat.reduceSub]
  refine W_for l.length (fun k s => s = ⟨[.any, I x, .any, .any, ints l, I l.length, I k, .any, .any], []⟩ ∧ (l.take k).any (fun y => y == x) = false) ?_ ?_ ?_
  · simp (maxSteps := 2000000) (disch := (first | omega | (simp only [List.length_append, List.length_take, List.length_replicate, List.length_map, List.length_set, List.length_cons, List.length_nil, List.length_zipWith, List.length_drop, List.length_range]; first | done | omega))) only [go_sem, Nat.reduceAdd, Nat.reduceEqDiff, Nat.reduceLeDiff, Nat.reduceSub]
    rfl
  · rintro k s hk ⟨rfl, hall⟩
    simp (maxSteps := 2000000) (disch := (first | omega | (simp only [List.length_append, List.length_take, List.length_replicate, List.length_map, List.length_set, List.length_cons, List.length_nil, List.length_zipWith, List.length_drop, List.length_range]; first | done | omega))) only [go_sem, Nat.reduceAdd, Nat.reduceEqDiff, Nat.reduceLeDiff, Nat.reduceSub]
    refine ⟨fun h => ?_, fun h => ⟨rfl, any_take hk hall (by simpa using h)⟩⟩
    rw [hasB_yes hk h]
  · rintro s ⟨rfl, hall⟩
    simp (maxSteps := 2000000) (disch := (first | omega | (simp only [List.length_append, List.length_take, List.length_replicate, List.length_map, List.length_set, List.length_cons, List.length_nil, List.length_zipWith, List.length_drop, List.length_range]; first | done | omega))) only [go_sem, Nat.reduceAdd, Nat.reduceEqDiff, Nat.reduceLeDiff, Nat.reduceSub]
    rw [List.take_length] at hall
    rw [hasB_no hall]
theorem spec_l2Meet_ok (a b : List Int) (ha : a.length < 2^62) (hb : b.length < 2^62) : C f_spec_l2Meet [ints a, ints b] [] = some (.bool (meetB a b), []) := by
  refine C_spec_l2Meet ?_
  simp (maxSteps := 2000000) (disch := (first | omega | (simp only [List.length_append, List.length_take, List.length_replicate, List.length_map, List.length_set, List.length_cons, List.length_nil, List.length_zipWith, List.length_drop, List.length_range]; first | done | omega))) only [ir_spec_l2Meet, go_sem, Nat.reduceAdd, Nat.reduceEqDiff, Nat.reduceLeDiff, Nat.reduceSub]
  refine W_for a.length (fun k s => s = ⟨[.any, ints b, .any, .any, ints a, I a.length, I k, .any, .any], []⟩ ∧ (a.take k).any (hasB b) = false) ?_ ?_ ?_
  · simp (maxSteps := 2000000) (disch := (first | omega | (simp only [List.length_append, List.length_take, List.length_replicate, List.length_map, List.length_set, List.length_cons, List.length_nil, List.length_zipWith, List.length_drop, List.length_range]; first | done | omega))) only [go_sem, Nat.reduceAdd, Nat.reduceEqDiff, Nat.reduceLeDiff, Nat.reduceSub]
    rfl
  · rintro k s hk ⟨rfl, hall⟩
    simp (maxSteps := 2000000) (disch := (first | omega | (simp only [List.length_append, List.length_take, List.length_replicate, List.length_map, List.length_set, List.length_cons, List.length_nil, List.length_zipWith, List.length_drop, List.length_range]; first | done | omega))) only [go_sem, Nat.reduceAdd, Nat.reduceEqDiff, Nat.reduceLeDiff, Nat.reduceSub, spec_l1Has_ok]
    refine ⟨fun h => ?_, fun h => ⟨rfl, any_take hk hall h⟩⟩
    have : meetB a b = true := any_true hk h
    rw [this]
  · rintro s ⟨rfl, hall⟩
    simp (maxSteps := 2000000) (disch := (first | omega | (simp only [List.length_append, List.length_take, List.length_replicate, List.length_map, List.length_set, List.length_cons, List.length_nil, List.length_zipWith, List.length_drop, List.length_range]; first | done | omega))) only [go_sem, Nat.reduceAdd, Nat.reduceEqDiff, Nat.reduceLeDiff, Nat.reduceSub]
    rw [List.take_length] at hall
    unfold meetB; rw [hall]
theorem spec_l8Siphon_ok (n : Net) (set : List Int) (hn : smN n) (hs : set.length < 2^62) : C f_spec_l8Siphon [encN n, ints set] [] = some (.bool (isS n true set), []) := by
  have h0 := hn.1
  refine C_spec_l8Siphon ?_
  simp (maxSteps := 2000000) (disch := (first | omega | (simp only [List.length_append, List.length_take, List.length_replicate, List.length_map, List.length_set, List.length_cons, List.length_nil, List.length_zipWith, List.length_drop, List.length_range]; first | done | omega))) only [ir_spec_l8Siphon, go_sem, Nat.reduceAdd, Nat.reduceEqDiff, Nat.reduceLeDiff, Nat.reduceSub]
  refine W_for n.tr.length (fun k s => s = ⟨[.any, ints set, .any, .any, .any, trs n.tr, I n.tr.length, I k, .any, .any], []⟩ ∧ (n.tr.take k).all (fun t => !badS true t set) = true) ?_ ?_ ?_
  · simp (maxSteps := 2000000) (disch := (first | omega | (simp only [List.length_append, List.length_take, List.length_replicate, List.length_map, List.length_set, List.length_cons, List.length_nil, List.length_zipWith, List.length_drop, List.length_range]; first | done | omega))) only [go_sem, Nat.reduceAdd, Nat.reduceEqDiff, Nat.reduceLeDiff, Nat.reduceSub]
    rfl
  · rintro k s hk ⟨rfl, hall⟩
    obtain ⟨h3, h4, h5⟩ := hn.2 _ (List.getElem_mem hk)
    simp (maxSteps := 2000000) (disch := (first | omega | (simp only [List.length_append, List.length_take, List.length_replicate, List.length_map, List.length_set, List.length_cons, List.length_nil, List.length_zipWith, List.length_drop, List.length_range]; first | done | omega))) only [go_sem, Nat.reduceAdd, Nat.reduceEqDiff, Nat.reduceLeDiff, Nat.reduceSub, spec_l2Meet_ok]
    have no : badS true n.tr[k] set = true → isS n true set = false := fun h => all_false hk (by simp [h])
    refine ⟨fun h => ⟨fun h2 => ⟨rfl, all_take hk hall (by simp [badS, sideI, sideO, h, h2])⟩, fun h2 => by rw [no (by simp [badS, sideI, sideO, h, h2])]⟩, fun h => ⟨rfl, all_take hk hall (by simp [badS, sideI, sideO, h])⟩⟩
  · rintro s ⟨rfl, hall⟩
    simp (maxSteps := 2000000) (disch := (first | omega | (simp only [List.length_append, List.length_take, List.length_replicate, List.length_map, List.length_set, List.length_cons, List.length_nil, List.length_zipWith, List.length_drop, List.length_range]; first | done | omega))) only [go_sem, Nat.reduceAdd, Nat.reduceEqDiff, Nat.reduceLeDiff, Nat.reduceSub]
    rw [List.take_length] at hall
    rw [show isS n true set = true from hall]
theorem spec_l8Small_ok (n : Net) (hn : smN n) (hg : goodN n = true) (h10 : n.pl ≤ 10) : C f_spec_l8Small [encN n] [] = some (.un t_sl_int false 1 ((smallS n).map fun r => ints (setN r)), []) := by
  have hg2 := goodN_parts hg
  obtain ⟨q, hq⟩ : ∃ q : Nat, n.pl = q := ⟨n.pl.toNat, by omega⟩
  have hq2 : n.pl.toNat = q := by omega
  have hp10 : 2 ^ q ≤ 2 ^ 10 := Nat.pow_le_pow_right (by decide) (by omega)
  have hp0 : 0 < 2 ^ q := Nat.pow_pos (by decide)
  have hwr : IntKind.u64.wrap (q : Int) = q := by rw [IntKind.wrap_u64]; omega
  have hsh : IntKind.i64.wrap (1 * 2 ^ min (IntKind.u64.wrap n.pl).toNat 64) = ((2 ^ q : Nat) : Int) := by
    rw [hq, hwr, show min (q : Int).toNat 64 = q by omega, show (1 : Int) * 2 ^ q = ((2 ^ q : Nat) : Int) by simp, IntKind.wrap_i64]; omega
  have htn := hn.1
  generalize hQ : 2 ^ q = Q at *
  refine C_spec_l8Small ?_
  simp (maxSteps := 2000000) (disch := (first | omega | (simp only [List.length_append, List.length_take, List.length_replicate, List.length_map, List.length_set, List.length_cons, List.length_nil, List.length_zipWith, List.length_drop, List.length_range]; first | done | omega))) only [ir_spec_l8Small, go_sem, Nat.reduceAdd, Nat.reduceEqDiff, Nat.reduceLeDiff, Nat.reduceSub]
  refine W_for (Q - 1) (fun k s => s = ⟨[.any, .ptr 0 0, .any, .ref 1 1 0 (smK (fun r => isS n true (setN r)) k).length, I (k + 1), .any, .any, .any, .any, .any, .any, .any, .any, .any, .any, .any, .any, .any, .any], [.box t_impl_Net [I n.pl, trs n.tr], .row t_int true 1 ((smK (fun r => isS n true (setN r)) k).map fun (r : Nat) => I (r : Int))]⟩) ?_ ?_ ?_
  · simp (maxSteps := 2000000) (disch := (first | omega | (simp only [List.length_append, List.length_take, List.length_replicate, List.length_map, List.length_set, List.length_cons, List.length_nil, List.length_zipWith, List.length_drop, List.length_range]; first | done | omega))) only [go_sem, Nat.reduceAdd, Nat.reduceEqDiff, Nat.reduceLeDiff, Nat.reduceSub]
    rfl
  · rintro k s hk rfl
    have hlk := smK_len (fun r => isS n true (setN r)) k
    have hsl := setN_lt (r := k + 1) (q := q) (by omega)
    have hsn := setN_len (k + 1)
    have e1 := spec_l1Set_ok (setN (k + 1)) (fun p hp => by have := setN_in (k + 1) p hp; omega) (setN_incr _) (by omega)
    rw [setN_mask (by omega)] at e1
    have e2 := spec_l8Siphon_ok n (setN (k + 1)) hn (by omega)
    rw [Int.natCast_add, show ((1 : Nat) : Int) = 1 from rfl] at e1
    have hst := @smK_t (fun r => isS n true (setN r)) k
    have hsf := @smK_f (fun r => isS n true (setN r)) k
    have hin := smK_in (fun r => isS n true (setN r)) k
    generalize smK (fun r => isS n true (setN r)) (k + 1) = M' at *
    generalize smK (fun r => isS n true (setN r)) k = M at *
    generalize hb0 : isS n true (setN (k + 1)) = b0 at *
    cases hbe : b0 <;> rw [hbe] at e2
    all_goals
      simp (maxSteps := 2000000) (disch := (first | omega | (simp only [List.length_append, List.length_take, List.length_replicate, List.length_map, List.length_set, List.length_cons, List.length_nil, List.length_zipWith, List.length_drop, List.length_range]; first | done | omega))) only [go_sem, Nat.reduceAdd, Nat.reduceEqDiff, Nat.reduceLeDiff, Nat.reduceSub, hsh, e1, e2]
      refine W_for M.length (fun j s => ∃ b : Bool, s = ⟨[.any, .ptr 0 0, .any, .ref 1 1 0 M.length, I (k + 1), .bool b, .any, .any, .any, .any, .ref 1 1 0 M.length, I M.length, I j, .any, .any, .any, .any, .any, .any], [.box t_impl_Net [I n.pl, trs n.tr], .row t_int true 1 (M.map fun (r : Nat) => I (r : Int))]⟩ ∧ ((b0 && (M.take j).all (fun x => !decide (x &&& (k + 1) = x))) = b)) ?_ ?_ ?_
      · refine ⟨b0, ?_, by simp⟩
        rw [hbe]
        simp (maxSteps := 2000000) (disch := (first | omega | (simp only [List.length_append, List.length_take, List.length_replicate, List.length_map, List.length_set, List.length_cons, List.length_nil, List.length_zipWith, List.length_drop, List.length_range]; first | done | omega))) only [go_sem, Nat.reduceAdd, Nat.reduceEqDiff, Nat.reduceLeDiff, Nat.reduceSub]
        rfl
      · rintro j s hj ⟨b, rfl, hb⟩
        have hm := hin _ (List.getElem_mem hj)
        have ha := and_i64 (a := M[j]) (b := k + 1) (by omega) (by omega)
        rw [Int.natCast_add, show ((1 : Nat) : Int) = 1 from rfl] at ha
        rw [take_snoc hj, List.all_append, ← Bool.and_assoc, hb]
        rw [show [M[j]].all (fun x => !decide (x &&& (k + 1) = x)) = !decide (M[j] &&& (k + 1) = M[j]) by simp]
        generalize M[j] &&& (k + 1) = z at *
        cases b
        all_goals
          simp (maxSteps := 2000000) (disch := (first | omega | (simp only [List.length_append, List.length_take, List.length_replicate, List.length_map, List.length_set, List.length_cons, List.length_nil, List.length_zipWith, List.length_drop, List.length_range]; first | done | omega))) only [go_sem, Nat.reduceAdd, Nat.reduceEqDiff, Nat.reduceLeDiff, Nat.reduceSub, ha]
          try simp
          try omega
      · rintro s ⟨b, rfl, hb⟩
        rw [List.take_length] at hb
        cases b
        all_goals
          simp (maxSteps := 2000000) (disch := (first | omega | (simp only [List.length_append, List.length_take, List.length_replicate, List.length_map, List.length_set, List.length_cons, List.length_nil, List.length_zipWith, List.length_drop, List.length_range]; first | done | omega))) only [go_sem, Nat.reduceAdd, Nat.reduceEqDiff, Nat.reduceLeDiff, Nat.reduceSub]
          first | (rw [hsf hb]; rfl) | (rw [hst (Bool.and_eq_true_iff.1 hb).1 (Bool.and_eq_true_iff.1 hb).2, List.map_append, List.length_append]; rfl)
  · rintro s rfl
    have hlk := smK_len (fun r => isS n true (setN r)) (Q - 1)
    have hin := smK_in (fun r => isS n true (setN r)) (Q - 1)
    have hsm : smallS n = smK (fun r => isS n true (setN r)) (Q - 1) := by unfold smallS; rw [hq2, hQ]
    rw [hsm]
    generalize smK (fun r => isS n true (setN r)) (Q - 1) = L at *
    simp (maxSteps := 2000000) (disch := (first | omega | (simp only [List.length_append, List.length_take, List.length_replicate, List.length_map, List.length_set, List.length_cons, List.length_nil, List.length_zipWith, List.length_drop, List.length_range]; first | done | omega))) only [go_sem, Nat.reduceAdd, Nat.reduceEqDiff, Nat.reduceLeDiff, Nat.reduceSub, hsh]
    refine W_for L.length (fun j s => s = ⟨[.any, .any, .any, .any, .any, .any, .any, .ref 0 1 0 j, .any, .any, .any, .any, .any, .any, .any, .ref 1 1 0 L.length, I L.length, I j, .any], [.row t_sl_int false 1 ((L.take j).map fun r => ints (setN r)), .row t_int true 1 (L.map fun (r : Nat) => I (r : Int))]⟩) ?_ ?_ ?_
    · simp (maxSteps := 2000000) (disch := (first | omega | (simp only [List.length_append, List.length_take, List.length_replicate, List.length_map, List.length_set, List.length_cons, List.length_nil, List.length_zipWith, List.length_drop, List.length_range]; first | done | omega))) only [go_sem, Nat.reduceAdd, Nat.reduceEqDiff, Nat.reduceLeDiff, Nat.reduceSub]
      trivial
    · rintro j s hj rfl
      have hm := hin _ (List.getElem_mem hj)
      have e1 := spec_l1Set_ok (setN L[j]) (fun p hp => by have := setN_in L[j] p hp; omega) (setN_incr _) (by have := setN_len L[j]; omega)
      rw [setN_mask (by omega)] at e1
      simp (maxSteps := 2000000) (disch := (first | omega | (simp only [List.length_append, List.length_take, List.length_replicate, List.length_map, List.length_set, List.length_cons, List.length_nil, List.length_zipWith, List.length_drop, List.length_range]; first | done | omega))) only [go_sem, Nat.reduceAdd, Nat.reduceEqDiff, Nat.reduceLeDiff, Nat.reduceSub, e1]
      rw [take_snoc hj, List.map_append]; rfl
    · rintro s rfl
      simp (maxSteps := 2000000) (disch := (first | omega | (simp only [List.length_append, List.length_take, List.length_replicate, List.length_map, List.length_set, List.length_cons, List.length_nil, List.length_zipWith, List.length_drop, List.length_range]; first | done | omega))) only [go_sem, Nat.reduceAdd, Nat.reduceEqDiff, Nat.reduceLeDiff, Nat.reduceSub, List.take_length]
theorem spec_l1Own_ok (l : List Int) (h : l.length < 2^36) : C f_spec_l1Own [ints l] [] = some (.un t_int true 1 (l.map I), []) := by
  refine C_spec_l1Own ?_
  simp (maxSteps := 2000000) (disch := (first | omega | (simp only [List.length_append, List.length_take, List.length_replicate, List.length_map, List.length_set, List.length_cons, List.length_nil, List.length_zipWith, List.length_drop, List.length_range]; first | done | omega))) only [ir_spec_l1Own, go_sem, Nat.reduceAdd, Nat.reduceEqDiff, Nat.reduceLeDiff, Nat.reduceSub]
theorem spec_l8Trap_ok (n : Net) (set : List Int) (hn : smN n) (hs : set.length < 2^62) : C f_spec_l8Trap [encN n, ints set] [] = some (.bool (isS n false set), []) := by
  have h0 := hn.1
  refine C_spec_l8Trap ?_
  simp (maxSteps := 2000000) (disch := (first | omega | (simp only [List.length_append, List.length_take, List.length_replicate, List.length_map, List.length_set, List.length_cons, List.length_nil, List.length_zipWith, List.length_drop, List.length_range]; first | done | omega))) only [ir_spec_l8Trap, go_sem, Nat.reduceAdd, Nat.reduceEqDiff, Nat.reduceLeDiff, Nat.reduceSub]
  refine W_for n.tr.length (fun k s => s = ⟨[.any, ints set, .any, .any, .any, trs n.tr, I n.tr.length, I k, .any, .any], []⟩ ∧ (n.tr.take k).all (fun t => !badS false t set) = true) ?_ ?_ ?_
  · simp (maxSteps := 2000000) (disch := (first | omega | (simp only [List.length_append, List.length_take, List.length_replicate, List.length_map, List.length_set, List.length_cons, List.length_nil, List.length_zipWith, List.length_drop, List.length_range]; first | done | omega))) only [go_sem, Nat.reduceAdd, Nat.reduceEqDiff, Nat.reduceLeDiff, Nat.reduceSub]
    rfl
  · rintro k s hk ⟨rfl, hall⟩
    obtain ⟨h3, h4, h5⟩ := hn.2 _ (List.getElem_mem hk)
    simp (maxSteps := 2000000) (disch := (first | omega | (simp only [List.length_append, List.length_take, List.length_replicate, List.length_map, List.length_set, List.length_cons, List.length_nil, List.length_zipWith, List.length_drop, List.length_range]; first | done | omega))) only [go_sem, Nat.reduceAdd, Nat.reduceEqDiff, Nat.reduceLeDiff, Nat.reduceSub, spec_l2Meet_ok]
    have no : badS false n.tr[k] set = true → isS n false set = false := fun h => all_false hk (by simp [h])
    refine ⟨fun h => ⟨fun h2 => ⟨rfl, all_take hk hall (by simp [badS, sideI, sideO, h, h2])⟩, fun h2 => by rw [no (by simp [badS, sideI, sideO, h, h2])]⟩, fun h => ⟨rfl, all_take hk hall (by simp [badS, sideI, sideO, h])⟩⟩
  · rintro s ⟨rfl, hall⟩
    simp (maxSteps := 2000000) (disch := (first | omega | (simp only [List.length_append, List.length_take, List.length_replicate, List.length_map, List.length_set, List.length_cons, List.length_nil, List.length_zipWith, List.length_drop, List.length_range]; first | done | omega))) only [go_sem, Nat.reduceAdd, Nat.reduceEqDiff, Nat.reduceLeDiff, Nat.reduceSub]
    rw [List.take_length] at hall
    rw [show isS n false set = true from hall]
theorem spec_l8Without_ok (a b : List Int) (ha : a.length < 2^30) (hb : b.length < 2^62) : C f_spec_l8Without [ints a, ints b] [] = some (.un t_int true 1 ((wout a b).map I), []) := by
  refine C_spec_l8Without ?_
  simp (maxSteps := 2000000) (disch := (first | omega | (simp only [List.length_append, List.length_take, List.length_replicate, List.length_map, List.length_set, List.length_cons, List.length_nil, List.length_zipWith, List.length_drop, List.length_range]; first | done | omega))) only [ir_spec_l8Without, go_sem, Nat.reduceAdd, Nat.reduceEqDiff, Nat.reduceLeDiff, Nat.reduceSub]
  refine W_for a.length (fun k s => s = ⟨[.any, ints b, .any, .ref 0 1 0 (wout (a.take k) b).length, .any, ints a, I a.length, I k, .any, .any], [.row t_int true 1 ((wout (a.take k) b).map I)]⟩) ?_ ?_ ?_
  · simp (maxSteps := 2000000) (disch := (first | omega | (simp only [List.length_append, List.length_take, List.length_replicate, List.length_map, List.length_set, List.length_cons, List.length_nil, List.length_zipWith, List.length_drop, List.length_range]; first | done | omega))) only [go_sem, Nat.reduceAdd, Nat.reduceEqDiff, Nat.reduceLeDiff, Nat.reduceSub]
    rfl
  · rintro k s hk rfl
    have h1 : (wout (a.take k) b).length ≤ (a.take k).length := List.length_filter_le _ _
    have h2 : (a.take k).length ≤ k := by simp; omega
    simp (maxSteps := 2000000) (disch := (first | omega | (simp only [List.length_append, List.length_take, List.length_replicate, List.length_map, List.length_set, List.length_cons, List.length_nil, List.length_zipWith, List.length_drop, List.length_range]; first | done | omega))) only [go_sem, Nat.reduceAdd, Nat.reduceEqDiff, Nat.reduceLeDiff, Nat.reduceSub, spec_l1Has_ok]
    refine ⟨fun h => ?_, fun h => ?_⟩
    · rw [show wout (a.take (k + 1)) b = wout (a.take k) b by simp only [wout]; rw [take_snoc hk, List.filter_append]; simp [List.filter_cons, h]]; rfl
    · rw [show wout (a.take (k + 1)) b = wout (a.take k) b ++ [a[k]] by simp only [wout]; rw [take_snoc hk, List.filter_append]; simp [List.filter_cons, h], List.map_append]; simp
  · rintro s rfl
    simp (maxSteps := 2000000) (disch := (first | omega | (simp only [List.length_append, List.length_take, List.length_replicate, List.length_map, List.length_set, List.length_cons, List.length_nil, List.length_zipWith, List.length_drop, List.length_range]; first | done | omega))) only [go_sem, Nat.reduceAdd, Nat.reduceEqDiff, Nat.reduceLeDiff, Nat.reduceSub, List.take_length]
theorem spec_l8BigTrap_ok (n : Net) (set : List Int) (hn : smN n) (hg : goodN n = true) (hs : set.length < 2^30) : C f_spec_l8BigTrap [encN n, ints set] [] = some (.un t_int true 1 ((bigS n false set).map I), []) := by
  have hb := goodN_parts hg
  refine C_spec_l8BigTrap ?_
  simp (maxSteps := 2000000) (disch := (first | omega | (simp only [List.length_append, List.length_take, List.length_replicate, List.length_map, List.length_set, List.length_cons, List.length_nil, List.length_zipWith, List.length_drop, List.length_range]; first | done | omega))) only [ir_spec_l8BigTrap, go_sem, Nat.reduceAdd, Nat.reduceEqDiff, Nat.reduceLeDiff, Nat.reduceSub]
  simp (maxSteps := 2000000) (disch := (first | omega | (simp only [List.length_append, List.length_take, List.length_replicate, List.length_map, List.length_set, List.length_cons, List.length_nil, List.length_zipWith, List.length_drop, List.length_range]; first | done | omega))) only [go_sem, Nat.reduceAdd, Nat.reduceEqDiff, Nat.reduceLeDiff, Nat.reduceSub, spec_l1Own_ok set (by omega)]
  refine W_down (fun k s => ∃ c : List Int, (∀ p ∈ c, p ∈ set) ∧ c.length ≤ set.length ∧ k = c.length ∧ s = ⟨[.any, .ref 0 1 0 c.length, .ptr 1 0, .any, .any, .any, .any, .any, .any, .any, .any], [.row t_int true 1 (c.map I), .box t_impl_Net [I n.pl, trs n.tr]]⟩ ∧ bigS n false c = bigS n false set) set.length ?_ ?_
  · refine ⟨set, fun p hp => hp, Nat.le_refl _, rfl, ?_, rfl⟩
    simp (maxSteps := 2000000) (disch := (first | omega | (simp only [List.length_append, List.length_take, List.length_replicate, List.length_map, List.length_set, List.length_cons, List.length_nil, List.length_zipWith, List.length_drop, List.length_range]; first | done | omega))) only [go_sem, Nat.reduceAdd, Nat.reduceEqDiff, Nat.reduceLeDiff, Nat.reduceSub]
  · rintro k0 s ⟨c, hcs, hcl, rfl, rfl, hc⟩
    simp (maxSteps := 2000000) (disch := (first | omega | (simp only [List.length_append, List.length_take, List.length_replicate, List.length_map, List.length_set, List.length_cons, List.length_nil, List.length_zipWith, List.length_drop, List.length_range]; first | done | omega))) only [go_sem, Nat.reduceAdd, Nat.reduceEqDiff, Nat.reduceLeDiff, Nat.reduceSub, spec_l8Trap_ok n c hn (by omega)]
    refine ⟨fun he => ?_, fun he => ?_⟩
    · rw [bigS_is he] at hc
      rw [← hc]
    · refine W_for n.tr.length (fun k s => s = ⟨[.any, .ref 0 1 0 (shK n false c k).set.length, .ptr 1 0, .any, .any, .any, trs n.tr, I n.tr.length, I k, .any, .any], [.row t_int true 1 ((shK n false c k).set.map I), .box t_impl_Net [I n.pl, trs n.tr]]⟩) ?_ ?_ ?_
      · simp (maxSteps := 2000000) (disch := (first | omega | (simp only [List.length_append, List.length_take, List.length_replicate, List.length_map, List.length_set, List.length_cons, List.length_nil, List.length_zipWith, List.length_drop, List.length_range]; first | done | omega))) only [go_sem, Nat.reduceAdd, Nat.reduceEqDiff, Nat.reduceLeDiff, Nat.reduceSub]
        rfl
      · rintro k s hk rfl
        have hLs := goodT_lens (hb.2.2.2 _ (List.getElem_mem hk)) (by omega)
        have hlen := (shK_len n false c k).1
        have htr : n.tr[k] = trN n k := (trN_eq hk).symm
        rw [htr] at hLs
        have hstep := shK_succ n false c k
        have s1 : badS false (trN n k) (shK n false c k).set = false → shK n false c (k + 1) = shK n false c k := fun h => hstep.trans (shStep_no h)
        have s2 : badS false (trN n k) (shK n false c k).set = true → shK n false c (k + 1) = ⟨wout (shK n false c k).set (sideI false (trN n k)), true⟩ := fun h => hstep.trans (shStep_yes h)
        simp only [badS, sideI, sideO, Bool.false_eq_true, if_false, if_true] at s1 s2
        clear hstep
        generalize shK n false c k = d at *
        generalize shK n false c (k + 1) = d' at *
        simp (maxSteps := 2000000) (disch := (first | omega | (simp only [List.length_append, List.length_take, List.length_replicate, List.length_map, List.length_set, List.length_cons, List.length_nil, List.length_zipWith, List.length_drop, List.length_range]; first | done | omega))) only [go_sem, Nat.reduceAdd, Nat.reduceEqDiff, Nat.reduceLeDiff, Nat.reduceSub, htr, spec_l2Meet_ok, spec_l8Without_ok]
        refine ⟨fun h1 => ⟨fun h2 => ?_, fun h2 => ?_⟩, fun h1 => ?_⟩
        · rw [s1 (by rw [h1, h2]; rfl)]; rfl
        · rw [s2 (by rw [h1, h2]; rfl)]; rfl
        · rw [s1 (by rw [h1]; rfl)]; rfl
      · rintro s rfl
        simp (maxSteps := 2000000) (disch := (first | omega | (simp only [List.length_append, List.length_take, List.length_replicate, List.length_map, List.length_set, List.length_cons, List.length_nil, List.length_zipWith, List.length_drop, List.length_range]; first | done | omega))) only [go_sem, Nat.reduceAdd, Nat.reduceEqDiff, Nat.reduceLeDiff, Nat.reduceSub]
        have h1 := (shK_len n false c n.tr.length).2.1 (shRound_not he)
        have h2 := (shK_sub n false c n.tr.length).1
        rw [bigS_next he] at hc
        exact ⟨(shRound n false c).set.length, by unfold shRound; omega, (shRound n false c).set, fun p hp => hcs p (h2 p hp), by unfold shRound; omega, rfl, rfl, hc⟩
theorem spec_IsGuarded_ok (n : Net) (m : List Int) (hn : smN n) (hm : m.length < 2^62) : C f_spec_IsGuarded [encN n, ints m] [] = some (.tup [.bool (okSm n && goodM n.pl m && guardB n m), .bool (okSm n && goodM n.pl m)], []) := by
  have e1 := spec_l7Plain_ok n hn
  have e0 := spec_GoodMark_ok n.pl m hm
  unfold okSm
  cases hp : plainN n <;> rw [hp] at e1
  · refine C_spec_IsGuarded ?_
    simp (maxSteps := 2000000) (disch := (first | omega | (simp only [List.length_append, List.length_take, List.length_replicate, List.length_map, List.length_set, List.length_cons, List.length_nil, List.length_zipWith, List.length_drop, List.length_range]; first | done | omega))) only [ir_spec_IsGuarded, go_sem, Nat.reduceAdd, Nat.reduceEqDiff, Nat.reduceLeDiff, Nat.reduceSub]
    simp (maxSteps := 2000000) (disch := (first | omega | (simp only [List.length_append, List.length_take, List.length_replicate, List.length_map, List.length_set, List.length_cons, List.length_nil, List.length_zipWith, List.length_drop, List.length_range]; first | done | omega))) only [go_sem, Nat.reduceAdd, Nat.reduceEqDiff, Nat.reduceLeDiff, Nat.reduceSub, e1]
    try rfl
  · have hg : goodN n = true := by simp [plainN] at hp; exact hp.1
    by_cases h10 : n.pl ≤ 10
    · have hk : okSm n = true := by simp [okSm, hp, h10]
      cases hgm : goodM n.pl m <;> rw [hgm] at e0
      · refine C_spec_IsGuarded ?_
        simp (maxSteps := 2000000) (disch := (first | omega | (simp only [List.length_append, List.length_take, List.length_replicate, List.length_map, List.length_set, List.length_cons, List.length_nil, List.length_zipWith, List.length_drop, List.length_range]; first | done | omega))) only [ir_spec_IsGuarded, go_sem, Nat.reduceAdd, Nat.reduceEqDiff, Nat.reduceLeDiff, Nat.reduceSub]
        simp (maxSteps := 2000000) (disch := (first | omega | (simp only [List.length_append, List.length_take, List.length_replicate, List.length_map, List.length_set, List.length_cons, List.length_nil, List.length_zipWith, List.length_drop, List.length_range]; first | done | omega))) only [go_sem, Nat.reduceAdd, Nat.reduceEqDiff, Nat.reduceLeDiff, Nat.reduceSub, e1, e0]
        try simp [h10]
      · obtain ⟨m1, m2, m3, m4, m5⟩ := goodM_len hgm
        have h := smallS_in h10
        have e2 := spec_l8Small_ok n hn hg h10
        rw [decide_eq_true h10]
        unfold guardB
        generalize smallS n = L at *
        refine C_spec_IsGuarded ?_
        simp (maxSteps := 2000000) (disch := (first | omega | (simp only [List.length_append, List.length_take, List.length_replicate, List.length_map, List.length_set, List.length_cons, List.length_nil, List.length_zipWith, List.length_drop, List.length_range]; first | done | omega))) only [ir_spec_IsGuarded, go_sem, Nat.reduceAdd, Nat.reduceEqDiff, Nat.reduceLeDiff, Nat.reduceSub]
        simp (maxSteps := 2000000) (disch := (first | omega | (simp only [List.length_append, List.length_take, List.length_replicate, List.length_map, List.length_set, List.length_cons, List.length_nil, List.length_zipWith, List.length_drop, List.length_range]; first | done | omega))) only [go_sem, Nat.reduceAdd, Nat.reduceEqDiff, Nat.reduceLeDiff, Nat.reduceSub, e1, e0, e2]
        refine W_for L.length (fun k s => s = ⟨[.any, ints m, .ptr 0 0, .any, .any, .any, .any, .any, .any, .ref 1 1 0 L.length, I L.length, I k, .any, .any, .any, .any, .any, .any], [.box t_impl_Net [I n.pl, trs n.tr], .row t_sl_int false 1 (L.map fun r => ints (setN r))]⟩ ∧ (L.take k).all (fun r => (bigS n false (setN r)).any fun p => decide (0 < at_ m p)) = true) ?_ ?_ ?_
        · refine ⟨?_, by simp⟩
          simp (maxSteps := 2000000) (disch := (first | omega | (simp only [List.length_append, List.length_take, List.length_replicate, List.length_map, List.length_set, List.length_cons, List.length_nil, List.length_zipWith, List.length_drop, List.length_range]; first | done | omega))) only [go_sem, Nat.reduceAdd, Nat.reduceEqDiff, Nat.reduceLeDiff, Nat.reduceSub]
          rfl
        · rintro k s hk2 ⟨rfl, ha⟩
          have hm2 := h.1 _ (List.getElem_mem hk2)
          have ho := okSet_setN hk hm2.2.1
          have hob := okSet_big (sp := false) ho
          have hsl := setN_len L[k]
          have t1 := spec_l8BigTrap_ok n (setN L[k]) hn hg (by omega)
          have hin := (okSet_parts hob).2.2.2
          have hbl := okSet_len hob
          have tk := @all_take _ L (fun r => (bigS n false (setN r)).any fun p => decide (0 < at_ m p)) k hk2 ha
          have tf := @all_false _ L (fun r => (bigS n false (setN r)).any fun p => decide (0 < at_ m p)) k hk2
          generalize bigS n false (setN L[k]) = T at *
          simp (maxSteps := 2000000) (disch := (first | omega | (simp only [List.length_append, List.length_take, List.length_replicate, List.length_map, List.length_set, List.length_cons, List.length_nil, List.length_zipWith, List.length_drop, List.length_range]; first | done | omega))) only [go_sem, Nat.reduceAdd, Nat.reduceEqDiff, Nat.reduceLeDiff, Nat.reduceSub, t1]
          refine W_for T.length (fun j s => ∃ b : Bool, s = ⟨[.any, ints m, .ptr 0 0, .any, .any, .any, .bool b, .any, .any, .ref 1 1 0 L.length, I L.length, I k, .any, .ref 2 1 0 T.length, I T.length, I j, .any, .any], [.box t_impl_Net [I n.pl, trs n.tr], .row t_sl_int false 1 (L.map fun r => ints (setN r)), .row t_int true 1 (T.map I)]⟩ ∧ (T.take j).any (fun p => decide (0 < at_ m p)) = b) ?_ ?_ ?_
          · refine ⟨false, ?_, by simp⟩
            simp (maxSteps := 2000000) (disch := (first | omega | (simp only [List.length_append, List.length_take, List.length_replicate, List.length_map, List.length_set, List.length_cons, List.length_nil, List.length_zipWith, List.length_drop, List.length_range]; first | done | omega))) only [go_sem, Nat.reduceAdd, Nat.reduceEqDiff, Nat.reduceLeDiff, Nat.reduceSub]
            rfl
          · rintro j s hj ⟨b, rfl, hb⟩
            have q1 := hin _ (List.getElem_mem hj)
            rw [take_snoc hj, List.any_append, hb]
            cases b
            all_goals
              simp (maxSteps := 2000000) (disch := (first | omega | (simp only [List.length_append, List.length_take, List.length_replicate, List.length_map, List.length_set, List.length_cons, List.length_nil, List.length_zipWith, List.length_drop, List.length_range]; first | done | omega))) only [go_sem, Nat.reduceAdd, Nat.reduceEqDiff, Nat.reduceLeDiff, Nat.reduceSub, at_eq]
              try simp
          · rintro s ⟨b, rfl, hb⟩
            rw [List.take_length] at hb
            cases b
            all_goals
              simp (maxSteps := 2000000) (disch := (first | omega | (simp only [List.length_append, List.length_take, List.length_replicate, List.length_map, List.length_set, List.length_cons, List.length_nil, List.length_zipWith, List.length_drop, List.length_range]; first | done | omega))) only [go_sem, Nat.reduceAdd, Nat.reduceEqDiff, Nat.reduceLeDiff, Nat.reduceSub]
              first
                | exact ⟨rfl, tk hb⟩
                | rw [tf hb]
                | trivial
        · rintro s ⟨rfl, ha⟩
          rw [List.take_length] at ha
          simp (maxSteps := 2000000) (disch := (first | omega | (simp only [List.length_append, List.length_take, List.length_replicate, List.length_map, List.length_set, List.length_cons, List.length_nil, List.length_zipWith, List.length_drop, List.length_range]; first | done | omega))) only [go_sem, Nat.reduceAdd, Nat.reduceEqDiff, Nat.reduceLeDiff, Nat.reduceSub]
          rw [ha]
          try simp
    · refine C_spec_IsGuarded ?_
      simp (maxSteps := 2000000) (disch := (first | omega | (simp only [List.length_append, List.length_take, List.length_replicate, List.length_map, List.length_set, List.length_cons, List.length_nil, List.length_zipWith, List.length_drop, List.length_range]; first | done | omega))) only [ir_spec_IsGuarded, go_sem, Nat.reduceAdd, Nat.reduceEqDiff, Nat.reduceLeDiff, Nat.reduceSub]
      simp (maxSteps := 2000000) (disch := (first | omega | (simp only [List.length_append, List.length_take, List.length_replicate, List.length_map, List.length_set, List.length_cons, List.length_nil, List.length_zipWith, List.length_drop, List.length_range]; first | done | omega))) only [go_sem, Nat.reduceAdd, Nat.reduceEqDiff, Nat.reduceLeDiff, Nat.reduceSub, e1]
      try simp [h10]
theorem impl_isMarked_ok (n : Net) (m : List Int) (hn : smN n) (hm : m.length < 2^62) : C f_impl_isMarked [encN n, ints m] [] = some (.bool (marked n m), []) := by
  refine C_impl_isMarked ?_
  simp (maxSteps := 2000000) (disch := (first | omega | (simp only [List.length_append, List.length_take, List.length_replicate, List.length_map, List.length_set, List.length_cons, List.length_nil, List.length_zipWith, List.length_drop, List.length_range]; first | done | omega))) only [ir_impl_isMarked, go_sem, Nat.reduceAdd, Nat.reduceEqDiff, Nat.reduceLeDiff, Nat.reduceSub]
  simp (maxSteps := 2000000) (disch := (first | omega | (simp only [List.length_append, List.length_take, List.length_replicate, List.length_map, List.length_set, List.length_cons, List.length_nil, List.length_zipWith, List.length_drop, List.length_range]; first | done | omega))) only [go_sem, Nat.reduceAdd, Nat.reduceEqDiff, Nat.reduceLeDiff, Nat.reduceSub, impl_GoodNet_ok n hn, impl_GoodMark_ok n.pl m hm]
  unfold marked; grind
theorem impl_isEnabled_1_ok (m : List Int) (p : Int) (h : 0 ≤ p ∧ p.toNat < m.length) : C f_impl_isEnabled_1 [I p, .pv (.agg [ints m]) 0] [] = some (.bool (at_ m p == 0), []) := by
  obtain ⟨h1, h2⟩ := h
  refine C_impl_isEnabled_1 ?_
  simp (maxSteps := 2000000) (disch := (first | omega | (simp only [List.length_append, List.length_take, List.length_replicate, List.length_map, List.length_set, List.length_cons, List.length_nil, List.length_zipWith, List.length_drop, List.length_range]; first | done | omega))) only [ir_impl_isEnabled_1, go_sem, Nat.reduceAdd, Nat.reduceEqDiff, Nat.reduceLeDiff, Nat.reduceSub]
  simp only [at_eq h2]
  grind
theorem impl_isEnabled_ok (t : Tr) (m : List Int) (ht : ∀ q ∈ t.inn, 0 ≤ q ∧ q.toNat < m.length) (hl : t.inn.length < 2^62) : C f_impl_isEnabled [encT t, ints m] [] = some (.bool (canT t m), []) := by
  refine C_impl_isEnabled ?_
  simp (maxSteps := 2000000) (disch := (first | omega | (simp only [List.length_append, List.length_take, List.length_replicate, List.length_map, List.length_set, List.length_cons, List.length_nil, List.length_zipWith, List.length_drop, List.length_range]; first | done | omega))) only [ir_impl_isEnabled, go_sem, Nat.reduceAdd, Nat.reduceEqDiff, Nat.reduceLeDiff, Nat.reduceSub]
  have h := slices_ContainsFunc_sl_int_int_ok t.inn f_impl_isEnabled_1 [.pv (.agg [ints m]) 0] rfl (fun _ _ => rfl) (fun p => at_ m p == 0) (fun x hx => impl_isEnabled_1_ok m x (ht x hx)) hl
  simp (maxSteps := 2000000) (disch := (first | omega | (simp only [List.length_append, List.length_take, List.length_replicate, List.length_map, List.length_set, List.length_cons, List.length_nil, List.length_zipWith, List.length_drop, List.length_range]; first | done | omega))) only [go_sem, Nat.reduceAdd, Nat.reduceEqDiff, Nat.reduceLeDiff, Nat.reduceSub, h]
  have : (t.inn.any fun p => at_ m p == 0) = !canT t m := by rw [canT, List.any_eq_not_all_not]
  rw [this]; simp
theorem impl_enabled_ok (n : Net) (m : List Int) (hg : goodN n = true) (hm : (m.length : Int) = n.pl) : C f_impl_enabled [encN n, ints m] [] = some (.un t_int true 1 ((enabL n m).map I), []) := by
  have hb := goodN_parts hg
  refine C_impl_enabled ?_
  simp (maxSteps := 2000000) (disch := (first | omega | (simp only [List.length_append, List.length_take, List.length_replicate, List.length_map, List.length_set, List.length_cons, List.length_nil, List.length_zipWith, List.length_drop, List.length_range]; first | done | omega))) only [ir_impl_enabled, go_sem, Nat.reduceAdd, Nat.reduceEqDiff, Nat.reduceLeDiff, Nat.reduceSub]
  refine W_for n.tr.length (fun k s => s = ⟨[.any, ints m, .any, .any, .ref 0 1 0 (enabK n m k).length, .any, .any, trs n.tr, I n.tr.length, I k, .any, .any], [.row t_int true 1 ((enabK n m k).map I)]⟩) ?_ ?_ ?_
  · simp (maxSteps := 2000000) (disch := (first | omega | (simp only [List.length_append, List.length_take, List.length_replicate, List.length_map, List.length_set, List.length_cons, List.length_nil, List.length_zipWith, List.length_drop, List.length_range]; first | done | omega))) only [go_sem, Nat.reduceAdd, Nat.reduceEqDiff, Nat.reduceLeDiff, Nat.reduceSub]
    rfl
  · rintro k s hk rfl
    have hT := hb.2.2.2 _ (List.getElem_mem hk)
    have h2 := enabK_len n m k
    simp (maxSteps := 2000000) (disch := (first | omega | (simp only [List.length_append, List.length_take, List.length_replicate, List.length_map, List.length_set, List.length_cons, List.length_nil, List.length_zipWith, List.length_drop, List.length_range]; first | done | omega))) only [go_sem, Nat.reduceAdd, Nat.reduceEqDiff, Nat.reduceLeDiff, Nat.reduceSub, impl_isEnabled_ok _ m (goodT_lt hT hm).1 (by have := (goodT_lens hT (by omega)).1; omega)]
    refine ⟨fun h => ?_, fun h => ?_⟩
    · rw [enabK_t hk h, List.map_append]; simp
    · rw [enabK_f hk h]; rfl
  · rintro s rfl
    simp (maxSteps := 2000000) (disch := (first | omega | (simp only [List.length_append, List.length_take, List.length_replicate, List.length_map, List.length_set, List.length_cons, List.length_nil, List.length_zipWith, List.length_drop, List.length_range]; first | done | omega))) only [go_sem, Nat.reduceAdd, Nat.reduceEqDiff, Nat.reduceLeDiff, Nat.reduceSub]
    rfl
theorem impl_Enabled_ok (n : Net) (m : List Int) (hn : smN n) (hm : m.length < 2^62) : C f_impl_Enabled [encN n, ints m] [] = some (.tup [.un t_int true 1 ((if marked n m then enabL n m else []).map I), .bool (marked n m)], []) := by
  refine C_impl_Enabled ?_
  simp (maxSteps := 2000000) (disch := (first | omega | (simp only [List.length_append, List.length_take, List.length_replicate, List.length_map, List.length_set, List.length_cons, List.length_nil, List.length_zipWith, List.length_drop, List.length_range]; first | done | omega))) only [ir_impl_Enabled, go_sem, Nat.reduceAdd, Nat.reduceEqDiff, Nat.reduceLeDiff, Nat.reduceSub]
  simp (maxSteps := 2000000) (disch := (first | omega | (simp only [List.length_append, List.length_take, List.length_replicate, List.length_map, List.length_set, List.length_cons, List.length_nil, List.length_zipWith, List.length_drop, List.length_range]; first | done | omega))) only [go_sem, Nat.reduceAdd, Nat.reduceEqDiff, Nat.reduceLeDiff, Nat.reduceSub, impl_isMarked_ok n m hn hm]
  refine ⟨fun h => ?_, fun h => by simp [h]⟩
  obtain ⟨h1, h2⟩ := marked_parts h
  simp (maxSteps := 2000000) (disch := (first | omega | (simp only [List.length_append, List.length_take, List.length_replicate, List.length_map, List.length_set, List.length_cons, List.length_nil, List.length_zipWith, List.length_drop, List.length_range]; first | done | omega))) only [go_sem, Nat.reduceAdd, Nat.reduceEqDiff, Nat.reduceLeDiff, Nat.reduceSub, impl_enabled_ok n m h1 (goodM_len h2).2.2.1, h]
theorem laws_numberOf_ok (l : List Int) (hl : l.length < 2^62) (hb : ∀ x ∈ l, 0 ≤ x ∧ x < 256) : Lw (C f_laws_numberOf [bys l] []) fun r => ∃ x : Int, r = (I x, []) ∧ 0 ≤ x ∧ x < 1000003 := by
  refine E_laws_numberOf ?_
  simp (maxSteps := 2000000) (disch := (first | omega | (simp only [List.length_append, List.length_take, List.length_replicate, List.length_map, List.length_set, List.length_cons, List.length_nil, List.length_zipWith, List.length_drop, List.length_range]; first | done | omega))) only [ir_laws_numberOf, go_sem, Nat.reduceAdd, Nat.reduceEqDiff, Nat.reduceLeDiff, Nat.reduceSub]
  refine W_for l.length (fun k s => ∃ x : Int, s = ⟨[.any, .any, I x, .any, bys l, I l.length, I k, .any], []⟩ ∧ 0 ≤ x ∧ x < 1000003) ?_ ?_ ?_
  · refine ⟨0, ?_, by omega, by omega⟩
    simp (maxSteps := 2000000) (disch := (first | omega | (simp only [List.length_append, List.length_take, List.length_replicate, List.length_map, List.length_set, List.length_cons, List.length_nil, List.length_zipWith, List.length_drop, List.length_range]; first | done | omega))) only [go_sem, Nat.reduceAdd, Nat.reduceEqDiff, Nat.reduceLeDiff, Nat.reduceSub]
    rfl
  · rintro k s hk ⟨x, rfl, h1, h2⟩
    have := hb _ (List.getElem_mem hk)
    simp (maxSteps := 2000000) (disch := (first | omega | (simp only [List.length_append, List.length_take, List.length_replicate, List.length_map, List.length_set, List.length_cons, List.length_nil, List.length_zipWith, List.length_drop, List.length_range]; first | done | omega))) only [go_sem, Nat.reduceAdd, Nat.reduceEqDiff, Nat.reduceLeDiff, Nat.reduceSub]
    exact ⟨_, rfl, Int.tmod_nonneg _ (by omega), Int.tmod_lt_of_pos _ (by omega)⟩
  · rintro s ⟨x, rfl, h1, h2⟩
    simp (maxSteps := 2000000) (disch := (first | omega | (simp only [List.length_append, List.length_take, List.length_replicate, List.length_map, List.length_set, List.length_cons, List.length_nil, List.length_zipWith, List.length_drop, List.length_range]; first | done | omega))) only [go_sem, Nat.reduceAdd, Nat.reduceEqDiff, Nat.reduceLeDiff, Nat.reduceSub]
    exact ⟨_, rfl, h1, h2⟩
theorem impl_isTrans_ok (n : Net) (t : Int) (hn : n.tr.length < 2^62) : C f_impl_isTrans [encN n, I t] [] = some (.bool (inB 0 (n.tr.length - 1) t), []) := by
  refine C_impl_isTrans ?_
  simp (maxSteps := 2000000) (disch := (first | omega | (simp only [List.length_append, List.length_take, List.length_replicate, List.length_map, List.length_set, List.length_cons, List.length_nil, List.length_zipWith, List.length_drop, List.length_range]; first | done | omega))) only [ir_impl_isTrans, go_sem, Nat.reduceAdd, Nat.reduceEqDiff, Nat.reduceLeDiff, Nat.reduceSub]
  simp (maxSteps := 2000000) (disch := (first | omega | (simp only [List.length_append, List.length_take, List.length_replicate, List.length_map, List.length_set, List.length_cons, List.length_nil, List.length_zipWith, List.length_drop, List.length_range]; first | done | omega))) only [go_sem, Nat.reduceAdd, Nat.reduceEqDiff, Nat.reduceLeDiff, Nat.reduceSub, impl_within_ok]
  grind
theorem impl_fired_ok (t : Tr) (m : List Int) (h1 : ∀ q ∈ t.inn, 0 ≤ q ∧ q.toNat < m.length) (h2 : ∀ q ∈ t.out, 0 ≤ q ∧ q.toNat < m.length) (h3 : ∀ q ∈ t.rst, 0 ≤ q ∧ q.toNat < m.length) (hl : smT t) (hm : m.length < 2^30) (hb : ∀ x ∈ m, 0 ≤ x ∧ x ≤ 50) :
    C f_impl_fired [encT t, ints m] [] = some (.un t_int true 1 ((firedM t m).map I), []) := by
  obtain ⟨g1, g2, g3⟩ := hl
  refine C_impl_fired ?_
  simp (maxSteps := 2000000) (disch := (first | omega | (simp only [List.length_append, List.length_take, List.length_replicate, List.length_map, List.length_set, List.length_cons, List.length_nil, List.length_zipWith, List.length_drop, List.length_range]; first | done | omega))) only [ir_impl_fired, go_sem, Nat.reduceAdd, Nat.reduceEqDiff, Nat.reduceLeDiff, Nat.reduceSub]
  simp (maxSteps := 2000000) (disch := (first | omega | (simp only [List.length_append, List.length_take, List.length_replicate, List.length_map, List.length_set, List.length_cons, List.length_nil, List.length_zipWith, List.length_drop, List.length_range]; first | done | omega))) only [go_sem, Nat.reduceAdd, Nat.reduceEqDiff, Nat.reduceLeDiff, Nat.reduceSub, slices_Clone_sl_int_int_ok]
  refine W_for t.inn.length (fun k s => s = ⟨[.any, .any, .ptr 0 0, .any, .ref 1 1 0 m.length, .any, .any, .any, ints t.inn, I t.inn.length, I k, .any, .any, .any, .any, .any, .any, .any, .any, .any], [.box t_impl_Trans [ints t.inn, ints t.out, ints t.rst], .row t_int true 1 ((decL m (t.inn.take k)).map I)]⟩) ?_ ?_ ?_
  · simp (maxSteps := 2000000) (disch := (first | omega | (simp only [List.length_append, List.length_take, List.length_replicate, List.length_map, List.length_set, List.length_cons, List.length_nil, List.length_zipWith, List.length_drop, List.length_range]; first | done | omega))) only [go_sem, Nat.reduceAdd, Nat.reduceEqDiff, Nat.reduceLeDiff, Nat.reduceSub]
    rfl
  · rintro k s hk rfl
    obtain ⟨h4, h5⟩ := h1 _ (List.getElem_mem hk)
    have h6 := decL_len m (t.inn.take k)
    have h7 := at_bound (p := t.inn[k]) (decL_bound (l := t.inn.take k) hb (fun p hp => (h1 p (List.mem_of_mem_take hp)).2)) (by omega)
    have h8 : (t.inn.take k).length = k := by simp; omega
    simp (maxSteps := 2000000) (disch := (first | omega | (simp only [List.length_append, List.length_take, List.length_replicate, List.length_map, List.length_set, List.length_cons, List.length_nil, List.length_zipWith, List.length_drop, List.length_range]; first | done | omega))) only [go_sem, Nat.reduceAdd, Nat.reduceEqDiff, Nat.reduceLeDiff, Nat.reduceSub, at_eq]
    rw [decL_take hk]; rfl
  · rintro s rfl
    simp (maxSteps := 2000000) (disch := (first | omega | (simp only [List.length_append, List.length_take, List.length_replicate, List.length_map, List.length_set, List.length_cons, List.length_nil, List.length_zipWith, List.length_drop, List.length_range]; first | done | omega))) only [go_sem, Nat.reduceAdd, Nat.reduceEqDiff, Nat.reduceLeDiff, Nat.reduceSub, List.take_length]
    have b1 := decL_bound (l := t.inn) hb (fun p hp => (h1 p hp).2)
    have l1 := decL_len m t.inn
    generalize e1 : decL m t.inn = m1 at b1 l1 ⊢
    refine W_for t.rst.length (fun k s => s = ⟨[.any, .any, .ptr 0 0, .any, .ref 1 1 0 m.length, .any, .any, .any, .any, .any, .any, .any, ints t.rst, I t.rst.length, I k, .any, .any, .any, .any, .any], [.box t_impl_Trans [ints t.inn, ints t.out, ints t.rst], .row t_int true 1 ((zerL m1 (t.rst.take k)).map I)]⟩) ?_ ?_ ?_
    · simp (maxSteps := 2000000) (disch := (first | omega | (simp only [List.length_append, List.length_take, List.length_replicate, List.length_map, List.length_set, List.length_cons, List.length_nil, List.length_zipWith, List.length_drop, List.length_range]; first | done | omega))) only [go_sem, Nat.reduceAdd, Nat.reduceEqDiff, Nat.reduceLeDiff, Nat.reduceSub]
      rfl
    · rintro k s hk rfl
      obtain ⟨h4, h5⟩ := h3 _ (List.getElem_mem hk)
      have h6 := zerL_len m1 (t.rst.take k)
      simp (maxSteps := 2000000) (disch := (first | omega | (simp only [List.length_append, List.length_take, List.length_replicate, List.length_map, List.length_set, List.length_cons, List.length_nil, List.length_zipWith, List.length_drop, List.length_range]; first | done | omega))) only [go_sem, Nat.reduceAdd, Nat.reduceEqDiff, Nat.reduceLeDiff, Nat.reduceSub]
      rw [zerL_take hk]; rfl
    · rintro s rfl
      simp (maxSteps := 2000000) (disch := (first | omega | (simp only [List.length_append, List.length_take, List.length_replicate, List.length_map, List.length_set, List.length_cons, List.length_nil, List.length_zipWith, List.length_drop, List.length_range]; first | done | omega))) only [go_sem, Nat.reduceAdd, Nat.reduceEqDiff, Nat.reduceLeDiff, Nat.reduceSub, List.take_length]
      have b2 := zerL_bound (l := t.rst) b1 (by omega)
      have l2 := zerL_len m1 t.rst
      generalize e2 : zerL m1 t.rst = m2 at b2 l2 ⊢
      refine W_for t.out.length (fun k s => s = ⟨[.any, .any, .any, .any, .ref 0 1 0 m.length, .any, .any, .any, .any, .any, .any, .any, .any, .any, .any, .any, ints t.out, I t.out.length, I k, .any], [.row t_int true 1 ((incL m2 (t.out.take k)).map I)]⟩) ?_ ?_ ?_
      · simp (maxSteps := 2000000) (disch := (first | omega | (simp only [List.length_append, List.length_take, List.length_replicate, List.length_map, List.length_set, List.length_cons, List.length_nil, List.length_zipWith, List.length_drop, List.length_range]; first | done | omega))) only [go_sem, Nat.reduceAdd, Nat.reduceEqDiff, Nat.reduceLeDiff, Nat.reduceSub]
        rfl
      · rintro k s hk rfl
        obtain ⟨h4, h5⟩ := h2 _ (List.getElem_mem hk)
        have h6 := incL_len m2 (t.out.take k)
        have h7 := at_bound (p := t.out[k]) (incL_bound (l := t.out.take k) b2 (fun p hp => by have := (h2 p (List.mem_of_mem_take hp)).2; omega)) (by omega)
        have h8 : (t.out.take k).length = k := by simp; omega
        simp (maxSteps := 2000000) (disch := (first | omega | (simp only [List.length_append, List.length_take, List.length_replicate, List.length_map, List.length_set, List.length_cons, List.length_nil, List.length_zipWith, List.length_drop, List.length_range]; first | done | omega))) only [go_sem, Nat.reduceAdd, Nat.reduceEqDiff, Nat.reduceLeDiff, Nat.reduceSub, at_eq]
        rw [incL_take hk]; rfl
      · rintro s rfl
        have h6 := incL_len m2 t.out
        simp (maxSteps := 2000000) (disch := (first | omega | (simp only [List.length_append, List.length_take, List.length_replicate, List.length_map, List.length_set, List.length_cons, List.length_nil, List.length_zipWith, List.length_drop, List.length_range]; first | done | omega))) only [go_sem, Nat.reduceAdd, Nat.reduceEqDiff, Nat.reduceLeDiff, Nat.reduceSub, List.take_length]
        subst e2 e1; rfl
theorem impl_checkedMark_t (m : List Int) (hm : m.length < 2^62) (h : m.all (inB 0 50) = true) : C f_impl_checkedMark [ints m] [] = some (.tup [ints m, .bool true], []) := by
  refine C_impl_checkedMark ?_
  simp (maxSteps := 2000000) (disch := (first | omega | (simp only [List.length_append, List.length_take, List.length_replicate, List.length_map, List.length_set, List.length_cons, List.length_nil, List.length_zipWith, List.length_drop, List.length_range]; first | done | omega))) only [ir_impl_checkedMark, go_sem, Nat.reduceAdd, Nat.reduceEqDiff, Nat.reduceLeDiff, Nat.reduceSub]
  simp (maxSteps := 2000000) (disch := (first | omega | (simp only [List.length_append, List.length_take, List.length_replicate, List.length_map, List.length_set, List.length_cons, List.length_nil, List.length_zipWith, List.length_drop, List.length_range]; first | done | omega))) only [go_sem, Nat.reduceAdd, Nat.reduceEqDiff, Nat.reduceLeDiff, Nat.reduceSub, impl_allWithin_ok m _ _ hm, h]
theorem impl_checkedMark_f (m : List Int) (hm : m.length < 2^62) (h : m.all (inB 0 50) = false) : C f_impl_checkedMark [ints m] [] = some (.tup [.un t_int true 1 [], .bool false], []) := by
  refine C_impl_checkedMark ?_
  simp (maxSteps := 2000000) (disch := (first | omega | (simp only [List.length_append, List.length_take, List.length_replicate, List.length_map, List.length_set, List.length_cons, List.length_nil, List.length_zipWith, List.length_drop, List.length_range]; first | done | omega))) only [ir_impl_checkedMark, go_sem, Nat.reduceAdd, Nat.reduceEqDiff, Nat.reduceLeDiff, Nat.reduceSub]
  simp (maxSteps := 2000000) (disch := (first | omega | (simp only [List.length_append, List.length_take, List.length_replicate, List.length_map, List.length_set, List.length_cons, List.length_nil, List.length_zipWith, List.length_drop, List.length_range]; first | done | omega))) only [go_sem, Nat.reduceAdd, Nat.reduceEqDiff, Nat.reduceLeDiff, Nat.reduceSub, impl_allWithin_ok m _ _ hm, h]
theorem impl_Fire_t (n : Net) (m : List Int) (t : Int) (hn : smN n) (hm : m.length < 2^62) (h : okFire n m t = true) : C f_impl_Fire [encN n, ints m, I t] [] = some (.tup [ints (firedM (trAt n t) m), .bool true], []) := by
  have h0 := hn.1
  obtain ⟨h1, h2⟩ := Bool.and_eq_true .. ▸ h
  obtain ⟨h3, h4, h5, h6, h7, h8⟩ := canN_parts h1
  have hx := goodT_lt h8 (goodM_len h4).2.2.1
  have hy := goodT_lens h8 (by have := goodN_parts h3; omega)
  have hm := (goodM_len h4).2.2.2
  have hz := firedM_len (trAt n t) m
  refine C_impl_Fire ?_
  simp (maxSteps := 2000000) (disch := (first | omega | (simp only [List.length_append, List.length_take, List.length_replicate, List.length_map, List.length_set, List.length_cons, List.length_nil, List.length_zipWith, List.length_drop, List.length_range]; first | done | omega))) only [ir_impl_Fire, go_sem, Nat.reduceAdd, Nat.reduceEqDiff, Nat.reduceLeDiff, Nat.reduceSub]
  simp (maxSteps := 2000000) (disch := (first | omega | (simp only [List.length_append, List.length_take, List.length_replicate, List.length_map, List.length_set, List.length_cons, List.length_nil, List.length_zipWith, List.length_drop, List.length_range]; first | done | omega))) only [go_sem, Nat.reduceAdd, Nat.reduceEqDiff, Nat.reduceLeDiff, Nat.reduceSub, impl_isMarked_ok n m hn (by omega), impl_isTrans_ok n t (by omega), trAt_eq, impl_isEnabled_ok (trAt n t) m hx.1 (by omega), (show marked n m = true by simp [marked, h3, h4]), (show inB 0 (n.tr.length - 1) t = true by simp [inB]; omega), h7,
    impl_fired_ok (trAt n t) m hx.1 hx.2.1 hx.2.2 ⟨by omega, by omega, by omega⟩ (by omega) hm.2, impl_checkedMark_t (firedM (trAt n t) m) (by omega) h2]
theorem impl_Fire_f (n : Net) (m : List Int) (t : Int) (hn : smN n) (hm : m.length < 2^62) (h : okFire n m t = false) : C f_impl_Fire [encN n, ints m, I t] [] = some (.tup [.un t_int true 1 [], .bool false], []) := by
  have h0 := hn.1
  refine C_impl_Fire ?_
  simp (maxSteps := 2000000) (disch := (first | omega | (simp only [List.length_append, List.length_take, List.length_replicate, List.length_map, List.length_set, List.length_cons, List.length_nil, List.length_zipWith, List.length_drop, List.length_range]; first | done | omega))) only [ir_impl_Fire, go_sem, Nat.reduceAdd, Nat.reduceEqDiff, Nat.reduceLeDiff, Nat.reduceSub]
  simp (maxSteps := 2000000) (disch := (first | omega | (simp only [List.length_append, List.length_take, List.length_replicate, List.length_map, List.length_set, List.length_cons, List.length_nil, List.length_zipWith, List.length_drop, List.length_range]; first | done | omega))) only [go_sem, Nat.reduceAdd, Nat.reduceEqDiff, Nat.reduceLeDiff, Nat.reduceSub, impl_isMarked_ok n m hn hm, impl_isTrans_ok n t (by omega)]
  intro h1 h2
  obtain ⟨h3, h4⟩ := marked_parts h1
  have h6 : 0 ≤ t ∧ t.toNat < n.tr.length := by simp [inB] at h2; omega
  have h8 := (goodN_parts h3).2.2.2 _ (List.getElem_mem h6.2)
  rw [trAt_eq h6.2] at h8
  have hx := goodT_lt h8 (goodM_len h4).2.2.1
  have hy := goodT_lens h8 (by have := goodN_parts h3; omega)
  have hm := (goodM_len h4).2.2.2
  have hz := firedM_len (trAt n t) m
  simp (maxSteps := 2000000) (disch := (first | omega | (simp only [List.length_append, List.length_take, List.length_replicate, List.length_map, List.length_set, List.length_cons, List.length_nil, List.length_zipWith, List.length_drop, List.length_range]; first | done | omega))) only [go_sem, Nat.reduceAdd, Nat.reduceEqDiff, Nat.reduceLeDiff, Nat.reduceSub, trAt_eq, impl_isEnabled_ok (trAt n t) m hx.1 (by omega)]
  intro h7
  have h9 : (firedM (trAt n t) m).all (inB 0 50) = false := by simpa [okFire, canN, h1, h2, h7] using h
  simp (maxSteps := 2000000) (disch := (first | omega | (simp only [List.length_append, List.length_take, List.length_replicate, List.length_map, List.length_set, List.length_cons, List.length_nil, List.length_zipWith, List.length_drop, List.length_range]; first | done | omega))) only [go_sem, Nat.reduceAdd, Nat.reduceEqDiff, Nat.reduceLeDiff, Nat.reduceSub, trAt_eq, impl_fired_ok (trAt n t) m hx.1 hx.2.1 hx.2.2 ⟨by omega, by omega, by omega⟩ (by omega) hm.2, impl_checkedMark_f (firedM (trAt n t) m) (by omega) h9]
theorem slices_Equal_sl_int_int_ok (a b : List Int) (hl : a.length < 2^62) : C f_slices_Equal_sl_int_int [ints a, ints b] [] = some (.bool (decide (a = b)), []) := by
  refine C_slices_Equal_sl_int_int ?_
  simp (maxSteps := 2000000) (disch := (first | omega | (simp only [List.length_append, List.length_take, List.length_replicate, List.length_map, List.length_set, List.length_cons, List.length_nil, List.length_zipWith, List.length_drop, List.length_range]; first | done | omega))) only [ir_slices_Equal_sl_int_int, go_sem, Nat.reduceAdd, Nat.reduceEqDiff, Nat.reduceLeDiff, Nat.reduceSub]
  refine ⟨fun h => ?_, fun h => ?_⟩
  · have : a ≠ b := fun e => h (by rw [e])
    simp [this]
  refine W_for a.length (fun k s => s = ⟨[ints a, ints b, .any, .any, .any, I a.length, I k, .any, .any], []⟩ ∧ a.take k = b.take k) ?_ ?_ ?_
  · simp (maxSteps := 2000000) (disch := (first | omega | (simp only [List.length_append, List.length_take, List.length_replicate, List.length_map, List.length_set, List.length_cons, List.length_nil, List.length_zipWith, List.length_drop, List.length_range]; first | done | omega))) only [go_sem, Nat.reduceAdd, Nat.reduceEqDiff, Nat.reduceLeDiff, Nat.reduceSub]
    rfl
  · rintro k s hk ⟨rfl, hall⟩
    simp (maxSteps := 2000000) (disch := (first | omega | (simp only [List.length_append, List.length_take, List.length_replicate, List.length_map, List.length_set, List.length_cons, List.length_nil, List.length_zipWith, List.length_drop, List.length_range]; first | done | omega))) only [go_sem, Nat.reduceAdd, Nat.reduceEqDiff, Nat.reduceLeDiff, Nat.reduceSub]
    refine ⟨fun h => ?_, fun h => ⟨rfl, ?_⟩⟩
    · have : a ≠ b := fun e => h (by simp [e])
      simp [this]
    · rw [take_snoc hk, take_snoc (show k < b.length by omega), hall, h]
  · rintro s ⟨rfl, hall⟩
    simp (maxSteps := 2000000) (disch := (first | omega | (simp only [List.length_append, List.length_take, List.length_replicate, List.length_map, List.length_set, List.length_cons, List.length_nil, List.length_zipWith, List.length_drop, List.length_range]; first | done | omega))) only [go_sem, Nat.reduceAdd, Nat.reduceEqDiff, Nat.reduceLeDiff, Nat.reduceSub]
    rw [List.take_length, List.take_of_length_le (by omega)] at hall
    simp [hall]
abbrev encA (a : Arc3) : PV := .agg [I a.src, I a.by_, I a.dst]
def arcPV (l : List Arc3) : PV := if l = [] then .nil true 3 else .un t_impl_Arc true 3 (l.map encA)
def exPV (r : Ex) : PV := if r.code = 0 then .agg [.un t_sl_int false 1 (r.sp.ms.map ints), arcPV r.sp.ar] else .agg [.nil false 1, .nil true 3]
def exCode (r : Ex) : Int := if r.code = 0 then 1 else r.code
theorem exStart_ok {n : Net} {start : List Int} {b : Int} (hm : marked n start = true) (hb : 1 ≤ b) : ExOk n start b ⟨⟨[start], []⟩, 0⟩ := by
  refine ⟨rfl, fun m hm2 => ?_, by simp; omega, by simp, fun a ha => by simp at ha, fun j hj hl => ?_⟩
  · simp only [List.mem_singleton] at hm2; subst hm2; exact hm
  · simp only [List.length_cons, List.length_nil] at hl; omega
theorem impl_Space_find_1_ok (x m : List Int) (hx : x.length < 2^62) : C f_impl_Space_find_1 [ints x, .pv (.agg [ints m]) 0] [] = some (.bool (decide (x = m)), []) := by
  refine C_impl_Space_find_1 ?_
  simp (maxSteps := 2000000) (disch := (first | omega | (simp only [List.length_append, List.length_take, List.length_replicate, List.length_map, List.length_set, List.length_cons, List.length_nil, List.length_zipWith, List.length_drop, List.length_range]; first | done | omega))) only [ir_impl_Space_find_1, go_sem, Nat.reduceAdd, Nat.reduceEqDiff, Nat.reduceLeDiff, Nat.reduceSub]
  simp (maxSteps := 2000000) (disch := (first | omega | (simp only [List.length_append, List.length_take, List.length_replicate, List.length_map, List.length_set, List.length_cons, List.length_nil, List.length_zipWith, List.length_drop, List.length_range]; first | done | omega))) only [go_sem, Nat.reduceAdd, Nat.reduceEqDiff, Nat.reduceLeDiff, Nat.reduceSub, slices_Equal_sl_int_int_ok]
  grind
theorem slices_IndexFunc_sl_sl_int_sl_int_ok (l : List (List Int)) (g : FuncId) (caps : List PV) (hc : refsL caps = []) (hcv : ∀ m h, viewLWith [] m h caps = some caps) (p : List Int → Bool) (hp : ∀ x ∈ l, C g (ints x :: caps) [] = some (.bool (p x), [])) (hl : l.length < 2^62) :
    C f_slices_IndexFunc_sl_sl_int_sl_int [rows l, .clo g caps] [] = some (I (idxI l p), []) := by
  refine C_slices_IndexFunc_sl_sl_int_sl_int ?_
  simp (maxSteps := 2000000) (disch := (first | omega | (simp only [List.length_append, List.length_take, List.length_replicate, List.length_map, List.length_set, List.length_cons, List.length_nil, List.length_zipWith, List.length_drop, List.length_range]; first | done | omega))) only [ir_slices_IndexFunc_sl_sl_int_sl_int, go_sem, Nat.reduceAdd, Nat.reduceEqDiff, Nat.reduceLeDiff, Nat.reduceSub]
  refine W_for l.length (fun k s => s = ⟨[rows l, .clo g caps, .any, .any, I l.length, I k, .any, .any], []⟩ ∧ (l.take k).any p = false) ?_ ?_ ?_
  · simp (maxSteps := 2000000) (disch := (first | omega | (simp only [List.length_append, List.length_take, List.length_replicate, List.length_map, List.length_set, List.length_cons, List.length_nil, List.length_zipWith, List.length_drop, List.length_range]; first | done | omega))) only [go_sem, Nat.reduceAdd, Nat.reduceEqDiff, Nat.reduceLeDiff, Nat.reduceSub, hc]
    rfl
  · rintro k s hk ⟨rfl, hall⟩
    simp (maxSteps := 2000000) (disch := (first | omega | (simp only [List.length_append, List.length_take, List.length_replicate, List.length_map, List.length_set, List.length_cons, List.length_nil, List.length_zipWith, List.length_drop, List.length_range]; first | done | omega))) only [go_sem, Nat.reduceAdd, Nat.reduceEqDiff, Nat.reduceLeDiff, Nat.reduceSub, hc, hcv, hp _ (List.getElem_mem hk)]
    exact ⟨fun h => by rw [idxI_some hk hall h], fun h => ⟨rfl, any_take hk hall h⟩⟩
  · rintro s ⟨rfl, hall⟩
    simp (maxSteps := 2000000) (disch := (first | omega | (simp only [List.length_append, List.length_take, List.length_replicate, List.length_map, List.length_set, List.length_cons, List.length_nil, List.length_zipWith, List.length_drop, List.length_range]; first | done | omega))) only [go_sem, Nat.reduceAdd, Nat.reduceEqDiff, Nat.reduceLeDiff, Nat.reduceSub]
    rw [List.take_length] at hall
    rw [idxI_none hall]
end Go.Proofs.Ytldlbpdbbbajfaa.Pi
