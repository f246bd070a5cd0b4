/- The functions that the law reaches: what they answer. Conditions: those that each theorem names. -/
import Derived.Test.YtoimodnlefadhaaGreatIrFnCaseSteps
import Derived.Test.YtoimodnlefadhaaGreatPlBase
import Derived.Test.YtoimodnlefadhaaGreatPlNet
import Derived.Test.YtoimodnlefadhaaGreatPlFire
import Derived.Test.YtoimodnlefadhaaGreatPlTurn
import Derived.Test.YtoimodnlefadhaaGreatPlBack
import Derived.Test.YtoimodnlefadhaaGreatPlFlow
import Derived.Test.YtoimodnlefadhaaGreatPlMask
import Derived.Test.YtoimodnlefadhaaGreatPlSpec
import Derived.Test.YtoimodnlefadhaaGreatPlDraw
import Derived.Test.YtoimodnlefadhaaGreatPlCase
import Derived.Test.YtoimodnlefadhaaGreatPlPlay
namespace Go.Proofs.YtoimodnlefadhaaGreat.Pi
open Go
set_option linter.all false
set_option maxHeartbeats 4000000
set_option maxRecDepth 20000
/-- Lengths, all at once. -/
theorem lenS : (∀ {α : Type} (a b : List α), (a ++ b).length = a.length + b.length) ∧ (∀ {α : Type} (n : Nat) (l : List α), (l.take n).length = min n l.length) ∧ (∀ {α : Type} (n : Nat) (x : α), (List.replicate n x).length = n) ∧ (∀ {α β : Type} (f : α → β) (l : List α), (l.map f).length = l.length) ∧ (∀ {α : Type} (l : List α) (n : Nat) (x : α), (l.set n x).length = l.length) ∧ (∀ {α : Type} (x : α) (l : List α), (x :: l).length = l.length + 1) ∧ (∀ {α : Type}, ([] : List α).length = 0) ∧ (∀ {α β γ : Type} (f : α → β → γ) (a : List α) (b : List β), (List.zipWith f a b).length = min a.length b.length) ∧ (∀ {α : Type} (n : Nat) (l : List α), (l.drop n).length = l.length - n) ∧ (∀ (n : Nat), (List.range n).length = n) :=
  ⟨fun _ _ => List.length_append, fun _ _ => List.length_take, fun _ _ => List.length_replicate, fun _ _ => List.length_map _, fun _ _ _ => List.length_set, fun _ _ => List.length_cons, List.length_nil, fun _ _ _ => List.length_zipWith, fun _ _ => List.length_drop, fun _ => List.length_range⟩
theorem laws_big_ok (a b : List Int) : C f_laws_big [bys a, bys b] [] = some (.bool (decide (1048576 < (a.length : Int)) || decide (1048576 - (a.length : Int) < b.length)), []) := by
  refine C_laws_big ?_
  simp (maxSteps := 2000000) (disch := (first | omega | (simp only [lenS]; first | done | omega))) only [ir_laws_big, go_sem, Nat.reduceAdd, Nat.reduceEqDiff, Nat.reduceLeDiff, Nat.reduceSub]
  refine ⟨fun h => by simp [h], fun h => ?_⟩
  simp (maxSteps := 2000000) (disch := (first | omega | (simp only [lenS]; first | done | omega))) only [go_sem, Nat.reduceAdd, Nat.reduceEqDiff, Nat.reduceLeDiff, Nat.reduceSub]
  grind
theorem spec_l1Cur_next_ok (bs : List Int) (at_ sd : Int) (h0 : 0 ≤ at_) (h1 : at_ < 2^62) (hl : bs.length < 2^62) (hb : ∀ x ∈ bs, 0 ≤ x ∧ x < 256) :
    Lw (C f_spec_l1Cur_next [.ptr 0 0] [.box t_spec_l1Cur [bys bs, I at_, .int .u64 sd]]) fun r => ∃ x sd', r = (I x, [.box t_spec_l1Cur [bys bs, I (at_ + 1), .int .u64 sd']]) ∧ 0 ≤ x ∧ x < 256 := by
  refine E_spec_l1Cur_next ?_
  simp (maxSteps := 2000000) (disch := (first | omega | (simp only [lenS]; first | done | omega))) only [ir_spec_l1Cur_next, go_sem, Nat.reduceAdd, Nat.reduceEqDiff, Nat.reduceLeDiff, Nat.reduceSub]
  refine ⟨fun h => ?_, fun h => ?_⟩
  · have h2 : at_.toNat < bs.length := by omega
    have h3 := hb _ (List.getElem_mem h2)
    simp (maxSteps := 2000000) (disch := (first | omega | (simp only [lenS]; first | done | omega))) only [go_sem, Nat.reduceAdd, Nat.reduceEqDiff, Nat.reduceLeDiff, Nat.reduceSub]
    exact ⟨_, _, rfl, h3⟩
  · refine ⟨fun _ => ⟨_, _, rfl, by omega, by omega⟩, fun _ => ?_⟩
    generalize hw : IntKind.u64.wrap (IntKind.u64.wrap (IntKind.u64.wrap (sd * 6364136223846793005) + IntKind.u64.wrap 0) + 1442695040888963407) = w
    have hb := u64_bound (IntKind.u64.wrap (IntKind.u64.wrap (sd * 6364136223846793005) + IntKind.u64.wrap 0) + 1442695040888963407)
    rw [hw] at hb
    have h3 := and255 (x := w / 2 ^ min (Int.toNat 40) 64) (Int.ediv_nonneg hb.1 (by decide)) (Int.lt_of_le_of_lt (Int.ediv_le_self _ hb.1) hb.2)
    rw [wrap_i64 (by omega) (by omega)]
    exact ⟨_, _, rfl, h3⟩
theorem spec_l1Cur_pick_ok (n : Int) (bs : List Int) (at_ sd : Int) (h0 : 0 ≤ at_) (h1 : at_ < 2^61) (hl : bs.length < 2^62) (hb : ∀ x ∈ bs, 0 ≤ x ∧ x < 256) :
    Lw (C f_spec_l1Cur_pick [.ptr 0 0, I n] [.box t_spec_l1Cur [bys bs, I at_, .int .u64 sd]]) fun r => ∃ x at' sd', r = (I x, [.box t_spec_l1Cur [bys bs, I at', .int .u64 sd']]) ∧ at_ ≤ at' ∧ at' ≤ at_ + 2 ∧ 0 ≤ x ∧ (x = 0 ∨ x < n) := by
  refine E_spec_l1Cur_pick ?_
  simp (maxSteps := 2000000) (disch := (first | omega | (simp only [lenS]; first | done | omega))) only [ir_spec_l1Cur_pick, go_sem, Nat.reduceAdd, Nat.reduceEqDiff, Nat.reduceLeDiff, Nat.reduceSub]
  refine ⟨fun h => ⟨_, _, _, rfl, by omega, by omega, by omega, by omega⟩, fun h => ?_⟩
  obtain ⟨_, e1, x1, s1, rfl, h3, h4⟩ := spec_l1Cur_next_ok bs at_ sd h0 (by omega) hl hb
  obtain ⟨_, e2, x2, s2, rfl, h5, h6⟩ := spec_l1Cur_next_ok bs (at_ + 1) s1 (by omega) (by omega) hl hb
  simp (maxSteps := 2000000) (disch := (first | omega | (simp only [lenS]; first | done | omega))) only [go_sem, Nat.reduceAdd, Nat.reduceEqDiff, Nat.reduceLeDiff, Nat.reduceSub, e1, e2]
  refine ⟨fun _ => ⟨_, _, _, rfl, by omega, by omega, Int.tmod_nonneg _ (by omega), .inr (Int.tmod_lt_of_pos _ (by omega))⟩, fun _ => ⟨_, _, _, rfl, by omega, by omega, Int.tmod_nonneg _ (by omega), .inr (Int.tmod_lt_of_pos _ (by omega))⟩⟩
theorem spec_l1Cur_taskOf_ok (a b : List Int) (j s : Int) (bs : List Int) (at_ sd : Int) (h0 : 0 ≤ at_) (h1 : at_ < 2^59) (hl : bs.length < 2^62) (hb : ∀ x ∈ bs, 0 ≤ x ∧ x < 256) :
    Lw (C f_spec_l1Cur_taskOf [.ptr 0 0, .ref 1 1 0 a.length, .ref 2 1 0 b.length, I j, I s] [.box t_spec_l1Cur [bys bs, I at_, .int .u64 sd], .row t_int true 1 (a.map I), .row t_int true 1 (b.map I)]) fun r => ∃ (ro at' sd' : Int), r = (.agg [I j, I s, .ref 1 1 0 a.length, .ref 2 1 0 b.length, .nil true 1, .nil true 1, I ro], [.box t_spec_l1Cur [bys bs, I at', .int .u64 sd'], .row t_int true 1 (a.map I), .row t_int true 1 (b.map I)]) ∧ at_ ≤ at' ∧ at' ≤ at_ + 2 := by
  obtain ⟨_, e1, x1, a1, s1, rfl, h3, h4, h5, h6⟩ := spec_l1Cur_pick_ok 3 bs at_ sd h0 (by omega) hl hb
  refine E_spec_l1Cur_taskOf ?_
  simp (maxSteps := 2000000) (disch := (first | omega | (simp only [lenS]; first | done | omega))) only [ir_spec_l1Cur_taskOf, go_sem, Nat.reduceAdd, Nat.reduceEqDiff, Nat.reduceLeDiff, Nat.reduceSub]
  simp (maxSteps := 2000000) (disch := (first | omega | (simp only [lenS]; first | done | omega))) only [go_sem, Nat.reduceAdd, Nat.reduceEqDiff, Nat.reduceLeDiff, Nat.reduceSub, e1]
  exact ⟨x1, a1, s1, rfl, by omega, by omega⟩
theorem spec_l1Cur_soundSpec_ok (bs : List Int) (at_ sd : Int) (h0 : 0 ≤ at_) (h1 : at_ < 2^58) (hl : bs.length < 2^62) (hb : ∀ x ∈ bs, 0 ≤ x ∧ x < 256) :
    Lw (C f_spec_l1Cur_soundSpec [.ptr 0 0] [.box t_spec_l1Cur [bys bs, I at_, .int .u64 sd]]) fun r => ∃ (s : Spc) (at' sd' : Int), r = (.agg [I s.conds, .un t_impl_Task false 7 (s.tasks.map encK)], [.box t_spec_l1Cur [bys bs, I at', .int .u64 sd']]) ∧ at_ ≤ at' ∧ at' ≤ at_ + 20 ∧ (1 ≤ s.tasks.length ∧ s.tasks.length ≤ 4) ∧ (0 ≤ s.conds ∧ s.conds ≤ 10) ∧ smk 2 s.tasks := by
  obtain ⟨_, e1, x1, a1, s1, rfl, h3, h4, h5, h6⟩ := spec_l1Cur_pick_ok 5 bs at_ sd h0 (by omega) hl hb
  have tk : ∀ (a b : List Int) (j s a0 s0 : Int), at_ ≤ a0 → a0 ≤ at_ + 18 → ∃ (ro a' s' : Int), C f_spec_l1Cur_taskOf [.ptr 0 0, .ref 1 1 0 a.length, .ref 2 1 0 b.length, I j, I s] [.box t_spec_l1Cur [bys bs, I a0, .int .u64 s0], .row t_int true 1 (a.map I), .row t_int true 1 (b.map I)] = some (.agg [I j, I s, .ref 1 1 0 a.length, .ref 2 1 0 b.length, .nil true 1, .nil true 1, I ro], [.box t_spec_l1Cur [bys bs, I a', .int .u64 s'], .row t_int true 1 (a.map I), .row t_int true 1 (b.map I)]) ∧ a0 ≤ a' ∧ a' ≤ a0 + 2 := by
    intro a b j s a0 s0 g1 g2
    obtain ⟨_, f1, ro, a', s', rfl, g3, g4⟩ := spec_l1Cur_taskOf_ok a b j s bs a0 s0 (by omega) (by omega) hl hb
    exact ⟨ro, a', s', f1, g3, g4⟩
  refine E_spec_l1Cur_soundSpec ?_
  simp (maxSteps := 2000000) (disch := (first | omega | (simp only [lenS]; first | done | omega))) only [ir_spec_l1Cur_soundSpec, go_sem, Nat.reduceAdd, Nat.reduceEqDiff, Nat.reduceLeDiff, Nat.reduceSub]
  simp (maxSteps := 2000000) (disch := (first | omega | (simp only [lenS]; first | done | omega))) only [go_sem, Nat.reduceAdd, Nat.reduceEqDiff, Nat.reduceLeDiff, Nat.reduceSub, e1]
  refine ⟨fun hx => ?_, fun _ => ⟨fun hx => ?_, fun _ => ⟨fun hx => ?_, fun _ => ⟨fun hx => ?_, fun hx => ?_⟩⟩⟩⟩
  · obtain ⟨r2, a2, s2, e2, g2, g2'⟩ := tk [0] [2] 1 1 a1 s1 (by omega) (by omega)
    obtain ⟨r3, a3, s3, e3, g3, g3'⟩ := tk [2] [1] 1 1 a2 s2 (by omega) (by omega)
    simp only [List.map_cons, List.map_nil, List.length_cons, List.length_nil, Nat.reduceAdd] at e2 e3
    simp (maxSteps := 2000000) (disch := (first | omega | (simp only [lenS]; first | done | omega))) only [go_sem, Nat.reduceAdd, Nat.reduceEqDiff, Nat.reduceLeDiff, Nat.reduceSub, e2, e3]
    repeat (refine ⟨by decide, ?_⟩)
    exact ⟨⟨3, [⟨1, 1, [0], [2], [], [], r2⟩, ⟨1, 1, [2], [1], [], [], r3⟩]⟩, a3, s3, rfl, by omega, by omega, by simp, by simp, smk_cons (by simp) (smk_cons (by simp) (smk_nil))⟩
  · obtain ⟨r2, a2, s2, e2, g2, g2'⟩ := tk [0] [2, 3] 1 1 a1 s1 (by omega) (by omega)
    obtain ⟨r3, a3, s3, e3, g3, g3'⟩ := tk [2] [4] 1 1 a2 s2 (by omega) (by omega)
    obtain ⟨r4, a4, s4, e4, g4, g4'⟩ := tk [3] [5] 2 2 a3 s3 (by omega) (by omega)
    obtain ⟨r5, a5, s5, e5, g5, g5'⟩ := tk [4, 5] [1] 1 1 a4 s4 (by omega) (by omega)
    simp only [List.map_cons, List.map_nil, List.length_cons, List.length_nil, Nat.reduceAdd] at e2 e3 e4 e5
    simp (maxSteps := 2000000) (disch := (first | omega | (simp only [lenS]; first | done | omega))) only [go_sem, Nat.reduceAdd, Nat.reduceEqDiff, Nat.reduceLeDiff, Nat.reduceSub, e2, e3, e4, e5]
    repeat (refine ⟨by decide, ?_⟩)
    exact ⟨⟨6, [⟨1, 1, [0], [2, 3], [], [], r2⟩, ⟨1, 1, [2], [4], [], [], r3⟩, ⟨2, 2, [3], [5], [], [], r4⟩, ⟨1, 1, [4, 5], [1], [], [], r5⟩]⟩, a5, s5, rfl, by omega, by omega, by simp, by simp, smk_cons (by simp) (smk_cons (by simp) (smk_cons (by simp) (smk_cons (by simp) (smk_nil))))⟩
  · obtain ⟨r2, a2, s2, e2, g2, g2'⟩ := tk [0] [2, 3] 2 2 a1 s1 (by omega) (by omega)
    obtain ⟨r3, a3, s3, e3, g3, g3'⟩ := tk [2, 3] [1] 2 1 a2 s2 (by omega) (by omega)
    simp only [List.map_cons, List.map_nil, List.length_cons, List.length_nil, Nat.reduceAdd] at e2 e3
    simp (maxSteps := 2000000) (disch := (first | omega | (simp only [lenS]; first | done | omega))) only [go_sem, Nat.reduceAdd, Nat.reduceEqDiff, Nat.reduceLeDiff, Nat.reduceSub, e2, e3]
    repeat (refine ⟨by decide, ?_⟩)
    exact ⟨⟨4, [⟨2, 2, [0], [2, 3], [], [], r2⟩, ⟨2, 1, [2, 3], [1], [], [], r3⟩]⟩, a3, s3, rfl, by omega, by omega, by simp, by simp, smk_cons (by simp) (smk_cons (by simp) (smk_nil))⟩
  · obtain ⟨r2, a2, s2, e2, g2, g2'⟩ := tk [0] [2] 1 1 a1 s1 (by omega) (by omega)
    obtain ⟨r3, a3, s3, e3, g3, g3'⟩ := tk [2, 3] [1, 3] 2 2 a2 s2 (by omega) (by omega)
    simp only [List.map_cons, List.map_nil, List.length_cons, List.length_nil, Nat.reduceAdd] at e2 e3
    simp (maxSteps := 2000000) (disch := (first | omega | (simp only [lenS]; first | done | omega))) only [go_sem, Nat.reduceAdd, Nat.reduceEqDiff, Nat.reduceLeDiff, Nat.reduceSub, e2, e3]
    repeat (refine ⟨by decide, ?_⟩)
    exact ⟨⟨4, [⟨1, 1, [0], [2], [], [], r2⟩, ⟨2, 2, [2, 3], [1, 3], [], [], r3⟩]⟩, a3, s3, rfl, by omega, by omega, by simp, by simp, smk_cons (by simp) (smk_cons (by simp) (smk_nil))⟩
  · obtain ⟨r2, a2, s2, e2, g2, g2'⟩ := tk [0] [2, 3] 1 1 a1 s1 (by omega) (by omega)
    obtain ⟨r3, a3, s3, e3, g3, g3'⟩ := tk [2] [1] 1 1 a2 s2 (by omega) (by omega)
    obtain ⟨r4, a4, s4, e4, g4, g4'⟩ := tk [3] [1, 3] 1 2 a3 s3 (by omega) (by omega)
    simp only [List.map_cons, List.map_nil, List.length_cons, List.length_nil, Nat.reduceAdd] at e2 e3 e4
    simp (maxSteps := 2000000) (disch := (first | omega | (simp only [lenS]; first | done | omega))) only [go_sem, Nat.reduceAdd, Nat.reduceEqDiff, Nat.reduceLeDiff, Nat.reduceSub, e2, e3, e4, List.getElem_cons_succ, List.getElem_cons_zero, List.set_cons_succ, List.set_cons_zero, show Int.toNat 1 = 1 from rfl, show Int.toNat 2 = 2 from rfl]
    repeat (refine ⟨by decide, ?_⟩)
    exact ⟨⟨4, [⟨1, 1, [0], [2, 3], [], [], r2⟩, ⟨1, 1, [2], [1], [3], [2], r3⟩, ⟨1, 2, [3], [1, 3], [2], [1], r4⟩]⟩, a4, s4, rfl, by omega, by omega, by simp, by simp, smk_cons (by simp) (smk_cons (by simp) (smk_cons (by simp) (smk_nil)))⟩
theorem spec_l1Put_ok (l : List Int) (x : Int) (hl : l.length < 2^30) : Lw (C f_spec_l1Put [.ref 0 1 0 l.length, I x] [.row t_int true 1 (l.map I)]) fun r => r = (.un t_int true 1 ((putI l x).map I), [.row t_int true 1 (l.map I)]) ∨ (r = (.ref 0 1 0 l.length, [.row t_int true 1 (l.map I)]) ∧ putI l x = l) := by
  refine E_spec_l1Put ?_
  simp (maxSteps := 2000000) (disch := (first | omega | (simp only [lenS]; first | done | omega))) only [ir_spec_l1Put, go_sem, Nat.reduceAdd, Nat.reduceEqDiff, Nat.reduceLeDiff, Nat.reduceSub]
  refine W_for l.length (fun k s => s = ⟨[.ref 0 1 0 l.length, I x, .any, I k, .any, .any, .any], [.row t_int true 1 (l.map I)]⟩ ∧ (l.take k).all (fun y => decide (y < x)) = true) ?_ ?_ ?_
  · simp (maxSteps := 2000000) (disch := (first | omega | (simp only [lenS]; first | done | omega))) only [go_sem, Nat.reduceAdd, Nat.reduceEqDiff, Nat.reduceLeDiff, Nat.reduceSub]
    rfl
  · rintro k s hk ⟨rfl, hall⟩
    simp (maxSteps := 2000000) (disch := (first | omega | (simp only [lenS]; first | done | omega))) only [go_sem, Nat.reduceAdd, Nat.reduceEqDiff, Nat.reduceLeDiff, Nat.reduceSub]
    refine ⟨fun h => ⟨rfl, all_take hk hall (by simpa using h)⟩, fun h => ⟨fun h2 => .inr (putI_eq hk hall h2), fun h2 => .inl ?_⟩⟩
    rw [putI_gt hall (fun _ => by omega) (by omega)]
    simp
  · rintro s ⟨rfl, hall⟩
    simp (maxSteps := 2000000) (disch := (first | omega | (simp only [lenS]; first | done | omega))) only [go_sem, Nat.reduceAdd, Nat.reduceEqDiff, Nat.reduceLeDiff, Nat.reduceSub]
    have e := putI_gt hall (fun h => by omega) (by omega)
    refine ⟨fun h => .inl ?_, fun h => .inl ?_⟩
    · rw [e]; simp
    · have : l = [] := List.eq_nil_of_length_eq_zero (by omega)
      subst this; rfl
theorem spec_l1Cur_someOf_ok (n least most : Int) (hlm : 0 ≤ least ∧ least ≤ most ∧ most ≤ 20) (bs : List Int) (at_ sd : Int) (h0 : 0 ≤ at_) (h1 : at_ < 2^60) (hl : bs.length < 2^62) (hb : ∀ x ∈ bs, 0 ≤ x ∧ x < 256) :
    Lw (C f_spec_l1Cur_someOf [.ptr 0 0, I n, I least, I most] [.box t_spec_l1Cur [bys bs, I at_, .int .u64 sd]]) fun r => ∃ (l : List Int) (at' sd' : Int), r = (.un t_int true 1 (l.map I), [.box t_spec_l1Cur [bys bs, I at', .int .u64 sd']]) ∧ at_ ≤ at' ∧ at' ≤ at_ + 50 ∧ l.length ≤ 20 ∧ ∀ x ∈ l, 0 ≤ x ∧ (x = 0 ∨ x < n) := by
  refine E_spec_l1Cur_someOf ?_
  simp (maxSteps := 2000000) (disch := (first | omega | (simp only [lenS]; first | done | omega))) only [ir_spec_l1Cur_someOf, go_sem, Nat.reduceAdd, Nat.reduceEqDiff, Nat.reduceLeDiff, Nat.reduceSub]
  obtain ⟨_, e1, x1, a1, s1, rfl, h3, h4, h5, h6⟩ := spec_l1Cur_pick_ok (most - least + 1) bs at_ sd h0 (by omega) hl hb
  simp (maxSteps := 2000000) (disch := (first | omega | (simp only [lenS]; first | done | omega))) only [go_sem, Nat.reduceAdd, Nat.reduceEqDiff, Nat.reduceLeDiff, Nat.reduceSub, e1]
  refine W_for (least + x1).toNat (fun k s => ∃ (l : List Int) (at' sd' : Int), s = ⟨[.ptr 0 0, I n, .any, .any, .any, .ref 1 1 0 l.length, I (least + x1 - k), .any], [.box t_spec_l1Cur [bys bs, I at', .int .u64 sd'], .row t_int true 1 (l.map I)]⟩ ∧ l.length ≤ k ∧ at_ ≤ at' ∧ at' ≤ at_ + 2 + 2 * k ∧ ∀ x ∈ l, 0 ≤ x ∧ (x = 0 ∨ x < n)) ?_ ?_ ?_
  · refine ⟨[], a1, s1, ?_, by simp, by omega, by omega, by simp⟩
    simp (maxSteps := 2000000) (disch := (first | omega | (simp only [lenS]; first | done | omega))) only [go_sem, Nat.reduceAdd, Nat.reduceEqDiff, Nat.reduceLeDiff, Nat.reduceSub]
    rw [show least + x1 - ((0 : Nat) : Int) = least + x1 by omega]
  · rintro k s hk ⟨l, a, sd, rfl, h7, h8, h9, h10⟩
    obtain ⟨_, e2, x2, a2, s2, rfl, h11, h12, h13, h14⟩ := spec_l1Cur_pick_ok n bs a sd (by omega) (by omega) hl hb
    have e : least + x1 - ((k + 1 : Nat) : Int) = least + x1 - k - 1 := by omega
    obtain ⟨_, e3, rfl | ⟨rfl, e4⟩⟩ := spec_l1Put_ok l x2 (by omega)
    · simp (maxSteps := 2000000) (disch := (first | omega | (simp only [lenS]; first | done | omega))) only [go_sem, Nat.reduceAdd, Nat.reduceEqDiff, Nat.reduceLeDiff, Nat.reduceSub, e2, e3]
      have := putI_len l x2
      refine ⟨putI l x2, a2, s2, by rw [e], by omega, by omega, by omega, fun y hy => ?_⟩
      rcases putI_mem hy with hy | rfl
      · exact h10 y hy
      · exact ⟨h13, h14⟩
    · simp (maxSteps := 2000000) (disch := (first | omega | (simp only [lenS]; first | done | omega))) only [go_sem, Nat.reduceAdd, Nat.reduceEqDiff, Nat.reduceLeDiff, Nat.reduceSub, e2, e3]
      exact ⟨l, a2, s2, by rw [e], by omega, by omega, by omega, h10⟩
  · rintro s ⟨l, a, sd, rfl, h7, h8, h9, h10⟩
    simp (maxSteps := 2000000) (disch := (first | omega | (simp only [lenS]; first | done | omega))) only [go_sem, Nat.reduceAdd, Nat.reduceEqDiff, Nat.reduceLeDiff, Nat.reduceSub]
    exact ⟨l, a, sd, rfl, by omega, by omega, by omega, h10⟩
theorem spec_l1Cur_one_ok (n : Int) (bs : List Int) (at_ sd : Int) (h0 : 0 ≤ at_) (h1 : at_ < 2^61) (hl : bs.length < 2^62) (hb : ∀ x ∈ bs, 0 ≤ x ∧ x < 256) :
    Lw (C f_spec_l1Cur_one [.ptr 0 0, I n] [.box t_spec_l1Cur [bys bs, I at_, .int .u64 sd]]) fun r => ∃ x at' sd', r = (.bool x, [.box t_spec_l1Cur [bys bs, I at', .int .u64 sd']]) ∧ at_ ≤ at' ∧ at' ≤ at_ + 2 := by
  refine E_spec_l1Cur_one ?_
  simp (maxSteps := 2000000) (disch := (first | omega | (simp only [lenS]; first | done | omega))) only [ir_spec_l1Cur_one, go_sem, Nat.reduceAdd, Nat.reduceEqDiff, Nat.reduceLeDiff, Nat.reduceSub]
  obtain ⟨_, e1, x1, a1, s1, rfl, h3, h4, h5⟩ := spec_l1Cur_pick_ok n bs at_ sd h0 h1 hl hb
  simp (maxSteps := 2000000) (disch := (first | omega | (simp only [lenS]; first | done | omega))) only [go_sem, Nat.reduceAdd, Nat.reduceEqDiff, Nat.reduceLeDiff, Nat.reduceSub, e1]
  exact ⟨fun _ => ⟨_, _, _, rfl, h3, h4⟩, fun _ => ⟨_, _, _, rfl, h3, h4⟩⟩
theorem spec_l1Cur_among_ok (l : List Int) (t : TypeId) (hne : 0 < l.length) (hln : l.length < 2^30) (bs : List Int) (at_ sd : Int) (h0 : 0 ≤ at_) (h1 : at_ < 2^61) (hl : bs.length < 2^62) (hb : ∀ x ∈ bs, 0 ≤ x ∧ x < 256) :
    Lw (C f_spec_l1Cur_among [.ptr 0 0, .ref 1 1 0 l.length] [.box t_spec_l1Cur [bys bs, I at_, .int .u64 sd], .row t true 1 (l.map I)]) fun r => ∃ x at' sd', r = (I x, [.box t_spec_l1Cur [bys bs, I at', .int .u64 sd'], .row t true 1 (l.map I)]) ∧ at_ ≤ at' ∧ at' ≤ at_ + 2 ∧ x ∈ l := by
  refine E_spec_l1Cur_among ?_
  simp (maxSteps := 2000000) (disch := (first | omega | (simp only [lenS]; first | done | omega))) only [ir_spec_l1Cur_among, go_sem, Nat.reduceAdd, Nat.reduceEqDiff, Nat.reduceLeDiff, Nat.reduceSub]
  obtain ⟨_, e1, x1, a1, s1, rfl, h3, h4, h5, h6⟩ := spec_l1Cur_pick_ok l.length bs at_ sd h0 h1 hl hb
  have h7 : x1.toNat < l.length := by omega
  simp (maxSteps := 2000000) (disch := (first | omega | (simp only [lenS]; first | done | omega))) only [go_sem, Nat.reduceAdd, Nat.reduceEqDiff, Nat.reduceLeDiff, Nat.reduceSub, e1]
  exact ⟨_, _, _, rfl, h3, h4, List.getElem_mem h7⟩
theorem spec_l1Put_nil (x : Int) : C f_spec_l1Put [.nil true 1, I x] [] = some (.un t_int true 1 [I x], []) := by
  refine C_spec_l1Put ?_
  simp (maxSteps := 2000000) (disch := (first | omega | (simp only [lenS]; first | done | omega))) only [ir_spec_l1Put, go_sem, Nat.reduceAdd, Nat.reduceEqDiff, Nat.reduceLeDiff, Nat.reduceSub]
  refine W_for 0 (fun k s => s = ⟨[.nil true 1, I x, .any, I 0, .any, .any, .any], []⟩) ?_ ?_ ?_
  · simp (maxSteps := 2000000) (disch := (first | omega | (simp only [lenS]; first | done | omega))) only [go_sem, Nat.reduceAdd, Nat.reduceEqDiff, Nat.reduceLeDiff, Nat.reduceSub]
  · intro k s hk; omega
  · rintro s rfl
    simp (maxSteps := 2000000) (disch := (first | omega | (simp only [lenS]; first | done | omega))) only [go_sem, Nat.reduceAdd, Nat.reduceEqDiff, Nat.reduceLeDiff, Nat.reduceSub]
theorem spec_l1Put_sl (l : List Int) (x : Int) (hl : l.length < 2^30) : Lw (C f_spec_l1Put [ints l, I x] []) fun r => r = (.un t_int true 1 ((putI l x).map I), []) ∨ (r = (ints l, []) ∧ putI l x = l) := by
  refine E_spec_l1Put ?_
  simp (maxSteps := 2000000) (disch := (first | omega | (simp only [lenS]; first | done | omega))) only [ir_spec_l1Put, go_sem, Nat.reduceAdd, Nat.reduceEqDiff, Nat.reduceLeDiff, Nat.reduceSub]
  refine W_for l.length (fun k s => s = ⟨[ints l, I x, .any, I k, .any, .any, .any], []⟩ ∧ (l.take k).all (fun y => decide (y < x)) = true) ?_ ?_ ?_
  · simp (maxSteps := 2000000) (disch := (first | omega | (simp only [lenS]; first | done | omega))) only [go_sem, Nat.reduceAdd, Nat.reduceEqDiff, Nat.reduceLeDiff, Nat.reduceSub]
    rfl
  · rintro k s hk ⟨rfl, hall⟩
    simp (maxSteps := 2000000) (disch := (first | omega | (simp only [lenS]; first | done | omega))) only [go_sem, Nat.reduceAdd, Nat.reduceEqDiff, Nat.reduceLeDiff, Nat.reduceSub]
    refine ⟨fun h => ⟨rfl, all_take hk hall (by simpa using h)⟩, fun h => ⟨fun h2 => .inr (putI_eq hk hall h2), fun h2 => .inl ?_⟩⟩
    rw [putI_gt hall (fun _ => by omega) (by omega)]
    simp
  · rintro s ⟨rfl, hall⟩
    simp (maxSteps := 2000000) (disch := (first | omega | (simp only [lenS]; first | done | omega))) only [go_sem, Nat.reduceAdd, Nat.reduceEqDiff, Nat.reduceLeDiff, Nat.reduceSub]
    have e := putI_gt hall (fun h => by omega) (by omega)
    refine .inl ?_
    rw [e]; simp
theorem spec_l1Cur_spec_ok (bs : List Int) (at_ sd : Int) (h0 : 0 ≤ at_) (h1 : at_ < 2^57) (hl : bs.length < 2^62) (hb : ∀ x ∈ bs, 0 ≤ x ∧ x < 256) :
    Lw (C f_spec_l1Cur_spec [.ptr 0 0] [.box t_spec_l1Cur [bys bs, I at_, .int .u64 sd]]) fun r => ∃ (s : Spc) (at' sd' : Int), r = (.agg [I s.conds, .un t_impl_Task false 7 (s.tasks.map encK)], [.box t_spec_l1Cur [bys bs, I at', .int .u64 sd']]) ∧ at_ ≤ at' ∧ at' ≤ at_ + 200 ∧ drS s := by
  obtain ⟨_, e1, S, a1, s1, rfl, h3, h4, h5, h6, h7⟩ := spec_l1Cur_soundSpec_ok bs at_ sd h0 (by omega) hl hb
  obtain ⟨_, e2, x2, a2, s2, rfl, g3, g4, g5, g6⟩ := spec_l1Cur_pick_ok S.tasks.length bs a1 s1 (by omega) (by omega) hl hb
  obtain ⟨_, e3, x3, a3, s3, rfl, k3, k4, k5, k6⟩ := spec_l1Cur_pick_ok 10 bs a2 s2 (by omega) (by omega) hl hb
  have hx2 : x2.toNat < S.tasks.length := by omega
  have hq := h7 _ (List.getElem_mem hx2)
  have h8 : smk 20 S.tasks := smk_mono (by decide) h7
  have fin : ∀ (a sd : Int), a3 ≤ a → a ≤ a3 + 150 → ∃ (b : Bool) (z : Int) (a' s' a'' s'' : Int), C f_spec_l1Cur_one [.ptr 0 0, I 40] [.box t_spec_l1Cur [bys bs, I a, .int .u64 sd]] = some (.bool b, [.box t_spec_l1Cur [bys bs, I a', .int .u64 s']]) ∧ C f_spec_l1Cur_among [.ptr 0 0, .ref 1 1 0 3] [.box t_spec_l1Cur [bys bs, I a', .int .u64 s'], .row t_int true 1 [I 1, I 8, I 9]] = some (I z, [.box t_spec_l1Cur [bys bs, I a'', .int .u64 s''], .row t_int true 1 [I 1, I 8, I 9]]) ∧ a ≤ a' ∧ a' ≤ a + 2 ∧ a' ≤ a'' ∧ a'' ≤ a' + 2 ∧ 0 ≤ z ∧ z ≤ 9 := by
    intro a sd ha1 ha2
    obtain ⟨_, f1, b, a', s', rfl, j1, j2⟩ := spec_l1Cur_one_ok 40 bs a sd (by omega) (by omega) hl hb
    obtain ⟨_, f2, z, a'', s'', rfl, j3, j4, j5⟩ := spec_l1Cur_among_ok [1, 8, 9] t_int (by decide) (by decide) bs a' s' (by omega) (by omega) hl hb
    simp only [List.mem_cons, List.not_mem_nil, or_false] at j5
    exact ⟨b, z, a', s', a'', s'', f1, f2, j1, j2, j3, j4, by omega, by omega⟩
  have cl : ∀ (T : List Tk) (X : List PV) (c a s : Int), X = T.map encK → at_ ≤ a → a ≤ at_ + 200 → T.length = S.tasks.length → 0 ≤ c → c ≤ 20 → smk 20 T → ∃ (s' : Spc) (at' sd' : Int), ((.agg [I c, .un t_impl_Task false 7 X], [.box t_spec_l1Cur [bys bs, I a, .int .u64 s]]) : PV × List Blk) = (.agg [I s'.conds, .un t_impl_Task false 7 (s'.tasks.map encK)], [.box t_spec_l1Cur [bys bs, I at', .int .u64 sd']]) ∧ at_ ≤ at' ∧ at' ≤ at_ + 200 ∧ drS s' := by
    intro T X c a s hX h1 h2 h3 h4 h5 h6
    subst hX
    exact ⟨⟨c, T⟩, a, s, rfl, h1, h2, ⟨by simp only; omega, by simp only; omega, h6⟩⟩
  refine E_spec_l1Cur_spec ?_
  simp (maxSteps := 2000000) (disch := (first | omega | (simp only [lenS]; first | done | omega))) only [ir_spec_l1Cur_spec, go_sem, Nat.reduceAdd, Nat.reduceEqDiff, Nat.reduceLeDiff, Nat.reduceSub]
  simp (maxSteps := 2000000) (disch := (first | omega | (simp only [lenS]; first | done | omega))) only [go_sem, Nat.reduceAdd, Nat.reduceEqDiff, Nat.reduceLeDiff, Nat.reduceSub, e1, e2, e3]
  refine ⟨fun hx => ?_, fun _ => ⟨fun hx => ?_, fun _ => ⟨fun hx => ?_, fun _ => ⟨fun hx => ?_, fun _ => ⟨fun hx => ?_, fun _ => ⟨fun hx => ?_, fun _ => ?_⟩⟩⟩⟩⟩⟩
  · obtain ⟨_, f5, x5, a5, s5, rfl, j1, j2, j3, j4⟩ := spec_l1Cur_pick_ok 3 bs a3 s3 (by omega) (by omega) hl hb
    obtain ⟨b, z, a', s', a'', s'', t1, t2, t3, t4, t5, t6, t7, t8⟩ := fin a5 s5 (by omega) (by omega)
    simp (maxSteps := 2000000) (disch := (first | omega | (simp only [lenS]; first | done | omega))) only [go_sem, Nat.reduceAdd, Nat.reduceEqDiff, Nat.reduceLeDiff, Nat.reduceSub, f5, t1, t2]
    exact ⟨fun _ => cl (S.tasks.set x2.toNat ⟨S.tasks[x2.toNat].join, 1 + x5, S.tasks[x2.toNat].inn, S.tasks[x2.toNat].out, S.tasks[x2.toNat].cut, S.tasks[x2.toNat].stop, S.tasks[x2.toNat].role⟩) _ z a'' s'' (by simp [List.map_set]; try rfl) (by omega) (by omega) (by simp) (by omega) (by omega) (smk_set h8 (by simp only [List.length_cons, List.length_nil]; omega)), fun _ => cl (S.tasks.set x2.toNat ⟨S.tasks[x2.toNat].join, 1 + x5, S.tasks[x2.toNat].inn, S.tasks[x2.toNat].out, S.tasks[x2.toNat].cut, S.tasks[x2.toNat].stop, S.tasks[x2.toNat].role⟩) _ S.conds a' s' (by simp [List.map_set]; try rfl) (by omega) (by omega) (by simp) (by omega) (by omega) (smk_set h8 (by simp only [List.length_cons, List.length_nil]; omega))⟩
  · obtain ⟨_, f5, x5, a5, s5, rfl, j1, j2, j3, j4⟩ := spec_l1Cur_pick_ok 2 bs a3 s3 (by omega) (by omega) hl hb
    obtain ⟨b, z, a', s', a'', s'', t1, t2, t3, t4, t5, t6, t7, t8⟩ := fin a5 s5 (by omega) (by omega)
    simp (maxSteps := 2000000) (disch := (first | omega | (simp only [lenS]; first | done | omega))) only [go_sem, Nat.reduceAdd, Nat.reduceEqDiff, Nat.reduceLeDiff, Nat.reduceSub, f5, t1, t2]
    exact ⟨fun _ => cl (S.tasks.set x2.toNat ⟨1 + x5, S.tasks[x2.toNat].split, S.tasks[x2.toNat].inn, S.tasks[x2.toNat].out, S.tasks[x2.toNat].cut, S.tasks[x2.toNat].stop, S.tasks[x2.toNat].role⟩) _ z a'' s'' (by simp [List.map_set]; try rfl) (by omega) (by omega) (by simp) (by omega) (by omega) (smk_set h8 (by simp only [List.length_cons, List.length_nil]; omega)), fun _ => cl (S.tasks.set x2.toNat ⟨1 + x5, S.tasks[x2.toNat].split, S.tasks[x2.toNat].inn, S.tasks[x2.toNat].out, S.tasks[x2.toNat].cut, S.tasks[x2.toNat].stop, S.tasks[x2.toNat].role⟩) _ S.conds a' s' (by simp [List.map_set]; try rfl) (by omega) (by omega) (by simp) (by omega) (by omega) (smk_set h8 (by simp only [List.length_cons, List.length_nil]; omega))⟩
  · obtain ⟨_, f5, x5, a5, s5, rfl, j1, j2, j3, j4⟩ := spec_l1Cur_pick_ok S.conds bs a3 s3 (by omega) (by omega) hl hb
    obtain ⟨b, z, a', s', a'', s'', t1, t2, t3, t4, t5, t6, t7, t8⟩ := fin a5 s5 (by omega) (by omega)
    have hpl := putI_len S.tasks[x2.toNat].out x5
    obtain ⟨_, f6, rfl | ⟨rfl, f7⟩⟩ := spec_l1Put_sl S.tasks[x2.toNat].out x5 (by omega)
    · simp (maxSteps := 2000000) (disch := (first | omega | (simp only [lenS]; first | done | omega))) only [go_sem, Nat.reduceAdd, Nat.reduceEqDiff, Nat.reduceLeDiff, Nat.reduceSub, f5, f6, t1, t2]
      refine ⟨rfl, ?_⟩
      exact ⟨fun _ => cl (S.tasks.set x2.toNat ⟨S.tasks[x2.toNat].join, S.tasks[x2.toNat].split, S.tasks[x2.toNat].inn, putI S.tasks[x2.toNat].out x5, S.tasks[x2.toNat].cut, S.tasks[x2.toNat].stop, S.tasks[x2.toNat].role⟩) _ z a'' s'' (by simp [List.map_set]; try rfl) (by omega) (by omega) (by simp) (by omega) (by omega) (smk_set h8 (by simp only [List.length_cons, List.length_nil]; omega)), fun _ => cl (S.tasks.set x2.toNat ⟨S.tasks[x2.toNat].join, S.tasks[x2.toNat].split, S.tasks[x2.toNat].inn, putI S.tasks[x2.toNat].out x5, S.tasks[x2.toNat].cut, S.tasks[x2.toNat].stop, S.tasks[x2.toNat].role⟩) _ S.conds a' s' (by simp [List.map_set]; try rfl) (by omega) (by omega) (by simp) (by omega) (by omega) (smk_set h8 (by simp only [List.length_cons, List.length_nil]; omega))⟩
    · simp (maxSteps := 2000000) (disch := (first | omega | (simp only [lenS]; first | done | omega))) only [go_sem, Nat.reduceAdd, Nat.reduceEqDiff, Nat.reduceLeDiff, Nat.reduceSub, f5, f6, t1, t2]
      refine ⟨rfl, ?_⟩
      exact ⟨fun _ => cl (S.tasks.set x2.toNat ⟨S.tasks[x2.toNat].join, S.tasks[x2.toNat].split, S.tasks[x2.toNat].inn, S.tasks[x2.toNat].out, S.tasks[x2.toNat].cut, S.tasks[x2.toNat].stop, S.tasks[x2.toNat].role⟩) _ z a'' s'' (by simp [List.map_set]; try rfl) (by omega) (by omega) (by simp) (by omega) (by omega) (smk_set h8 (by simp only [List.length_cons, List.length_nil]; omega)), fun _ => cl (S.tasks.set x2.toNat ⟨S.tasks[x2.toNat].join, S.tasks[x2.toNat].split, S.tasks[x2.toNat].inn, S.tasks[x2.toNat].out, S.tasks[x2.toNat].cut, S.tasks[x2.toNat].stop, S.tasks[x2.toNat].role⟩) _ S.conds a' s' (by simp [List.map_set]; try rfl) (by omega) (by omega) (by simp) (by omega) (by omega) (smk_set h8 (by simp only [List.length_cons, List.length_nil]; omega))⟩
  · obtain ⟨_, f5, x5, a5, s5, rfl, j1, j2, j3, j4⟩ := spec_l1Cur_pick_ok S.conds bs a3 s3 (by omega) (by omega) hl hb
    obtain ⟨b, z, a', s', a'', s'', t1, t2, t3, t4, t5, t6, t7, t8⟩ := fin a5 s5 (by omega) (by omega)
    have hpl := putI_len S.tasks[x2.toNat].inn x5
    obtain ⟨_, f6, rfl | ⟨rfl, f7⟩⟩ := spec_l1Put_sl S.tasks[x2.toNat].inn x5 (by omega)
    · simp (maxSteps := 2000000) (disch := (first | omega | (simp only [lenS]; first | done | omega))) only [go_sem, Nat.reduceAdd, Nat.reduceEqDiff, Nat.reduceLeDiff, Nat.reduceSub, f5, f6, t1, t2]
      refine ⟨rfl, ?_⟩
      exact ⟨fun _ => cl (S.tasks.set x2.toNat ⟨S.tasks[x2.toNat].join, S.tasks[x2.toNat].split, putI S.tasks[x2.toNat].inn x5, S.tasks[x2.toNat].out, S.tasks[x2.toNat].cut, S.tasks[x2.toNat].stop, S.tasks[x2.toNat].role⟩) _ z a'' s'' (by simp [List.map_set]; try rfl) (by omega) (by omega) (by simp) (by omega) (by omega) (smk_set h8 (by simp only [List.length_cons, List.length_nil]; omega)), fun _ => cl (S.tasks.set x2.toNat ⟨S.tasks[x2.toNat].join, S.tasks[x2.toNat].split, putI S.tasks[x2.toNat].inn x5, S.tasks[x2.toNat].out, S.tasks[x2.toNat].cut, S.tasks[x2.toNat].stop, S.tasks[x2.toNat].role⟩) _ S.conds a' s' (by simp [List.map_set]; try rfl) (by omega) (by omega) (by simp) (by omega) (by omega) (smk_set h8 (by simp only [List.length_cons, List.length_nil]; omega))⟩
    · simp (maxSteps := 2000000) (disch := (first | omega | (simp only [lenS]; first | done | omega))) only [go_sem, Nat.reduceAdd, Nat.reduceEqDiff, Nat.reduceLeDiff, Nat.reduceSub, f5, f6, t1, t2]
      refine ⟨rfl, ?_⟩
      exact ⟨fun _ => cl (S.tasks.set x2.toNat ⟨S.tasks[x2.toNat].join, S.tasks[x2.toNat].split, S.tasks[x2.toNat].inn, S.tasks[x2.toNat].out, S.tasks[x2.toNat].cut, S.tasks[x2.toNat].stop, S.tasks[x2.toNat].role⟩) _ z a'' s'' (by simp [List.map_set]; try rfl) (by omega) (by omega) (by simp) (by omega) (by omega) (smk_set h8 (by simp only [List.length_cons, List.length_nil]; omega)), fun _ => cl (S.tasks.set x2.toNat ⟨S.tasks[x2.toNat].join, S.tasks[x2.toNat].split, S.tasks[x2.toNat].inn, S.tasks[x2.toNat].out, S.tasks[x2.toNat].cut, S.tasks[x2.toNat].stop, S.tasks[x2.toNat].role⟩) _ S.conds a' s' (by simp [List.map_set]; try rfl) (by omega) (by omega) (by simp) (by omega) (by omega) (smk_set h8 (by simp only [List.length_cons, List.length_nil]; omega))⟩
  · obtain ⟨_, f5, l5, a5, s5, rfl, j1, j2, j3, j4⟩ := spec_l1Cur_someOf_ok S.conds 0 2 (by omega) bs a3 s3 (by omega) (by omega) hl hb
    obtain ⟨b, z, a', s', a'', s'', t1, t2, t3, t4, t5, t6, t7, t8⟩ := fin a5 s5 (by omega) (by omega)
    simp (maxSteps := 2000000) (disch := (first | omega | (simp only [lenS]; first | done | omega))) only [go_sem, Nat.reduceAdd, Nat.reduceEqDiff, Nat.reduceLeDiff, Nat.reduceSub, f5, t1, t2]
    exact ⟨fun _ => cl (S.tasks.set x2.toNat ⟨S.tasks[x2.toNat].join, S.tasks[x2.toNat].split, S.tasks[x2.toNat].inn, S.tasks[x2.toNat].out, l5, S.tasks[x2.toNat].stop, S.tasks[x2.toNat].role⟩) _ z a'' s'' (by simp [List.map_set]; try rfl) (by omega) (by omega) (by simp) (by omega) (by omega) (smk_set h8 (by simp only [List.length_cons, List.length_nil]; omega)), fun _ => cl (S.tasks.set x2.toNat ⟨S.tasks[x2.toNat].join, S.tasks[x2.toNat].split, S.tasks[x2.toNat].inn, S.tasks[x2.toNat].out, l5, S.tasks[x2.toNat].stop, S.tasks[x2.toNat].role⟩) _ S.conds a' s' (by simp [List.map_set]; try rfl) (by omega) (by omega) (by simp) (by omega) (by omega) (smk_set h8 (by simp only [List.length_cons, List.length_nil]; omega))⟩
  · obtain ⟨_, f5, x5, a5, s5, rfl, j1, j2, j3, j4⟩ := spec_l1Cur_pick_ok S.tasks.length bs a3 s3 (by omega) (by omega) hl hb
    obtain ⟨b, z, a', s', a'', s'', t1, t2, t3, t4, t5, t6, t7, t8⟩ := fin a5 s5 (by omega) (by omega)
    simp (maxSteps := 2000000) (disch := (first | omega | (simp only [lenS]; first | done | omega))) only [go_sem, Nat.reduceAdd, Nat.reduceEqDiff, Nat.reduceLeDiff, Nat.reduceSub, f5, t1, t2]
    exact ⟨fun _ => cl (S.tasks.set x2.toNat ⟨S.tasks[x2.toNat].join, S.tasks[x2.toNat].split, S.tasks[x2.toNat].inn, S.tasks[x2.toNat].out, S.tasks[x2.toNat].cut, [x5], S.tasks[x2.toNat].role⟩) _ z a'' s'' (by simp [List.map_set]; try rfl) (by omega) (by omega) (by simp) (by omega) (by omega) (smk_set h8 (by simp only [List.length_cons, List.length_nil]; omega)), fun _ => cl (S.tasks.set x2.toNat ⟨S.tasks[x2.toNat].join, S.tasks[x2.toNat].split, S.tasks[x2.toNat].inn, S.tasks[x2.toNat].out, S.tasks[x2.toNat].cut, [x5], S.tasks[x2.toNat].role⟩) _ S.conds a' s' (by simp [List.map_set]; try rfl) (by omega) (by omega) (by simp) (by omega) (by omega) (smk_set h8 (by simp only [List.length_cons, List.length_nil]; omega))⟩
  · obtain ⟨b, z, a', s', a'', s'', t1, t2, t3, t4, t5, t6, t7, t8⟩ := fin a3 s3 (by omega) (by omega)
    simp (maxSteps := 2000000) (disch := (first | omega | (simp only [lenS]; first | done | omega))) only [go_sem, Nat.reduceAdd, Nat.reduceEqDiff, Nat.reduceLeDiff, Nat.reduceSub, t1, t2]
    exact ⟨fun _ => cl S.tasks _ z a'' s'' (by simp [List.map_set]; try rfl) (by omega) (by omega) (by simp) (by omega) (by omega) h8, fun _ => cl S.tasks _ S.conds a' s' (by simp [List.map_set]; try rfl) (by omega) (by omega) (by simp) (by omega) (by omega) h8⟩
theorem spec_l1In_ok (n lo hi : Int) : C f_spec_l1In [I n, I lo, I hi] [] = some (.bool (inB lo hi n), []) := by
  refine C_spec_l1In ?_
  simp (maxSteps := 2000000) (disch := (first | omega | (simp only [lenS]; first | done | omega))) only [ir_spec_l1In, go_sem, Nat.reduceAdd, Nat.reduceEqDiff, Nat.reduceLeDiff, Nat.reduceSub]
  unfold inB; grind
theorem spec_l1Has_ok (l : List Int) (x : Int) (hl : l.length < 2^62) : C f_spec_l1Has [ints l, I x] [] = some (.bool (hasB l x), []) := by
  refine C_spec_l1Has ?_
  simp (maxSteps := 2000000) (disch := (first | omega | (simp only [lenS]; first | done | omega))) only [ir_spec_l1Has, go_sem, Nat.reduceAdd, Nat.reduceEqDiff, Nat.reduceLeDiff, Nat.reduceSub]
  refine W_for l.length (fun k s => s = ⟨[.any, I x, .any, .any, ints l, I l.length, I k, .any, .any], []⟩ ∧ (l.take k).any (fun y => y == x) = false) ?_ ?_ ?_
  · simp (maxSteps := 2000000) (disch := (first | omega | (simp only [lenS]; first | done | omega))) only [go_sem, Nat.reduceAdd, Nat.reduceEqDiff, Nat.reduceLeDiff, Nat.reduceSub]
    rfl
  · rintro k s hk ⟨rfl, hall⟩
    simp (maxSteps := 2000000) (disch := (first | omega | (simp only [lenS]; first | done | omega))) only [go_sem, Nat.reduceAdd, Nat.reduceEqDiff, Nat.reduceLeDiff, Nat.reduceSub]
    refine ⟨fun h => ?_, fun h => ⟨rfl, any_take hk hall (by simpa using h)⟩⟩
    rw [hasB_yes hk h]
  · rintro s ⟨rfl, hall⟩
    simp (maxSteps := 2000000) (disch := (first | omega | (simp only [lenS]; first | done | omega))) only [go_sem, Nat.reduceAdd, Nat.reduceEqDiff, Nat.reduceLeDiff, Nat.reduceSub]
    rw [List.take_length] at hall
    rw [hasB_no hall]
theorem spec_l1Rising_ok (l : List Int) (lo hi : Int) (hl : l.length < 2^62) : C f_spec_l1Rising [ints l, I lo, I hi] [] = some (.bool (incr l && l.all (inB lo hi)), []) := by
  refine C_spec_l1Rising ?_
  simp (maxSteps := 2000000) (disch := (first | omega | (simp only [lenS]; first | done | omega))) only [ir_spec_l1Rising, go_sem, Nat.reduceAdd, Nat.reduceEqDiff, Nat.reduceLeDiff, Nat.reduceSub]
  refine W_for l.length (fun k s => s = ⟨[ints l, I lo, I hi, .any, .any, .any, ints l, I l.length, I k, .any, .any], []⟩ ∧ (l.take k).Pairwise (· < ·) ∧ (l.take k).all (inB lo hi) = true) ?_ ?_ ?_
  · simp (maxSteps := 2000000) (disch := (first | omega | (simp only [lenS]; first | done | omega))) only [go_sem, Nat.reduceAdd, Nat.reduceEqDiff, Nat.reduceLeDiff, Nat.reduceSub]
    exact ⟨rfl, List.Pairwise.nil⟩
  · rintro k s hk ⟨rfl, hp, hall⟩
    simp (maxSteps := 2000000) (disch := (first | omega | (simp only [lenS]; first | done | omega))) only [go_sem, Nat.reduceAdd, Nat.reduceEqDiff, Nat.reduceLeDiff, Nat.reduceSub, spec_l1In_ok]
    refine ⟨fun h => ⟨fun h2 => ?_, fun h2 => ?_⟩, fun h => by rw [all_false hk h]; simp⟩
    · simp (maxSteps := 2000000) (disch := (first | omega | (simp only [lenS]; first | done | omega))) only [go_sem, Nat.reduceAdd, Nat.reduceEqDiff, Nat.reduceLeDiff, Nat.reduceSub]
      obtain ⟨j, rfl⟩ : ∃ j, k = j + 1 := ⟨k - 1, by omega⟩
      have e : (((j + 1 : Nat) : Int) - 1).toNat = j := by omega
      refine ⟨fun h3 => ?_, fun h3 => ⟨rfl, ?_, all_take hk hall h⟩⟩
      · rw [incr_not hk (by simp only [e] at h3; omega)]; rfl
      · exact incr_step hk hp (by simp only [e] at h3; omega)
    · obtain rfl : k = 0 := by omega
      exact ⟨rfl, incr_one, all_take hk hall h⟩
  · rintro s ⟨rfl, hp, hall⟩
    simp (maxSteps := 2000000) (disch := (first | omega | (simp only [lenS]; first | done | omega))) only [go_sem, Nat.reduceAdd, Nat.reduceEqDiff, Nat.reduceLeDiff, Nat.reduceSub]
    rw [List.take_length] at hp hall
    rw [hall, show incr l = true by simpa [incr] using hp]
    rfl
theorem spec_l13Task_ok (s : Spc) (k : Nat) (hk : k < s.tasks.length) (hl : s.tasks.length ≤ 6) (hc : 2 ≤ s.conds ∧ s.conds ≤ 8) (ht : smTk s.tasks[k]) : C f_spec_l13Task [encS s, I k] [] = some (.bool (goodK s k s.tasks[k]), []) := by
  obtain ⟨a, b, c, d⟩ := ht
  refine C_spec_l13Task ?_
  simp (maxSteps := 2000000) (disch := (first | omega | (simp only [lenS]; first | done | omega))) only [ir_spec_l13Task, go_sem, Nat.reduceAdd, Nat.reduceEqDiff, Nat.reduceLeDiff, Nat.reduceSub]
  unfold goodK
  generalize hT : s.tasks[k] = t at *
  simp (maxSteps := 2000000) (disch := (first | omega | (simp only [lenS]; first | done | omega))) only [go_sem, Nat.reduceAdd, Nat.reduceEqDiff, Nat.reduceLeDiff, Nat.reduceSub, hT, spec_l1In_ok, spec_l1Rising_ok, spec_l1Has_ok]
  generalize t.inn.all (inB 0 (s.conds - 1)) = q1
  generalize t.out.all (inB 0 (s.conds - 1)) = q2
  generalize t.cut.all (inB 2 (s.conds - 1)) = q3
  generalize t.stop.all (inB 0 ((s.tasks.length : Int) - 1)) = q4
  (repeat' (first | apply And.intro | intro _)) <;> simp_all
theorem spec_l1Own_ok (l : List Int) (h : l.length < 2^36) : C f_spec_l1Own [ints l] [] = some (.un t_int true 1 (l.map I), []) := by
  refine C_spec_l1Own ?_
  simp (maxSteps := 2000000) (disch := (first | omega | (simp only [lenS]; first | done | omega))) only [ir_spec_l1Own, go_sem, Nat.reduceAdd, Nat.reduceEqDiff, Nat.reduceLeDiff, Nat.reduceSub]
theorem spec_l1Set_ok (l : List Int) (h : ∀ p ∈ l, 0 ≤ p ∧ p < 30) (hi : incr l = true) (hl : l.length < 2^30) : C f_spec_l1Set [I (maskN l)] [] = some (.un t_int true 1 (l.map I), []) := by
  have hp : l.Pairwise (· < ·) := by simpa [incr] using hi
  have h0 : ∀ p ∈ l, 0 ≤ p := fun p hp => (h p hp).1
  have hm : maskN l < 2 ^ 30 := maskN_lt (q := 30) h
  refine C_spec_l1Set ?_
  simp (maxSteps := 2000000) (disch := (first | omega | (simp only [lenS]; first | done | omega))) only [ir_spec_l1Set, go_sem, Nat.reduceAdd, Nat.reduceEqDiff, Nat.reduceLeDiff, Nat.reduceSub]
  refine W_down (fun j s => ∃ k : Nat, j + k = 40 ∧ k ≤ 31 ∧ s = ⟨[I (maskN l), .any, .ref 0 1 0 (below l k).length, I k, .any, .any], [.row t_int true 1 ((below l k).map I)]⟩) 40 ?_ ?_
  · refine ⟨0, rfl, by omega, ?_⟩
    rw [below_zero h0]
    simp (maxSteps := 2000000) (disch := (first | omega | (simp only [lenS]; first | done | omega))) only [go_sem, Nat.reduceAdd, Nat.reduceEqDiff, Nat.reduceLeDiff, Nat.reduceSub]
    rfl
  · rintro j s ⟨k, hj, hk, rfl⟩
    have hbl := below_len l k
    have e1 : ((maskN l : Nat) : Int) / 2 ^ min k 64 = ((maskN l / 2 ^ k : Nat) : Int) := by
      rw [show min k 64 = k by omega]; simp
    have e2 : maskN l / 2 ^ k < 2 ^ 62 := Nat.lt_of_le_of_lt (Nat.div_le_self _ _) (by omega)
    have e3 := and_i64 (a := maskN l / 2 ^ k) (b := 1) e2 (by decide)
    rw [Nat.and_one_is_mod] at e3
    have hk64 : IntKind.u64.wrap (k : Int) = k := by rw [IntKind.wrap_u64]; omega
    simp (maxSteps := 2000000) (disch := (first | omega | (simp only [lenS]; first | done | omega))) only [go_sem, Nat.reduceAdd, Nat.reduceEqDiff, Nat.reduceLeDiff, Nat.reduceSub, hk64, e1]
    have eb := mask_odd h0 k
    have hone : ((1 : Nat) : Int) = 1 := rfl
    rw [hone] at e3
    refine ⟨fun hne => ?_, fun hz => ?_⟩
    · have hk30 : k < 30 := by
        rcases Nat.lt_or_ge k 30 with h5 | h5
        · exact h5
        · have h6 : maskN l / 2 ^ k = 0 := Nat.div_eq_of_lt (Nat.lt_of_lt_of_le hm (Nat.pow_le_pow_right (by decide) h5))
          omega
      refine ⟨fun h1 => ⟨j - 1, by omega, k + 1, by omega, by omega, ?_⟩, fun h1 => ⟨j - 1, by omega, k + 1, by omega, by omega, ?_⟩⟩
      · have hm1 : maskN l / 2 ^ k % 2 = 1 := by rw [e3] at h1; omega
        rw [decide_eq_true hm1] at eb
        rw [below_succ hp, if_pos (by simpa [hasB] using eb), List.map_append]
        simp
      · have hm1 : ¬ maskN l / 2 ^ k % 2 = 1 := by rw [e3] at h1; omega
        rw [decide_eq_false hm1] at eb
        rw [below_succ hp, if_neg (by simpa [hasB] using eb), List.append_nil]
        rfl
    · have hz2 : maskN l / 2 ^ k = 0 := by
        clear e1 e3
        generalize maskN l / 2 ^ k = z at hz
        omega
      rw [below_all (mask_shift h0 k hz2)]
theorem spec_l13Some_ok (l : List Int) (n : Nat) (hn : n < 8) (hl : 1 ≤ l.length ∧ l.length ≤ 3) (h : n < 2 ^ l.length) : C f_spec_l13Some [ints l, I n] [] = some (.un t_int true 1 ((someL l n).map I), []) := by
  obtain ⟨e1, e2, e3, e4, e5⟩ := setB_ok n hn
  have h5 := e5 l.length hl.1 hl.2 h
  have hS := spec_l1Set_ok (setB n) (fun p hp => by have := e3 p hp; omega) e2 (by omega)
  rw [e1] at hS
  refine C_spec_l13Some ?_
  simp (maxSteps := 2000000) (disch := (first | omega | (simp only [lenS]; first | done | omega))) only [ir_spec_l13Some, go_sem, Nat.reduceAdd, Nat.reduceEqDiff, Nat.reduceLeDiff, Nat.reduceSub]
  simp (maxSteps := 2000000) (disch := (first | omega | (simp only [lenS]; first | done | omega))) only [go_sem, Nat.reduceAdd, Nat.reduceEqDiff, Nat.reduceLeDiff, Nat.reduceSub, hS]
  refine W_for (setB n).length (fun i st => st = ⟨[ints l, .any, .any, .ref 0 1 0 i, .any, .ref 1 1 0 (setB n).length, I (setB n).length, I i, .any], [.row t_int true 1 (((setB n).take i).map fun p => I (at_ l p)), .row t_int true 1 ((setB n).map I)]⟩) ?_ ?_ ?_
  · simp (maxSteps := 2000000) (disch := (first | omega | (simp only [lenS]; first | done | omega))) only [go_sem, Nat.reduceAdd, Nat.reduceEqDiff, Nat.reduceLeDiff, Nat.reduceSub]
    simp
  · rintro i st hi rfl
    have h6 := h5 _ (List.getElem_mem hi)
    have h7 := e3 _ (List.getElem_mem hi)
    have e := at_eq (m := l) (p := (setB n)[i]) (by omega)
    simp (maxSteps := 2000000) (disch := (first | omega | (simp only [lenS]; first | done | omega))) only [go_sem, Nat.reduceAdd, Nat.reduceEqDiff, Nat.reduceLeDiff, Nat.reduceSub]
    rw [List.take_succ_eq_append_getElem hi, List.map_append]
    simp [e]
  · rintro st rfl
    simp (maxSteps := 2000000) (disch := (first | omega | (simp only [lenS]; first | done | omega))) only [go_sem, Nat.reduceAdd, Nat.reduceEqDiff, Nat.reduceLeDiff, Nat.reduceSub]
    simp [someL]
theorem spec_l13Region_ok (s : Spc) (k : Nat) (hk : k < s.tasks.length) (hc : 2 ≤ s.conds ∧ s.conds ≤ 8) (ht : smTk s.tasks[k]) (h1 : s.tasks[k].cut.length ≤ 16) (h0 : s.tasks[k].stop.length ≤ 16) (h2 : ∀ x ∈ s.tasks[k].stop, 0 ≤ x ∧ x < 16) : C f_spec_l13Region [encS s, I k] [] = some (.un t_int true 1 ((regL s s.tasks[k]).map I), []) := by
  obtain ⟨a, b, c, d⟩ := ht
  refine C_spec_l13Region ?_
  simp (maxSteps := 2000000) (disch := (first | omega | (simp only [lenS]; first | done | omega))) only [ir_spec_l13Region, go_sem, Nat.reduceAdd, Nat.reduceEqDiff, Nat.reduceLeDiff, Nat.reduceSub]
  simp (maxSteps := 2000000) (disch := (first | omega | (simp only [lenS]; first | done | omega))) only [go_sem, Nat.reduceAdd, Nat.reduceEqDiff, Nat.reduceLeDiff, Nat.reduceSub, spec_l1Own_ok]
  generalize hT : s.tasks[k] = t at *
  refine W_for t.stop.length (fun i st => st = ⟨[.any, .any, .ptr 0 0, .any, .ref 1 1 0 (t.cut.length + i), .any, ints t.stop, I t.stop.length, I i, .any], [.box t_impl_Spec [I s.conds, tks s.tasks], .row t_int true 1 ((t.cut ++ (t.stop.take i).map (s.conds + ·)).map I)]⟩) ?_ ?_ ?_
  · simp (maxSteps := 2000000) (disch := (first | omega | (simp only [lenS]; first | done | omega))) only [go_sem, Nat.reduceAdd, Nat.reduceEqDiff, Nat.reduceLeDiff, Nat.reduceSub]
    simp
  · rintro i st hi rfl
    have h3 := h2 _ (List.getElem_mem hi)
    have e := regL_step (s := s) hi
    simp (maxSteps := 2000000) (disch := (first | omega | (simp only [lenS]; first | done | omega))) only [go_sem, Nat.reduceAdd, Nat.reduceEqDiff, Nat.reduceLeDiff, Nat.reduceSub]
    rw [e, List.map_append]
    simp
    omega
  · rintro st rfl
    simp (maxSteps := 2000000) (disch := (first | omega | (simp only [lenS]; first | done | omega))) only [go_sem, Nat.reduceAdd, Nat.reduceEqDiff, Nat.reduceLeDiff, Nat.reduceSub]
    simp [regL]
theorem spec_l13Lay_ok (s : Spc) (h : okTasks s = true) : C f_spec_l13Lay [encS s] [] = some (.tup [.agg [I (s.conds + s.tasks.length), .un t_impl_Trans false 3 ((trS s).map encT), I 0, I 1], .un t_impl_Move true 3 ((mvS s).map encM)], []) := by
  obtain ⟨hc, hn, hg⟩ := okTasks_parts h
  have shl1 : IntKind.i64.wrap (1 * 2 ^ min 1 64) = 2 := by decide
  have shl2 : IntKind.i64.wrap (1 * 2 ^ min 2 64) = 4 := by decide
  have shl3 : IntKind.i64.wrap (1 * 2 ^ min 3 64) = 8 := by decide
  have hu1 : IntKind.u64.wrap ((1 : Nat) : Int) = ((1 : Nat) : Int) := by decide
  have hu2 : IntKind.u64.wrap ((2 : Nat) : Int) = ((2 : Nat) : Int) := by decide
  have hu3 : IntKind.u64.wrap ((3 : Nat) : Int) = ((3 : Nat) : Int) := by decide
  refine C_spec_l13Lay ?_
  simp (maxSteps := 2000000) (disch := (first | omega | (simp only [lenS]; first | done | omega))) only [ir_spec_l13Lay, go_sem, Nat.reduceAdd, Nat.reduceEqDiff, Nat.reduceLeDiff, Nat.reduceSub]
  refine W_for s.tasks.length (fun k st => st = ⟨[.any, .ptr 0 0, .ptr 1 0, .any, .ptr 2 0, .ref 3 3 0 (mvU s k).length, .any, .any, .any, .any, .any, .any, .any, .any, .any, .any, .any, .any, .any, tks s.tasks, I s.tasks.length, I k, .any, .any, .any, .any, .any, .any, .any, .any, .any, .any, .any, .any, .any, .any, .any, .any, .any, .any, .any, .any, .any, .any], [.box t_impl_Spec [I s.conds, tks s.tasks], .box t_impl_Flow [I 0, .nil false 3, I 0, I 0], .box t_impl_Flow [I (s.conds + s.tasks.length), cellT 4 (trU s k), I 0, I 1], .row t_impl_Move true 3 ((mvU s k).map encM)] ++ blkT t_impl_Trans (trU s k)⟩) ?_ ?_ ?_
  · simp (maxSteps := 2000000) (disch := (first | omega | (simp only [lenS]; first | done | omega))) only [go_sem, Nat.reduceAdd, Nat.reduceEqDiff, Nat.reduceLeDiff, Nat.reduceSub]
    simp [cellT, blkT, trU, mvU]
  · rintro k st hk rfl
    have hK := hg k hk
    have hl := mvU_len h k (by omega)
    have hlT := trU_len s k
    have hbl := beginL_len hK
    have hel := endL_len hK
    have hbin := beginL_in hK
    have hein := endL_in hK
    have hRl := regL_len h hk
    obtain ⟨c1, c2, c3, c4⟩ := okTasks_sm h hk
    have hreg := spec_l13Region_ok s k hk hc c1 c2 c3 c4
    have heq := tkN_eq hk
    rw [← heq] at hreg
    have hF : endF (tkN s k) = if (tkN s k).split = 2 then 0 else if (tkN s k).split = 3 then 1 else 0 := rfl
    rw [mvU_lay, trU_lay]
    generalize hT0 : trU s k = T at *
    generalize hU0 : mvU s k = U at *
    generalize hR0 : regL s (tkN s k) = R at *
    generalize hb0 : s.conds + (k : Int) = b at *
    have hg2 : s.tasks[k]? = some (tkN s k) := by rw [heq]; exact List.getElem?_eq_getElem hk
    have hg3 : s.tasks[k]'hk = tkN s k := heq.symm
    generalize tkN s k = t at *
    obtain ⟨hj, hs, h1, h2, -, -, -, -, -, -⟩ := goodK_parts hK
    generalize hN : (beginL t).length = nb at *
    generalize hM : (endL t).length = ne at *
    refine' share (orc := C) (m := 0) (⟨[.any, .ptr 0 0, .ptr 1 0, .any, .ptr 2 0, .ref 3 3 0 U.length, I k, .ptr 4 0, .ref 5 1 0 1, .any, .any, .any, .any, .any, .any, .any, .any, .any, .any, tks s.tasks, I s.tasks.length, I k, .any, .any, .any, .any, .any, .any, .ref 6 1 0 nb, I nb, I 0, .any, .any, .any, .any, .any, .any, .any, .any, .any, .any, .any, .any, .any], [.box t_impl_Spec [I s.conds, tks s.tasks], .box t_impl_Flow [I 0, .nil false 3, I 0, I 0], .box t_impl_Flow [I (s.conds + s.tasks.length), cellT 7 T, I 0, I 1], .row t_impl_Move true 3 (U.map encM), .box t_impl_Task [I t.join, I t.split, ints t.inn, ints t.out, ints t.cut, ints t.stop, I t.role], .row t_int true 1 [I b], .row t_sl_int false 1 ((beginL t).map ints)] ++ blkT t_impl_Trans T⟩ : St) _ _ _ ?main4 ?key4
    case main4 =>
      intro key4
      have hTT : (cellT 4 T = .nil false 3 ∧ cellT 7 T = .nil false 3 ∧ blkT t_impl_Trans T = []) ∨ (cellT 4 T = .ref 4 3 0 T.length ∧ cellT 7 T = .ref 7 3 0 T.length ∧ blkT t_impl_Trans T = [.row t_impl_Trans false 3 (T.map encT)]) := by
        by_cases hTe : T = []
        · left; subst hTe; exact ⟨rfl, rfl, rfl⟩
        · right; exact ⟨cellT_ne hTe, cellT_ne hTe, blkT_ne hTe⟩
      rcases hj with hj | hj
      · have hBl : beginL t = [t.inn] := by simp [beginL, hj]
        have hN1 : nb = 1 := by rw [← hN, hBl]; rfl
        rcases hTT with ⟨q1, q2, q3⟩ | ⟨q1, q2, q3⟩
        all_goals
          simp (maxSteps := 2000000) (disch := (first | omega | (simp only [lenS]; first | done | omega))) only [go_sem, Nat.reduceAdd, Nat.reduceEqDiff, Nat.reduceLeDiff, Nat.reduceSub, hg2, hg3, hj, hb0, q1, q3]
          refine key4 _ ?_
          simp (maxSteps := 2000000) (disch := (first | omega | (simp only [lenS]; first | done | omega))) only [go_sem, Nat.reduceAdd, Nat.reduceEqDiff, Nat.reduceLeDiff, Nat.reduceSub, q2, q3]
          simp [hBl, hN1, hj]
      · have hBl : beginL t = t.inn.map fun p => [p] := by simp [beginL, hj]
        have hN1 : nb = t.inn.length := by rw [← hN, hBl]; simp
        rcases hTT with ⟨q1, q2, q3⟩ | ⟨q1, q2, q3⟩
        all_goals
          simp (maxSteps := 2000000) (disch := (first | omega | (simp only [lenS]; first | done | omega))) only [go_sem, Nat.reduceAdd, Nat.reduceEqDiff, Nat.reduceLeDiff, Nat.reduceSub, hg2, hg3, hj, hb0, q1, q3]
          refine W_for nb (fun i st => st = ⟨[.any, .ptr 0 0, .ptr 1 0, .any, .ptr 2 0, .ref 3 3 0 U.length, I k, .ptr 4 0, .ref 5 1 0 1, .ref 6 1 0 i, .any, .any, .any, .any, .any, .any, .any, .any, .any, tks s.tasks, I s.tasks.length, I k, .any, .any, ints t.inn, I nb, I i, .any, .any, .any, .any, .any, .any, .any, .any, .any, .any, .any, .any, .any, .any, .any, .any, .any], [.box t_impl_Spec [I s.conds, tks s.tasks], .box t_impl_Flow [I 0, .nil false 3, I 0, I 0], .box t_impl_Flow [I (s.conds + s.tasks.length), cellT 7 T, I 0, I 1], .row t_impl_Move true 3 (U.map encM), .box t_impl_Task [I t.join, I t.split, ints t.inn, ints t.out, ints t.cut, ints t.stop, I t.role], .row t_int true 1 [I b], .row t_sl_int false 1 ((t.inn.take i).map fun p => ints [p])] ++ blkT t_impl_Trans T⟩) ?_ ?_ ?_
          · simp (maxSteps := 2000000) (disch := (first | omega | (simp only [lenS]; first | done | omega))) only [go_sem, Nat.reduceAdd, Nat.reduceEqDiff, Nat.reduceLeDiff, Nat.reduceSub, q2, q3]
            simp [hN1, hj]
          · rintro i st hi rfl
            simp (maxSteps := 2000000) (disch := (first | omega | (simp only [lenS]; first | done | omega))) only [go_sem, Nat.reduceAdd, Nat.reduceEqDiff, Nat.reduceLeDiff, Nat.reduceSub, q2, q3]
            rw [List.take_succ_eq_append_getElem (by omega), List.map_append]
            simp
          · rintro st rfl
            simp (maxSteps := 2000000) (disch := (first | omega | (simp only [lenS]; first | done | omega))) only [go_sem, Nat.reduceAdd, Nat.reduceEqDiff, Nat.reduceLeDiff, Nat.reduceSub, q2, q3]
            refine key4 _ ?_
            simp (maxSteps := 2000000) (disch := (first | omega | (simp only [lenS]; first | done | omega))) only [go_sem, Nat.reduceAdd, Nat.reduceEqDiff, Nat.reduceLeDiff, Nat.reduceSub, q2, q3]
            simp [hBl, hN1]
    case key4 =>
      intro st0 hst
      have hOb : C f_spec_l1Own [.sl true 1 [I b]] [] = some (.un t_int true 1 [I b], []) := spec_l1Own_ok [b] (by simp)
      have hT8 : ∀ (l : List Tr), (l = [] ∧ cellT 7 l = .nil false 3 ∧ blkT t_impl_Trans l = []) ∨ (cellT 7 l = .ref 7 3 0 l.length ∧ blkT t_impl_Trans l = [.row t_impl_Trans false 3 (l.map encT)]) := by
        intro l
        by_cases hTe : l = []
        · left; subst hTe; exact ⟨rfl, rfl, rfl⟩
        · right; exact ⟨cellT_ne hTe, blkT_ne hTe⟩
      refine W_for nb (fun i st => st = ⟨[.any, .ptr 0 0, .ptr 1 0, .any, .ptr 2 0, .ref 3 3 0 (U.length + i), I k, .ptr 4 0, .ref 5 1 0 1, .any, .any, .any, .any, .any, .any, .any, .any, .any, .any, tks s.tasks, I s.tasks.length, I k, .any, .any, .any, .any, .any, .any, .ref 6 1 0 nb, I nb, I i, .any, .any, .any, .any, .any, .any, .any, .any, .any, .any, .any, .any, .any], [.box t_impl_Spec [I s.conds, tks s.tasks], .box t_impl_Flow [I 0, .nil false 3, I 0, I 0], .box t_impl_Flow [I (s.conds + s.tasks.length), cellT 7 (T ++ layB b ((beginL t).take i)), I 0, I 1], .row t_impl_Move true 3 ((U ++ mvB k i).map encM), .box t_impl_Task [I t.join, I t.split, ints t.inn, ints t.out, ints t.cut, ints t.stop, I t.role], .row t_int true 1 [I b], .row t_sl_int false 1 ((beginL t).map ints)] ++ blkT t_impl_Trans (T ++ layB b ((beginL t).take i))⟩) ?_ ?_ ?_
      · rw [hst]
        simp [mvB, layB]
      · rintro i st hi rfl
        have e1 := mvB_len k i
        have e2 := layB_len (b := b) (l := beginL t) (i := i) (by omega)
        have e3 := layB_succ (b := b) (l := beginL t) (i := i) (by omega)
        have e4 := hbin _ (List.getElem_mem (show i < (beginL t).length by omega))
        have hlen : (T ++ layB b ((beginL t).take i)).length = T.length + i := by rw [List.length_append, e2]
        have hne : T ++ layB b ((beginL t).take i) ++ [⟨(beginL t)[i], [b], []⟩] ≠ [] := by simp
        have q5 := cellT_ne (b := 7) hne
        have q6 := blkT_ne (t := t_impl_Trans) hne
        rw [e3, ← List.append_assoc, q5, q6, mvB_succ]
        generalize T ++ layB b ((beginL t).take i) = L at *
        rcases hT8 L with ⟨hL, q1, q2⟩ | ⟨q1, q2⟩
        · subst hL
          simp (maxSteps := 2000000) (disch := (first | omega | (simp only [lenS]; first | done | omega))) only [go_sem, Nat.reduceAdd, Nat.reduceEqDiff, Nat.reduceLeDiff, Nat.reduceSub, q1, q2, e1, spec_l1Own_ok, hOb]
          refine ⟨rfl, ?_⟩
          simp
          omega
        · simp (maxSteps := 2000000) (disch := (first | omega | (simp only [lenS]; first | done | omega))) only [go_sem, Nat.reduceAdd, Nat.reduceEqDiff, Nat.reduceLeDiff, Nat.reduceSub, q1, q2, e1, hlen, spec_l1Own_ok, hOb]
          refine ⟨rfl, ?_⟩
          simp
          omega
      · rintro st rfl
        have e1 := mvB_len k nb
        have e2 := layB_len (b := b) (l := beginL t) (i := nb) (by omega)
        have e3 : (beginL t).take nb = beginL t := by rw [← hN]; simp
        rw [e3] at e2
        have hlen : (T ++ layB b (beginL t)).length = T.length + nb := by rw [List.length_append, e2]
        have hVlen : (U ++ mvB k nb).length = U.length + nb := by rw [List.length_append, e1]
        rw [e3]
        have hYne : T ++ layB b (beginL t) ≠ [] := by intro e; rw [e] at hlen; simp at hlen; omega
        rw [cellT_ne hYne, blkT_ne hYne, ← hVlen]
        generalize hY0 : T ++ layB b (beginL t) = Y at *
        generalize hV0 : U ++ mvB k nb = V at *
        refine' share (orc := C) (m := 0) (⟨[.any, .ptr 0 0, .ptr 1 0, .any, .ptr 2 0, .ref 3 3 0 V.length, I k, .any, .ref 4 1 0 1, .any, .any, .any, .any, .any, I (endF t), .any, .any, .any, .any, tks s.tasks, I s.tasks.length, I k, .any, .any, .any, .any, .any, .any, .any, .any, .any, .any, .any, .any, .any, .any, .any, .any, .any, .any, .ref 5 1 0 ne, I ne, I 0, .any], [.box t_impl_Spec [I s.conds, tks s.tasks], .box t_impl_Flow [I 0, .nil false 3, I 0, I 0], .box t_impl_Flow [I (s.conds + s.tasks.length), .ref 6 3 0 Y.length, I 0, I 1], .row t_impl_Move true 3 (V.map encM), .row t_int true 1 [I b], .row t_sl_int false 1 ((endL t).map ints), .row t_impl_Trans false 3 (Y.map encT)]⟩ : St) _ _ _ ?main11 ?key11
        case main11 =>
          intro key11
          rcases hs with hs | hs | hs
          · have hF0 : endF t = 0 := by simpa [hs] using hF
            have hEl : endL t = [t.out] := by simp [endL, hs]
            have hM1 : ne = 1 := by rw [← hM, hEl]; rfl
            simp (maxSteps := 2000000) (disch := (first | omega | (simp only [lenS]; first | done | omega))) only [go_sem, Nat.reduceAdd, Nat.reduceEqDiff, Nat.reduceLeDiff, Nat.reduceSub, hs]
            refine key11 _ ?_
            simp (maxSteps := 2000000) (disch := (first | omega | (simp only [lenS]; first | done | omega))) only [go_sem, Nat.reduceAdd, Nat.reduceEqDiff, Nat.reduceLeDiff, Nat.reduceSub]
            simp [hEl, hF0, hM1]
          · have hF0 : endF t = 0 := by simpa [hs] using hF
            have hEl : endL t = t.out.map fun p => [p] := by simp [endL, hs]
            have hM1 : ne = t.out.length := by rw [← hM, hEl]; simp
            simp (maxSteps := 2000000) (disch := (first | omega | (simp only [lenS]; first | done | omega))) only [go_sem, Nat.reduceAdd, Nat.reduceEqDiff, Nat.reduceLeDiff, Nat.reduceSub, hs]
            refine W_for ne (fun i st => st = ⟨[.any, .ptr 0 0, .ptr 1 0, .any, .ptr 2 0, .ref 3 3 0 V.length, I k, .any, .ref 4 1 0 1, .any, .any, .any, .any, .ref 5 1 0 i, I 0, .any, .any, .any, .any, tks s.tasks, I s.tasks.length, I k, .any, .any, .any, .any, .any, .any, .any, .any, .any, .any, .any, .any, ints t.out, I ne, I i, .any, .any, .any, .any, .any, .any, .any], [.box t_impl_Spec [I s.conds, tks s.tasks], .box t_impl_Flow [I 0, .nil false 3, I 0, I 0], .box t_impl_Flow [I (s.conds + s.tasks.length), .ref 6 3 0 Y.length, I 0, I 1], .row t_impl_Move true 3 (V.map encM), .row t_int true 1 [I b], .row t_sl_int false 1 ((t.out.take i).map fun p => ints [p]), .row t_impl_Trans false 3 (Y.map encT)]⟩) ?_ ?_ ?_
            · simp (maxSteps := 2000000) (disch := (first | omega | (simp only [lenS]; first | done | omega))) only [go_sem, Nat.reduceAdd, Nat.reduceEqDiff, Nat.reduceLeDiff, Nat.reduceSub]
              simp [hM1]
            · rintro i st hi rfl
              simp (maxSteps := 2000000) (disch := (first | omega | (simp only [lenS]; first | done | omega))) only [go_sem, Nat.reduceAdd, Nat.reduceEqDiff, Nat.reduceLeDiff, Nat.reduceSub]
              rw [List.take_succ_eq_append_getElem (by omega), List.map_append]
              simp
            · rintro st rfl
              simp (maxSteps := 2000000) (disch := (first | omega | (simp only [lenS]; first | done | omega))) only [go_sem, Nat.reduceAdd, Nat.reduceEqDiff, Nat.reduceLeDiff, Nat.reduceSub]
              refine key11 _ ?_
              simp (maxSteps := 2000000) (disch := (first | omega | (simp only [lenS]; first | done | omega))) only [go_sem, Nat.reduceAdd, Nat.reduceEqDiff, Nat.reduceLeDiff, Nat.reduceSub]
              simp [hEl, hF0, hM1]
          · have hF0 : endF t = 1 := by simpa [hs] using hF
            have hEl : endL t = (List.range (2 ^ t.out.length - 1)).map fun i => someL t.out (i + 1) := by simp [endL, hs]
            have hM1 : ne = 2 ^ t.out.length - 1 := by rw [← hM, hEl]; simp
            have hpp := pow_le h2.1 h2.2
            simp (maxSteps := 2000000) (disch := (first | omega | (simp only [lenS]; first | done | omega))) only [go_sem, Nat.reduceAdd, Nat.reduceEqDiff, Nat.reduceLeDiff, Nat.reduceSub, hs]
            refine W_for ne (fun i st => st = ⟨[.any, .ptr 0 0, .ptr 1 0, .any, .ptr 2 0, .ref 3 3 0 V.length, I k, .ptr 4 0, .ref 5 1 0 1, .any, .any, .any, .any, .ref 6 1 0 i, I 1, .any, I (i + 1 : Int), .any, .any, tks s.tasks, I s.tasks.length, I k, .any, .any, .any, .any, .any, .any, .any, .any, .any, .any, .any, .any, .any, .any, .any, .any, .any, .any, .any, .any, .any, .any], [.box t_impl_Spec [I s.conds, tks s.tasks], .box t_impl_Flow [I 0, .nil false 3, I 0, I 0], .box t_impl_Flow [I (s.conds + s.tasks.length), .ref 7 3 0 Y.length, I 0, I 1], .row t_impl_Move true 3 (V.map encM), .box t_impl_Task [I t.join, I t.split, ints t.inn, ints t.out, ints t.cut, ints t.stop, I t.role], .row t_int true 1 [I b], .row t_sl_int false 1 ((List.range i).map fun (j : Nat) => ints (someL t.out (j + 1))), .row t_impl_Trans false 3 (Y.map encT)]⟩) ?_ ?_ ?_
            · simp (maxSteps := 2000000) (disch := (first | omega | (simp only [lenS]; first | done | omega))) only [go_sem, Nat.reduceAdd, Nat.reduceEqDiff, Nat.reduceLeDiff, Nat.reduceSub]
              simp [hs]
            · rintro i st hi rfl
              have hS := spec_l13Some_ok t.out (i + 1) (by omega) h2 (by omega)
              rw [show ((i + 1 : Nat) : Int) = (i : Int) + 1 by omega] at hS
              have e5 : t.out.length = 1 ∨ t.out.length = 2 ∨ t.out.length = 3 := by omega
              rcases e5 with e5 | e5 | e5
              all_goals
                simp only [e5] at hM1
                simp (maxSteps := 2000000) (disch := (first | omega | (simp only [lenS]; first | done | omega))) only [go_sem, Nat.reduceAdd, Nat.reduceEqDiff, Nat.reduceLeDiff, Nat.reduceSub, e5, shl1, shl2, shl3, hu1, hu2, hu3, hS]
                simp [List.range_succ]
            · rintro st rfl
              have e5 : t.out.length = 1 ∨ t.out.length = 2 ∨ t.out.length = 3 := by omega
              rcases e5 with e5 | e5 | e5
              all_goals
                simp only [e5] at hM1
                simp (maxSteps := 2000000) (disch := (first | omega | (simp only [lenS]; first | done | omega))) only [go_sem, Nat.reduceAdd, Nat.reduceEqDiff, Nat.reduceLeDiff, Nat.reduceSub, e5, shl1, shl2, shl3, hu1, hu2, hu3]
                refine key11 _ ?_
                simp (maxSteps := 2000000) (disch := (first | omega | (simp only [lenS]; first | done | omega))) only [go_sem, Nat.reduceAdd, Nat.reduceEqDiff, Nat.reduceLeDiff, Nat.reduceSub]
                simp [hEl, hF0, hM1, e5]
        case key11 =>
          intro st0 hst
          have hOb2 : C f_spec_l1Own [.sl true 1 [I b]] [] = some (.un t_int true 1 [I b], []) := spec_l1Own_ok [b] (by simp)
          have hF2 : 0 ≤ endF t ∧ endF t ≤ 1 := by rw [hF]; (repeat' split) <;> omega
          refine W_for ne (fun i st => st = ⟨[.any, .ptr 0 0, .ptr 1 0, .any, .ptr 2 0, .ref 3 3 0 (V.length + i), I k, .any, .ref 4 1 0 1, .any, .any, .any, .any, .any, I (endF t), .any, .any, .any, .any, tks s.tasks, I s.tasks.length, I k, .any, .any, .any, .any, .any, .any, .any, .any, .any, .any, .any, .any, .any, .any, .any, .any, .any, .any, .ref 5 1 0 ne, I ne, I i, .any], [.box t_impl_Spec [I s.conds, tks s.tasks], .box t_impl_Flow [I 0, .nil false 3, I 0, I 0], .box t_impl_Flow [I (s.conds + s.tasks.length), .ref 6 3 0 (Y.length + i), I 0, I 1], .row t_impl_Move true 3 ((V ++ mvE k (endF t) i).map encM), .row t_int true 1 [I b], .row t_sl_int false 1 ((endL t).map ints), .row t_impl_Trans false 3 ((Y ++ layE b R ((endL t).take i)).map encT)]⟩) ?_ ?_ ?_
          · rw [hst]
            simp [mvE, layE]
          · rintro i st hi rfl
            have e1 := mvE_len k (endF t) i
            have e2 := layE_len (b := b) (R := R) (l := endL t) (i := i) (by omega)
            have e3 := layE_succ (b := b) (R := R) (l := endL t) (i := i) (by omega)
            have e4 := hein _ (List.getElem_mem (show i < (endL t).length by omega))
            simp (maxSteps := 2000000) (disch := (first | omega | (simp only [lenS]; first | done | omega))) only [go_sem, Nat.reduceAdd, Nat.reduceEqDiff, Nat.reduceLeDiff, Nat.reduceSub, e1, e2, spec_l1Own_ok, hOb2, hreg]
            rw [mvE_succ, e3]
            refine ⟨rfl, ?_⟩
            simp
            omega
          · rintro st rfl
            have e1 := mvE_len k (endF t) ne
            have e2 := layE_len (b := b) (R := R) (l := endL t) (i := ne) (by omega)
            have e3 : (endL t).take ne = endL t := by rw [← hM]; simp
            rw [e3] at e2 ⊢
            have hZne : Y ++ layE b R (endL t) ≠ [] := by simp [hYne]
            have hZl : (Y ++ layE b R (endL t)).length = Y.length + ne := by rw [List.length_append, e2]
            have hWl : (V ++ mvE k (endF t) ne).length = V.length + ne := by rw [List.length_append, e1]
            rw [cellT_ne hZne, blkT_ne hZne, hZl, hWl]
            generalize Y ++ layE b R (endL t) = Z at *
            generalize V ++ mvE k (endF t) ne = X at *
            simp (maxSteps := 2000000) (disch := (first | omega | (simp only [lenS]; first | done | omega))) only [go_sem, Nat.reduceAdd, Nat.reduceEqDiff, Nat.reduceLeDiff, Nat.reduceSub]
            rfl
  · rintro st rfl
    have hml := mvU_len h s.tasks.length (by omega)
    have htl := trU_len s s.tasks.length
    have hZne : trU s s.tasks.length ≠ [] := by intro e; rw [e] at htl; simp at htl; omega
    rw [cellT_ne hZne, blkT_ne hZne]
    unfold trS mvS
    simp (maxSteps := 2000000) (disch := (first | omega | (simp only [lenS]; first | done | omega))) only [go_sem, Nat.reduceAdd, Nat.reduceEqDiff, Nat.reduceLeDiff, Nat.reduceSub]
theorem spec_l1Places_ok (n : Int) : C f_spec_l1Places [I n] [] = some (.bool (inB 1 16 n), []) := by
  refine C_spec_l1Places ?_
  simp (maxSteps := 2000000) (disch := (first | omega | (simp only [lenS]; first | done | omega))) only [ir_spec_l1Places, go_sem, Nat.reduceAdd, Nat.reduceEqDiff, Nat.reduceLeDiff, Nat.reduceSub]
  simp (maxSteps := 2000000) (disch := (first | omega | (simp only [lenS]; first | done | omega))) only [go_sem, Nat.reduceAdd, Nat.reduceEqDiff, Nat.reduceLeDiff, Nat.reduceSub, spec_l1In_ok]
  grind
theorem spec_GoodNet_ok (n : Net) (hn : smN n) : C f_spec_GoodNet [encN n] [] = some (.bool (goodN n), []) := by
  have h0 := hn.1
  refine C_spec_GoodNet ?_
  simp (maxSteps := 2000000) (disch := (first | omega | (simp only [lenS]; first | done | omega))) only [ir_spec_GoodNet, go_sem, Nat.reduceAdd, Nat.reduceEqDiff, Nat.reduceLeDiff, Nat.reduceSub]
  simp (maxSteps := 2000000) (disch := (first | omega | (simp only [lenS]; first | done | omega))) only [go_sem, Nat.reduceAdd, Nat.reduceEqDiff, Nat.reduceLeDiff, Nat.reduceSub, spec_l1Places_ok]
  refine ⟨fun h => ⟨fun h2 => ?_, fun h2 => ?_⟩, fun h => by simp [goodN, h]⟩
  · have : ¬ n.tr.length ≤ 24 := by omega
    simp [goodN, this]
  have hb : 1 ≤ n.pl ∧ n.pl ≤ 16 := by simpa [inB] using h
  refine W_for n.tr.length (fun k s => s = ⟨[.any, .ptr 0 0, .any, .any, .any, trs n.tr, I n.tr.length, I k, .any, .any], [.box t_impl_Net [I n.pl, trs n.tr]]⟩ ∧ (n.tr.take k).all (goodT n.pl) = true) ?_ ?_ ?_
  · simp (maxSteps := 2000000) (disch := (first | omega | (simp only [lenS]; first | done | omega))) only [go_sem, Nat.reduceAdd, Nat.reduceEqDiff, Nat.reduceLeDiff, Nat.reduceSub]
    rfl
  · rintro k s hk ⟨rfl, hall⟩
    obtain ⟨h3, h4, h5⟩ := hn.2 _ (List.getElem_mem hk)
    simp (maxSteps := 2000000) (disch := (first | omega | (simp only [lenS]; first | done | omega))) only [go_sem, Nat.reduceAdd, Nat.reduceEqDiff, Nat.reduceLeDiff, Nat.reduceSub, spec_l1Rising_ok]
    simp only [places_eq]
    refine ⟨fun h6 => by rw [goodN_not hk (goodT_nil (by omega))], fun h6 => ⟨fun h7 => ⟨fun h8 => ⟨fun h9 => ⟨rfl, all_take hk hall (goodT_all (by omega) h7 h8 h9)⟩, fun h9 => by rw [goodN_not hk (by simp [goodT, h9])]⟩, fun h8 => by rw [goodN_not hk (by simp [goodT, h8])]⟩, fun h7 => by rw [goodN_not hk (by simp [goodT, h7])]⟩⟩
  · rintro s ⟨rfl, hall⟩
    simp (maxSteps := 2000000) (disch := (first | omega | (simp only [lenS]; first | done | omega))) only [go_sem, Nat.reduceAdd, Nat.reduceEqDiff, Nat.reduceLeDiff, Nat.reduceSub]
    rw [List.take_length] at hall
    simp [goodN, hall, h, show n.tr.length ≤ 24 by omega]
theorem spec_l3Forward_ok (n : Net) (p : Int) (hg : goodN n = true) (hp : 0 ≤ p ∧ p < n.pl) : C f_spec_l3Forward [encN n, I p] [] = some (.tup [.un t_bool true 1 ((reachC n false p).pl.map PV.bool), .un t_bool true 1 ((reachC n false p).tr.map PV.bool)], []) := by
  have hb := goodN_parts hg
  have hlen := reachC_len n false p
  rw [reachC_eq] at hlen ⊢
  refine C_spec_l3Forward ?_
  simp (maxSteps := 2000000) (disch := (first | omega | (simp only [lenS]; first | done | omega))) only [ir_spec_l3Forward, go_sem, Nat.reduceAdd, Nat.reduceEqDiff, Nat.reduceLeDiff, Nat.reduceSub]
  simp (maxSteps := 2000000) (disch := (first | omega | (simp only [lenS]; first | done | omega))) only [go_sem, Nat.reduceAdd, Nat.reduceEqDiff, Nat.reduceLeDiff, Nat.reduceSub, List.getElem_replicate]
  generalize hR : clRun n false (cntF (List.replicate n.tr.length false) + 1) ⟨(List.replicate n.pl.toNat false).set p.toNat true, List.replicate n.tr.length false, true⟩ = R at *
  refine W_down (fun k s => ∃ c : Cl, c.pl.length = n.pl.toNat ∧ c.tr.length = n.tr.length ∧ ((k = cntF c.tr + 1 ∧ s = ⟨[.any, .any, .ptr 0 0, .any, .any, .ref 1 1 0 n.pl.toNat, .ref 2 1 0 n.tr.length, .bool true, .any, .any, .any, .any, .any, .any, .any, .any, .any, .any, .any, .any, .any, .any, .any, .any, .any, .any, .any], [.box t_impl_Net [I n.pl, trs n.tr], .row t_bool true 1 (c.pl.map PV.bool), .row t_bool true 1 (c.tr.map PV.bool)]⟩ ∧ clRun n false (cntF c.tr + 1) c = R) ∨ (k = 0 ∧ s = ⟨[.any, .any, .ptr 0 0, .any, .any, .ref 1 1 0 n.pl.toNat, .ref 2 1 0 n.tr.length, .bool false, .any, .any, .any, .any, .any, .any, .any, .any, .any, .any, .any, .any, .any, .any, .any, .any, .any, .any, .any], [.box t_impl_Net [I n.pl, trs n.tr], .row t_bool true 1 (c.pl.map PV.bool), .row t_bool true 1 (c.tr.map PV.bool)]⟩ ∧ c = R))) (cntF (List.replicate n.tr.length false) + 1) ?_ ?_
  · refine ⟨⟨(List.replicate n.pl.toNat false).set p.toNat true, List.replicate n.tr.length false, true⟩, by simp, by simp, .inl ⟨rfl, ?_, hR⟩⟩
    simp (maxSteps := 2000000) (disch := (first | omega | (simp only [lenS]; first | done | omega))) only [go_sem, Nat.reduceAdd, Nat.reduceEqDiff, Nat.reduceLeDiff, Nat.reduceSub]
    simp
  · rintro k0 s ⟨c, hc1, hc2, ⟨rfl, rfl, hc⟩ | ⟨rfl, rfl, rfl⟩⟩
    · have hcl := fun k => clK_len n false c k
      simp (maxSteps := 2000000) (disch := (first | omega | (simp only [lenS]; first | done | omega))) only [go_sem, Nat.reduceAdd, Nat.reduceEqDiff, Nat.reduceLeDiff, Nat.reduceSub]
      refine W_for n.tr.length (fun k s => s = ⟨[.any, .any, .ptr 0 0, .any, .any, .ref 1 1 0 n.pl.toNat, .ref 2 1 0 n.tr.length, .bool (clK n false c k).ch, .any, .any, .any, .any, .any, .any, trs n.tr, I n.tr.length, I k, .any, .any, .any, .any, .any, .any, .any, .any, .any, .any], [.box t_impl_Net [I n.pl, trs n.tr], .row t_bool true 1 ((clK n false c k).pl.map PV.bool), .row t_bool true 1 ((clK n false c k).tr.map PV.bool)]⟩) ?_ ?_ ?_
      · simp (maxSteps := 2000000) (disch := (first | omega | (simp only [lenS]; first | done | omega))) only [go_sem, Nat.reduceAdd, Nat.reduceEqDiff, Nat.reduceLeDiff, Nat.reduceSub]
        rfl
      · rintro k s hk rfl
        have hT := hb.2.2.2 _ (List.getElem_mem hk)
        have hLs := goodT_lens hT (by omega)
        obtain ⟨_, g1, g2, g3⟩ := goodT_parts hT
        have p1 := places_in g1
        have p2 := places_in g2
        have hd := hcl k
        have hstep := clK_succ n false c k
        have htr : n.tr[k] = trN n k := (trN_eq hk).symm
        rw [htr] at hLs p1 p2
        have s1 : (clK n false c k).tr.getD k false = true → clK n false c (k + 1) = clK n false c k := fun h => hstep.trans (clStep_no (.inl h))
        have s2 : hitB (clK n false c k).pl (sideI false (trN n k)) = false → clK n false c (k + 1) = clK n false c k := fun h => hstep.trans (clStep_no (.inr h))
        have s3 : (clK n false c k).tr.getD k false = false → hitB (clK n false c k).pl (sideI false (trN n k)) = true → clK n false c (k + 1) = ⟨markB (clK n false c k).pl (sideO false (trN n k)), (clK n false c k).tr.set k true, true⟩ := fun h h2 => hstep.trans (clStep_yes h h2)
        simp only [sideI, sideO, Bool.false_eq_true, if_false, if_true] at s2 s3
        clear hstep
        generalize clK n false c k = d at *
        generalize clK n false c (k + 1) = d' at *
        simp (maxSteps := 2000000) (disch := (first | omega | (simp only [lenS]; first | done | omega))) only [go_sem, Nat.reduceAdd, Nat.reduceEqDiff, Nat.reduceLeDiff, Nat.reduceSub]
        simp only [htr]
        generalize trN n k = tr at *
        refine W_for tr.inn.length (fun j s => s = ⟨[.any, .any, .ptr 0 0, .any, .any, .ref 1 1 0 n.pl.toNat, .ref 2 1 0 n.tr.length, .bool d.ch, I k, .ptr 3 0, .bool ((tr.inn.take j).any fun p => d.pl.getD p.toNat false), .any, .any, .any, trs n.tr, I n.tr.length, I k, .any, ints tr.inn, I tr.inn.length, I j, .any, .any, .any, .any, .any, .any], [.box t_impl_Net [I n.pl, trs n.tr], .row t_bool true 1 (d.pl.map PV.bool), .row t_bool true 1 (d.tr.map PV.bool), .box t_impl_Trans [ints tr.inn, ints tr.out, ints tr.rst]]⟩) ?_ ?_ ?_
        · simp (maxSteps := 2000000) (disch := (first | omega | (simp only [lenS]; first | done | omega))) only [go_sem, Nat.reduceAdd, Nat.reduceEqDiff, Nat.reduceLeDiff, Nat.reduceSub]
          rfl
        · rintro j s hj rfl
          have h1 := p1 _ (List.getElem_mem hj)
          have h2 : tr.inn[j].toNat < d.pl.length := by omega
          simp (maxSteps := 2000000) (disch := (first | omega | (simp only [lenS]; first | done | omega))) only [go_sem, Nat.reduceAdd, Nat.reduceEqDiff, Nat.reduceLeDiff, Nat.reduceSub]
          refine ⟨fun h => ?_, fun h => ⟨fun h3 => ?_, fun h3 => ?_⟩⟩
          · rw [any_more hj h]; rfl
          · rw [any_here hj (by rw [← getD_eq h2]; exact h3)]; rfl
          · rw [any_take hj h (by rw [← getD_eq h2]; exact h3)]; rfl
        · rintro s rfl
          have hkd : k < d.tr.length := by omega
          simp (maxSteps := 2000000) (disch := (first | omega | (simp only [lenS]; first | done | omega))) only [go_sem, Nat.reduceAdd, Nat.reduceEqDiff, Nat.reduceLeDiff, Nat.reduceSub, List.take_length]
          refine ⟨fun h => ⟨fun h3 => ?_, fun h3 => ?_⟩, fun h => ?_⟩
          · rw [s1 (by rw [← getD_eq hkd]; exact h3)]; rfl
          · have e := s3 (by rw [← getD_eq hkd]; exact h3) h
            subst e
            refine W_for tr.out.length (fun j s => s = ⟨[.any, .any, .ptr 0 0, .any, .any, .ref 1 1 0 n.pl.toNat, .ref 2 1 0 n.tr.length, .bool true, .any, .any, .any, .any, .any, .any, trs n.tr, I n.tr.length, I k, .any, .any, .any, .any, .any, .any, ints tr.out, I tr.out.length, I j, .any], [.box t_impl_Net [I n.pl, trs n.tr], .row t_bool true 1 ((markB d.pl (tr.out.take j)).map PV.bool), .row t_bool true 1 ((d.tr.set k true).map PV.bool)]⟩) ?_ ?_ ?_
            · simp (maxSteps := 2000000) (disch := (first | omega | (simp only [lenS]; first | done | omega))) only [go_sem, Nat.reduceAdd, Nat.reduceEqDiff, Nat.reduceLeDiff, Nat.reduceSub]
              rfl
            · rintro j s hj rfl
              have h1 := p2 _ (List.getElem_mem hj)
              have h2 : tr.out[j].toNat < d.pl.length := by omega
              have h4 := markB_len d.pl (tr.out.take j)
              simp (maxSteps := 2000000) (disch := (first | omega | (simp only [lenS]; first | done | omega))) only [go_sem, Nat.reduceAdd, Nat.reduceEqDiff, Nat.reduceLeDiff, Nat.reduceSub]
              rw [markB_take hj]; rfl
            · rintro s rfl
              simp (maxSteps := 2000000) (disch := (first | omega | (simp only [lenS]; first | done | omega))) only [go_sem, Nat.reduceAdd, Nat.reduceEqDiff, Nat.reduceLeDiff, Nat.reduceSub, List.take_length]
              rfl
          · rw [s2 h]; rfl
      · rintro s rfl
        simp (maxSteps := 2000000) (disch := (first | omega | (simp only [lenS]; first | done | omega))) only [go_sem, Nat.reduceAdd, Nat.reduceEqDiff, Nat.reduceLeDiff, Nat.reduceSub]
        have hn := clRun_next (n := n) (bk := false) hc2
        rw [hc] at hn
        cases e : (clRound n false c).ch with
        | true =>
          have h1 := (clK_cnt (n := n) (bk := false) (s := c) (k := n.tr.length) (by omega)).2 e
          simp only [e, if_true] at hn
          refine ⟨cntF (clRound n false c).tr + 1, by unfold clRound; omega, clRound n false c, by unfold clRound; have := hcl n.tr.length; omega, by unfold clRound; have := hcl n.tr.length; omega, .inl ⟨rfl, ?_, hn.symm⟩⟩
          unfold clRound at e ⊢
          rw [e]
        | false =>
          simp only [e, Bool.false_eq_true, if_false] at hn
          refine ⟨0, by omega, clRound n false c, by unfold clRound; have := hcl n.tr.length; omega, by unfold clRound; have := hcl n.tr.length; omega, .inr ⟨rfl, ?_, hn.symm⟩⟩
          unfold clRound at e ⊢
          rw [e]
    · simp (maxSteps := 2000000) (disch := (first | omega | (simp only [lenS]; first | done | omega))) only [go_sem, Nat.reduceAdd, Nat.reduceEqDiff, Nat.reduceLeDiff, Nat.reduceSub]
theorem spec_l3Back_ok (n : Net) (p : Int) (hg : goodN n = true) (hp : 0 ≤ p ∧ p < n.pl) : C f_spec_l3Back [encN n, I p] [] = some (.tup [.un t_bool true 1 ((reachC n true p).pl.map PV.bool), .un t_bool true 1 ((reachC n true p).tr.map PV.bool)], []) := by
  have hb := goodN_parts hg
  have hlen := reachC_len n true p
  rw [reachC_eq] at hlen ⊢
  refine C_spec_l3Back ?_
  simp (maxSteps := 2000000) (disch := (first | omega | (simp only [lenS]; first | done | omega))) only [ir_spec_l3Back, go_sem, Nat.reduceAdd, Nat.reduceEqDiff, Nat.reduceLeDiff, Nat.reduceSub]
  simp (maxSteps := 2000000) (disch := (first | omega | (simp only [lenS]; first | done | omega))) only [go_sem, Nat.reduceAdd, Nat.reduceEqDiff, Nat.reduceLeDiff, Nat.reduceSub, List.getElem_replicate]
  generalize hR : clRun n true (cntF (List.replicate n.tr.length false) + 1) ⟨(List.replicate n.pl.toNat false).set p.toNat true, List.replicate n.tr.length false, true⟩ = R at *
  refine W_down (fun k s => ∃ c : Cl, c.pl.length = n.pl.toNat ∧ c.tr.length = n.tr.length ∧ ((k = cntF c.tr + 1 ∧ s = ⟨[.any, .any, .ptr 0 0, .any, .any, .ref 1 1 0 n.pl.toNat, .ref 2 1 0 n.tr.length, .bool true, .any, .any, .any, .any, .any, .any, .any, .any, .any, .any, .any, .any, .any, .any, .any, .any, .any, .any, .any], [.box t_impl_Net [I n.pl, trs n.tr], .row t_bool true 1 (c.pl.map PV.bool), .row t_bool true 1 (c.tr.map PV.bool)]⟩ ∧ clRun n true (cntF c.tr + 1) c = R) ∨ (k = 0 ∧ s = ⟨[.any, .any, .ptr 0 0, .any, .any, .ref 1 1 0 n.pl.toNat, .ref 2 1 0 n.tr.length, .bool false, .any, .any, .any, .any, .any, .any, .any, .any, .any, .any, .any, .any, .any, .any, .any, .any, .any, .any, .any], [.box t_impl_Net [I n.pl, trs n.tr], .row t_bool true 1 (c.pl.map PV.bool), .row t_bool true 1 (c.tr.map PV.bool)]⟩ ∧ c = R))) (cntF (List.replicate n.tr.length false) + 1) ?_ ?_
  · refine ⟨⟨(List.replicate n.pl.toNat false).set p.toNat true, List.replicate n.tr.length false, true⟩, by simp, by simp, .inl ⟨rfl, ?_, hR⟩⟩
    simp (maxSteps := 2000000) (disch := (first | omega | (simp only [lenS]; first | done | omega))) only [go_sem, Nat.reduceAdd, Nat.reduceEqDiff, Nat.reduceLeDiff, Nat.reduceSub]
    simp
  · rintro k0 s ⟨c, hc1, hc2, ⟨rfl, rfl, hc⟩ | ⟨rfl, rfl, rfl⟩⟩
    · have hcl := fun k => clK_len n true c k
      simp (maxSteps := 2000000) (disch := (first | omega | (simp only [lenS]; first | done | omega))) only [go_sem, Nat.reduceAdd, Nat.reduceEqDiff, Nat.reduceLeDiff, Nat.reduceSub]
      refine W_for n.tr.length (fun k s => s = ⟨[.any, .any, .ptr 0 0, .any, .any, .ref 1 1 0 n.pl.toNat, .ref 2 1 0 n.tr.length, .bool (clK n true c k).ch, .any, .any, .any, .any, .any, .any, trs n.tr, I n.tr.length, I k, .any, .any, .any, .any, .any, .any, .any, .any, .any, .any], [.box t_impl_Net [I n.pl, trs n.tr], .row t_bool true 1 ((clK n true c k).pl.map PV.bool), .row t_bool true 1 ((clK n true c k).tr.map PV.bool)]⟩) ?_ ?_ ?_
      · simp (maxSteps := 2000000) (disch := (first | omega | (simp only [lenS]; first | done | omega))) only [go_sem, Nat.reduceAdd, Nat.reduceEqDiff, Nat.reduceLeDiff, Nat.reduceSub]
        rfl
      · rintro k s hk rfl
        have hT := hb.2.2.2 _ (List.getElem_mem hk)
        have hLs := goodT_lens hT (by omega)
        obtain ⟨_, g1, g2, g3⟩ := goodT_parts hT
        have p1 := places_in g2
        have p2 := places_in g1
        have hd := hcl k
        have hstep := clK_succ n true c k
        have htr : n.tr[k] = trN n k := (trN_eq hk).symm
        rw [htr] at hLs p1 p2
        have s1 : (clK n true c k).tr.getD k false = true → clK n true c (k + 1) = clK n true c k := fun h => hstep.trans (clStep_no (.inl h))
        have s2 : hitB (clK n true c k).pl (sideI true (trN n k)) = false → clK n true c (k + 1) = clK n true c k := fun h => hstep.trans (clStep_no (.inr h))
        have s3 : (clK n true c k).tr.getD k false = false → hitB (clK n true c k).pl (sideI true (trN n k)) = true → clK n true c (k + 1) = ⟨markB (clK n true c k).pl (sideO true (trN n k)), (clK n true c k).tr.set k true, true⟩ := fun h h2 => hstep.trans (clStep_yes h h2)
        simp only [sideI, sideO, Bool.false_eq_true, if_false, if_true] at s2 s3
        clear hstep
        generalize clK n true c k = d at *
        generalize clK n true c (k + 1) = d' at *
        simp (maxSteps := 2000000) (disch := (first | omega | (simp only [lenS]; first | done | omega))) only [go_sem, Nat.reduceAdd, Nat.reduceEqDiff, Nat.reduceLeDiff, Nat.reduceSub]
        simp only [htr]
        generalize trN n k = tr at *
        refine W_for tr.out.length (fun j s => s = ⟨[.any, .any, .ptr 0 0, .any, .any, .ref 1 1 0 n.pl.toNat, .ref 2 1 0 n.tr.length, .bool d.ch, I k, .ptr 3 0, .bool ((tr.out.take j).any fun p => d.pl.getD p.toNat false), .any, .any, .any, trs n.tr, I n.tr.length, I k, .any, ints tr.out, I tr.out.length, I j, .any, .any, .any, .any, .any, .any], [.box t_impl_Net [I n.pl, trs n.tr], .row t_bool true 1 (d.pl.map PV.bool), .row t_bool true 1 (d.tr.map PV.bool), .box t_impl_Trans [ints tr.inn, ints tr.out, ints tr.rst]]⟩) ?_ ?_ ?_
        · simp (maxSteps := 2000000) (disch := (first | omega | (simp only [lenS]; first | done | omega))) only [go_sem, Nat.reduceAdd, Nat.reduceEqDiff, Nat.reduceLeDiff, Nat.reduceSub]
          rfl
        · rintro j s hj rfl
          have h1 := p1 _ (List.getElem_mem hj)
          have h2 : tr.out[j].toNat < d.pl.length := by omega
          simp (maxSteps := 2000000) (disch := (first | omega | (simp only [lenS]; first | done | omega))) only [go_sem, Nat.reduceAdd, Nat.reduceEqDiff, Nat.reduceLeDiff, Nat.reduceSub]
          refine ⟨fun h => ?_, fun h => ⟨fun h3 => ?_, fun h3 => ?_⟩⟩
          · rw [any_more hj h]; rfl
          · rw [any_here hj (by rw [← getD_eq h2]; exact h3)]; rfl
          · rw [any_take hj h (by rw [← getD_eq h2]; exact h3)]; rfl
        · rintro s rfl
          have hkd : k < d.tr.length := by omega
          simp (maxSteps := 2000000) (disch := (first | omega | (simp only [lenS]; first | done | omega))) only [go_sem, Nat.reduceAdd, Nat.reduceEqDiff, Nat.reduceLeDiff, Nat.reduceSub, List.take_length]
          refine ⟨fun h => ⟨fun h3 => ?_, fun h3 => ?_⟩, fun h => ?_⟩
          · rw [s1 (by rw [← getD_eq hkd]; exact h3)]; rfl
          · have e := s3 (by rw [← getD_eq hkd]; exact h3) h
            subst e
            refine W_for tr.inn.length (fun j s => s = ⟨[.any, .any, .ptr 0 0, .any, .any, .ref 1 1 0 n.pl.toNat, .ref 2 1 0 n.tr.length, .bool true, .any, .any, .any, .any, .any, .any, trs n.tr, I n.tr.length, I k, .any, .any, .any, .any, .any, .any, ints tr.inn, I tr.inn.length, I j, .any], [.box t_impl_Net [I n.pl, trs n.tr], .row t_bool true 1 ((markB d.pl (tr.inn.take j)).map PV.bool), .row t_bool true 1 ((d.tr.set k true).map PV.bool)]⟩) ?_ ?_ ?_
            · simp (maxSteps := 2000000) (disch := (first | omega | (simp only [lenS]; first | done | omega))) only [go_sem, Nat.reduceAdd, Nat.reduceEqDiff, Nat.reduceLeDiff, Nat.reduceSub]
              rfl
            · rintro j s hj rfl
              have h1 := p2 _ (List.getElem_mem hj)
              have h2 : tr.inn[j].toNat < d.pl.length := by omega
              have h4 := markB_len d.pl (tr.inn.take j)
              simp (maxSteps := 2000000) (disch := (first | omega | (simp only [lenS]; first | done | omega))) only [go_sem, Nat.reduceAdd, Nat.reduceEqDiff, Nat.reduceLeDiff, Nat.reduceSub]
              rw [markB_take hj]; rfl
            · rintro s rfl
              simp (maxSteps := 2000000) (disch := (first | omega | (simp only [lenS]; first | done | omega))) only [go_sem, Nat.reduceAdd, Nat.reduceEqDiff, Nat.reduceLeDiff, Nat.reduceSub, List.take_length]
              rfl
          · rw [s2 h]; rfl
      · rintro s rfl
        simp (maxSteps := 2000000) (disch := (first | omega | (simp only [lenS]; first | done | omega))) only [go_sem, Nat.reduceAdd, Nat.reduceEqDiff, Nat.reduceLeDiff, Nat.reduceSub]
        have hn := clRun_next (n := n) (bk := true) hc2
        rw [hc] at hn
        cases e : (clRound n true c).ch with
        | true =>
          have h1 := (clK_cnt (n := n) (bk := true) (s := c) (k := n.tr.length) (by omega)).2 e
          simp only [e, if_true] at hn
          refine ⟨cntF (clRound n true c).tr + 1, by unfold clRound; omega, clRound n true c, by unfold clRound; have := hcl n.tr.length; omega, by unfold clRound; have := hcl n.tr.length; omega, .inl ⟨rfl, ?_, hn.symm⟩⟩
          unfold clRound at e ⊢
          rw [e]
        | false =>
          simp only [e, Bool.false_eq_true, if_false] at hn
          refine ⟨0, by omega, clRound n true c, by unfold clRound; have := hcl n.tr.length; omega, by unfold clRound; have := hcl n.tr.length; omega, .inr ⟨rfl, ?_, hn.symm⟩⟩
          unfold clRound at e ⊢
          rw [e]
    · simp (maxSteps := 2000000) (disch := (first | omega | (simp only [lenS]; first | done | omega))) only [go_sem, Nat.reduceAdd, Nat.reduceEqDiff, Nat.reduceLeDiff, Nat.reduceSub]
theorem spec_l3Both_ok (a b : List Bool) (ha : a.length < 2^30) (hab : a.length ≤ b.length) : C f_spec_l3Both [bls a, bls b] [] = some (.un t_int true 1 ((bothL a b).map I), []) := by
  refine C_spec_l3Both ?_
  simp (maxSteps := 2000000) (disch := (first | omega | (simp only [lenS]; first | done | omega))) only [ir_spec_l3Both, go_sem, Nat.reduceAdd, Nat.reduceEqDiff, Nat.reduceLeDiff, Nat.reduceSub]
  refine W_for a.length (fun k s => s = ⟨[bls a, bls b, .any, .ref 0 1 0 (bothK a b k).length, .any, I a.length, I k, .any, .any], [.row t_int true 1 ((bothK a b k).map I)]⟩) ?_ ?_ ?_
  · simp (maxSteps := 2000000) (disch := (first | omega | (simp only [lenS]; first | done | omega))) only [go_sem, Nat.reduceAdd, Nat.reduceEqDiff, Nat.reduceLeDiff, Nat.reduceSub]
    rfl
  · rintro k s hk rfl
    have h2 := bothK_len a b k
    have hkb : k < b.length := by omega
    have e1 := getD_eq hk
    have e2 := getD_eq hkb
    simp (maxSteps := 2000000) (disch := (first | omega | (simp only [lenS]; first | done | omega))) only [go_sem, Nat.reduceAdd, Nat.reduceEqDiff, Nat.reduceLeDiff, Nat.reduceSub]
    rw [e1, e2]
    refine ⟨fun h => ⟨fun h3 => ?_, fun h3 => ?_⟩, fun h => ?_⟩
    · rw [bothK_t h h3, List.map_append]; simp
    · rw [bothK_f (by rw [h, h3]; rfl)]; rfl
    · rw [bothK_f (by rw [h]; rfl)]; rfl
  · rintro s rfl
    simp (maxSteps := 2000000) (disch := (first | omega | (simp only [lenS]; first | done | omega))) only [go_sem, Nat.reduceAdd, Nat.reduceEqDiff, Nat.reduceLeDiff, Nat.reduceSub]
    rfl
theorem spec_OnWay_ok (n : Net) (a b : Int) (hn : smN n) : C f_spec_OnWay [encN n, I a, I b] [] = some (.tup [.un t_int true 1 ((if okWay n a b then wayP n a b else []).map I), .un t_int true 1 ((if okWay n a b then wayT n a b else []).map I), .bool (okWay n a b)], []) := by
  refine C_spec_OnWay ?_
  simp (maxSteps := 2000000) (disch := (first | omega | (simp only [lenS]; first | done | omega))) only [ir_spec_OnWay, go_sem, Nat.reduceAdd, Nat.reduceEqDiff, Nat.reduceLeDiff, Nat.reduceSub]
  simp (maxSteps := 2000000) (disch := (first | omega | (simp only [lenS]; first | done | omega))) only [go_sem, Nat.reduceAdd, Nat.reduceEqDiff, Nat.reduceLeDiff, Nat.reduceSub, spec_GoodNet_ok n hn, spec_l1In_ok]
  cases hg : goodN n with
  | false => simp [okWay, hg]
  | true =>
    have hb := goodN_parts hg
    cases h1 : inB 0 (n.pl - 1) a with
    | false => simp (maxSteps := 2000000) (disch := (first | omega | (simp only [lenS]; first | done | omega))) only [go_sem, Nat.reduceAdd, Nat.reduceEqDiff, Nat.reduceLeDiff, Nat.reduceSub, h1]; simp [okWay, hg, h1]
    | true =>
      cases h2 : inB 0 (n.pl - 1) b with
      | false => simp (maxSteps := 2000000) (disch := (first | omega | (simp only [lenS]; first | done | omega))) only [go_sem, Nat.reduceAdd, Nat.reduceEqDiff, Nat.reduceLeDiff, Nat.reduceSub, h1, h2]; simp [okWay, hg, h1, h2]
      | true =>
        have hok : okWay n a b = true := by simp [okWay, hg, h1, h2]
        have ha : 0 ≤ a ∧ a < n.pl := by simp [inB] at h1; omega
        have hb2 : 0 ≤ b ∧ b < n.pl := by simp [inB] at h2; omega
        have l1 := reachC_len n false a
        have l2 := reachC_len n true b
        simp (maxSteps := 2000000) (disch := (first | omega | (simp only [lenS]; first | done | omega))) only [go_sem, Nat.reduceAdd, Nat.reduceEqDiff, Nat.reduceLeDiff, Nat.reduceSub, h1, h2, spec_l3Forward_ok n a hg ha, spec_l3Back_ok n b hg hb2, hok]
        simp (maxSteps := 2000000) (disch := (first | omega | (simp only [lenS]; first | done | omega))) only [go_sem, Nat.reduceAdd, Nat.reduceEqDiff, Nat.reduceLeDiff, Nat.reduceSub, spec_l3Both_ok (reachC n false a).pl (reachC n true b).pl (by omega) (by omega), spec_l3Both_ok (reachC n false a).tr (reachC n true b).tr (by omega) (by omega)]
        rfl
theorem spec_GoodFlow_ok (f : Fl) (hf : smN f.net) : C f_spec_GoodFlow [encF f] [] = some (.bool (goodFl f), []) := by
  have hl := hf.1
  have hw := spec_OnWay_ok f.net f.src f.dst hf
  have hP : (wayP f.net f.src f.dst).length < 2^62 ∨ goodN f.net = false := by
    cases hg : goodN f.net with
    | false => exact .inr rfl
    | true =>
      have := goodN_parts hg
      have h1 := bothK_len (reachC f.net false f.src).pl (reachC f.net true f.dst).pl (reachC f.net false f.src).pl.length
      have h2 := reachC_len f.net false f.src
      exact .inl (by unfold wayP bothL; omega)
  have hT : (wayT f.net f.src f.dst).length < 2^62 := by
    have h1 := bothK_len (reachC f.net false f.src).tr (reachC f.net true f.dst).tr (reachC f.net false f.src).tr.length
    have h2 := reachC_len f.net false f.src
    unfold wayT bothL; omega
  refine C_spec_GoodFlow ?_
  simp (maxSteps := 2000000) (disch := (first | omega | (simp only [lenS]; first | done | omega))) only [ir_spec_GoodFlow, go_sem, Nat.reduceAdd, Nat.reduceEqDiff, Nat.reduceLeDiff, Nat.reduceSub]
  cases hok : okWay f.net f.src f.dst with
  | false =>
    simp only [hok] at hw
    simp (maxSteps := 2000000) (disch := (first | omega | (simp only [lenS]; first | done | omega))) only [go_sem, Nat.reduceAdd, Nat.reduceEqDiff, Nat.reduceLeDiff, Nat.reduceSub, hw]
    simp [goodFl, hok]
  | true =>
    have hg : goodN f.net = true := by simp only [okWay, Bool.and_eq_true] at hok; exact hok.1.1
    have hb := goodN_parts hg
    have hP : (wayP f.net f.src f.dst).length < 2^62 := by
      rcases hP with h | h
      · exact h
      · rw [hg] at h; cases h
    simp only [hok, if_true] at hw
    simp (maxSteps := 2000000) (disch := (first | omega | (simp only [lenS]; first | done | omega))) only [go_sem, Nat.reduceAdd, Nat.reduceEqDiff, Nat.reduceLeDiff, Nat.reduceSub, hw]
    refine ⟨fun h => by simp [goodFl, h], fun h => ⟨fun h2 => by simp [goodFl, h2], fun h2 => ⟨fun h3 => ?_, fun h3 => ?_⟩⟩⟩
    · have : ¬ (wayT f.net f.src f.dst).length = f.net.tr.length := by omega
      simp [goodFl, this]
    refine W_for f.net.tr.length (fun k s => s = ⟨[.any, .ptr 0 0, .any, .any, .any, .any, .any, .any, trs f.net.tr, I f.net.tr.length, I k, .any, .any], [.box t_impl_Flow [I f.net.pl, trs f.net.tr, I f.src, I f.dst]]⟩ ∧ (f.net.tr.take k).all (fun t => !spoils f t) = true) ?_ ?_ ?_
    · simp (maxSteps := 2000000) (disch := (first | omega | (simp only [lenS]; first | done | omega))) only [go_sem, Nat.reduceAdd, Nat.reduceEqDiff, Nat.reduceLeDiff, Nat.reduceSub]
      rfl
    · rintro k s hk ⟨rfl, hall⟩
      have hT := hb.2.2.2 _ (List.getElem_mem hk)
      have hLs := goodT_lens hT (by omega)
      simp (maxSteps := 2000000) (disch := (first | omega | (simp only [lenS]; first | done | omega))) only [go_sem, Nat.reduceAdd, Nat.reduceEqDiff, Nat.reduceLeDiff, Nat.reduceSub, spec_l1Has_ok]
      have gs : spoils f f.net.tr[k] = true → goodFl f = false := fun hs => by
        have : (f.net.tr.all fun t => !spoils f t) = false := all_false hk (by simp [hs])
        simp [goodFl, this]
      exact ⟨fun a => by rw [gs (by simp [spoils, a])], fun a => ⟨fun b => by rw [gs (by simp [spoils, b])], fun b => ⟨fun c => by rw [gs (by simp [spoils, c])], fun c => ⟨fun d => by rw [gs (by simp [spoils, d])], fun d => ⟨rfl, all_take hk hall (by simp [spoils, a, b, c, d])⟩⟩⟩⟩⟩
    · rintro s ⟨rfl, hall⟩
      simp (maxSteps := 2000000) (disch := (first | omega | (simp only [lenS]; first | done | omega))) only [go_sem, Nat.reduceAdd, Nat.reduceEqDiff, Nat.reduceLeDiff, Nat.reduceSub]
      rw [List.take_length] at hall
      have h4 : (wayT f.net f.src f.dst).length = f.net.tr.length := by omega
      simp [goodFl, hok, h, h2, h4]
      simpa using hall
theorem spec_GoodSpec_ok (s : Spc) (hs : smSpc s) : C f_spec_GoodSpec [encS s] [] = some (.bool (goodS s), []) := by
  obtain ⟨hl, ht⟩ := hs
  refine C_spec_GoodSpec ?_
  simp (maxSteps := 2000000) (disch := (first | omega | (simp only [lenS]; first | done | omega))) only [ir_spec_GoodSpec, go_sem, Nat.reduceAdd, Nat.reduceEqDiff, Nat.reduceLeDiff, Nat.reduceSub]
  simp (maxSteps := 2000000) (disch := (first | omega | (simp only [lenS]; first | done | omega))) only [go_sem, Nat.reduceAdd, Nat.reduceEqDiff, Nat.reduceLeDiff, Nat.reduceSub, spec_l1In_ok]
  refine ⟨fun h1 => ⟨fun h2 => ?_, fun h2 => by simp [goodS, okTasks, h2]⟩, fun h1 => by simp [goodS, okTasks, h1]⟩
  have hc : 2 ≤ s.conds ∧ s.conds ≤ 8 := by simpa [inB] using h1
  have hn : 1 ≤ s.tasks.length ∧ s.tasks.length ≤ 6 := by simp [inB] at h2; omega
  refine W_for s.tasks.length (fun i st => st = ⟨[.any, .ptr 0 0, .any, .any, .any, .any, I s.tasks.length, I i, .any, .any], [.box t_impl_Spec [I s.conds, tks s.tasks]]⟩ ∧ ∀ k, k < i → goodK s k (tkN s k) = true) ?_ ?_ ?_
  · simp (maxSteps := 2000000) (disch := (first | omega | (simp only [lenS]; first | done | omega))) only [go_sem, Nat.reduceAdd, Nat.reduceEqDiff, Nat.reduceLeDiff, Nat.reduceSub]
    exact ⟨rfl, fun k hk => by omega⟩
  · rintro i st hi ⟨rfl, hall⟩
    have hT := spec_l13Task_ok s i hi hn.2 hc (ht _ (List.getElem_mem hi))
    rw [← tkN_eq hi] at hT
    simp (maxSteps := 2000000) (disch := (first | omega | (simp only [lenS]; first | done | omega))) only [go_sem, Nat.reduceAdd, Nat.reduceEqDiff, Nat.reduceLeDiff, Nat.reduceSub, hT]
    refine ⟨fun h => ⟨rfl, fun k hk => ?_⟩, fun h => ?_⟩
    · rcases Nat.lt_or_ge k i with h5 | h5
      · exact hall k h5
      · rw [show k = i by omega]; exact h
    · have : okTasks s = false := by
        rw [Bool.eq_false_iff]
        intro he
        have := (okTasks_parts he).2.2 i hi
        rw [h] at this; cases this
      simp [goodS, this]
  · rintro st ⟨rfl, hall⟩
    have hok : okTasks s = true := by
      simp only [okTasks, h1, h2, Bool.true_and, List.all_eq_true, List.mem_range]
      exact hall
    have hf := spec_l13Lay_ok s hok
    have hg := spec_GoodFlow_ok (flS s) (flS_sm hok)
    have e : (trS s).length = (mvS s).length := trU_len s s.tasks.length
    have h3 := mvU_len hok s.tasks.length (by omega)
    have h4 : (mvS s).length ≤ 60 := by unfold mvS; omega
    unfold encF flS at hg
    simp only at hg
    simp (maxSteps := 2000000) (disch := (first | omega | (simp only [lenS]; first | done | omega))) only [go_sem, Nat.reduceAdd, Nat.reduceEqDiff, Nat.reduceLeDiff, Nat.reduceSub, hf, hg]
    simp [goodS, hok, flS]
theorem spec_l3One_ok (n p : Int) (hn : 0 ≤ n ∧ n < 2^30) (hp : 0 ≤ p ∧ p < n) : C f_spec_l3One [I n, I p] [] = some (.un t_int true 1 ((oneM n.toNat p).map I), []) := by
  refine C_spec_l3One ?_
  simp (maxSteps := 2000000) (disch := (first | omega | (simp only [lenS]; first | done | omega))) only [ir_spec_l3One, go_sem, Nat.reduceAdd, Nat.reduceEqDiff, Nat.reduceLeDiff, Nat.reduceSub]
  simp (maxSteps := 2000000) (disch := (first | omega | (simp only [lenS]; first | done | omega))) only [go_sem, Nat.reduceAdd, Nat.reduceEqDiff, Nat.reduceLeDiff, Nat.reduceSub, List.getElem_replicate]
  simp [oneM, List.map_set]
theorem spec_NewCase_ok (s : Spc) (hs : smSpc s) : C f_spec_NewCase [encS s] [] = some (.tup [if goodS s = true then .agg [I 1, .un t_int true 1 ((oneM (s.conds + s.tasks.length).toNat 0).map I)] else .agg [I 0, .nil true 1], .bool (goodS s)], []) := by
  have hG := spec_GoodSpec_ok s hs
  refine C_spec_NewCase ?_
  simp (maxSteps := 2000000) (disch := (first | omega | (simp only [lenS]; first | done | omega))) only [ir_spec_NewCase, go_sem, Nat.reduceAdd, Nat.reduceEqDiff, Nat.reduceLeDiff, Nat.reduceSub]
  cases hg : goodS s with
  | false => simp (maxSteps := 2000000) (disch := (first | omega | (simp only [lenS]; first | done | omega))) only [go_sem, Nat.reduceAdd, Nat.reduceEqDiff, Nat.reduceLeDiff, Nat.reduceSub, hG, hg]
  | true =>
    obtain ⟨hc, hn, -⟩ := okTasks_parts (goodS_ok hg)
    have hO := spec_l3One_ok (s.conds + s.tasks.length) 0 (by omega) (by omega)
    simp (maxSteps := 2000000) (disch := (first | omega | (simp only [lenS]; first | done | omega))) only [go_sem, Nat.reduceAdd, Nat.reduceEqDiff, Nat.reduceLeDiff, Nat.reduceSub, hG, hg, hO]
theorem spec_l2Can_ok (t : Tr) (m : List Int) (ht : ∀ q ∈ t.inn, 0 ≤ q ∧ q.toNat < m.length) (hl : t.inn.length < 2^62) : C f_spec_l2Can [encT t, ints m] [] = some (.bool (canT t m), []) := by
  refine C_spec_l2Can ?_
  simp (maxSteps := 2000000) (disch := (first | omega | (simp only [lenS]; first | done | omega))) only [ir_spec_l2Can, go_sem, Nat.reduceAdd, Nat.reduceEqDiff, Nat.reduceLeDiff, Nat.reduceSub]
  refine W_for t.inn.length (fun k s => s = ⟨[.any, ints m, .any, .any, .any, ints t.inn, I t.inn.length, I k, .any, .any], []⟩ ∧ (t.inn.take k).all (fun p => !(at_ m p == 0)) = true) ?_ ?_ ?_
  · simp (maxSteps := 2000000) (disch := (first | omega | (simp only [lenS]; first | done | omega))) only [go_sem, Nat.reduceAdd, Nat.reduceEqDiff, Nat.reduceLeDiff, Nat.reduceSub]
    rfl
  · rintro k s hk ⟨rfl, hall⟩
    obtain ⟨h1, h2⟩ := ht _ (List.getElem_mem hk)
    simp (maxSteps := 2000000) (disch := (first | omega | (simp only [lenS]; first | done | omega))) only [go_sem, Nat.reduceAdd, Nat.reduceEqDiff, Nat.reduceLeDiff, Nat.reduceSub]
    refine ⟨fun h => ?_, fun h => ⟨rfl, all_take hk hall ?_⟩⟩
    · have : canT t m = false := all_false hk (by rw [at_eq h2] at h; simp [h])
      rw [this]
    · rw [at_eq h2] at h; simp [h]
  · rintro s ⟨rfl, hall⟩
    simp (maxSteps := 2000000) (disch := (first | omega | (simp only [lenS]; first | done | omega))) only [go_sem, Nat.reduceAdd, Nat.reduceEqDiff, Nat.reduceLeDiff, Nat.reduceSub]
    rw [List.take_length] at hall
    unfold canT; rw [hall]
theorem spec_l2Enabled_ok (n : Net) (m : List Int) (hg : goodN n = true) (hm : (m.length : Int) = n.pl) : C f_spec_l2Enabled [encN n, ints m] [] = some (.un t_int true 1 ((enabL n m).map I), []) := by
  have hb := goodN_parts hg
  refine C_spec_l2Enabled ?_
  simp (maxSteps := 2000000) (disch := (first | omega | (simp only [lenS]; first | done | omega))) only [ir_spec_l2Enabled, go_sem, Nat.reduceAdd, Nat.reduceEqDiff, Nat.reduceLeDiff, Nat.reduceSub]
  refine W_for n.tr.length (fun k s => s = ⟨[.any, ints m, .any, .any, .ref 0 1 0 (enabK n m k).length, .any, .any, trs n.tr, I n.tr.length, I k, .any, .any], [.row t_int true 1 ((enabK n m k).map I)]⟩) ?_ ?_ ?_
  · simp (maxSteps := 2000000) (disch := (first | omega | (simp only [lenS]; first | done | omega))) only [go_sem, Nat.reduceAdd, Nat.reduceEqDiff, Nat.reduceLeDiff, Nat.reduceSub]
    rfl
  · rintro k s hk rfl
    have hT := hb.2.2.2 _ (List.getElem_mem hk)
    have h2 := enabK_len n m k
    simp (maxSteps := 2000000) (disch := (first | omega | (simp only [lenS]; first | done | omega))) only [go_sem, Nat.reduceAdd, Nat.reduceEqDiff, Nat.reduceLeDiff, Nat.reduceSub, spec_l2Can_ok _ m (goodT_lt hT hm).1 (by have := (goodT_lens hT (by omega)).1; omega)]
    refine ⟨fun h => ?_, fun h => ?_⟩
    · rw [enabK_t hk h, List.map_append]; simp
    · rw [enabK_f hk h]; rfl
  · rintro s rfl
    simp (maxSteps := 2000000) (disch := (first | omega | (simp only [lenS]; first | done | omega))) only [go_sem, Nat.reduceAdd, Nat.reduceEqDiff, Nat.reduceLeDiff, Nat.reduceSub]
    rfl
theorem spec_l14Moves_ok (s : Spc) (c : Cs) (hg : goodS s = true) (hc : goodC s c = true) : C f_spec_l14Moves [encS s, encC c] [] = some (.un t_impl_Move true 3 ((movL s c).map encM), []) := by
  have hok := goodS_ok hg
  have hlay := spec_l13Lay_ok s hok
  have h2 := mvU_len hok s.tasks.length (by omega)
  have hn := (okTasks_parts hok).2.1
  have h3 : (mvS s).length ≤ 60 := by unfold mvS; omega
  have hcl := (goodC_len (goodC_mark hc) (okTasks_parts hok).1.1).1
  have hE := spec_l2Enabled_ok (flS s).net c.mark (goodS_net hg) hcl
  have hlenE := enabK_len (flS s).net c.mark (flS s).net.tr.length
  have hlen : (flS s).net.tr.length = (mvS s).length := by show (trS s).length = _; rw [trS_map]; simp
  have hin : ∀ t ∈ enabL (flS s).net c.mark, 0 ≤ t ∧ t.toNat < (mvS s).length := fun t ht => by
    have := enabL_mem.1 ht
    exact ⟨this.1, by omega⟩
  have hmov := enab_mov s c ⟨0, false, 0⟩
  have hEl : (enabL (flS s).net c.mark).length ≤ 60 := by unfold enabL; omega
  unfold flS encN at hE
  simp only at hE
  change C f_spec_l2Enabled [PV.agg [I (s.conds + s.tasks.length), trs (trS s)], ints c.mark] [] = some (.un t_int true 1 ((enabL (flS s).net c.mark).map I), []) at hE
  generalize enabL (flS s).net c.mark = E at *
  refine C_spec_l14Moves ?_
  simp (maxSteps := 2000000) (disch := (first | omega | (simp only [lenS]; first | done | omega))) only [ir_spec_l14Moves, go_sem, Nat.reduceAdd, Nat.reduceEqDiff, Nat.reduceLeDiff, Nat.reduceSub]
  unfold movL
  refine ⟨fun h => by simp [h], fun h => ?_⟩
  rw [if_pos h, ← hmov]
  generalize mvS s = M at *
  have htl : (trS s).length ≤ 60 := by have : (trS s).length = M.length := hlen; omega
  simp (maxSteps := 2000000) (disch := (first | omega | (simp only [lenS]; first | done | omega))) only [go_sem, Nat.reduceAdd, Nat.reduceEqDiff, Nat.reduceLeDiff, Nat.reduceSub, hlay, hE]
  refine W_for E.length (fun k st => st = ⟨[.any, .any, .any, .any, .any, .any, .ref 0 3 0 M.length, .ref 1 3 0 k, .any, .any, .ref 2 1 0 E.length, I E.length, I k, .any], [.row t_impl_Move true 3 (M.map encM), .row t_impl_Move true 3 ((E.take k).map fun t => encM (M.getD t.toNat ⟨0, false, 0⟩)), .row t_int true 1 (E.map I)]⟩) ?_ ?_ ?_
  · simp (maxSteps := 2000000) (disch := (first | omega | (simp only [lenS]; first | done | omega))) only [go_sem, Nat.reduceAdd, Nat.reduceEqDiff, Nat.reduceLeDiff, Nat.reduceSub]
    simp
  · rintro k st hk rfl
    obtain ⟨g1, g2⟩ := hin _ (List.getElem_mem hk)
    have e : M[E[k].toNat]? = some (M.getD E[k].toNat ⟨0, false, 0⟩) := by rw [List.getD_eq_getElem?_getD, List.getElem?_eq_getElem g2]; rfl
    simp (maxSteps := 2000000) (disch := (first | omega | (simp only [lenS]; first | done | omega))) only [go_sem, Nat.reduceAdd, Nat.reduceEqDiff, Nat.reduceLeDiff, Nat.reduceSub, e]
    rw [List.take_succ_eq_append_getElem hk, List.map_append]
    rfl
  · rintro st rfl
    simp (maxSteps := 2000000) (disch := (first | omega | (simp only [lenS]; first | done | omega))) only [go_sem, Nat.reduceAdd, Nat.reduceEqDiff, Nat.reduceLeDiff, Nat.reduceSub]
    simp
theorem spec_l13No_ok (s : Spc) (m : Mv) (h : okTasks s = true) : C f_spec_l13No [encS s, encM m] [] = some (I (idxI (mvS s) (fun y => y == m)), []) := by
  have hlay := spec_l13Lay_ok s h
  have h2 := mvU_len h s.tasks.length (by omega)
  have h3 : (mvS s).length ≤ 60 := by have := (okTasks_parts h).2.1; unfold mvS; omega
  generalize mvS s = M at *
  refine C_spec_l13No ?_
  simp (maxSteps := 2000000) (disch := (first | omega | (simp only [lenS]; first | done | omega))) only [ir_spec_l13No, go_sem, Nat.reduceAdd, Nat.reduceEqDiff, Nat.reduceLeDiff, Nat.reduceSub]
  simp (maxSteps := 2000000) (disch := (first | omega | (simp only [lenS]; first | done | omega))) only [go_sem, Nat.reduceAdd, Nat.reduceEqDiff, Nat.reduceLeDiff, Nat.reduceSub, hlay]
  refine W_for M.length (fun k st => st = ⟨[.any, .any, .any, .ptr 0 0, .any, .any, .any, .any, .ref 1 3 0 M.length, I M.length, I k, .any, .any], [.box t_impl_Move [I m.task, .bool m.begin_, I m.pick], .row t_impl_Move true 3 (M.map encM)]⟩ ∧ (M.take k).any (fun y => y == m) = false) ?_ ?_ ?_
  · simp (maxSteps := 2000000) (disch := (first | omega | (simp only [lenS]; first | done | omega))) only [go_sem, Nat.reduceAdd, Nat.reduceEqDiff, Nat.reduceLeDiff, Nat.reduceSub]
    rfl
  · rintro k st hk ⟨rfl, hall⟩
    have e : (M[k] == m) = (M[k].task == m.task && (M[k].begin_ == m.begin_ && M[k].pick == m.pick)) := mv_beq _ _
    simp (maxSteps := 2000000) (disch := (first | omega | (simp only [lenS]; first | done | omega))) only [go_sem, Nat.reduceAdd, Nat.reduceEqDiff, Nat.reduceLeDiff, Nat.reduceSub, eqL, eq1]
    rw [← e]
    refine ⟨fun h => ?_, fun h => ⟨rfl, any_take hk hall h⟩⟩
    rw [idxI_some hk hall (by simpa using h)]
  · rintro st ⟨rfl, hall⟩
    simp (maxSteps := 2000000) (disch := (first | omega | (simp only [lenS]; first | done | omega))) only [go_sem, Nat.reduceAdd, Nat.reduceEqDiff, Nat.reduceLeDiff, Nat.reduceSub]
    rw [List.take_length] at hall
    rw [idxI_none hall]
theorem spec_l1All_ok (l : List Int) (lo hi : Int) (hl : l.length < 2^62) : C f_spec_l1All [ints l, I lo, I hi] [] = some (.bool (l.all (inB lo hi)), []) := by
  refine C_spec_l1All ?_
  simp (maxSteps := 2000000) (disch := (first | omega | (simp only [lenS]; first | done | omega))) only [ir_spec_l1All, go_sem, Nat.reduceAdd, Nat.reduceEqDiff, Nat.reduceLeDiff, Nat.reduceSub]
  refine W_for l.length (fun k s => s = ⟨[.any, I lo, I hi, .any, .any, ints l, I l.length, I k, .any, .any], []⟩ ∧ (l.take k).all (inB lo hi) = true) ?_ ?_ ?_
  · simp (maxSteps := 2000000) (disch := (first | omega | (simp only [lenS]; first | done | omega))) only [go_sem, Nat.reduceAdd, Nat.reduceEqDiff, Nat.reduceLeDiff, Nat.reduceSub]
    rfl
  · rintro k s hk ⟨rfl, hall⟩
    simp (maxSteps := 2000000) (disch := (first | omega | (simp only [lenS]; first | done | omega))) only [go_sem, Nat.reduceAdd, Nat.reduceEqDiff, Nat.reduceLeDiff, Nat.reduceSub, spec_l1In_ok]
    exact ⟨fun h => ⟨rfl, all_take hk hall h⟩, fun h => by rw [all_false hk h]⟩
  · rintro s ⟨rfl, hall⟩
    simp (maxSteps := 2000000) (disch := (first | omega | (simp only [lenS]; first | done | omega))) only [go_sem, Nat.reduceAdd, Nat.reduceEqDiff, Nat.reduceLeDiff, Nat.reduceSub]
    rw [List.take_length] at hall
    rw [hall]
theorem spec_GoodMark_ok (p : Int) (m : List Int) (hl : m.length < 2^62) : C f_spec_GoodMark [I p, ints m] [] = some (.bool (goodM p m), []) := by
  refine C_spec_GoodMark ?_
  simp (maxSteps := 2000000) (disch := (first | omega | (simp only [lenS]; first | done | omega))) only [ir_spec_GoodMark, go_sem, Nat.reduceAdd, Nat.reduceEqDiff, Nat.reduceLeDiff, Nat.reduceSub]
  simp (maxSteps := 2000000) (disch := (first | omega | (simp only [lenS]; first | done | omega))) only [go_sem, Nat.reduceAdd, Nat.reduceEqDiff, Nat.reduceLeDiff, Nat.reduceSub, spec_l1Places_ok, spec_l1All_ok m _ _ hl]
  unfold goodM; grind
theorem spec_l2Marked_ok (n : Net) (m : List Int) (hn : smN n) (hm : m.length < 2^62) : C f_spec_l2Marked [encN n, ints m] [] = some (.bool (marked n m), []) := by
  refine C_spec_l2Marked ?_
  simp (maxSteps := 2000000) (disch := (first | omega | (simp only [lenS]; first | done | omega))) only [ir_spec_l2Marked, go_sem, Nat.reduceAdd, Nat.reduceEqDiff, Nat.reduceLeDiff, Nat.reduceSub]
  simp (maxSteps := 2000000) (disch := (first | omega | (simp only [lenS]; first | done | omega))) only [go_sem, Nat.reduceAdd, Nat.reduceEqDiff, Nat.reduceLeDiff, Nat.reduceSub, spec_GoodNet_ok n hn, spec_GoodMark_ok n.pl m hm]
  unfold marked; grind
theorem spec_l2Fire_ok (t : Tr) (m : List Int) (h1 : ∀ q ∈ t.inn, 0 ≤ q ∧ q.toNat < m.length) (h2 : ∀ q ∈ t.out, 0 ≤ q ∧ q.toNat < m.length) (h3 : ∀ q ∈ t.rst, 0 ≤ q ∧ q.toNat < m.length) (hl : smT t) (hm : m.length < 2^30) (hb : ∀ x ∈ m, 0 ≤ x ∧ x ≤ 50) :
    C f_spec_l2Fire [encT t, ints m] [] = some (.un t_int true 1 ((firedM t m).map I), []) := by
  obtain ⟨g1, g2, g3⟩ := hl
  refine C_spec_l2Fire ?_
  simp (maxSteps := 2000000) (disch := (first | omega | (simp only [lenS]; first | done | omega))) only [ir_spec_l2Fire, go_sem, Nat.reduceAdd, Nat.reduceEqDiff, Nat.reduceLeDiff, Nat.reduceSub]
  simp (maxSteps := 2000000) (disch := (first | omega | (simp only [lenS]; first | done | omega))) only [go_sem, Nat.reduceAdd, Nat.reduceEqDiff, Nat.reduceLeDiff, Nat.reduceSub, spec_l1Own_ok m (by omega)]
  refine W_for t.inn.length (fun k s => s = ⟨[.any, .any, .ptr 0 0, .any, .ref 1 1 0 m.length, .any, .any, .any, ints t.inn, I t.inn.length, I k, .any, .any, .any, .any, .any, .any, .any, .any, .any], [.box t_impl_Trans [ints t.inn, ints t.out, ints t.rst], .row t_int true 1 ((decL m (t.inn.take k)).map I)]⟩) ?_ ?_ ?_
  · simp (maxSteps := 2000000) (disch := (first | omega | (simp only [lenS]; first | done | omega))) only [go_sem, Nat.reduceAdd, Nat.reduceEqDiff, Nat.reduceLeDiff, Nat.reduceSub]
    rfl
  · rintro k s hk rfl
    obtain ⟨h4, h5⟩ := h1 _ (List.getElem_mem hk)
    have h6 := decL_len m (t.inn.take k)
    have h7 := at_bound (p := t.inn[k]) (decL_bound (l := t.inn.take k) hb (fun p hp => (h1 p (List.mem_of_mem_take hp)).2)) (by omega)
    have h8 : (t.inn.take k).length = k := by simp; omega
    simp (maxSteps := 2000000) (disch := (first | omega | (simp only [lenS]; first | done | omega))) only [go_sem, Nat.reduceAdd, Nat.reduceEqDiff, Nat.reduceLeDiff, Nat.reduceSub, at_eq]
    rw [decL_take hk]; rfl
  · rintro s rfl
    simp (maxSteps := 2000000) (disch := (first | omega | (simp only [lenS]; first | done | omega))) only [go_sem, Nat.reduceAdd, Nat.reduceEqDiff, Nat.reduceLeDiff, Nat.reduceSub, List.take_length]
    have b1 := decL_bound (l := t.inn) hb (fun p hp => (h1 p hp).2)
    have l1 := decL_len m t.inn
    generalize e1 : decL m t.inn = m1 at b1 l1 ⊢
    refine W_for t.rst.length (fun k s => s = ⟨[.any, .any, .ptr 0 0, .any, .ref 1 1 0 m.length, .any, .any, .any, .any, .any, .any, .any, ints t.rst, I t.rst.length, I k, .any, .any, .any, .any, .any], [.box t_impl_Trans [ints t.inn, ints t.out, ints t.rst], .row t_int true 1 ((zerL m1 (t.rst.take k)).map I)]⟩) ?_ ?_ ?_
    · simp (maxSteps := 2000000) (disch := (first | omega | (simp only [lenS]; first | done | omega))) only [go_sem, Nat.reduceAdd, Nat.reduceEqDiff, Nat.reduceLeDiff, Nat.reduceSub]
      rfl
    · rintro k s hk rfl
      obtain ⟨h4, h5⟩ := h3 _ (List.getElem_mem hk)
      have h6 := zerL_len m1 (t.rst.take k)
      simp (maxSteps := 2000000) (disch := (first | omega | (simp only [lenS]; first | done | omega))) only [go_sem, Nat.reduceAdd, Nat.reduceEqDiff, Nat.reduceLeDiff, Nat.reduceSub]
      rw [zerL_take hk]; rfl
    · rintro s rfl
      simp (maxSteps := 2000000) (disch := (first | omega | (simp only [lenS]; first | done | omega))) only [go_sem, Nat.reduceAdd, Nat.reduceEqDiff, Nat.reduceLeDiff, Nat.reduceSub, List.take_length]
      have b2 := zerL_bound (l := t.rst) b1 (by omega)
      have l2 := zerL_len m1 t.rst
      generalize e2 : zerL m1 t.rst = m2 at b2 l2 ⊢
      refine W_for t.out.length (fun k s => s = ⟨[.any, .any, .any, .any, .ref 0 1 0 m.length, .any, .any, .any, .any, .any, .any, .any, .any, .any, .any, .any, ints t.out, I t.out.length, I k, .any], [.row t_int true 1 ((incL m2 (t.out.take k)).map I)]⟩) ?_ ?_ ?_
      · simp (maxSteps := 2000000) (disch := (first | omega | (simp only [lenS]; first | done | omega))) only [go_sem, Nat.reduceAdd, Nat.reduceEqDiff, Nat.reduceLeDiff, Nat.reduceSub]
        rfl
      · rintro k s hk rfl
        obtain ⟨h4, h5⟩ := h2 _ (List.getElem_mem hk)
        have h6 := incL_len m2 (t.out.take k)
        have h7 := at_bound (p := t.out[k]) (incL_bound (l := t.out.take k) b2 (fun p hp => by have := (h2 p (List.mem_of_mem_take hp)).2; omega)) (by omega)
        have h8 : (t.out.take k).length = k := by simp; omega
        simp (maxSteps := 2000000) (disch := (first | omega | (simp only [lenS]; first | done | omega))) only [go_sem, Nat.reduceAdd, Nat.reduceEqDiff, Nat.reduceLeDiff, Nat.reduceSub, at_eq]
        rw [incL_take hk]; rfl
      · rintro s rfl
        have h6 := incL_len m2 t.out
        simp (maxSteps := 2000000) (disch := (first | omega | (simp only [lenS]; first | done | omega))) only [go_sem, Nat.reduceAdd, Nat.reduceEqDiff, Nat.reduceLeDiff, Nat.reduceSub, List.take_length]
        subst e2 e1; rfl
theorem spec_Fire_ok (n : Net) (m : List Int) (t : Int) (hn : smN n) (hm : m.length < 2^62) : C f_spec_Fire [encN n, ints m, I t] [] = some (.tup [.un t_int true 1 ((if okFire n m t then firedM (trAt n t) m else []).map I), .bool (okFire n m t)], []) := by
  have h0 := hn.1
  refine C_spec_Fire ?_
  simp (maxSteps := 2000000) (disch := (first | omega | (simp only [lenS]; first | done | omega))) only [ir_spec_Fire, go_sem, Nat.reduceAdd, Nat.reduceEqDiff, Nat.reduceLeDiff, Nat.reduceSub]
  simp (maxSteps := 2000000) (disch := (first | omega | (simp only [lenS]; first | done | omega))) only [go_sem, Nat.reduceAdd, Nat.reduceEqDiff, Nat.reduceLeDiff, Nat.reduceSub, spec_l2Marked_ok n m hn hm, spec_l1In_ok]
  refine ⟨fun h1 => ⟨fun h2 => ?_, fun h2 => by simp [okFire, canN, h2]⟩, fun h1 => by simp [okFire, canN, h1]⟩
  obtain ⟨h3, h4⟩ := marked_parts h1
  have h6 : 0 ≤ t ∧ t.toNat < n.tr.length := by simp [inB] at h2; omega
  have h8 := (goodN_parts h3).2.2.2 _ (List.getElem_mem h6.2)
  rw [trAt_eq h6.2] at h8
  have hx := goodT_lt h8 (goodM_len h4).2.2.1
  have hy := goodT_lens h8 (by have := goodN_parts h3; omega)
  have hm := (goodM_len h4).2.2
  have hz := firedM_len (trAt n t) m
  simp (maxSteps := 2000000) (disch := (first | omega | (simp only [lenS]; first | done | omega))) only [go_sem, Nat.reduceAdd, Nat.reduceEqDiff, Nat.reduceLeDiff, Nat.reduceSub, trAt_eq, spec_l2Can_ok (trAt n t) m hx.1 (by omega)]
  refine ⟨fun h7 => ?_, fun h7 => by simp [okFire, canN, h7]⟩
  have hg : goodM n.pl (firedM (trAt n t) m) = okFire n m t := by
    have h9 : inB 1 16 n.pl = true := by have := goodN_parts h3; simp [inB]; omega
    have h10 : (((firedM (trAt n t) m).length : Int) == n.pl) = true := by simp [hz]; omega
    simp only [goodM, okFire, canN, h1, h2, h7, h9, h10, Bool.true_and, Bool.and_self]
  simp (maxSteps := 2000000) (disch := (first | omega | (simp only [lenS]; first | done | omega))) only [go_sem, Nat.reduceAdd, Nat.reduceEqDiff, Nat.reduceLeDiff, Nat.reduceSub, trAt_eq, spec_l2Fire_ok (trAt n t) m hx.1 hx.2.1 hx.2.2 ⟨by omega, by omega, by omega⟩ (by omega) hm.2.2, spec_GoodMark_ok n.pl (firedM (trAt n t) m) (by omega), hg]
  refine ⟨fun h => by simp [h], fun h => by simp [h]⟩
theorem spec_l14Step_ok (s : Spc) (c : Cs) (m : Mv) (hg : goodS s = true) (hc : goodC s c = true) : C f_spec_l14Step [encS s, encC c, encM m] [] = some (stepPV t_int s c m, []) := by
  have hok := goodS_ok hg
  have hlay := spec_l13Lay_ok s hok
  have h2 := mvU_len hok s.tasks.length (by omega)
  have hn := (okTasks_parts hok).2.1
  have h3 : (mvS s).length ≤ 60 := by unfold mvS; omega
  have hNo := spec_l13No_ok s m hok
  have hgm := goodM_len (goodC_mark hc)
  have hcl := (goodC_len (goodC_mark hc) (okTasks_parts hok).1.1)
  have hlen : (trS s).length = (mvS s).length := by rw [trS_map]; simp
  unfold stepPV
  cases hb : (mvS s).any (fun y => y == m) with
  | false =>
    have hB : stepB s c m = false := by unfold stepB; simp [hb]
    rw [hB, if_neg (by simp)]
    rw [idx_no hb] at hNo
    obtain ⟨mt, mb, mp⟩ := m
    refine C_spec_l14Step ?_
    simp (maxSteps := 2000000) (disch := (first | omega | (simp only [lenS]; first | done | omega))) only [ir_spec_l14Step, go_sem, Nat.reduceAdd, Nat.reduceEqDiff, Nat.reduceLeDiff, Nat.reduceSub]
    cases mb with
    | true =>
      simp (maxSteps := 2000000) (disch := (first | omega | (simp only [lenS]; first | done | omega))) only [go_sem, Nat.reduceAdd, Nat.reduceEqDiff, Nat.reduceLeDiff, Nat.reduceSub, hNo]
    | false =>
      simp (maxSteps := 2000000) (disch := (first | omega | (simp only [lenS]; first | done | omega))) only [go_sem, Nat.reduceAdd, Nat.reduceEqDiff, Nat.reduceLeDiff, Nat.reduceSub, hNo]
  | true =>
    by_cases hst : c.state = 1
    · obtain ⟨e1, e2⟩ := idx_tr hb
      have hF := spec_Fire_ok (flS s).net c.mark (idxI (mvS s) (fun y => y == m)) (flS_sm hok) (by omega)
      rw [fire_step hg hc hb hst, e2] at hF
      have hfl : (firedM (trM s m) c.mark).length = c.mark.length := firedM_len (trM s m) c.mark
      have h1l : 1 < (firedM (trM s m) c.mark).length := by omega
      simp only [stepC]
      have hF' : C f_spec_Fire [.agg [I (s.conds + s.tasks.length), trs (trS s)], ints c.mark, I (idxI (mvS s) (fun y => y == m))] [] = _ := hF
      obtain ⟨mt, mb, mp⟩ := m
      generalize trM s ⟨mt, mb, mp⟩ = T at *
      generalize stepB s c ⟨mt, mb, mp⟩ = B at *
      generalize idxI (mvS s) (fun y => y == (⟨mt, mb, mp⟩ : Mv)) = K at *
      generalize hX : firedM T c.mark = X at *
      refine C_spec_l14Step ?_
      simp (maxSteps := 2000000) (disch := (first | omega | (simp only [lenS]; first | done | omega))) only [ir_spec_l14Step, go_sem, Nat.reduceAdd, Nat.reduceEqDiff, Nat.reduceLeDiff, Nat.reduceSub]
      cases B with
      | false =>
        rw [if_neg (by simp)] at hF'
        cases mb with
        | true =>
          simp (maxSteps := 2000000) (disch := (first | omega | (simp only [lenS]; first | done | omega))) only [go_sem, Nat.reduceAdd, Nat.reduceEqDiff, Nat.reduceLeDiff, Nat.reduceSub, hNo, hst, hlay, hF']
        | false =>
          simp (maxSteps := 2000000) (disch := (first | omega | (simp only [lenS]; first | done | omega))) only [go_sem, Nat.reduceAdd, Nat.reduceEqDiff, Nat.reduceLeDiff, Nat.reduceSub, hNo, hst, hlay, hF']
      | true =>
        rw [if_pos rfl] at hF'
        cases mb with
        | true =>
          simp (maxSteps := 2000000) (disch := (first | omega | (simp only [lenS]; first | done | omega))) only [go_sem, Nat.reduceAdd, Nat.reduceEqDiff, Nat.reduceLeDiff, Nat.reduceSub, hNo, hst, hlay, hF', h1l]
          have e : X[Int.toNat 1]'h1l = at_ X 1 := at_eq (p := 1) h1l
          rw [e]
          exact ⟨fun h => by simp [h], fun h => by simp [show ¬ 0 < at_ X 1 by omega]⟩
        | false =>
          simp (maxSteps := 2000000) (disch := (first | omega | (simp only [lenS]; first | done | omega))) only [go_sem, Nat.reduceAdd, Nat.reduceEqDiff, Nat.reduceLeDiff, Nat.reduceSub, hNo, hst, hlay, hF', h1l]
          have e : X[Int.toNat 1]'h1l = at_ X 1 := at_eq (p := 1) h1l
          rw [e]
          exact ⟨fun h => by simp [h], fun h => by simp [show ¬ 0 < at_ X 1 by omega]⟩
    · have hB : stepB s c m = false := by unfold stepB; simp [hst]
      rw [hB, if_neg (by simp)]
      obtain ⟨mt, mb, mp⟩ := m
      refine C_spec_l14Step ?_
      simp (maxSteps := 2000000) (disch := (first | omega | (simp only [lenS]; first | done | omega))) only [ir_spec_l14Step, go_sem, Nat.reduceAdd, Nat.reduceEqDiff, Nat.reduceLeDiff, Nat.reduceSub]
      cases mb with
      | true =>
        simp (maxSteps := 2000000) (disch := (first | omega | (simp only [lenS]; first | done | omega))) only [go_sem, Nat.reduceAdd, Nat.reduceEqDiff, Nat.reduceLeDiff, Nat.reduceSub, hNo, hst]
      | false =>
        simp (maxSteps := 2000000) (disch := (first | omega | (simp only [lenS]; first | done | omega))) only [go_sem, Nat.reduceAdd, Nat.reduceEqDiff, Nat.reduceLeDiff, Nat.reduceSub, hNo, hst]
theorem share3 {orc : Orc} {m : Nat} {G : Prop} (H : Nat → Int → Int → Prop) (S0 : Nat → Int → Int → St) (k : List Bool) (b : ICode) (Q : Out → Prop) (h : (∀ (N : Nat) (A S : Int) (st0 : St), H N A S → gc m ⟨clean k st0.fr, st0.mem⟩ = S0 N A S → W orc m (.loop k b) st0 Q) → G)
    (h2 : ∀ (N : Nat) (A S : Int) (st0 : St), H N A S → gc m ⟨clean k st0.fr, st0.mem⟩ = S0 N A S → W orc m (.loop k b) st0 Q) : G := h h2
theorem spec_l1Cur_moves_ok (s : Spc) (hs : drS s) (bs : List Int) (at_ sd : Int) (h0 : 0 ≤ at_) (h1 : at_ < 2^57) (hl : bs.length < 2^62) (hb : ∀ x ∈ bs, 0 ≤ x ∧ x < 256) :
    Lw (C f_spec_l1Cur_moves [.ptr 0 0, .agg [I s.conds, .ref 1 7 0 s.tasks.length]] [.box t_spec_l1Cur [bys bs, I at_, .int .u64 sd], .row t_impl_Task false 7 (s.tasks.map encK)]) fun r => ∃ (l : List Mv) (at' sd' : Int), r = (.un t_impl_Move true 3 (l.map encM), [.box t_spec_l1Cur [bys bs, I at', .int .u64 sd'], .row t_impl_Task false 7 (s.tasks.map encK)]) ∧ at_ ≤ at' ∧ at' ≤ at_ + 1000 ∧ l.length ≤ 61 := by
  have hN := spec_NewCase_ok s hs.sm
  have hS1 := hs.1
  cases hg : goodS s with
  | false =>
    rw [hg, if_neg (by simp)] at hN
    refine E_spec_l1Cur_moves ?_
    simp (maxSteps := 2000000) (disch := (first | omega | (simp only [lenS]; first | done | omega))) only [ir_spec_l1Cur_moves, go_sem, Nat.reduceAdd, Nat.reduceEqDiff, Nat.reduceLeDiff, Nat.reduceSub]
    simp (maxSteps := 2000000) (disch := (first | omega | (simp only [lenS]; first | done | omega))) only [go_sem, Nat.reduceAdd, Nat.reduceEqDiff, Nat.reduceLeDiff, Nat.reduceSub, hN]
    exact ⟨[], at_, sd, rfl, by omega, by omega, by simp⟩
  | true =>
    rw [hg, if_pos rfl] at hN
    have hfl := firstC_len (goodS_ok hg)
    obtain ⟨_, e1, x1, a1, s1, rfl, g1, g2, g3, g4⟩ := spec_l1Cur_pick_ok 12 bs at_ sd (by omega) (by omega) hl hb
    obtain ⟨_, e2, w2, a2, s2, rfl, g5, g6⟩ := spec_l1Cur_one_ok 30 bs a1 s1 (by omega) (by omega) hl hb
    obtain ⟨_, e3, x3, a3, s3, rfl, g7, g8, g9, g10⟩ := spec_l1Cur_pick_ok 2 bs a2 s2 (by omega) (by omega) hl hb
    refine E_spec_l1Cur_moves ?_
    simp (maxSteps := 2000000) (disch := (first | omega | (simp only [lenS]; first | done | omega))) only [ir_spec_l1Cur_moves, go_sem, Nat.reduceAdd, Nat.reduceEqDiff, Nat.reduceLeDiff, Nat.reduceSub]
    refine' share3 (orc := C) (m := 2) (fun N A S => N ≤ 61 ∧ at_ ≤ A ∧ A ≤ at_ + 20) (fun N A S => ⟨[.ptr 0 0, .any, .ptr 2 0, .any, .ptr 3 0, .any, .ref 4 3 0 0, I N, .any, .any, .any, .any, .any, .any, .any, .any, .any], [.box t_spec_l1Cur [bys bs, I A, .int .u64 S], .row t_impl_Task false 7 (s.tasks.map encK), .box t_impl_Spec [I s.conds, .ref 1 7 0 s.tasks.length], .box t_impl_Case [I (firstC s).state, .ref 5 1 0 (firstC s).mark.length], .row t_impl_Move true 3 [], .row t_int true 1 ((firstC s).mark.map I)]⟩) _ _ _ ?main ?key
    case main =>
      intro key
      cases w2 with
      | true =>
        obtain ⟨N, hN0⟩ : ∃ N : Nat, 60 + x3 = N := ⟨(60 + x3).toNat, by omega⟩
        simp (maxSteps := 2000000) (disch := (first | omega | (simp only [lenS]; first | done | omega))) only [go_sem, Nat.reduceAdd, Nat.reduceEqDiff, Nat.reduceLeDiff, Nat.reduceSub, hN, e1, e2, e3, hN0]
        refine key N a3 s3 _ ⟨by omega, by omega, by omega⟩ ?_
        simp (maxSteps := 2000000) (disch := (first | omega | (simp only [lenS]; first | done | omega))) only [go_sem, Nat.reduceAdd, Nat.reduceEqDiff, Nat.reduceLeDiff, Nat.reduceSub, hfl]
        rfl
      | false =>
        obtain ⟨N, hN0⟩ : ∃ N : Nat, x1 = N := ⟨x1.toNat, by omega⟩
        simp (maxSteps := 2000000) (disch := (first | omega | (simp only [lenS]; first | done | omega))) only [go_sem, Nat.reduceAdd, Nat.reduceEqDiff, Nat.reduceLeDiff, Nat.reduceSub, hN, e1, e2, hN0]
        refine key N a2 s2 _ ⟨by omega, by omega, by omega⟩ ?_
        simp (maxSteps := 2000000) (disch := (first | omega | (simp only [lenS]; first | done | omega))) only [go_sem, Nat.reduceAdd, Nat.reduceEqDiff, Nat.reduceLeDiff, Nat.reduceSub, hfl]
        rfl
    case key =>
      intro N A0 S0 st0 hH hst0
      refine W_for N (fun k st => ∃ (x : Cs) (l : List Mv) (a sd : Int), st = ⟨[.ptr 0 0, .any, .ptr 2 0, .any, .ptr 3 0, .any, .ref 4 3 0 l.length, I (N - k), .any, .any, .any, .any, .any, .any, .any, .any, .any], [.box t_spec_l1Cur [bys bs, I a, .int .u64 sd], .row t_impl_Task false 7 (s.tasks.map encK), .box t_impl_Spec [I s.conds, .ref 1 7 0 s.tasks.length], .box t_impl_Case [I x.state, .ref 5 1 0 x.mark.length], .row t_impl_Move true 3 (l.map encM), .row t_int true 1 (x.mark.map I)]⟩ ∧ goodC s x = true ∧ l.length = k ∧ at_ ≤ a ∧ a ≤ at_ + 20 + 10 * k) ?_ ?_ ?_
      · refine ⟨firstC s, [], A0, S0, ?_, firstC_good (goodS_ok hg), rfl, by omega, by omega⟩
        rw [hst0]
        rw [show (N : Int) - ((0 : Nat) : Int) = N by omega]
        rfl
      · rintro k st hk ⟨x, l, a, sd, rfl, hx, hlk, h7, h8⟩
        have hxl := (goodM_len (goodC_mark hx)).2.2.2.1
        have hmv := spec_l14Moves_ok s x hg hx
        have hst := fun m => spec_l14Step_ok s x m hg hx
        obtain ⟨_, f1, y1, b1, c1, rfl, j1, j2, j3, j4⟩ := spec_l1Cur_pick_ok s.tasks.length bs a sd (by omega) (by omega) hl hb
        obtain ⟨_, f2, w2, b2, c2, rfl, j5, j6⟩ := spec_l1Cur_one_ok 2 bs b1 c1 (by omega) (by omega) hl hb
        obtain ⟨_, f3, y3, b3, c3, rfl, j7, j8, j9, j10⟩ := spec_l1Cur_pick_ok 2 bs b2 c2 (by omega) (by omega) hl hb
        obtain ⟨_, f4, w4, b4, c4, rfl, j11, j12⟩ := spec_l1Cur_one_ok 12 bs b3 c3 (by omega) (by omega) hl hb
        have hML : (movL s x).length ≤ 60 := by
          have h2 := mvU_len (goodS_ok hg) s.tasks.length (by omega)
          have := (okTasks_parts (goodS_ok hg)).2.1
          unfold movL
          split
          · exact Nat.le_trans (List.length_filter_le _ _) (by unfold mvS; omega)
          · simp
        obtain ⟨_, f5, y5, b5, c5, rfl, j13, j14, j15, j16⟩ := spec_l1Cur_pick_ok (movL s x).length bs b4 c4 (by omega) (by omega) hl hb
        generalize movL s x = ML at *
        have eN : (N : Int) - ((k + 1 : Nat) : Int) = N - k - 1 := by omega
        rw [eN]
        have fin : ∀ (X : Cs) (m : Mv) (P : PV) (A Sd : Int), goodC s X = true → at_ ≤ A → A ≤ at_ + 20 + 10 * (k + 1 : Nat) → P = encM m → ∃ (x : Cs) (l' : List Mv) (a sd : Int), (⟨[.ptr 0 0, .any, .ptr 2 0, .any, .ptr 3 0, .any, .ref 4 3 0 (l.length + 1), I (N - k - 1), .any, .any, .any, .any, .any, .any, .any, .any, .any], [.box t_spec_l1Cur [bys bs, I A, .int .u64 Sd], .row t_impl_Task false 7 (s.tasks.map encK), .box t_impl_Spec [I s.conds, .ref 1 7 0 s.tasks.length], .box t_impl_Case [I X.state, .ref 5 1 0 X.mark.length], .row t_impl_Move true 3 (l.map encM ++ [P]), .row t_int true 1 (X.mark.map I)]⟩ : St) = ⟨[.ptr 0 0, .any, .ptr 2 0, .any, .ptr 3 0, .any, .ref 4 3 0 l'.length, I (N - k - 1), .any, .any, .any, .any, .any, .any, .any, .any, .any], [.box t_spec_l1Cur [bys bs, I a, .int .u64 sd], .row t_impl_Task false 7 (s.tasks.map encK), .box t_impl_Spec [I s.conds, .ref 1 7 0 s.tasks.length], .box t_impl_Case [I x.state, .ref 5 1 0 x.mark.length], .row t_impl_Move true 3 (l'.map encM), .row t_int true 1 (x.mark.map I)]⟩ ∧ goodC s x = true ∧ l'.length = k + 1 ∧ at_ ≤ a ∧ a ≤ at_ + 20 + 10 * (k + 1 : Nat) := by
          intro X m P A Sd q1 q2 q3 q4
          subst q4
          exact ⟨X, l ++ [m], A, Sd, by rw [List.map_append, List.length_append]; rfl, q1, by simp [hlk], q2, q3⟩
        have two : ∀ m : Mv, (stepB s x m = true ∧ C f_spec_l14Step [encS s, encC x, encM m] [] = some (.tup [.agg [I (stepC s x m).state, .un t_int true 1 ((stepC s x m).mark.map I)], .bool true], []) ∧ goodC s (stepC s x m) = true ∧ (stepC s x m).mark.length ≤ 16) ∨ (stepB s x m = false ∧ C f_spec_l14Step [encS s, encC x, encM m] [] = some (.tup [.agg [I 0, .nil true 1], .bool false], [])) := by
          intro m
          have h := hst m
          unfold stepPV at h
          cases hB : stepB s x m with
          | true =>
            rw [hB, if_pos rfl] at h
            have hgd := stepC_good hx hB
            exact .inl ⟨rfl, h, hgd, (goodM_len (goodC_mark hgd)).2.2.2.1⟩
          | false =>
            rw [hB, if_neg (by simp)] at h
            exact .inr ⟨rfl, h⟩
        by_cases hR : 0 < ML.length
        · have hy5 : y5.toNat < ML.length := by omega
          have hlk5 : ML[y5.toNat]? = some ML[y5.toNat] := List.getElem?_eq_getElem hy5
          generalize ML[y5.toNat] = M at *
          obtain ⟨mt, mb, mp⟩ := M
          cases w4 with
          | true =>
            rcases two ⟨y1, w2, y3⟩ with ⟨u1, u2, u3, u4⟩ | ⟨u1, u2⟩ <;> cases w2
            all_goals
              simp (maxSteps := 2000000) (disch := (first | omega | (simp only [lenS]; first | done | omega))) only [go_sem, Nat.reduceAdd, Nat.reduceEqDiff, Nat.reduceLeDiff, Nat.reduceSub, f1, f2, f3, f4, hmv, u2]
              first
                | exact fin _ ⟨y1, true, y3⟩ _ _ _ hx (by omega) (by omega) rfl
                | exact fin _ ⟨y1, false, y3⟩ _ _ _ hx (by omega) (by omega) rfl
                | exact fin _ ⟨y1, true, y3⟩ _ _ _ u3 (by omega) (by omega) rfl
                | exact fin _ ⟨y1, false, y3⟩ _ _ _ u3 (by omega) (by omega) rfl
                | exact fin _ ⟨mt, true, mp⟩ _ _ _ hx (by omega) (by omega) rfl
                | exact fin _ ⟨mt, false, mp⟩ _ _ _ hx (by omega) (by omega) rfl
                | exact fin _ ⟨mt, true, mp⟩ _ _ _ z3 (by omega) (by omega) rfl
                | exact fin _ ⟨mt, false, mp⟩ _ _ _ z3 (by omega) (by omega) rfl
          | false =>
            rcases two ⟨mt, mb, mp⟩ with ⟨z1, z2, z3, z4⟩ | ⟨z1, z2⟩ <;> cases mb <;> cases w2
            all_goals
              simp (maxSteps := 2000000) (disch := (first | omega | (simp only [lenS]; first | done | omega))) only [go_sem, Nat.reduceAdd, Nat.reduceEqDiff, Nat.reduceLeDiff, Nat.reduceSub, f1, f2, f3, f4, f5, hmv, hlk5, z2]
              first
                | exact fin _ ⟨y1, true, y3⟩ _ _ _ hx (by omega) (by omega) rfl
                | exact fin _ ⟨y1, false, y3⟩ _ _ _ hx (by omega) (by omega) rfl
                | exact fin _ ⟨y1, true, y3⟩ _ _ _ u3 (by omega) (by omega) rfl
                | exact fin _ ⟨y1, false, y3⟩ _ _ _ u3 (by omega) (by omega) rfl
                | exact fin _ ⟨mt, true, mp⟩ _ _ _ hx (by omega) (by omega) rfl
                | exact fin _ ⟨mt, false, mp⟩ _ _ _ hx (by omega) (by omega) rfl
                | exact fin _ ⟨mt, true, mp⟩ _ _ _ z3 (by omega) (by omega) rfl
                | exact fin _ ⟨mt, false, mp⟩ _ _ _ z3 (by omega) (by omega) rfl
        · have hR0 : ML = [] := List.eq_nil_of_length_eq_zero (by omega)
          subst hR0
          rcases two ⟨y1, w2, y3⟩ with ⟨u1, u2, u3, u4⟩ | ⟨u1, u2⟩ <;> cases w2
          all_goals
            simp (maxSteps := 2000000) (disch := (first | omega | (simp only [lenS]; first | done | omega))) only [go_sem, Nat.reduceAdd, Nat.reduceEqDiff, Nat.reduceLeDiff, Nat.reduceSub, f1, f2, f3, hmv, u2]
            first
              | exact fin _ ⟨y1, true, y3⟩ _ _ _ hx (by omega) (by omega) rfl
              | exact fin _ ⟨y1, false, y3⟩ _ _ _ hx (by omega) (by omega) rfl
              | exact fin _ ⟨y1, true, y3⟩ _ _ _ u3 (by omega) (by omega) rfl
              | exact fin _ ⟨y1, false, y3⟩ _ _ _ u3 (by omega) (by omega) rfl
      · rintro st ⟨x, l, a, sd, rfl, hx, hlk, h7, h8⟩
        simp (maxSteps := 2000000) (disch := (first | omega | (simp only [lenS]; first | done | omega))) only [go_sem, Nat.reduceAdd, Nat.reduceEqDiff, Nat.reduceLeDiff, Nat.reduceSub]
        exact ⟨l, a, sd, rfl, by omega, by omega, by omega⟩
theorem spec_l14Own_ok (c : Cs) (h : c.mark.length < 2^36) : C f_spec_l14Own [encC c] [] = some (.agg [I c.state, .un t_int true 1 (c.mark.map I)], []) := by
  have h1 := spec_l1Own_ok c.mark h
  refine C_spec_l14Own ?_
  simp (maxSteps := 2000000) (disch := (first | omega | (simp only [lenS]; first | done | omega))) only [ir_spec_l14Own, go_sem, Nat.reduceAdd, Nat.reduceEqDiff, Nat.reduceLeDiff, Nat.reduceSub]
  simp (maxSteps := 2000000) (disch := (first | omega | (simp only [lenS]; first | done | omega))) only [go_sem, Nat.reduceAdd, Nat.reduceEqDiff, Nat.reduceLeDiff, Nat.reduceSub, h1]
theorem spec_PlayCase_ok (s : Spc) (l : List Mv) (hs : smSpc s) (hl : l.length < 2^36) : C f_spec_PlayCase [encS s, .sl true 3 (l.map encM)] [] = some (.tup [if (goodS s && decide (l.length ≤ 60)) = true then .agg [I (playK s (firstC s) l l.length).1.state, .un t_int true 1 ((playK s (firstC s) l l.length).1.mark.map I)] else .agg [I 0, .nil true 1], .un t_bool true 1 ((if (goodS s && decide (l.length ≤ 60)) = true then (playK s (firstC s) l l.length).2 else []).map PV.bool), .bool (goodS s && decide (l.length ≤ 60))], []) := by
  have hN := spec_NewCase_ok s hs
  refine C_spec_PlayCase ?_
  simp (maxSteps := 2000000) (disch := (first | omega | (simp only [lenS]; first | done | omega))) only [ir_spec_PlayCase, go_sem, Nat.reduceAdd, Nat.reduceEqDiff, Nat.reduceLeDiff, Nat.reduceSub]
  cases hg : goodS s with
  | false =>
    rw [hg, if_neg (by simp)] at hN
    simp (maxSteps := 2000000) (disch := (first | omega | (simp only [lenS]; first | done | omega))) only [go_sem, Nat.reduceAdd, Nat.reduceEqDiff, Nat.reduceLeDiff, Nat.reduceSub, hN]
  | true =>
    rw [hg, if_pos rfl] at hN
    have hok := goodS_ok hg
    have hfl := firstC_len hok
    rw [show (oneM (s.conds + s.tasks.length).toNat 0) = (firstC s).mark from rfl] at hN
    have hgood := playK_good (l := l) (firstC_good hok)
    by_cases h60 : l.length ≤ 60
    · simp (maxSteps := 2000000) (disch := (first | omega | (simp only [lenS]; first | done | omega))) only [go_sem, Nat.reduceAdd, Nat.reduceEqDiff, Nat.reduceLeDiff, Nat.reduceSub, hN]
      refine W_for l.length (fun k st => st = ⟨[.any, .any, .ptr 0 0, .ptr 1 0, .any, .any, .ptr 2 0, .any, .ref 3 1 0 k, .any, .any, .any, .any, .sl true 3 (l.map encM), I l.length, I k, .any, .any], [.box t_impl_Spec [I s.conds, tks s.tasks], .box t_impl_Case [I 0, .nil true 1], .box t_impl_Case [I (playK s (firstC s) l k).1.state, .ref 4 1 0 (playK s (firstC s) l k).1.mark.length], .row t_bool true 1 ((playK s (firstC s) l k).2.map PV.bool), .row t_int true 1 ((playK s (firstC s) l k).1.mark.map I)]⟩) ?_ ?_ ?_
      · simp (maxSteps := 2000000) (disch := (first | omega | (simp only [lenS]; first | done | omega))) only [go_sem, Nat.reduceAdd, Nat.reduceEqDiff, Nat.reduceLeDiff, Nat.reduceSub]
        rw [playK_zero]
        simp [firstC]
      · rintro k st hk rfl
        have hgk := hgood k (by omega)
        have hS := spec_l14Step_ok s (playK s (firstC s) l k).1 l[k] hg hgk
        have hlen := playK_len s (firstC s) l k (by omega)
        have hcl := (goodC_len (goodC_mark hgk) (okTasks_parts hok).1.1)
        have hml := goodM_len (goodC_mark hgk)
        have hlk : l[k]? = some l[k] := List.getElem?_eq_getElem hk
        rw [playK_succ hk]
        unfold playS stepPV at *
        generalize hx : playK s (firstC s) l k = x at *
        obtain ⟨c, did⟩ := x
        simp only at *
        generalize l[k] = m at *
        obtain ⟨mt, mb, mp⟩ := m
        generalize stepC s c ⟨mt, mb, mp⟩ = X at *
        generalize stepB s c ⟨mt, mb, mp⟩ = B at *
        cases B with
        | false =>
          rw [if_neg (by simp)] at hS ⊢
          cases mb <;> simp (maxSteps := 2000000) (disch := (first | omega | (simp only [lenS]; first | done | omega))) only [go_sem, Nat.reduceAdd, Nat.reduceEqDiff, Nat.reduceLeDiff, Nat.reduceSub, hlk, hS, hlen]
          all_goals simp
        | true =>
          rw [if_pos rfl] at hS ⊢
          cases mb <;> simp (maxSteps := 2000000) (disch := (first | omega | (simp only [lenS]; first | done | omega))) only [go_sem, Nat.reduceAdd, Nat.reduceEqDiff, Nat.reduceLeDiff, Nat.reduceSub, hlk, hS, hlen]
          all_goals simp
      · rintro st rfl
        have hlen := playK_len s (firstC s) l l.length (by omega)
        have hgl := hgood l.length (by omega)
        have hml := goodM_len (goodC_mark hgl)
        have hO := spec_l14Own_ok (playK s (firstC s) l l.length).1 (by omega)
        simp (maxSteps := 2000000) (disch := (first | omega | (simp only [lenS]; first | done | omega))) only [go_sem, Nat.reduceAdd, Nat.reduceEqDiff, Nat.reduceLeDiff, Nat.reduceSub, hO, hlen]
        simp [h60]
    · simp (maxSteps := 2000000) (disch := (first | omega | (simp only [lenS]; first | done | omega))) only [go_sem, Nat.reduceAdd, Nat.reduceEqDiff, Nat.reduceLeDiff, Nat.reduceSub, hN]
      simp [h60]
theorem spec_l1Cur_caseOf_ok (s : Spc) (hs : drS s) (bs : List Int) (at_ sd : Int) (h0 : 0 ≤ at_) (h1 : at_ < 2^56) (hl : bs.length < 2^62) (hb : ∀ x ∈ bs, 0 ≤ x ∧ x < 256) :
    Lw (C f_spec_l1Cur_caseOf [.ptr 0 0, .agg [I s.conds, .ref 1 7 0 s.tasks.length]] [.box t_spec_l1Cur [bys bs, I at_, .int .u64 sd], .row t_impl_Task false 7 (s.tasks.map encK)]) fun r => ∃ (c : Cs) (at' sd' : Int), (r = (.agg [I c.state, .un t_int true 1 (c.mark.map I)], [.box t_spec_l1Cur [bys bs, I at', .int .u64 sd'], .row t_impl_Task false 7 (s.tasks.map encK)]) ∨ (r = (.agg [I 0, .nil true 1], [.box t_spec_l1Cur [bys bs, I at', .int .u64 sd'], .row t_impl_Task false 7 (s.tasks.map encK)]) ∧ c = ⟨0, []⟩)) ∧ at_ ≤ at' ∧ at' ≤ at_ + 2000 ∧ c.mark.length ≤ 16 := by
  obtain ⟨_, e1, l, a1, s1, rfl, g1, g2, g3⟩ := spec_l1Cur_moves_ok s hs bs at_ sd h0 (by omega) hl hb
  have hP := spec_PlayCase_ok s l hs.sm (by omega)
  cases hB : goodS s && decide (l.length ≤ 60) with
  | false =>
    rw [hB, if_neg (by simp), if_neg (by simp)] at hP
    rw [List.map_nil] at hP
    refine E_spec_l1Cur_caseOf ?_
    simp (maxSteps := 2000000) (disch := (first | omega | (simp only [lenS]; first | done | omega))) only [ir_spec_l1Cur_caseOf, go_sem, Nat.reduceAdd, Nat.reduceEqDiff, Nat.reduceLeDiff, Nat.reduceSub]
    simp (maxSteps := 2000000) (disch := (first | omega | (simp only [lenS]; first | done | omega))) only [go_sem, Nat.reduceAdd, Nat.reduceEqDiff, Nat.reduceLeDiff, Nat.reduceSub, e1, hP]
    exact ⟨by decide, ⟨0, []⟩, a1, s1, .inr ⟨rfl, rfl⟩, by omega, by omega, by simp⟩
  | true =>
    rw [hB, if_pos rfl, if_pos rfl] at hP
    simp only [Bool.and_eq_true, decide_eq_true_eq] at hB
    have hgl := playK_good (l := l) (firstC_good (goodS_ok hB.1)) l.length (by omega)
    have hXl := (goodM_len (goodC_mark hgl)).2.2.2.1
    have hX1 := goodC_len (goodC_mark hgl) (okTasks_parts (goodS_ok hB.1)).1.1
    generalize playK s (firstC s) l l.length = x at *
    obtain ⟨⟨xs, R⟩, D⟩ := x
    simp only at hP hXl hX1
    obtain ⟨_, e2, x2, a2, s2, rfl, g4, g5, g6, g7⟩ := spec_l1Cur_pick_ok 20 bs a1 s1 (by omega) (by omega) hl hb
    obtain ⟨_, e3, x3, a3, s3, rfl, k4, k5, k6, k7⟩ := spec_l1Cur_pick_ok 5 bs a2 s2 (by omega) (by omega) hl hb
    obtain ⟨_, e4, x4, a4, s4, rfl, j4, j5, j6, j7⟩ := spec_l1Cur_pick_ok R.length bs a2 s2 (by omega) (by omega) hl hb
    obtain ⟨_, e5, x5, a5, s5, rfl, i4, i5, i6⟩ := spec_l1Cur_among_ok [-1, 1, 2, 50, 51] t_int (by decide) (by decide) bs a4 s4 (by omega) (by omega) hl hb
    simp only [List.map_cons, List.map_nil, List.length_cons, List.length_nil, Nat.reduceAdd] at e5
    refine E_spec_l1Cur_caseOf ?_
    simp (maxSteps := 2000000) (disch := (first | omega | (simp only [lenS]; first | done | omega))) only [ir_spec_l1Cur_caseOf, go_sem, Nat.reduceAdd, Nat.reduceEqDiff, Nat.reduceLeDiff, Nat.reduceSub]
    simp (maxSteps := 2000000) (disch := (first | omega | (simp only [lenS]; first | done | omega))) only [go_sem, Nat.reduceAdd, Nat.reduceEqDiff, Nat.reduceLeDiff, Nat.reduceSub, e1, hP, e2, e3, e4, e5]
    exact ⟨by decide, fun h => ⟨⟨x3, R⟩, a3, s3, .inl rfl, by omega, by omega, by simp only; omega⟩, fun _ => ⟨fun h => ⟨by decide, ⟨xs, R.set x4.toNat x5⟩, a5, s5, .inl (by simp [List.map_set]), by omega, by omega, by simp; omega⟩, fun _ => ⟨⟨xs, R⟩, a2, s2, .inl rfl, by omega, by omega, by simp only; omega⟩⟩⟩
theorem spec_l14Case_ok (s : Spc) (c : Cs) (h : okTasks s = true) (hl : c.mark.length < 2^62) : C f_spec_l14Case [encS s, encC c] [] = some (.bool (goodC s c), []) := by
  obtain ⟨hc, hn, -⟩ := okTasks_parts h
  have hM := spec_GoodMark_ok (s.conds + s.tasks.length) c.mark hl
  refine C_spec_l14Case ?_
  simp (maxSteps := 2000000) (disch := (first | omega | (simp only [lenS]; first | done | omega))) only [ir_spec_l14Case, go_sem, Nat.reduceAdd, Nat.reduceEqDiff, Nat.reduceLeDiff, Nat.reduceSub]
  cases hg : goodM (s.conds + s.tasks.length) c.mark with
  | false =>
    simp (maxSteps := 2000000) (disch := (first | omega | (simp only [lenS]; first | done | omega))) only [go_sem, Nat.reduceAdd, Nat.reduceEqDiff, Nat.reduceLeDiff, Nat.reduceSub, hM, hg]
    simp [goodC, hg]
  | true =>
    have h2 := goodC_len hg hc.1
    have e : c.mark[1]'h2.2 = at_ c.mark 1 := at_eq (p := 1) h2.2
    simp (maxSteps := 2000000) (disch := (first | omega | (simp only [lenS]; first | done | omega))) only [go_sem, Nat.reduceAdd, Nat.reduceEqDiff, Nat.reduceLeDiff, Nat.reduceSub, hM, hg]
    simp only [goodC, hg, Bool.true_and]
    grind
theorem spec_GoodCase_ok (s : Spc) (c : Cs) (hs : smSpc s) (hl : c.mark.length < 2^62) : C f_spec_GoodCase [encS s, encC c] [] = some (.bool (goodS s && goodC s c), []) := by
  have hG := spec_GoodSpec_ok s hs
  refine C_spec_GoodCase ?_
  simp (maxSteps := 2000000) (disch := (first | omega | (simp only [lenS]; first | done | omega))) only [ir_spec_GoodCase, go_sem, Nat.reduceAdd, Nat.reduceEqDiff, Nat.reduceLeDiff, Nat.reduceSub]
  cases hg : goodS s with
  | false => simp (maxSteps := 2000000) (disch := (first | omega | (simp only [lenS]; first | done | omega))) only [go_sem, Nat.reduceAdd, Nat.reduceEqDiff, Nat.reduceLeDiff, Nat.reduceSub, hG, hg]
  | true =>
    have hC := spec_l14Case_ok s c (goodS_ok hg) hl
    simp (maxSteps := 2000000) (disch := (first | omega | (simp only [lenS]; first | done | omega))) only [go_sem, Nat.reduceAdd, Nat.reduceEqDiff, Nat.reduceLeDiff, Nat.reduceSub, hG, hg, hC]
    grind
theorem spec_MovesIn_ok (s : Spc) (c : Cs) (hs : smSpc s) (hl : c.mark.length < 2^62) : C f_spec_MovesIn [encS s, encC c] [] = some (.tup [.un t_impl_Move true 3 ((if (goodS s && goodC s c) = true then movL s c else []).map encM), .bool (goodS s && goodC s c)], []) := by
  have hG := spec_GoodCase_ok s c hs hl
  refine C_spec_MovesIn ?_
  simp (maxSteps := 2000000) (disch := (first | omega | (simp only [lenS]; first | done | omega))) only [ir_spec_MovesIn, go_sem, Nat.reduceAdd, Nat.reduceEqDiff, Nat.reduceLeDiff, Nat.reduceSub]
  cases hg : goodS s && goodC s c with
  | false => simp (maxSteps := 2000000) (disch := (first | omega | (simp only [lenS]; first | done | omega))) only [go_sem, Nat.reduceAdd, Nat.reduceEqDiff, Nat.reduceLeDiff, Nat.reduceSub, hG, hg]
  | true =>
    have hg' := hg
    simp only [Bool.and_eq_true] at hg'
    have hM := spec_l14Moves_ok s c hg'.1 hg'.2
    simp (maxSteps := 2000000) (disch := (first | omega | (simp only [lenS]; first | done | omega))) only [go_sem, Nat.reduceAdd, Nat.reduceEqDiff, Nat.reduceLeDiff, Nat.reduceSub, hG, hg, hM]
theorem spec_DrawStepCase_ok (a : List Int) (hl : a.length < 2^62) (hb : ∀ x ∈ a, 0 ≤ x ∧ x < 256) : Lw (C f_spec_DrawStepCase [bys a] []) fun r => ∃ (s : Spc) (c : Cs) (m : Mv), (r = (.tup [.agg [I s.conds, .un t_impl_Task false 7 (s.tasks.map encK)], .agg [I c.state, .un t_int true 1 (c.mark.map I)], encM m], []) ∨ (r = (.tup [.agg [I s.conds, .un t_impl_Task false 7 (s.tasks.map encK)], .agg [I 0, .nil true 1], encM m], []) ∧ c = ⟨0, []⟩)) ∧ drS s ∧ c.mark.length ≤ 16 := by
  obtain ⟨_, e1, S, a1, s1, rfl, h3, h4, h5⟩ := spec_l1Cur_spec_ok a 0 0 (by omega) (by omega) hl hb
  obtain ⟨_, e2, c, a2, s2, hr, g3, g4, g5⟩ := spec_l1Cur_caseOf_ok S h5 a a1 s1 (by omega) (by omega) hl hb
  have hm := spec_MovesIn_ok S c h5.sm (by omega)
  have hL : (if (goodS S && goodC S c) = true then movL S c else []).length ≤ 60 := by
    split
    · rename_i hg
      simp only [Bool.and_eq_true] at hg
      have h2 := mvU_len (goodS_ok hg.1) S.tasks.length (by omega)
      have := (okTasks_parts (goodS_ok hg.1)).2.1
      unfold movL
      split
      · exact Nat.le_trans (List.length_filter_le _ _) (by unfold mvS; omega)
      · simp
    · simp
  generalize (if (goodS S && goodC S c) = true then movL S c else []) = R at *
  generalize (goodS S && goodC S c) = gS at *
  obtain ⟨_, e3, b3, a3, s3, rfl, k3, k4⟩ := spec_l1Cur_one_ok 6 a a2 s2 (by omega) (by omega) hl hb
  obtain ⟨_, e4, x4, a4, s4, rfl, k5, k6, k7, k8⟩ := spec_l1Cur_pick_ok R.length a a3 s3 (by omega) (by omega) hl hb
  have rest : ∀ (A Sd : Int), 0 ≤ A → A ≤ 5000 → ∃ (x y : Int) (b : Bool) (a' s' a'' s'' a3 s3 : Int), C f_spec_l1Cur_pick [.ptr 0 0, I 4] [.box t_spec_l1Cur [bys a, I A, .int .u64 Sd]] = some (I x, [.box t_spec_l1Cur [bys a, I a', .int .u64 s']]) ∧ C f_spec_l1Cur_one [.ptr 0 0, I 2] [.box t_spec_l1Cur [bys a, I a', .int .u64 s']] = some (.bool b, [.box t_spec_l1Cur [bys a, I a'', .int .u64 s'']]) ∧ C f_spec_l1Cur_pick [.ptr 0 0, I 3] [.box t_spec_l1Cur [bys a, I a'', .int .u64 s'']] = some (I y, [.box t_spec_l1Cur [bys a, I a3, .int .u64 s3]]) := by
    intro A Sd q1 q2
    obtain ⟨_, f1, x, a', s', rfl, j1, j2, j3, j4⟩ := spec_l1Cur_pick_ok 4 a A Sd (by omega) (by omega) hl hb
    obtain ⟨_, f2, b, a'', s'', rfl, j5, j6⟩ := spec_l1Cur_one_ok 2 a a' s' (by omega) (by omega) hl hb
    obtain ⟨_, f3, y, a3, s3, rfl, j7, j8, j9, j10⟩ := spec_l1Cur_pick_ok 3 a a'' s'' (by omega) (by omega) hl hb
    exact ⟨x, y, b, a', s', a'', s'', a3, s3, f1, f2, f3⟩
  obtain ⟨u1, v1, w1, b1, c1, b2', c2', b4', c4', f1, f2, f3⟩ := rest a2 s2 (by omega) (by omega)
  obtain ⟨u2, v2, w2, b4, c4, b5, c5, b6, c6, f6, f7, f8⟩ := rest a3 s3 (by omega) (by omega)
  by_cases hR : 0 < R.length
  · have hx : x4.toNat < R.length := by omega
    have hlk : R[x4.toNat]? = some R[x4.toNat] := List.getElem?_eq_getElem hx
    generalize R[x4.toNat] = M at *
    obtain ⟨mt, mb, mp⟩ := M
    rcases hr with rfl | ⟨rfl, rfl⟩ <;> cases gS <;> cases b3 <;> cases mb <;> cases w2
    all_goals
      try (replace hm : C f_spec_MovesIn [encS S, .agg [I 0, .sl true 1 []]] [] = _ := hm)
      refine E_spec_DrawStepCase ?_
      simp (maxSteps := 2000000) (disch := (first | omega | (simp only [lenS]; first | done | omega))) only [ir_spec_DrawStepCase, go_sem, Nat.reduceAdd, Nat.reduceEqDiff, Nat.reduceLeDiff, Nat.reduceSub]
      simp (maxSteps := 2000000) (disch := (first | omega | (simp only [lenS]; first | done | omega))) only [go_sem, Nat.reduceAdd, Nat.reduceEqDiff, Nat.reduceLeDiff, Nat.reduceSub, e1, e2, hm, e3, e4, f1, f2, f3, f6, f7, f8, hlk]
      repeat (refine ⟨by decide, ?_⟩)
      first
        | exact ⟨S, c, ⟨mt, true, mp⟩, .inl rfl, h5, g5⟩
        | exact ⟨S, c, ⟨mt, false, mp⟩, .inl rfl, h5, g5⟩
        | exact ⟨S, c, ⟨u2, true, v2⟩, .inl rfl, h5, g5⟩
        | exact ⟨S, c, ⟨u2, false, v2⟩, .inl rfl, h5, g5⟩
        | exact ⟨S, ⟨0, []⟩, ⟨mt, true, mp⟩, .inr ⟨rfl, rfl⟩, h5, by simp⟩
        | exact ⟨S, ⟨0, []⟩, ⟨mt, false, mp⟩, .inr ⟨rfl, rfl⟩, h5, by simp⟩
        | exact ⟨S, ⟨0, []⟩, ⟨u2, true, v2⟩, .inr ⟨rfl, rfl⟩, h5, by simp⟩
        | exact ⟨S, ⟨0, []⟩, ⟨u2, false, v2⟩, .inr ⟨rfl, rfl⟩, h5, by simp⟩
  · have hR0 : R = [] := List.eq_nil_of_length_eq_zero (by omega)
    subst hR0
    rcases hr with rfl | ⟨rfl, rfl⟩ <;> cases gS <;> cases w1
    all_goals
      try (replace hm : C f_spec_MovesIn [encS S, .agg [I 0, .sl true 1 []]] [] = _ := hm)
      refine E_spec_DrawStepCase ?_
      simp (maxSteps := 2000000) (disch := (first | omega | (simp only [lenS]; first | done | omega))) only [ir_spec_DrawStepCase, go_sem, Nat.reduceAdd, Nat.reduceEqDiff, Nat.reduceLeDiff, Nat.reduceSub]
      simp (maxSteps := 2000000) (disch := (first | omega | (simp only [lenS]; first | done | omega))) only [go_sem, Nat.reduceAdd, Nat.reduceEqDiff, Nat.reduceLeDiff, Nat.reduceSub, e1, e2, hm, e3, f1, f2, f3]
      repeat (refine ⟨by decide, ?_⟩)
      first
        | exact ⟨S, c, ⟨u1, true, v1⟩, .inl rfl, h5, g5⟩
        | exact ⟨S, c, ⟨u1, false, v1⟩, .inl rfl, h5, g5⟩
        | exact ⟨S, ⟨0, []⟩, ⟨u1, true, v1⟩, .inr ⟨rfl, rfl⟩, h5, by simp⟩
        | exact ⟨S, ⟨0, []⟩, ⟨u1, false, v1⟩, .inr ⟨rfl, rfl⟩, h5, by simp⟩
theorem impl_within_ok (n lo hi : Int) : C f_impl_within [I n, I lo, I hi] [] = some (.bool (inB lo hi n), []) := by
  refine C_impl_within ?_
  simp (maxSteps := 2000000) (disch := (first | omega | (simp only [lenS]; first | done | omega))) only [ir_impl_within, go_sem, Nat.reduceAdd, Nat.reduceEqDiff, Nat.reduceLeDiff, Nat.reduceSub]
  unfold inB; grind
theorem impl_increasing_ok (l : List Int) (hl : l.length < 2^62) : C f_impl_increasing [ints l] [] = some (.bool (incr l), []) := by
  refine C_impl_increasing ?_
  simp (maxSteps := 2000000) (disch := (first | omega | (simp only [lenS]; first | done | omega))) only [ir_impl_increasing, go_sem, Nat.reduceAdd, Nat.reduceEqDiff, Nat.reduceLeDiff, Nat.reduceSub]
  refine W_for (l.length - 1) (fun k s => s = ⟨[ints l, .any, I (k + 1 : Int), .any, .any], []⟩ ∧ (l.take (k + 1)).Pairwise (· < ·)) ?_ ?_ ?_
  · simp (maxSteps := 2000000) (disch := (first | omega | (simp only [lenS]; first | done | omega))) only [go_sem, Nat.reduceAdd, Nat.reduceEqDiff, Nat.reduceLeDiff, Nat.reduceSub]
    exact ⟨rfl, incr_one⟩
  · rintro k s hk ⟨rfl, hp⟩
    simp (maxSteps := 2000000) (disch := (first | omega | (simp only [lenS]; first | done | omega))) only [go_sem, Nat.reduceAdd, Nat.reduceEqDiff, Nat.reduceLeDiff, Nat.reduceSub]
    have e1 : ((k : Int) + 1).toNat = k + 1 := by omega
    have e2 : ((k : Int) + 1 - 1).toNat = k := by omega
    simp only [e1, e2]
    refine ⟨fun h => by rw [incr_not (k := k) (by omega) (by omega)], fun h => ⟨rfl, incr_step (by omega) hp h⟩⟩
  · rintro s ⟨rfl, hp⟩
    simp (maxSteps := 2000000) (disch := (first | omega | (simp only [lenS]; first | done | omega))) only [go_sem, Nat.reduceAdd, Nat.reduceEqDiff, Nat.reduceLeDiff, Nat.reduceSub]
    rw [take_all (by omega)] at hp
    rw [show incr l = true by simpa [incr] using hp]
theorem impl_allWithin_ok (l : List Int) (lo hi : Int) (hl : l.length < 2^62) : C f_impl_allWithin [ints l, I lo, I hi] [] = some (.bool (l.all (inB lo hi)), []) := by
  refine C_impl_allWithin ?_
  simp (maxSteps := 2000000) (disch := (first | omega | (simp only [lenS]; first | done | omega))) only [ir_impl_allWithin, go_sem, Nat.reduceAdd, Nat.reduceEqDiff, Nat.reduceLeDiff, Nat.reduceSub]
  refine W_for l.length (fun k s => s = ⟨[.any, I lo, I hi, .any, .any, ints l, I l.length, I k, .any, .any], []⟩ ∧ (l.take k).all (inB lo hi) = true) ?_ ?_ ?_
  · simp (maxSteps := 2000000) (disch := (first | omega | (simp only [lenS]; first | done | omega))) only [go_sem, Nat.reduceAdd, Nat.reduceEqDiff, Nat.reduceLeDiff, Nat.reduceSub]
    rfl
  · rintro k s hk ⟨rfl, hall⟩
    simp (maxSteps := 2000000) (disch := (first | omega | (simp only [lenS]; first | done | omega))) only [go_sem, Nat.reduceAdd, Nat.reduceEqDiff, Nat.reduceLeDiff, Nat.reduceSub, impl_within_ok]
    exact ⟨fun h => ⟨rfl, all_take hk hall h⟩, fun h => by rw [all_false hk h]⟩
  · rintro s ⟨rfl, hall⟩
    simp (maxSteps := 2000000) (disch := (first | omega | (simp only [lenS]; first | done | omega))) only [go_sem, Nat.reduceAdd, Nat.reduceEqDiff, Nat.reduceLeDiff, Nat.reduceSub]
    rw [List.take_length] at hall
    rw [hall]
theorem impl_areConds_ok (s : Spc) (l : List Int) (f : Int) (hl : l.length < 2^62) (hc : 2 ≤ s.conds ∧ s.conds ≤ 8) : C f_impl_areConds [encS s, ints l, I f] [] = some (.bool (incr l && l.all (inB f (s.conds - 1))), []) := by
  refine C_impl_areConds ?_
  simp (maxSteps := 2000000) (disch := (first | omega | (simp only [lenS]; first | done | omega))) only [ir_impl_areConds, go_sem, Nat.reduceAdd, Nat.reduceEqDiff, Nat.reduceLeDiff, Nat.reduceSub]
  simp (maxSteps := 2000000) (disch := (first | omega | (simp only [lenS]; first | done | omega))) only [go_sem, Nat.reduceAdd, Nat.reduceEqDiff, Nat.reduceLeDiff, Nat.reduceSub, impl_increasing_ok l hl, impl_allWithin_ok l _ _ hl]
  grind
theorem slices_Index_sl_int_int_ok (l : List Int) (x : Int) (hl : l.length < 2^62) : C f_slices_Index_sl_int_int [ints l, I x] [] = some (I (idxI l (fun y => y == x)), []) := by
  refine C_slices_Index_sl_int_int ?_
  simp (maxSteps := 2000000) (disch := (first | omega | (simp only [lenS]; first | done | omega))) only [ir_slices_Index_sl_int_int, go_sem, Nat.reduceAdd, Nat.reduceEqDiff, Nat.reduceLeDiff, Nat.reduceSub]
  refine W_for l.length (fun k s => s = ⟨[ints l, I x, .any, .any, I l.length, I k, .any, .any], []⟩ ∧ (l.take k).any (fun y => y == x) = false) ?_ ?_ ?_
  · simp (maxSteps := 2000000) (disch := (first | omega | (simp only [lenS]; first | done | omega))) only [go_sem, Nat.reduceAdd, Nat.reduceEqDiff, Nat.reduceLeDiff, Nat.reduceSub]
    rfl
  · rintro k s hk ⟨rfl, hall⟩
    simp (maxSteps := 2000000) (disch := (first | omega | (simp only [lenS]; first | done | omega))) only [go_sem, Nat.reduceAdd, Nat.reduceEqDiff, Nat.reduceLeDiff, Nat.reduceSub]
    refine ⟨fun h => ?_, fun h => ⟨rfl, any_take hk hall (by simpa using fun e => h e.symm)⟩⟩
    rw [idxI_some hk hall (by simpa using h.symm)]
  · rintro s ⟨rfl, hall⟩
    simp (maxSteps := 2000000) (disch := (first | omega | (simp only [lenS]; first | done | omega))) only [go_sem, Nat.reduceAdd, Nat.reduceEqDiff, Nat.reduceLeDiff, Nat.reduceSub]
    rw [List.take_length] at hall
    rw [idxI_none hall]
theorem slices_Contains_sl_int_int_ok (l : List Int) (x : Int) (hl : l.length < 2^62) : C f_slices_Contains_sl_int_int [ints l, I x] [] = some (.bool (hasB l x), []) := by
  refine C_slices_Contains_sl_int_int ?_
  simp (maxSteps := 2000000) (disch := (first | omega | (simp only [lenS]; first | done | omega))) only [ir_slices_Contains_sl_int_int, go_sem, Nat.reduceAdd, Nat.reduceEqDiff, Nat.reduceLeDiff, Nat.reduceSub]
  simp (maxSteps := 2000000) (disch := (first | omega | (simp only [lenS]; first | done | omega))) only [go_sem, Nat.reduceAdd, Nat.reduceEqDiff, Nat.reduceLeDiff, Nat.reduceSub, slices_Index_sl_int_int_ok l x hl]
  have := idxI_any l (fun y => y == x)
  rw [hasB_any, this]
  exact ⟨fun h => by simp [h], fun h => by rw [decide_eq_false (by omega)]⟩
theorem impl_isTask_ok (s : Spc) (k : Nat) (hk : k < s.tasks.length) (hl : s.tasks.length ≤ 6) (hc : 2 ≤ s.conds ∧ s.conds ≤ 8) (ht : smTk s.tasks[k]) : C f_impl_isTask [encS s, I k] [] = some (.bool (goodK s k s.tasks[k]), []) := by
  obtain ⟨a, b, c, d⟩ := ht
  refine C_impl_isTask ?_
  simp (maxSteps := 2000000) (disch := (first | omega | (simp only [lenS]; first | done | omega))) only [ir_impl_isTask, go_sem, Nat.reduceAdd, Nat.reduceEqDiff, Nat.reduceLeDiff, Nat.reduceSub]
  unfold goodK
  generalize hT : s.tasks[k] = t at *
  simp (maxSteps := 2000000) (disch := (first | omega | (simp only [lenS]; first | done | omega))) only [go_sem, Nat.reduceAdd, Nat.reduceEqDiff, Nat.reduceLeDiff, Nat.reduceSub, hT, impl_within_ok, impl_areConds_ok s _ _ _ hc, impl_increasing_ok, impl_allWithin_ok, slices_Contains_sl_int_int_ok]
  generalize t.inn.all (inB 0 (s.conds - 1)) = q1
  generalize t.out.all (inB 0 (s.conds - 1)) = q2
  generalize t.cut.all (inB 2 (s.conds - 1)) = q3
  generalize t.stop.all (inB 0 ((s.tasks.length : Int) - 1)) = q4
  (repeat' (first | apply And.intro | intro _)) <;> simp_all
theorem impl_movesOf_ok (s : Spc) (h : okTasks s = true) : C f_impl_movesOf [encS s] [] = some (.un t_impl_Move true 3 ((mvS s).map encM), []) := by
  obtain ⟨hc, hn, hg⟩ := okTasks_parts h
  have shl1 : IntKind.i64.wrap (1 * 2 ^ min 1 64) = 2 := by decide
  have shl2 : IntKind.i64.wrap (1 * 2 ^ min 2 64) = 4 := by decide
  have shl3 : IntKind.i64.wrap (1 * 2 ^ min 3 64) = 8 := by decide
  refine C_impl_movesOf ?_
  simp (maxSteps := 2000000) (disch := (first | omega | (simp only [lenS]; first | done | omega))) only [ir_impl_movesOf, go_sem, Nat.reduceAdd, Nat.reduceEqDiff, Nat.reduceLeDiff, Nat.reduceSub]
  refine W_for s.tasks.length (fun k st => st = ⟨[.any, .any, .any, .ref 0 3 0 (mvU s k).length, .any, .any, .any, .any, .any, tks s.tasks, I s.tasks.length, I k, .any, .any, .any, .any, .any, .any, .any, .any, .any], [.row t_impl_Move true 3 ((mvU s k).map encM)]⟩) ?_ ?_ ?_
  · simp (maxSteps := 2000000) (disch := (first | omega | (simp only [lenS]; first | done | omega))) only [go_sem, Nat.reduceAdd, Nat.reduceEqDiff, Nat.reduceLeDiff, Nat.reduceSub]
    rfl
  · rintro k st hk rfl
    have hK := hg k hk
    have hl := mvU_len h k (by omega)
    have hbl := beginL_len hK
    have hel := endL_len hK
    have hU := mvU_succ s k
    have hB : (beginL (tkN s k)).length = if (tkN s k).join = 2 then (tkN s k).inn.length else 1 := by unfold beginL; split <;> simp
    have hE : (endL (tkN s k)).length = if (tkN s k).split = 2 then (tkN s k).out.length else if (tkN s k).split = 3 then 2 ^ (tkN s k).out.length - 1 else 1 := by unfold endL; (repeat' split) <;> simp
    have hF : endF (tkN s k) = if (tkN s k).split = 2 then 0 else if (tkN s k).split = 3 then 1 else 0 := rfl
    unfold mvK at hU
    have heq := tkN_eq hk
    rw [hU]
    simp (maxSteps := 2000000) (disch := (first | omega | (simp only [lenS]; first | done | omega))) only [go_sem, Nat.reduceAdd, Nat.reduceEqDiff, Nat.reduceLeDiff, Nat.reduceSub]
    rw [← heq]
    generalize tkN s k = t at *
    obtain ⟨hj, hs, h1, h2, -, -, -, -, -, -⟩ := goodK_parts hK
    have hp := pow_le h2.1 h2.2
    generalize mvU s k = U at *
    generalize hN : (beginL t).length = nb at *
    generalize hM : (endL t).length = ne at *
    refine W_for (nb - 1) (fun j st => st = ⟨[.any, .any, .any, .ref 0 3 0 (U.length + (j + 1)), I k, .ptr 1 0, I (j + 1 : Int), .any, .any, tks s.tasks, I s.tasks.length, I k, .any, .any, .any, .any, .any, .any, .any, .any, .any], [.row t_impl_Move true 3 ((U ++ mvB k (j + 1)).map encM), .box t_impl_Task [I t.join, I t.split, ints t.inn, ints t.out, ints t.cut, ints t.stop, I t.role]]⟩) ?_ ?_ ?_
    · simp (maxSteps := 2000000) (disch := (first | omega | (simp only [lenS]; first | done | omega))) only [go_sem, Nat.reduceAdd, Nat.reduceEqDiff, Nat.reduceLeDiff, Nat.reduceSub]
      simp [mvB]
    · rintro j st hjj rfl
      have hj2 : t.join = 2 := by
        rcases hj with hj | hj
        · simp [hj] at hB; omega
        · exact hj
      simp [hj2] at hB
      have := mvB_len k (j + 1)
      simp (maxSteps := 2000000) (disch := (first | omega | (simp only [lenS]; first | done | omega))) only [go_sem, Nat.reduceAdd, Nat.reduceEqDiff, Nat.reduceLeDiff, Nat.reduceSub, hj2, this]
      rw [mvB_succ k (j + 1)]
      simp
      omega
    · rintro st rfl
      have e1 : nb - 1 + 1 = nb := by omega
      rw [e1]
      have e2 : ((nb - 1 : Nat) : Int) + 1 = nb := by omega
      rw [e2]
      have e3 := mvB_len k nb
      have hj3 : t.join = 2 → nb = t.inn.length := fun e => by simpa [e] using hB
      have e4 : (U ++ mvB k nb).length = U.length + nb := by simp [e3]
      generalize hV : U ++ mvB k nb = V at *
      rw [← List.append_assoc, hV, ← e4]
      have hVl : V.length ≤ 100 := by omega
      clear hB hV hN hM hU
      rcases hs with hs | hs | hs
      · have hne : ne = 1 := by simpa [hs] using hE
        have hF0 : endF t = 0 := by simpa [hs] using hF
        subst hne
        rcases hj with hj | hj
        · simp (maxSteps := 2000000) (disch := (first | omega | (simp only [lenS]; first | done | omega))) only [go_sem, Nat.reduceAdd, Nat.reduceEqDiff, Nat.reduceLeDiff, Nat.reduceSub, hj, hs]
          simp [hF0, mvE]
        · have := hj3 hj
          simp (maxSteps := 2000000) (disch := (first | omega | (simp only [lenS]; first | done | omega))) only [go_sem, Nat.reduceAdd, Nat.reduceEqDiff, Nat.reduceLeDiff, Nat.reduceSub, hj, hs]
          simp [hF0, mvE]
      · have hne : ne = t.out.length := by simpa [hs] using hE
        have hF0 : endF t = 0 := by simpa [hs] using hF
        rcases hj with hj | hj
        · simp (maxSteps := 2000000) (disch := (first | omega | (simp only [lenS]; first | done | omega))) only [go_sem, Nat.reduceAdd, Nat.reduceEqDiff, Nat.reduceLeDiff, Nat.reduceSub, hj, hs]
          refine W_for ne (fun i st => st = ⟨[.any, .any, .any, .ref 0 3 0 (V.length + i), I k, .any, .any, .any, .any, tks s.tasks, I s.tasks.length, I k, .any, .any, .any, .any, .any, .any, I ne, I i, .any], [.row t_impl_Move true 3 ((V ++ mvE k 0 i).map encM)]⟩) ?_ ?_ ?_
          · simp (maxSteps := 2000000) (disch := (first | omega | (simp only [lenS]; first | done | omega))) only [go_sem, Nat.reduceAdd, Nat.reduceEqDiff, Nat.reduceLeDiff, Nat.reduceSub]
            simp [mvE, hne]
          · rintro i st hi rfl
            have := mvE_len k 0 i
            simp (maxSteps := 2000000) (disch := (first | omega | (simp only [lenS]; first | done | omega))) only [go_sem, Nat.reduceAdd, Nat.reduceEqDiff, Nat.reduceLeDiff, Nat.reduceSub, this]
            rw [mvE_succ]
            simp
            omega
          · rintro st rfl
            have := mvE_len k 0 ne
            simp (maxSteps := 2000000) (disch := (first | omega | (simp only [lenS]; first | done | omega))) only [go_sem, Nat.reduceAdd, Nat.reduceEqDiff, Nat.reduceLeDiff, Nat.reduceSub, this]
            simp [hF0, this]
        · have := hj3 hj
          simp (maxSteps := 2000000) (disch := (first | omega | (simp only [lenS]; first | done | omega))) only [go_sem, Nat.reduceAdd, Nat.reduceEqDiff, Nat.reduceLeDiff, Nat.reduceSub, hj, hs]
          refine W_for ne (fun i st => st = ⟨[.any, .any, .any, .ref 0 3 0 (V.length + i), I k, .any, .any, .any, .any, tks s.tasks, I s.tasks.length, I k, .any, .any, .any, .any, .any, .any, I ne, I i, .any], [.row t_impl_Move true 3 ((V ++ mvE k 0 i).map encM)]⟩) ?_ ?_ ?_
          · simp (maxSteps := 2000000) (disch := (first | omega | (simp only [lenS]; first | done | omega))) only [go_sem, Nat.reduceAdd, Nat.reduceEqDiff, Nat.reduceLeDiff, Nat.reduceSub]
            simp [mvE, hne]
          · rintro i st hi rfl
            have := mvE_len k 0 i
            simp (maxSteps := 2000000) (disch := (first | omega | (simp only [lenS]; first | done | omega))) only [go_sem, Nat.reduceAdd, Nat.reduceEqDiff, Nat.reduceLeDiff, Nat.reduceSub, this]
            rw [mvE_succ]
            simp
            omega
          · rintro st rfl
            have := mvE_len k 0 ne
            simp (maxSteps := 2000000) (disch := (first | omega | (simp only [lenS]; first | done | omega))) only [go_sem, Nat.reduceAdd, Nat.reduceEqDiff, Nat.reduceLeDiff, Nat.reduceSub, this]
            simp [hF0, this]
      · have hne : ne = 2 ^ t.out.length - 1 := by simpa [hs] using hE
        have hF0 : endF t = 1 := by simpa [hs] using hF
        rcases hj with hj | hj
        · simp (maxSteps := 2000000) (disch := (first | omega | (simp only [lenS]; first | done | omega))) only [go_sem, Nat.reduceAdd, Nat.reduceEqDiff, Nat.reduceLeDiff, Nat.reduceSub, hj, hs]
          refine W_for ne (fun i st => st = ⟨[.any, .any, .any, .ref 0 3 0 (V.length + i), I k, .ptr 1 0, .any, .any, I (i + 1 : Int), tks s.tasks, I s.tasks.length, I k, .any, .any, .any, .any, .any, .any, .any, .any, .any], [.row t_impl_Move true 3 ((V ++ mvE k 1 i).map encM), .box t_impl_Task [I t.join, I t.split, ints t.inn, ints t.out, ints t.cut, ints t.stop, I t.role]]⟩) ?_ ?_ ?_
          · simp (maxSteps := 2000000) (disch := (first | omega | (simp only [lenS]; first | done | omega))) only [go_sem, Nat.reduceAdd, Nat.reduceEqDiff, Nat.reduceLeDiff, Nat.reduceSub]
            simp [mvE, hj, hs]
          · rintro i st hi rfl
            have e := mvE_len k 1 i
            have e5 : t.out.length = 1 ∨ t.out.length = 2 ∨ t.out.length = 3 := by omega
            rcases e5 with e5 | e5 | e5
            all_goals
              simp only [e5] at hne
              simp (maxSteps := 2000000) (disch := (first | omega | (simp only [lenS]; first | done | omega))) only [go_sem, Nat.reduceAdd, Nat.reduceEqDiff, Nat.reduceLeDiff, Nat.reduceSub, e, e5, shl1, shl2, shl3]
              rw [mvE_succ]
              simp
              omega
          · rintro st rfl
            have e := mvE_len k 1 ne
            have e5 : t.out.length = 1 ∨ t.out.length = 2 ∨ t.out.length = 3 := by omega
            rcases e5 with e5 | e5 | e5
            all_goals
              simp only [e5] at hne
              simp (maxSteps := 2000000) (disch := (first | omega | (simp only [lenS]; first | done | omega))) only [go_sem, Nat.reduceAdd, Nat.reduceEqDiff, Nat.reduceLeDiff, Nat.reduceSub, e, e5, shl1, shl2, shl3]
              simp [hF0, e]
        · have := hj3 hj
          simp (maxSteps := 2000000) (disch := (first | omega | (simp only [lenS]; first | done | omega))) only [go_sem, Nat.reduceAdd, Nat.reduceEqDiff, Nat.reduceLeDiff, Nat.reduceSub, hj, hs]
          refine W_for ne (fun i st => st = ⟨[.any, .any, .any, .ref 0 3 0 (V.length + i), I k, .ptr 1 0, .any, .any, I (i + 1 : Int), tks s.tasks, I s.tasks.length, I k, .any, .any, .any, .any, .any, .any, .any, .any, .any], [.row t_impl_Move true 3 ((V ++ mvE k 1 i).map encM), .box t_impl_Task [I t.join, I t.split, ints t.inn, ints t.out, ints t.cut, ints t.stop, I t.role]]⟩) ?_ ?_ ?_
          · simp (maxSteps := 2000000) (disch := (first | omega | (simp only [lenS]; first | done | omega))) only [go_sem, Nat.reduceAdd, Nat.reduceEqDiff, Nat.reduceLeDiff, Nat.reduceSub]
            simp [mvE, hj, hs]
          · rintro i st hi rfl
            have e := mvE_len k 1 i
            have e5 : t.out.length = 1 ∨ t.out.length = 2 ∨ t.out.length = 3 := by omega
            rcases e5 with e5 | e5 | e5
            all_goals
              simp only [e5] at hne
              simp (maxSteps := 2000000) (disch := (first | omega | (simp only [lenS]; first | done | omega))) only [go_sem, Nat.reduceAdd, Nat.reduceEqDiff, Nat.reduceLeDiff, Nat.reduceSub, e, e5, shl1, shl2, shl3]
              rw [mvE_succ]
              simp
              omega
          · rintro st rfl
            have e := mvE_len k 1 ne
            have e5 : t.out.length = 1 ∨ t.out.length = 2 ∨ t.out.length = 3 := by omega
            rcases e5 with e5 | e5 | e5
            all_goals
              simp only [e5] at hne
              simp (maxSteps := 2000000) (disch := (first | omega | (simp only [lenS]; first | done | omega))) only [go_sem, Nat.reduceAdd, Nat.reduceEqDiff, Nat.reduceLeDiff, Nat.reduceSub, e, e5, shl1, shl2, shl3]
              simp [hF0, e]
  · rintro st rfl
    simp (maxSteps := 2000000) (disch := (first | omega | (simp only [lenS]; first | done | omega))) only [go_sem, Nat.reduceAdd, Nat.reduceEqDiff, Nat.reduceLeDiff, Nat.reduceSub]
    rfl
theorem impl_setOf_ok (l : List Int) (h : ∀ p ∈ l, 0 ≤ p ∧ p < 30) (hi : incr l = true) (hl : l.length < 2^30) : C f_impl_setOf [I (maskN l)] [] = some (.un t_int true 1 (l.map I), []) := by
  have hp : l.Pairwise (· < ·) := by simpa [incr] using hi
  have h0 : ∀ p ∈ l, 0 ≤ p := fun p hp => (h p hp).1
  have hm : maskN l < 2 ^ 30 := maskN_lt (q := 30) h
  refine C_impl_setOf ?_
  simp (maxSteps := 2000000) (disch := (first | omega | (simp only [lenS]; first | done | omega))) only [ir_impl_setOf, go_sem, Nat.reduceAdd, Nat.reduceEqDiff, Nat.reduceLeDiff, Nat.reduceSub]
  refine W_down (fun j s => ∃ k : Nat, j + k = 40 ∧ k ≤ 31 ∧ s = ⟨[I (maskN l), .any, .ref 0 1 0 (below l k).length, I k, .any, .any], [.row t_int true 1 ((below l k).map I)]⟩) 40 ?_ ?_
  · refine ⟨0, rfl, by omega, ?_⟩
    rw [below_zero h0]
    simp (maxSteps := 2000000) (disch := (first | omega | (simp only [lenS]; first | done | omega))) only [go_sem, Nat.reduceAdd, Nat.reduceEqDiff, Nat.reduceLeDiff, Nat.reduceSub]
    rfl
  · rintro j s ⟨k, hj, hk, rfl⟩
    have hbl := below_len l k
    have e1 : ((maskN l : Nat) : Int) / 2 ^ min k 64 = ((maskN l / 2 ^ k : Nat) : Int) := by
      rw [show min k 64 = k by omega]; simp
    have e2 : maskN l / 2 ^ k < 2 ^ 62 := Nat.lt_of_le_of_lt (Nat.div_le_self _ _) (by omega)
    have e3 := and_i64 (a := maskN l / 2 ^ k) (b := 1) e2 (by decide)
    rw [Nat.and_one_is_mod] at e3
    simp (maxSteps := 2000000) (disch := (first | omega | (simp only [lenS]; first | done | omega))) only [go_sem, Nat.reduceAdd, Nat.reduceEqDiff, Nat.reduceLeDiff, Nat.reduceSub, e1]
    have eb := mask_odd h0 k
    have hone : ((1 : Nat) : Int) = 1 := rfl
    rw [hone] at e3
    refine ⟨fun hne => ?_, fun hz => ?_⟩
    · have hk30 : k < 30 := by
        rcases Nat.lt_or_ge k 30 with h5 | h5
        · exact h5
        · exact (hne (by rw [Nat.div_eq_of_lt (Nat.lt_of_lt_of_le hm (Nat.pow_le_pow_right (by decide) h5))]; rfl)).elim
      refine ⟨fun h1 => ⟨j - 1, by omega, k + 1, by omega, by omega, ?_⟩, fun h1 => ⟨j - 1, by omega, k + 1, by omega, by omega, ?_⟩⟩
      · have hm1 : maskN l / 2 ^ k % 2 = 1 := by rw [e3] at h1; omega
        rw [decide_eq_true hm1] at eb
        rw [below_succ hp, if_pos (by simpa [hasB] using eb), List.map_append]
        simp
      · have hm1 : ¬ maskN l / 2 ^ k % 2 = 1 := by rw [e3] at h1; omega
        rw [decide_eq_false hm1] at eb
        rw [below_succ hp, if_neg (by simpa [hasB] using eb), List.append_nil]
        rfl
    · rw [below_all (mask_shift h0 k (by exact_mod_cast hz))]
theorem impl_regionOf_ok (s : Spc) (k : Nat) (hk : k < s.tasks.length) (hc : 2 ≤ s.conds ∧ s.conds ≤ 8) (ht : smTk s.tasks[k]) (h1 : s.tasks[k].cut.length ≤ 16) (h0 : s.tasks[k].stop.length ≤ 16) (h2 : ∀ x ∈ s.tasks[k].stop, 0 ≤ x ∧ x < 16) : C f_impl_regionOf [encS s, I k] [] = some (.un t_int true 1 ((regL s s.tasks[k]).map I), []) := by
  obtain ⟨a, b, c, d⟩ := ht
  refine C_impl_regionOf ?_
  simp (maxSteps := 2000000) (disch := (first | omega | (simp only [lenS]; first | done | omega))) only [ir_impl_regionOf, go_sem, Nat.reduceAdd, Nat.reduceEqDiff, Nat.reduceLeDiff, Nat.reduceSub]
  simp (maxSteps := 2000000) (disch := (first | omega | (simp only [lenS]; first | done | omega))) only [go_sem, Nat.reduceAdd, Nat.reduceEqDiff, Nat.reduceLeDiff, Nat.reduceSub, slices_Clone_sl_int_int_ok]
  generalize hT : s.tasks[k] = t at *
  refine W_for t.stop.length (fun i st => st = ⟨[.any, .any, .ptr 0 0, .any, .ref 1 1 0 (t.cut.length + i), .any, ints t.stop, I t.stop.length, I i, .any], [.box t_impl_Spec [I s.conds, tks s.tasks], .row t_int true 1 ((t.cut ++ (t.stop.take i).map (s.conds + ·)).map I)]⟩) ?_ ?_ ?_
  · simp (maxSteps := 2000000) (disch := (first | omega | (simp only [lenS]; first | done | omega))) only [go_sem, Nat.reduceAdd, Nat.reduceEqDiff, Nat.reduceLeDiff, Nat.reduceSub]
    simp
  · rintro i st hi rfl
    have h3 := h2 _ (List.getElem_mem hi)
    have e := regL_step (s := s) hi
    simp (maxSteps := 2000000) (disch := (first | omega | (simp only [lenS]; first | done | omega))) only [go_sem, Nat.reduceAdd, Nat.reduceEqDiff, Nat.reduceLeDiff, Nat.reduceSub]
    rw [e, List.map_append]
    simp
    omega
  · rintro st rfl
    simp (maxSteps := 2000000) (disch := (first | omega | (simp only [lenS]; first | done | omega))) only [go_sem, Nat.reduceAdd, Nat.reduceEqDiff, Nat.reduceLeDiff, Nat.reduceSub]
    simp [regL]
theorem impl_transOf_ok (s : Spc) (m : Mv) (h : okTasks s = true) (hm : isMv s m) : C f_impl_transOf [encS s, encM m] [] = some (.agg [.un t_int true 1 ((trM s m).inn.map I), .un t_int true 1 ((trM s m).out.map I), if m.begin_ then .nil true 1 else .un t_int true 1 ((trM s m).rst.map I)], []) := by
  obtain ⟨hc, hn, hg⟩ := okTasks_parts h
  obtain ⟨k, hk, e1, hb, he⟩ := hm
  have hK := hg k hk
  have hsm := okTasks_sm h hk
  have heq := tkN_eq hk
  obtain ⟨c1, c2, c3, c4⟩ := hsm
  have hreg := impl_regionOf_ok s k hk hc c1 c2 c3 c4
  rw [← heq] at c1 c2 c3 c4 hreg
  obtain ⟨b1, b2, b3, b4⟩ := c1
  obtain ⟨mt, mb, mp⟩ := m
  simp only at e1 hb he
  subst e1
  have eT : tkN s ((k : Int)).toNat = tkN s k := by simp
  refine C_impl_transOf ?_
  simp (maxSteps := 2000000) (disch := (first | omega | (simp only [lenS]; first | done | omega))) only [ir_impl_transOf, go_sem, Nat.reduceAdd, Nat.reduceEqDiff, Nat.reduceLeDiff, Nat.reduceSub]
  simp only [trM, eT]
  have hb2 : (beginL (tkN s k)).length = if (tkN s k).join = 2 then (tkN s k).inn.length else 1 := by unfold beginL; split <;> simp
  have hE : (endL (tkN s k)).length = if (tkN s k).split = 2 then (tkN s k).out.length else if (tkN s k).split = 3 then 2 ^ (tkN s k).out.length - 1 else 1 := by unfold endL; (repeat' split) <;> simp
  have hF : endF (tkN s k) = if (tkN s k).split = 2 then 0 else if (tkN s k).split = 3 then 1 else 0 := rfl
  simp only [← heq]
  generalize tkN s k = t at *
  obtain ⟨hj, hs, h1, h2, -, -, -, -, -, -⟩ := goodK_parts hK
  cases mb with
  | true =>
    obtain ⟨hp0, hp1⟩ := hb rfl
    rcases hj with hj | hj
    · simp (maxSteps := 2000000) (disch := (first | omega | (simp only [lenS]; first | done | omega))) only [go_sem, Nat.reduceAdd, Nat.reduceEqDiff, Nat.reduceLeDiff, Nat.reduceSub, hj, slices_Clone_sl_int_int_ok]
      exact fun h => absurd h (by decide)
    · simp only [hj, if_true] at hb2
      have := at_eq (m := t.inn) (p := mp) (by omega)
      simp (maxSteps := 2000000) (disch := (first | omega | (simp only [lenS]; first | done | omega))) only [go_sem, Nat.reduceAdd, Nat.reduceEqDiff, Nat.reduceLeDiff, Nat.reduceSub, hj, this]
  | false =>
    obtain ⟨hp0, hp1⟩ := he rfl
    rcases hs with hs | hs | hs
    · simp (maxSteps := 2000000) (disch := (first | omega | (simp only [lenS]; first | done | omega))) only [go_sem, Nat.reduceAdd, Nat.reduceEqDiff, Nat.reduceLeDiff, Nat.reduceSub, hs, slices_Clone_sl_int_int_ok, hreg]
    · simp only [hs, if_true] at hE hF
      have := at_eq (m := t.out) (p := mp) (by omega)
      simp (maxSteps := 2000000) (disch := (first | omega | (simp only [lenS]; first | done | omega))) only [go_sem, Nat.reduceAdd, Nat.reduceEqDiff, Nat.reduceLeDiff, Nat.reduceSub, hs, slices_Clone_sl_int_int_ok, hreg, this]
    · simp [hs] at hE hF
      have hpp := pow_le h2.1 h2.2
      have hS := setB_ok mp.toNat (by omega)
      obtain ⟨d1, d2, d3, d4, d5⟩ := hS
      have d6 := d5 t.out.length h2.1 h2.2 (by omega)
      have hset := impl_setOf_ok (setB mp.toNat) (fun p hp => by have := d3 p hp; omega) d2 (by omega)
      rw [d1, show ((mp.toNat : Nat) : Int) = mp by omega] at hset
      simp (maxSteps := 2000000) (disch := (first | omega | (simp only [lenS]; first | done | omega))) only [go_sem, Nat.reduceAdd, Nat.reduceEqDiff, Nat.reduceLeDiff, Nat.reduceSub, hs, slices_Clone_sl_int_int_ok, hset]
      refine W_for (setB mp.toNat).length (fun i st => st = ⟨[.any, .any, .ptr 0 0, .ptr 1 0, .ptr 2 0, .ptr 3 0, .ref 4 1 0 1, .ref 5 1 0 i, .any, .any, .any, .any, .any, .any, .ref 6 1 0 (setB mp.toNat).length, I (setB mp.toNat).length, I i, .any], [.box t_impl_Spec [I s.conds, tks s.tasks], .box t_impl_Move [I k, .bool false, I mp], .box t_impl_Trans [.nil true 1, .nil true 1, .nil true 1], .box t_impl_Task [I t.join, I t.split, ints t.inn, ints t.out, ints t.cut, ints t.stop, I t.role], .row t_int true 1 [I (s.conds + k)], .row t_int true 1 (((setB mp.toNat).take i).map fun p => I (at_ t.out p)), .row t_int true 1 ((setB mp.toNat).map I)]⟩) ?_ ?_ ?_
      · simp (maxSteps := 2000000) (disch := (first | omega | (simp only [lenS]; first | done | omega))) only [go_sem, Nat.reduceAdd, Nat.reduceEqDiff, Nat.reduceLeDiff, Nat.reduceSub]
        simp [hs]
      · rintro i st hi rfl
        have h6 := d6 _ (List.getElem_mem hi)
        have h7 := d3 _ (List.getElem_mem hi)
        have e := at_eq (m := t.out) (p := (setB mp.toNat)[i]) (by omega)
        simp (maxSteps := 2000000) (disch := (first | omega | (simp only [lenS]; first | done | omega))) only [go_sem, Nat.reduceAdd, Nat.reduceEqDiff, Nat.reduceLeDiff, Nat.reduceSub]
        rw [List.take_succ_eq_append_getElem hi, List.map_append]
        simp [e]
      · rintro st rfl
        simp (maxSteps := 2000000) (disch := (first | omega | (simp only [lenS]; first | done | omega))) only [go_sem, Nat.reduceAdd, Nat.reduceEqDiff, Nat.reduceLeDiff, Nat.reduceSub, hreg]
        simp [someL]
theorem impl_specFlow_ok (s : Spc) (h : okTasks s = true) : C f_impl_specFlow [encS s] [] = some (.agg [I (s.conds + s.tasks.length), .un t_impl_Trans false 3 ((trS s).map encT), I 0, I 1], []) := by
  obtain ⟨hc, hn, hg⟩ := okTasks_parts h
  have hml := mvU_len h s.tasks.length (by omega)
  have hmv := impl_movesOf_ok s h
  have hU : (mvS s).map (trM s) = trS s := trM_U s s.tasks.length
  rw [← hU]
  have hall : ∀ m ∈ mvS s, isMv s m := fun m hm => mvS_is hm
  have hL : (mvS s).length ≤ 60 ∧ 2 ≤ (mvS s).length := by unfold mvS; omega
  generalize mvS s = M at *
  refine C_impl_specFlow ?_
  simp (maxSteps := 2000000) (disch := (first | omega | (simp only [lenS]; first | done | omega))) only [ir_impl_specFlow, go_sem, Nat.reduceAdd, Nat.reduceEqDiff, Nat.reduceLeDiff, Nat.reduceSub]
  simp (maxSteps := 2000000) (disch := (first | omega | (simp only [lenS]; first | done | omega))) only [go_sem, Nat.reduceAdd, Nat.reduceEqDiff, Nat.reduceLeDiff, Nat.reduceSub, hmv]
  refine W_for M.length (fun i st => st = ⟨[.any, .ptr 0 0, .ptr 1 0, .ptr 2 0, .any, .ref 3 3 0 M.length, I M.length, I i, .any], [.box t_impl_Spec [I s.conds, tks s.tasks], .box t_impl_Flow [I 0, .nil false 3, I 0, I 0], .box t_impl_Net [I (s.conds + s.tasks.length), cellT 4 ((M.take i).map (trM s))], .row t_impl_Move true 3 (M.map encM)] ++ blkT t_impl_Trans ((M.take i).map (trM s))⟩) ?_ ?_ ?_
  · simp (maxSteps := 2000000) (disch := (first | omega | (simp only [lenS]; first | done | omega))) only [go_sem, Nat.reduceAdd, Nat.reduceEqDiff, Nat.reduceLeDiff, Nat.reduceSub]
    simp [cellT, blkT]
  · rintro i st hi rfl
    have hm := hall _ (List.getElem_mem hi)
    have ht := impl_transOf_ok s M[i] h hm
    have hlen : ((M.take i).map (trM s)).length = i := by simp; omega
    have hne : (M.take (i + 1)).map (trM s) ≠ [] := by intro e; have := congrArg List.length e; rw [List.length_map, List.length_take, List.length_nil] at this; omega
    have hsn : (M.take (i + 1)).map (trM s) = (M.take i).map (trM s) ++ [trM s M[i]] := by rw [List.take_succ_eq_append_getElem hi, List.map_append]; rfl
    rw [cellT_ne hne, blkT_ne hne, hsn]
    generalize (M.take i).map (trM s) = L at *
    cases hb : M[i].begin_ with
    | true =>
      have hr : (trM s M[i]).rst = [] := by simp only [trM, hb, if_true]; split <;> rfl
      rw [hb, if_pos rfl] at ht
      by_cases hL0 : L = []
      · subst hL0
        simp only [cellT_nil, blkT_nil]
        simp (maxSteps := 2000000) (disch := (first | omega | (simp only [lenS]; first | done | omega))) only [go_sem, Nat.reduceAdd, Nat.reduceEqDiff, Nat.reduceLeDiff, Nat.reduceSub, ht]
        simp [hr, hb]
      · rw [cellT_ne hL0, blkT_ne hL0]
        simp (maxSteps := 2000000) (disch := (first | omega | (simp only [lenS]; first | done | omega))) only [go_sem, Nat.reduceAdd, Nat.reduceEqDiff, Nat.reduceLeDiff, Nat.reduceSub, ht]
        simp [hr, hb]
    | false =>
      rw [hb, if_neg (by simp)] at ht
      by_cases hL0 : L = []
      · subst hL0
        simp only [cellT_nil, blkT_nil]
        simp (maxSteps := 2000000) (disch := (first | omega | (simp only [lenS]; first | done | omega))) only [go_sem, Nat.reduceAdd, Nat.reduceEqDiff, Nat.reduceLeDiff, Nat.reduceSub, ht]
        simp [hb]
      · rw [cellT_ne hL0, blkT_ne hL0]
        simp (maxSteps := 2000000) (disch := (first | omega | (simp only [lenS]; first | done | omega))) only [go_sem, Nat.reduceAdd, Nat.reduceEqDiff, Nat.reduceLeDiff, Nat.reduceSub, ht]
        simp [hb]
  · rintro st rfl
    have hne : (M.take M.length).map (trM s) ≠ [] := by intro e; have := congrArg List.length e; rw [List.length_map, List.length_take, List.length_nil] at this; omega
    rw [cellT_ne hne, blkT_ne hne, List.take_length]
    simp (maxSteps := 2000000) (disch := (first | omega | (simp only [lenS]; first | done | omega))) only [go_sem, Nat.reduceAdd, Nat.reduceEqDiff, Nat.reduceLeDiff, Nat.reduceSub]
theorem impl_arePlaces_ok (n : Net) (l : List Int) (h : 1 ≤ n.pl ∧ n.pl ≤ 16) (hl : l.length < 2^62) : C f_impl_arePlaces [encN n, ints l] [] = some (.bool (places n.pl l), []) := by
  refine C_impl_arePlaces ?_
  simp (maxSteps := 2000000) (disch := (first | omega | (simp only [lenS]; first | done | omega))) only [ir_impl_arePlaces, go_sem, Nat.reduceAdd, Nat.reduceEqDiff, Nat.reduceLeDiff, Nat.reduceSub]
  simp (maxSteps := 2000000) (disch := (first | omega | (simp only [lenS]; first | done | omega))) only [go_sem, Nat.reduceAdd, Nat.reduceEqDiff, Nat.reduceLeDiff, Nat.reduceSub, impl_increasing_ok l hl, impl_allWithin_ok l _ _ hl]
  unfold places; grind
theorem impl_GoodNet_1_ok (n : Net) (t : Tr) (h : 1 ≤ n.pl ∧ n.pl ≤ 16) (ht : smT t) : C f_impl_GoodNet_1 [encT t, .pv (encN n) 0] [] = some (.bool (!goodT n.pl t), []) := by
  obtain ⟨h1, h2, h3⟩ := ht
  refine C_impl_GoodNet_1 ?_
  simp (maxSteps := 2000000) (disch := (first | omega | (simp only [lenS]; first | done | omega))) only [ir_impl_GoodNet_1, go_sem, Nat.reduceAdd, Nat.reduceEqDiff, Nat.reduceLeDiff, Nat.reduceSub]
  simp (maxSteps := 2000000) (disch := (first | omega | (simp only [lenS]; first | done | omega))) only [go_sem, Nat.reduceAdd, Nat.reduceEqDiff, Nat.reduceLeDiff, Nat.reduceSub, impl_arePlaces_ok n _ h]
  refine ⟨fun h6 => by rw [goodT_nil (by omega)]; rfl, fun h6 => ⟨fun h7 => ⟨fun h8 => ⟨fun h9 => by rw [goodT_all (by omega) h7 h8 h9]; rfl, fun h9 => by simp [goodT, h9]⟩, fun h8 => by simp [goodT, h8]⟩, fun h7 => by simp [goodT, h7]⟩⟩
theorem slices_IndexFunc_sl_impl_Trans_impl_Trans_ok (l : List Tr) (g : FuncId) (caps : List PV) (hc : refsL caps = []) (hcv : ∀ m h, viewLWith [] m h caps = some caps) (p : Tr → Bool) (hp : ∀ x ∈ l, C g (encT x :: caps) [] = some (.bool (p x), [])) (hl : l.length < 2^62) :
    C f_slices_IndexFunc_sl_impl_Trans_impl_Trans [trs l, .clo g caps] [] = some (I (idxI l p), []) := by
  refine C_slices_IndexFunc_sl_impl_Trans_impl_Trans ?_
  simp (maxSteps := 2000000) (disch := (first | omega | (simp only [lenS]; first | done | omega))) only [ir_slices_IndexFunc_sl_impl_Trans_impl_Trans, go_sem, Nat.reduceAdd, Nat.reduceEqDiff, Nat.reduceLeDiff, Nat.reduceSub]
  refine W_for l.length (fun k s => s = ⟨[trs l, .clo g caps, .any, .any, I l.length, I k, .any, .any], []⟩ ∧ (l.take k).any p = false) ?_ ?_ ?_
  · simp (maxSteps := 2000000) (disch := (first | omega | (simp only [lenS]; first | done | omega))) only [go_sem, Nat.reduceAdd, Nat.reduceEqDiff, Nat.reduceLeDiff, Nat.reduceSub, hc]
    rfl
  · rintro k s hk ⟨rfl, hall⟩
    simp (maxSteps := 2000000) (disch := (first | omega | (simp only [lenS]; first | done | omega))) only [go_sem, Nat.reduceAdd, Nat.reduceEqDiff, Nat.reduceLeDiff, Nat.reduceSub, hc, hcv, hp _ (List.getElem_mem hk)]
    exact ⟨fun h => by rw [idxI_some hk hall h], fun h => ⟨rfl, any_take hk hall h⟩⟩
  · rintro s ⟨rfl, hall⟩
    simp (maxSteps := 2000000) (disch := (first | omega | (simp only [lenS]; first | done | omega))) only [go_sem, Nat.reduceAdd, Nat.reduceEqDiff, Nat.reduceLeDiff, Nat.reduceSub]
    rw [List.take_length] at hall
    rw [idxI_none hall]
theorem slices_ContainsFunc_sl_impl_Trans_impl_Trans_ok (l : List Tr) (g : FuncId) (caps : List PV) (hc : refsL caps = []) (hcv : ∀ m h, viewLWith [] m h caps = some caps) (p : Tr → Bool) (hp : ∀ x ∈ l, C g (encT x :: caps) [] = some (.bool (p x), [])) (hl : l.length < 2^62) :
    C f_slices_ContainsFunc_sl_impl_Trans_impl_Trans [trs l, .clo g caps] [] = some (.bool (l.any p), []) := by
  refine C_slices_ContainsFunc_sl_impl_Trans_impl_Trans ?_
  simp (maxSteps := 2000000) (disch := (first | omega | (simp only [lenS]; first | done | omega))) only [ir_slices_ContainsFunc_sl_impl_Trans_impl_Trans, go_sem, Nat.reduceAdd, Nat.reduceEqDiff, Nat.reduceLeDiff, Nat.reduceSub]
  simp (maxSteps := 2000000) (disch := (first | omega | (simp only [lenS]; first | done | omega))) only [go_sem, Nat.reduceAdd, Nat.reduceEqDiff, Nat.reduceLeDiff, Nat.reduceSub, hc, hcv, slices_IndexFunc_sl_impl_Trans_impl_Trans_ok l g caps hc hcv p hp hl]
  have := idxI_any l p
  grind
theorem impl_GoodNet_ok (n : Net) (hn : smN n) : C f_impl_GoodNet [encN n] [] = some (.bool (goodN n), []) := by
  have h0 := hn.1
  refine C_impl_GoodNet ?_
  simp (maxSteps := 2000000) (disch := (first | omega | (simp only [lenS]; first | done | omega))) only [ir_impl_GoodNet, go_sem, Nat.reduceAdd, Nat.reduceEqDiff, Nat.reduceLeDiff, Nat.reduceSub]
  simp (maxSteps := 2000000) (disch := (first | omega | (simp only [lenS]; first | done | omega))) only [go_sem, Nat.reduceAdd, Nat.reduceEqDiff, Nat.reduceLeDiff, Nat.reduceSub, impl_within_ok]
  refine ⟨fun h => ⟨fun h2 => ?_, fun h2 => ?_⟩, fun h => by simp [goodN, h]⟩
  · have hb : 1 ≤ n.pl ∧ n.pl ≤ 16 := by simpa [inB] using h
    have h3 := slices_ContainsFunc_sl_impl_Trans_impl_Trans_ok n.tr f_impl_GoodNet_1 [.pv (encN n) 0] rfl (fun _ _ => rfl) (fun t => !goodT n.pl t) (fun x hx => impl_GoodNet_1_ok n x hb (hn.2 x hx)) (by omega)
    simp (maxSteps := 2000000) (disch := (first | omega | (simp only [lenS]; first | done | omega))) only [go_sem, Nat.reduceAdd, Nat.reduceEqDiff, Nat.reduceLeDiff, Nat.reduceSub, h3]
    have : (n.tr.any fun t => !goodT n.pl t) = !n.tr.all (goodT n.pl) := by rw [List.any_eq_not_all_not]; simp
    have h4 : n.tr.length ≤ 24 := by omega
    simp only [this]
    simp [goodN, h, h4]
  · have : ¬ n.tr.length ≤ 24 := by omega
    simp [goodN, this]
theorem impl_reachedFrom_1_ok (x : Int) (P : List Bool) (h : 0 ≤ x ∧ x.toNat < P.length) : C f_impl_reachedFrom_1 [I x, .pv (.agg [bls P]) 0] [] = some (.bool (P.getD x.toNat false), []) := by
  obtain ⟨h1, h2⟩ := h
  refine C_impl_reachedFrom_1 ?_
  simp (maxSteps := 2000000) (disch := (first | omega | (simp only [lenS]; first | done | omega))) only [ir_impl_reachedFrom_1, go_sem, Nat.reduceAdd, Nat.reduceEqDiff, Nat.reduceLeDiff, Nat.reduceSub]
  rw [getD_eq h2]
  grind
theorem slices_IndexFunc_sl_int_int_ok (l : List Int) (g : FuncId) (caps : List PV) (hc : refsL caps = []) (hcv : ∀ m h, viewLWith [] m h caps = some caps) (p : Int → Bool) (hp : ∀ x ∈ l, C g (I x :: caps) [] = some (.bool (p x), [])) (hl : l.length < 2^62) :
    C f_slices_IndexFunc_sl_int_int [ints l, .clo g caps] [] = some (I (idxI l p), []) := by
  refine C_slices_IndexFunc_sl_int_int ?_
  simp (maxSteps := 2000000) (disch := (first | omega | (simp only [lenS]; first | done | omega))) only [ir_slices_IndexFunc_sl_int_int, go_sem, Nat.reduceAdd, Nat.reduceEqDiff, Nat.reduceLeDiff, Nat.reduceSub]
  refine W_for l.length (fun k s => s = ⟨[ints l, .clo g caps, .any, .any, I l.length, I k, .any, .any], []⟩ ∧ (l.take k).any p = false) ?_ ?_ ?_
  · simp (maxSteps := 2000000) (disch := (first | omega | (simp only [lenS]; first | done | omega))) only [go_sem, Nat.reduceAdd, Nat.reduceEqDiff, Nat.reduceLeDiff, Nat.reduceSub, hc]
    rfl
  · rintro k s hk ⟨rfl, hall⟩
    simp (maxSteps := 2000000) (disch := (first | omega | (simp only [lenS]; first | done | omega))) only [go_sem, Nat.reduceAdd, Nat.reduceEqDiff, Nat.reduceLeDiff, Nat.reduceSub, hc, hcv, hp _ (List.getElem_mem hk)]
    exact ⟨fun h => by rw [idxI_some hk hall h], fun h => ⟨rfl, any_take hk hall h⟩⟩
  · rintro s ⟨rfl, hall⟩
    simp (maxSteps := 2000000) (disch := (first | omega | (simp only [lenS]; first | done | omega))) only [go_sem, Nat.reduceAdd, Nat.reduceEqDiff, Nat.reduceLeDiff, Nat.reduceSub]
    rw [List.take_length] at hall
    rw [idxI_none hall]
theorem slices_ContainsFunc_sl_int_int_ok (l : List Int) (g : FuncId) (caps : List PV) (hc : refsL caps = []) (hcv : ∀ m h, viewLWith [] m h caps = some caps) (p : Int → Bool) (hp : ∀ x ∈ l, C g (I x :: caps) [] = some (.bool (p x), [])) (hl : l.length < 2^62) :
    C f_slices_ContainsFunc_sl_int_int [ints l, .clo g caps] [] = some (.bool (l.any p), []) := by
  refine C_slices_ContainsFunc_sl_int_int ?_
  simp (maxSteps := 2000000) (disch := (first | omega | (simp only [lenS]; first | done | omega))) only [ir_slices_ContainsFunc_sl_int_int, go_sem, Nat.reduceAdd, Nat.reduceEqDiff, Nat.reduceLeDiff, Nat.reduceSub]
  simp (maxSteps := 2000000) (disch := (first | omega | (simp only [lenS]; first | done | omega))) only [go_sem, Nat.reduceAdd, Nat.reduceEqDiff, Nat.reduceLeDiff, Nat.reduceSub, hc, hcv, slices_IndexFunc_sl_int_int_ok l g caps hc hcv p hp hl]
  have := idxI_any l p
  grind
end Go.Proofs.YtoimodnlefadhaaGreat.Pi
