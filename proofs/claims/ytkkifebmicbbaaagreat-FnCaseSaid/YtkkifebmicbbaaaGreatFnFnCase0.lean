/- The functions that the law reaches: what they answer. Conditions: those that each theorem names. -/
import Derived.Test.YtkkifebmicbbaaaGreatIrFnCase
import Derived.Test.YtkkifebmicbbaaaGreatPlFnCase
namespace Go.Proofs.YtkkifebmicbbaaaGreat.Pi
open Go
set_option linter.all false
open Nat (reduceAdd reduceEqDiff reduceLeDiff reduceSub)
set_option maxHeartbeats 4000000
set_option maxRecDepth 20000
/-- Lengths, all at once. -/
theorem lenS : (∀ {α : Type} (a b : List α), (a ++ b).length = a.length + b.length) ∧ (∀ {α : Type} (n : Nat) (l : List α), (l.take n).length = min n l.length) ∧ (∀ {α : Type} (n : Nat) (x : α), (List.replicate n x).length = n) ∧ (∀ {α β : Type} (f : α → β) (l : List α), (l.map f).length = l.length) ∧ (∀ {α : Type} (l : List α) (n : Nat) (x : α), (l.set n x).length = l.length) ∧ (∀ {α : Type} (x : α) (l : List α), (x :: l).length = l.length + 1) ∧ (∀ {α : Type}, ([] : List α).length = 0) ∧ (∀ {α β γ : Type} (f : α → β → γ) (a : List α) (b : List β), (List.zipWith f a b).length = min a.length b.length) ∧ (∀ {α : Type} (n : Nat) (l : List α), (l.drop n).length = l.length - n) ∧ (∀ (n : Nat), (List.range n).length = n) :=
  ⟨fun _ _ => List.length_append, fun _ _ => List.length_take, fun _ _ => List.length_replicate, fun _ _ => List.length_map _, fun _ _ _ => List.length_set, fun _ _ => List.length_cons, List.length_nil, fun _ _ _ => List.length_zipWith, fun _ _ => List.length_drop, fun _ => List.length_range⟩
theorem wfi (a b : List Int) : C w8k [bys a, bys b] [] = some (.bool (decide (1048576 < (a.length : Int)) || decide (1048576 - (a.length : Int) < b.length)), []) := by
  refine w1j ?_
  simp (maxSteps := 2000000) (disch := first | omega | (simp only [lenS]; try omega)) only [wdn, go_sem, reduceAdd, reduceEqDiff, reduceLeDiff, reduceSub]
  refine ⟨fun h => by simp [h], fun h => ?_⟩
  simp (maxSteps := 2000000) (disch := first | omega | (simp only [lenS]; try omega)) only [go_sem, reduceAdd, reduceEqDiff, reduceLeDiff, reduceSub]
  grind
theorem wgs (bs : List Int) (at_ sd : Int) (h0 : 0 ≤ at_) (h1 : at_ < 2^62) (hl : bs.length < 2^62) (hb : ∀ x ∈ bs, 0 ≤ x ∧ x < 256) :
    Lw (C w9s [.ptr 0 0] [.box wht [bys bs, I at_, .int .u64 sd]]) fun r => ∃ x sd', r = (I x, [.box wht [bys bs, I (at_ + 1), .int .u64 sd']]) ∧ 0 ≤ x ∧ x < 256 := by
  refine w36 ?_
  simp (maxSteps := 2000000) (disch := first | omega | (simp only [lenS]; try omega)) only [weu, go_sem, reduceAdd, reduceEqDiff, reduceLeDiff, reduceSub]
  refine ⟨fun h => ?_, fun h => ?_⟩
  · have h2 : at_.toNat < bs.length := by omega
    have h3 := hb _ (List.getElem_mem h2)
    simp (maxSteps := 2000000) (disch := first | omega | (simp only [lenS]; try omega)) only [go_sem, reduceAdd, reduceEqDiff, reduceLeDiff, reduceSub]
    exact ⟨_, _, rfl, h3⟩
  · refine ⟨fun _ => ⟨_, _, rfl, by omega, by omega⟩, fun _ => ?_⟩
    generalize hw : IntKind.u64.wrap (IntKind.u64.wrap (IntKind.u64.wrap (sd * 6364136223846793005) + IntKind.u64.wrap 0) + 1442695040888963407) = w
    have hb := z1bb (IntKind.u64.wrap (IntKind.u64.wrap (sd * 6364136223846793005) + IntKind.u64.wrap 0) + 1442695040888963407)
    rw [hw] at hb
    have h3 := z2u (x := w / 2 ^ min (Int.toNat 40) 64) (Int.ediv_nonneg hb.1 (by decide)) (Int.lt_of_le_of_lt (Int.ediv_le_self _ hb.1) hb.2)
    rw [wrap_i64 (by omega) (by omega)]
    exact ⟨_, _, rfl, h3⟩
theorem wgu (n : Int) (bs : List Int) (at_ sd : Int) (h0 : 0 ≤ at_) (h1 : at_ < 2^61) (hl : bs.length < 2^62) (hb : ∀ x ∈ bs, 0 ≤ x ∧ x < 256) :
    Lw (C w9u [.ptr 0 0, I n] [.box wht [bys bs, I at_, .int .u64 sd]]) fun r => ∃ x at' sd', r = (I x, [.box wht [bys bs, I at', .int .u64 sd']]) ∧ at_ ≤ at' ∧ at' ≤ at_ + 2 ∧ 0 ≤ x ∧ (x = 0 ∨ x < n) := by
  refine w38 ?_
  simp (maxSteps := 2000000) (disch := first | omega | (simp only [lenS]; try omega)) only [wew, go_sem, reduceAdd, reduceEqDiff, reduceLeDiff, reduceSub]
  refine ⟨fun h => ⟨_, _, _, rfl, by omega, by omega, by omega, by omega⟩, fun h => ?_⟩
  obtain ⟨_, e1, x1, s1, rfl, h3, h4⟩ := wgs bs at_ sd h0 (by omega) hl hb
  obtain ⟨_, e2, x2, s2, rfl, h5, h6⟩ := wgs bs (at_ + 1) s1 (by omega) (by omega) hl hb
  simp (maxSteps := 2000000) (disch := first | omega | (simp only [lenS]; try omega)) only [go_sem, reduceAdd, reduceEqDiff, reduceLeDiff, reduceSub, e1, e2]
  refine ⟨fun _ => ⟨_, _, _, rfl, by omega, by omega, Int.tmod_nonneg _ (by omega), .inr (Int.tmod_lt_of_pos _ (by omega))⟩, fun _ => ⟨_, _, _, rfl, by omega, by omega, Int.tmod_nonneg _ (by omega), .inr (Int.tmod_lt_of_pos _ (by omega))⟩⟩
theorem wgy (a b : List Int) (j s : Int) (bs : List Int) (at_ sd : Int) (h0 : 0 ≤ at_) (h1 : at_ < 2^59) (hl : bs.length < 2^62) (hb : ∀ x ∈ bs, 0 ≤ x ∧ x < 256) :
    Lw (C w9y [.ptr 0 0, .ref 1 1 0 a.length, .ref 2 1 0 b.length, I j, I s] [.box wht [bys bs, I at_, .int .u64 sd], .row t_int true 1 (a.map I), .row t_int true 1 (b.map I)]) fun r => ∃ (ro at' sd' : Int), r = (.agg [I j, I s, .ref 1 1 0 a.length, .ref 2 1 0 b.length, .nil true 1, .nil true 1, I ro], [.box wht [bys bs, I at', .int .u64 sd'], .row t_int true 1 (a.map I), .row t_int true 1 (b.map I)]) ∧ at_ ≤ at' ∧ at' ≤ at_ + 2 := by
  obtain ⟨_, e1, x1, a1, s1, rfl, h3, h4, h5, h6⟩ := wgu 3 bs at_ sd h0 (by omega) hl hb
  refine w3c ?_
  simp (maxSteps := 2000000) (disch := first | omega | (simp only [lenS]; try omega)) only [wf2, go_sem, reduceAdd, reduceEqDiff, reduceLeDiff, reduceSub]
  simp (maxSteps := 2000000) (disch := first | omega | (simp only [lenS]; try omega)) only [go_sem, reduceAdd, reduceEqDiff, reduceLeDiff, reduceSub, e1]
  exact ⟨x1, a1, s1, rfl, by omega, by omega⟩
theorem wgw (bs : List Int) (at_ sd : Int) (h0 : 0 ≤ at_) (h1 : at_ < 2^58) (hl : bs.length < 2^62) (hb : ∀ x ∈ bs, 0 ≤ x ∧ x < 256) :
    Lw (C w9w [.ptr 0 0] [.box wht [bys bs, I at_, .int .u64 sd]]) fun r => ∃ (s : Spc) (at' sd' : Int), r = (.agg [I s.conds, .un whn false 7 (s.tasks.map encK)], [.box wht [bys bs, I at', .int .u64 sd']]) ∧ at_ ≤ at' ∧ at' ≤ at_ + 20 ∧ (1 ≤ s.tasks.length ∧ s.tasks.length ≤ 4) ∧ (0 ≤ s.conds ∧ s.conds ≤ 10) ∧ smk 2 s.tasks := by
  obtain ⟨_, e1, x1, a1, s1, rfl, h3, h4, h5, h6⟩ := wgu 5 bs at_ sd h0 (by omega) hl hb
  have tk : ∀ (a b : List Int) (j s a0 s0 : Int), at_ ≤ a0 → a0 ≤ at_ + 18 → ∃ (ro a' s' : Int), C w9y [.ptr 0 0, .ref 1 1 0 a.length, .ref 2 1 0 b.length, I j, I s] [.box wht [bys bs, I a0, .int .u64 s0], .row t_int true 1 (a.map I), .row t_int true 1 (b.map I)] = some (.agg [I j, I s, .ref 1 1 0 a.length, .ref 2 1 0 b.length, .nil true 1, .nil true 1, I ro], [.box wht [bys bs, I a', .int .u64 s'], .row t_int true 1 (a.map I), .row t_int true 1 (b.map I)]) ∧ a0 ≤ a' ∧ a' ≤ a0 + 2 := by
    intro a b j s a0 s0 g1 g2
    obtain ⟨_, f1, ro, a', s', rfl, g3, g4⟩ := wgy a b j s bs a0 s0 (by omega) (by omega) hl hb
    exact ⟨ro, a', s', f1, g3, g4⟩
  refine w3a ?_
  simp (maxSteps := 2000000) (disch := first | omega | (simp only [lenS]; try omega)) only [wey, go_sem, reduceAdd, reduceEqDiff, reduceLeDiff, reduceSub]
  simp (maxSteps := 2000000) (disch := first | omega | (simp only [lenS]; try omega)) only [go_sem, reduceAdd, reduceEqDiff, reduceLeDiff, reduceSub, e1]
  refine ⟨fun hx => ?_, fun _ => ⟨fun hx => ?_, fun _ => ⟨fun hx => ?_, fun _ => ⟨fun hx => ?_, fun hx => ?_⟩⟩⟩⟩
  · obtain ⟨r2, a2, s2, e2, g2, g2'⟩ := tk [0] [2] 1 1 a1 s1 (by omega) (by omega)
    obtain ⟨r3, a3, s3, e3, g3, g3'⟩ := tk [2] [1] 1 1 a2 s2 (by omega) (by omega)
    simp only [List.map_cons, List.map_nil, List.length_cons, List.length_nil, Nat.reduceAdd] at e2 e3
    simp (maxSteps := 2000000) (disch := first | omega | (simp only [lenS]; try omega)) only [go_sem, reduceAdd, reduceEqDiff, reduceLeDiff, reduceSub, e2, e3]
    repeat (refine ⟨by decide, ?_⟩)
    exact ⟨⟨3, [⟨1, 1, [0], [2], [], [], r2⟩, ⟨1, 1, [2], [1], [], [], r3⟩]⟩, a3, s3, rfl, by omega, by omega, by simp, by simp, z177 (by simp) (z177 (by simp) (z179))⟩
  · obtain ⟨r2, a2, s2, e2, g2, g2'⟩ := tk [0] [2, 3] 1 1 a1 s1 (by omega) (by omega)
    obtain ⟨r3, a3, s3, e3, g3, g3'⟩ := tk [2] [4] 1 1 a2 s2 (by omega) (by omega)
    obtain ⟨r4, a4, s4, e4, g4, g4'⟩ := tk [3] [5] 2 2 a3 s3 (by omega) (by omega)
    obtain ⟨r5, a5, s5, e5, g5, g5'⟩ := tk [4, 5] [1] 1 1 a4 s4 (by omega) (by omega)
    simp only [List.map_cons, List.map_nil, List.length_cons, List.length_nil, Nat.reduceAdd] at e2 e3 e4 e5
    simp (maxSteps := 2000000) (disch := first | omega | (simp only [lenS]; try omega)) only [go_sem, reduceAdd, reduceEqDiff, reduceLeDiff, reduceSub, e2, e3, e4, e5]
    repeat (refine ⟨by decide, ?_⟩)
    exact ⟨⟨6, [⟨1, 1, [0], [2, 3], [], [], r2⟩, ⟨1, 1, [2], [4], [], [], r3⟩, ⟨2, 2, [3], [5], [], [], r4⟩, ⟨1, 1, [4, 5], [1], [], [], r5⟩]⟩, a5, s5, rfl, by omega, by omega, by simp, by simp, z177 (by simp) (z177 (by simp) (z177 (by simp) (z177 (by simp) (z179))))⟩
  · obtain ⟨r2, a2, s2, e2, g2, g2'⟩ := tk [0] [2, 3] 2 2 a1 s1 (by omega) (by omega)
    obtain ⟨r3, a3, s3, e3, g3, g3'⟩ := tk [2, 3] [1] 2 1 a2 s2 (by omega) (by omega)
    simp only [List.map_cons, List.map_nil, List.length_cons, List.length_nil, Nat.reduceAdd] at e2 e3
    simp (maxSteps := 2000000) (disch := first | omega | (simp only [lenS]; try omega)) only [go_sem, reduceAdd, reduceEqDiff, reduceLeDiff, reduceSub, e2, e3]
    repeat (refine ⟨by decide, ?_⟩)
    exact ⟨⟨4, [⟨2, 2, [0], [2, 3], [], [], r2⟩, ⟨2, 1, [2, 3], [1], [], [], r3⟩]⟩, a3, s3, rfl, by omega, by omega, by simp, by simp, z177 (by simp) (z177 (by simp) (z179))⟩
  · obtain ⟨r2, a2, s2, e2, g2, g2'⟩ := tk [0] [2] 1 1 a1 s1 (by omega) (by omega)
    obtain ⟨r3, a3, s3, e3, g3, g3'⟩ := tk [2, 3] [1, 3] 2 2 a2 s2 (by omega) (by omega)
    simp only [List.map_cons, List.map_nil, List.length_cons, List.length_nil, Nat.reduceAdd] at e2 e3
    simp (maxSteps := 2000000) (disch := first | omega | (simp only [lenS]; try omega)) only [go_sem, reduceAdd, reduceEqDiff, reduceLeDiff, reduceSub, e2, e3]
    repeat (refine ⟨by decide, ?_⟩)
    exact ⟨⟨4, [⟨1, 1, [0], [2], [], [], r2⟩, ⟨2, 2, [2, 3], [1, 3], [], [], r3⟩]⟩, a3, s3, rfl, by omega, by omega, by simp, by simp, z177 (by simp) (z177 (by simp) (z179))⟩
  · obtain ⟨r2, a2, s2, e2, g2, g2'⟩ := tk [0] [2, 3] 1 1 a1 s1 (by omega) (by omega)
    obtain ⟨r3, a3, s3, e3, g3, g3'⟩ := tk [2] [1] 1 1 a2 s2 (by omega) (by omega)
    obtain ⟨r4, a4, s4, e4, g4, g4'⟩ := tk [3] [1, 3] 1 2 a3 s3 (by omega) (by omega)
    simp only [List.map_cons, List.map_nil, List.length_cons, List.length_nil, Nat.reduceAdd] at e2 e3 e4
    simp (maxSteps := 2000000) (disch := first | omega | (simp only [lenS]; try omega)) only [go_sem, reduceAdd, reduceEqDiff, reduceLeDiff, reduceSub, e2, e3, e4, List.getElem_cons_succ, List.getElem_cons_zero, List.set_cons_succ, List.set_cons_zero, show Int.toNat 1 = 1 from rfl, show Int.toNat 2 = 2 from rfl]
    repeat (refine ⟨by decide, ?_⟩)
    exact ⟨⟨4, [⟨1, 1, [0], [2, 3], [], [], r2⟩, ⟨1, 1, [2], [1], [3], [2], r3⟩, ⟨1, 2, [3], [1, 3], [2], [1], r4⟩]⟩, a4, s4, rfl, by omega, by omega, by simp, by simp, z177 (by simp) (z177 (by simp) (z177 (by simp) (z179)))⟩
theorem wh3 (l : List Int) (x : Int) (hl : l.length < 2^30) : Lw (C wa3 [.ref 0 1 0 l.length, I x] [.row t_int true 1 (l.map I)]) fun r => r = (.un t_int true 1 ((putI l x).map I), [.row t_int true 1 (l.map I)]) ∨ (r = (.ref 0 1 0 l.length, [.row t_int true 1 (l.map I)]) ∧ putI l x = l) := by
  refine w3d ?_
  simp (maxSteps := 2000000) (disch := first | omega | (simp only [lenS]; try omega)) only [wf7, go_sem, reduceAdd, reduceEqDiff, reduceLeDiff, reduceSub]
  refine W_for l.length (fun k s => s = ⟨[.ref 0 1 0 l.length, I x, .any, I k, .any, .any, .any], [.row t_int true 1 (l.map I)]⟩ ∧ (l.take k).all (fun y => decide (y < x)) = true) ?_ ?_ ?_
  · simp (maxSteps := 2000000) (disch := first | omega | (simp only [lenS]; try omega)) only [go_sem, reduceAdd, reduceEqDiff, reduceLeDiff, reduceSub]
    rfl
  · rintro k s hk ⟨rfl, hall⟩
    simp (maxSteps := 2000000) (disch := first | omega | (simp only [lenS]; try omega)) only [go_sem, reduceAdd, reduceEqDiff, reduceLeDiff, reduceSub]
    refine ⟨fun h => ⟨rfl, z2s hk hall (by simpa using h)⟩, fun h => ⟨fun h2 => .inr (zzc hk hall h2), fun h2 => .inl ?_⟩⟩
    rw [zzd hall (fun _ => by omega) (by omega)]
    simp
  · rintro s ⟨rfl, hall⟩
    simp (maxSteps := 2000000) (disch := first | omega | (simp only [lenS]; try omega)) only [go_sem, reduceAdd, reduceEqDiff, reduceLeDiff, reduceSub]
    have e := zzd hall (fun h => by omega) (by omega)
    refine ⟨fun h => .inl ?_, fun h => .inl ?_⟩
    · rw [e]; simp
    · have : l = [] := List.eq_nil_of_length_eq_zero (by omega)
      subst this; rfl
theorem wgv (n least most : Int) (hlm : 0 ≤ least ∧ least ≤ most ∧ most ≤ 20) (bs : List Int) (at_ sd : Int) (h0 : 0 ≤ at_) (h1 : at_ < 2^60) (hl : bs.length < 2^62) (hb : ∀ x ∈ bs, 0 ≤ x ∧ x < 256) :
    Lw (C w9v [.ptr 0 0, I n, I least, I most] [.box wht [bys bs, I at_, .int .u64 sd]]) fun r => ∃ (l : List Int) (at' sd' : Int), r = (.un t_int true 1 (l.map I), [.box wht [bys bs, I at', .int .u64 sd']]) ∧ at_ ≤ at' ∧ at' ≤ at_ + 50 ∧ l.length ≤ 20 ∧ ∀ x ∈ l, 0 ≤ x ∧ (x = 0 ∨ x < n) := by
  refine w39 ?_
  simp (maxSteps := 2000000) (disch := first | omega | (simp only [lenS]; try omega)) only [wex, go_sem, reduceAdd, reduceEqDiff, reduceLeDiff, reduceSub]
  obtain ⟨_, e1, x1, a1, s1, rfl, h3, h4, h5, h6⟩ := wgu (most - least + 1) bs at_ sd h0 (by omega) hl hb
  simp (maxSteps := 2000000) (disch := first | omega | (simp only [lenS]; try omega)) only [go_sem, reduceAdd, reduceEqDiff, reduceLeDiff, reduceSub, e1]
  refine W_for (least + x1).toNat (fun k s => ∃ (l : List Int) (at' sd' : Int), s = ⟨[.ptr 0 0, I n, .any, .any, .any, .ref 1 1 0 l.length, I (least + x1 - k), .any], [.box wht [bys bs, I at', .int .u64 sd'], .row t_int true 1 (l.map I)]⟩ ∧ l.length ≤ k ∧ at_ ≤ at' ∧ at' ≤ at_ + 2 + 2 * k ∧ ∀ x ∈ l, 0 ≤ x ∧ (x = 0 ∨ x < n)) ?_ ?_ ?_
  · refine ⟨[], a1, s1, ?_, by simp, by omega, by omega, by simp⟩
    simp (maxSteps := 2000000) (disch := first | omega | (simp only [lenS]; try omega)) only [go_sem, reduceAdd, reduceEqDiff, reduceLeDiff, reduceSub]
    rw [show least + x1 - ((0 : Nat) : Int) = least + x1 by omega]
  · rintro k s hk ⟨l, a, sd, rfl, h7, h8, h9, h10⟩
    obtain ⟨_, e2, x2, a2, s2, rfl, h11, h12, h13, h14⟩ := wgu n bs a sd (by omega) (by omega) hl hb
    have e : least + x1 - ((k + 1 : Nat) : Int) = least + x1 - k - 1 := by omega
    obtain ⟨_, e3, rfl | ⟨rfl, e4⟩⟩ := wh3 l x2 (by omega)
    · simp (maxSteps := 2000000) (disch := first | omega | (simp only [lenS]; try omega)) only [go_sem, reduceAdd, reduceEqDiff, reduceLeDiff, reduceSub, e2, e3]
      have := zze l x2
      refine ⟨putI l x2, a2, s2, by rw [e], by omega, by omega, by omega, fun y hy => ?_⟩
      rcases zzf hy with hy | rfl
      · exact h10 y hy
      · exact ⟨h13, h14⟩
    · simp (maxSteps := 2000000) (disch := first | omega | (simp only [lenS]; try omega)) only [go_sem, reduceAdd, reduceEqDiff, reduceLeDiff, reduceSub, e2, e3]
      exact ⟨l, a2, s2, by rw [e], by omega, by omega, by omega, h10⟩
  · rintro s ⟨l, a, sd, rfl, h7, h8, h9, h10⟩
    simp (maxSteps := 2000000) (disch := first | omega | (simp only [lenS]; try omega)) only [go_sem, reduceAdd, reduceEqDiff, reduceLeDiff, reduceSub]
    exact ⟨l, a, sd, rfl, by omega, by omega, by omega, h10⟩
theorem wgt (n : Int) (bs : List Int) (at_ sd : Int) (h0 : 0 ≤ at_) (h1 : at_ < 2^61) (hl : bs.length < 2^62) (hb : ∀ x ∈ bs, 0 ≤ x ∧ x < 256) :
    Lw (C w9t [.ptr 0 0, I n] [.box wht [bys bs, I at_, .int .u64 sd]]) fun r => ∃ x at' sd', r = (.bool x, [.box wht [bys bs, I at', .int .u64 sd']]) ∧ at_ ≤ at' ∧ at' ≤ at_ + 2 := by
  refine w37 ?_
  simp (maxSteps := 2000000) (disch := first | omega | (simp only [lenS]; try omega)) only [wev, go_sem, reduceAdd, reduceEqDiff, reduceLeDiff, reduceSub]
  obtain ⟨_, e1, x1, a1, s1, rfl, h3, h4, h5⟩ := wgu n bs at_ sd h0 h1 hl hb
  simp (maxSteps := 2000000) (disch := first | omega | (simp only [lenS]; try omega)) only [go_sem, reduceAdd, reduceEqDiff, reduceLeDiff, reduceSub, e1]
  exact ⟨fun _ => ⟨_, _, _, rfl, h3, h4⟩, fun _ => ⟨_, _, _, rfl, h3, h4⟩⟩
theorem wgq (l : List Int) (t : TypeId) (hne : 0 < l.length) (hln : l.length < 2^30) (bs : List Int) (at_ sd : Int) (h0 : 0 ≤ at_) (h1 : at_ < 2^61) (hl : bs.length < 2^62) (hb : ∀ x ∈ bs, 0 ≤ x ∧ x < 256) :
    Lw (C w9q [.ptr 0 0, .ref 1 1 0 l.length] [.box wht [bys bs, I at_, .int .u64 sd], .row t true 1 (l.map I)]) fun r => ∃ x at' sd', r = (I x, [.box wht [bys bs, I at', .int .u64 sd'], .row t true 1 (l.map I)]) ∧ at_ ≤ at' ∧ at' ≤ at_ + 2 ∧ x ∈ l := by
  refine w34 ?_
  simp (maxSteps := 2000000) (disch := first | omega | (simp only [lenS]; try omega)) only [wes, go_sem, reduceAdd, reduceEqDiff, reduceLeDiff, reduceSub]
  obtain ⟨_, e1, x1, a1, s1, rfl, h3, h4, h5, h6⟩ := wgu l.length bs at_ sd h0 h1 hl hb
  have h7 : x1.toNat < l.length := by omega
  simp (maxSteps := 2000000) (disch := first | omega | (simp only [lenS]; try omega)) only [go_sem, reduceAdd, reduceEqDiff, reduceLeDiff, reduceSub, e1]
  exact ⟨_, _, _, rfl, h3, h4, List.getElem_mem h7⟩
theorem wh4 (l : List Int) (x : Int) (hl : l.length < 2^30) : Lw (C wa3 [ints l, I x] []) fun r => r = (.un t_int true 1 ((putI l x).map I), []) ∨ (r = (ints l, []) ∧ putI l x = l) := by
  refine w3d ?_
  simp (maxSteps := 2000000) (disch := first | omega | (simp only [lenS]; try omega)) only [wf7, go_sem, reduceAdd, reduceEqDiff, reduceLeDiff, reduceSub]
  refine W_for l.length (fun k s => s = ⟨[ints l, I x, .any, I k, .any, .any, .any], []⟩ ∧ (l.take k).all (fun y => decide (y < x)) = true) ?_ ?_ ?_
  · simp (maxSteps := 2000000) (disch := first | omega | (simp only [lenS]; try omega)) only [go_sem, reduceAdd, reduceEqDiff, reduceLeDiff, reduceSub]
    rfl
  · rintro k s hk ⟨rfl, hall⟩
    simp (maxSteps := 2000000) (disch := first | omega | (simp only [lenS]; try omega)) only [go_sem, reduceAdd, reduceEqDiff, reduceLeDiff, reduceSub]
    refine ⟨fun h => ⟨rfl, z2s hk hall (by simpa using h)⟩, fun h => ⟨fun h2 => .inr (zzc hk hall h2), fun h2 => .inl ?_⟩⟩
    rw [zzd hall (fun _ => by omega) (by omega)]
    simp
  · rintro s ⟨rfl, hall⟩
    simp (maxSteps := 2000000) (disch := first | omega | (simp only [lenS]; try omega)) only [go_sem, reduceAdd, reduceEqDiff, reduceLeDiff, reduceSub]
    have e := zzd hall (fun h => by omega) (by omega)
    refine .inl ?_
    rw [e]; simp
theorem wgx (bs : List Int) (at_ sd : Int) (h0 : 0 ≤ at_) (h1 : at_ < 2^57) (hl : bs.length < 2^62) (hb : ∀ x ∈ bs, 0 ≤ x ∧ x < 256) :
    Lw (C w9x [.ptr 0 0] [.box wht [bys bs, I at_, .int .u64 sd]]) fun r => ∃ (s : Spc) (at' sd' : Int), r = (.agg [I s.conds, .un whn false 7 (s.tasks.map encK)], [.box wht [bys bs, I at', .int .u64 sd']]) ∧ at_ ≤ at' ∧ at' ≤ at_ + 200 ∧ drS s := by
  obtain ⟨_, e1, S, a1, s1, rfl, h3, h4, h5, h6, h7⟩ := wgw bs at_ sd h0 (by omega) hl hb
  obtain ⟨_, e2, x2, a2, s2, rfl, g3, g4, g5, g6⟩ := wgu S.tasks.length bs a1 s1 (by omega) (by omega) hl hb
  obtain ⟨_, e3, x3, a3, s3, rfl, k3, k4, k5, k6⟩ := wgu 10 bs a2 s2 (by omega) (by omega) hl hb
  have hx2 : x2.toNat < S.tasks.length := by omega
  have hq := h7 _ (List.getElem_mem hx2)
  have h8 : smk 20 S.tasks := z178 (by decide) h7
  have fin : ∀ (a sd : Int), a3 ≤ a → a ≤ a3 + 150 → ∃ (b : Bool) (z : Int) (a' s' a'' s'' : Int), C w9t [.ptr 0 0, I 40] [.box wht [bys bs, I a, .int .u64 sd]] = some (.bool b, [.box wht [bys bs, I a', .int .u64 s']]) ∧ C w9q [.ptr 0 0, .ref 1 1 0 3] [.box wht [bys bs, I a', .int .u64 s'], .row t_int true 1 [I 1, I 8, I 9]] = some (I z, [.box wht [bys bs, I a'', .int .u64 s''], .row t_int true 1 [I 1, I 8, I 9]]) ∧ a ≤ a' ∧ a' ≤ a + 2 ∧ a' ≤ a'' ∧ a'' ≤ a' + 2 ∧ 0 ≤ z ∧ z ≤ 9 := by
    intro a sd ha1 ha2
    obtain ⟨_, f1, b, a', s', rfl, j1, j2⟩ := wgt 40 bs a sd (by omega) (by omega) hl hb
    obtain ⟨_, f2, z, a'', s'', rfl, j3, j4, j5⟩ := wgq [1, 8, 9] t_int (by decide) (by decide) bs a' s' (by omega) (by omega) hl hb
    simp only [List.mem_cons, List.not_mem_nil, or_false] at j5
    exact ⟨b, z, a', s', a'', s'', f1, f2, j1, j2, j3, j4, by omega, by omega⟩
  have cl : ∀ (T : List Tk) (X : List PV) (c a s : Int), X = T.map encK → at_ ≤ a → a ≤ at_ + 200 → T.length = S.tasks.length → 0 ≤ c → c ≤ 20 → smk 20 T → ∃ (s' : Spc) (at' sd' : Int), ((.agg [I c, .un whn false 7 X], [.box wht [bys bs, I a, .int .u64 s]]) : PV × List Blk) = (.agg [I s'.conds, .un whn false 7 (s'.tasks.map encK)], [.box wht [bys bs, I at', .int .u64 sd']]) ∧ at_ ≤ at' ∧ at' ≤ at_ + 200 ∧ drS s' := by
    intro T X c a s hX h1 h2 h3 h4 h5 h6
    subst hX
    exact ⟨⟨c, T⟩, a, s, rfl, h1, h2, ⟨by simp only; omega, by simp only; omega, h6⟩⟩
  refine w3b ?_
  simp (maxSteps := 2000000) (disch := first | omega | (simp only [lenS]; try omega)) only [wez, go_sem, reduceAdd, reduceEqDiff, reduceLeDiff, reduceSub]
  simp (maxSteps := 2000000) (disch := first | omega | (simp only [lenS]; try omega)) only [go_sem, reduceAdd, reduceEqDiff, reduceLeDiff, reduceSub, e1, e2, e3]
  refine ⟨fun hx => ?_, fun _ => ⟨fun hx => ?_, fun _ => ⟨fun hx => ?_, fun _ => ⟨fun hx => ?_, fun _ => ⟨fun hx => ?_, fun _ => ⟨fun hx => ?_, fun _ => ?_⟩⟩⟩⟩⟩⟩
  · obtain ⟨_, f5, x5, a5, s5, rfl, j1, j2, j3, j4⟩ := wgu 3 bs a3 s3 (by omega) (by omega) hl hb
    obtain ⟨b, z, a', s', a'', s'', t1, t2, t3, t4, t5, t6, t7, t8⟩ := fin a5 s5 (by omega) (by omega)
    simp (maxSteps := 2000000) (disch := first | omega | (simp only [lenS]; try omega)) only [go_sem, reduceAdd, reduceEqDiff, reduceLeDiff, reduceSub, f5, t1, t2]
    exact ⟨fun _ => cl (S.tasks.set x2.toNat ⟨S.tasks[x2.toNat].join, 1 + x5, S.tasks[x2.toNat].inn, S.tasks[x2.toNat].out, S.tasks[x2.toNat].cut, S.tasks[x2.toNat].stop, S.tasks[x2.toNat].role⟩) _ z a'' s'' (by simp [List.map_set]; try rfl) (by omega) (by omega) (by simp) (by omega) (by omega) (z17a h8 (by simp only [List.length_cons, List.length_nil]; omega)), fun _ => cl (S.tasks.set x2.toNat ⟨S.tasks[x2.toNat].join, 1 + x5, S.tasks[x2.toNat].inn, S.tasks[x2.toNat].out, S.tasks[x2.toNat].cut, S.tasks[x2.toNat].stop, S.tasks[x2.toNat].role⟩) _ S.conds a' s' (by simp [List.map_set]; try rfl) (by omega) (by omega) (by simp) (by omega) (by omega) (z17a h8 (by simp only [List.length_cons, List.length_nil]; omega))⟩
  · obtain ⟨_, f5, x5, a5, s5, rfl, j1, j2, j3, j4⟩ := wgu 2 bs a3 s3 (by omega) (by omega) hl hb
    obtain ⟨b, z, a', s', a'', s'', t1, t2, t3, t4, t5, t6, t7, t8⟩ := fin a5 s5 (by omega) (by omega)
    simp (maxSteps := 2000000) (disch := first | omega | (simp only [lenS]; try omega)) only [go_sem, reduceAdd, reduceEqDiff, reduceLeDiff, reduceSub, f5, t1, t2]
    exact ⟨fun _ => cl (S.tasks.set x2.toNat ⟨1 + x5, S.tasks[x2.toNat].split, S.tasks[x2.toNat].inn, S.tasks[x2.toNat].out, S.tasks[x2.toNat].cut, S.tasks[x2.toNat].stop, S.tasks[x2.toNat].role⟩) _ z a'' s'' (by simp [List.map_set]; try rfl) (by omega) (by omega) (by simp) (by omega) (by omega) (z17a h8 (by simp only [List.length_cons, List.length_nil]; omega)), fun _ => cl (S.tasks.set x2.toNat ⟨1 + x5, S.tasks[x2.toNat].split, S.tasks[x2.toNat].inn, S.tasks[x2.toNat].out, S.tasks[x2.toNat].cut, S.tasks[x2.toNat].stop, S.tasks[x2.toNat].role⟩) _ S.conds a' s' (by simp [List.map_set]; try rfl) (by omega) (by omega) (by simp) (by omega) (by omega) (z17a h8 (by simp only [List.length_cons, List.length_nil]; omega))⟩
  · obtain ⟨_, f5, x5, a5, s5, rfl, j1, j2, j3, j4⟩ := wgu S.conds bs a3 s3 (by omega) (by omega) hl hb
    obtain ⟨b, z, a', s', a'', s'', t1, t2, t3, t4, t5, t6, t7, t8⟩ := fin a5 s5 (by omega) (by omega)
    have hpl := zze S.tasks[x2.toNat].out x5
    obtain ⟨_, f6, rfl | ⟨rfl, f7⟩⟩ := wh4 S.tasks[x2.toNat].out x5 (by omega)
    · simp (maxSteps := 2000000) (disch := first | omega | (simp only [lenS]; try omega)) only [go_sem, reduceAdd, reduceEqDiff, reduceLeDiff, reduceSub, f5, f6, t1, t2]
      refine ⟨rfl, ?_⟩
      exact ⟨fun _ => cl (S.tasks.set x2.toNat ⟨S.tasks[x2.toNat].join, S.tasks[x2.toNat].split, S.tasks[x2.toNat].inn, putI S.tasks[x2.toNat].out x5, S.tasks[x2.toNat].cut, S.tasks[x2.toNat].stop, S.tasks[x2.toNat].role⟩) _ z a'' s'' (by simp [List.map_set]; try rfl) (by omega) (by omega) (by simp) (by omega) (by omega) (z17a h8 (by simp only [List.length_cons, List.length_nil]; omega)), fun _ => cl (S.tasks.set x2.toNat ⟨S.tasks[x2.toNat].join, S.tasks[x2.toNat].split, S.tasks[x2.toNat].inn, putI S.tasks[x2.toNat].out x5, S.tasks[x2.toNat].cut, S.tasks[x2.toNat].stop, S.tasks[x2.toNat].role⟩) _ S.conds a' s' (by simp [List.map_set]; try rfl) (by omega) (by omega) (by simp) (by omega) (by omega) (z17a h8 (by simp only [List.length_cons, List.length_nil]; omega))⟩
    · simp (maxSteps := 2000000) (disch := first | omega | (simp only [lenS]; try omega)) only [go_sem, reduceAdd, reduceEqDiff, reduceLeDiff, reduceSub, f5, f6, t1, t2]
      refine ⟨rfl, ?_⟩
      exact ⟨fun _ => cl (S.tasks.set x2.toNat ⟨S.tasks[x2.toNat].join, S.tasks[x2.toNat].split, S.tasks[x2.toNat].inn, S.tasks[x2.toNat].out, S.tasks[x2.toNat].cut, S.tasks[x2.toNat].stop, S.tasks[x2.toNat].role⟩) _ z a'' s'' (by simp [List.map_set]; try rfl) (by omega) (by omega) (by simp) (by omega) (by omega) (z17a h8 (by simp only [List.length_cons, List.length_nil]; omega)), fun _ => cl (S.tasks.set x2.toNat ⟨S.tasks[x2.toNat].join, S.tasks[x2.toNat].split, S.tasks[x2.toNat].inn, S.tasks[x2.toNat].out, S.tasks[x2.toNat].cut, S.tasks[x2.toNat].stop, S.tasks[x2.toNat].role⟩) _ S.conds a' s' (by simp [List.map_set]; try rfl) (by omega) (by omega) (by simp) (by omega) (by omega) (z17a h8 (by simp only [List.length_cons, List.length_nil]; omega))⟩
  · obtain ⟨_, f5, x5, a5, s5, rfl, j1, j2, j3, j4⟩ := wgu S.conds bs a3 s3 (by omega) (by omega) hl hb
    obtain ⟨b, z, a', s', a'', s'', t1, t2, t3, t4, t5, t6, t7, t8⟩ := fin a5 s5 (by omega) (by omega)
    have hpl := zze S.tasks[x2.toNat].inn x5
    obtain ⟨_, f6, rfl | ⟨rfl, f7⟩⟩ := wh4 S.tasks[x2.toNat].inn x5 (by omega)
    · simp (maxSteps := 2000000) (disch := first | omega | (simp only [lenS]; try omega)) only [go_sem, reduceAdd, reduceEqDiff, reduceLeDiff, reduceSub, f5, f6, t1, t2]
      refine ⟨rfl, ?_⟩
      exact ⟨fun _ => cl (S.tasks.set x2.toNat ⟨S.tasks[x2.toNat].join, S.tasks[x2.toNat].split, putI S.tasks[x2.toNat].inn x5, S.tasks[x2.toNat].out, S.tasks[x2.toNat].cut, S.tasks[x2.toNat].stop, S.tasks[x2.toNat].role⟩) _ z a'' s'' (by simp [List.map_set]; try rfl) (by omega) (by omega) (by simp) (by omega) (by omega) (z17a h8 (by simp only [List.length_cons, List.length_nil]; omega)), fun _ => cl (S.tasks.set x2.toNat ⟨S.tasks[x2.toNat].join, S.tasks[x2.toNat].split, putI S.tasks[x2.toNat].inn x5, S.tasks[x2.toNat].out, S.tasks[x2.toNat].cut, S.tasks[x2.toNat].stop, S.tasks[x2.toNat].role⟩) _ S.conds a' s' (by simp [List.map_set]; try rfl) (by omega) (by omega) (by simp) (by omega) (by omega) (z17a h8 (by simp only [List.length_cons, List.length_nil]; omega))⟩
    · simp (maxSteps := 2000000) (disch := first | omega | (simp only [lenS]; try omega)) only [go_sem, reduceAdd, reduceEqDiff, reduceLeDiff, reduceSub, f5, f6, t1, t2]
      refine ⟨rfl, ?_⟩
      exact ⟨fun _ => cl (S.tasks.set x2.toNat ⟨S.tasks[x2.toNat].join, S.tasks[x2.toNat].split, S.tasks[x2.toNat].inn, S.tasks[x2.toNat].out, S.tasks[x2.toNat].cut, S.tasks[x2.toNat].stop, S.tasks[x2.toNat].role⟩) _ z a'' s'' (by simp [List.map_set]; try rfl) (by omega) (by omega) (by simp) (by omega) (by omega) (z17a h8 (by simp only [List.length_cons, List.length_nil]; omega)), fun _ => cl (S.tasks.set x2.toNat ⟨S.tasks[x2.toNat].join, S.tasks[x2.toNat].split, S.tasks[x2.toNat].inn, S.tasks[x2.toNat].out, S.tasks[x2.toNat].cut, S.tasks[x2.toNat].stop, S.tasks[x2.toNat].role⟩) _ S.conds a' s' (by simp [List.map_set]; try rfl) (by omega) (by omega) (by simp) (by omega) (by omega) (z17a h8 (by simp only [List.length_cons, List.length_nil]; omega))⟩
  · obtain ⟨_, f5, l5, a5, s5, rfl, j1, j2, j3, j4⟩ := wgv S.conds 0 2 (by omega) bs a3 s3 (by omega) (by omega) hl hb
    obtain ⟨b, z, a', s', a'', s'', t1, t2, t3, t4, t5, t6, t7, t8⟩ := fin a5 s5 (by omega) (by omega)
    simp (maxSteps := 2000000) (disch := first | omega | (simp only [lenS]; try omega)) only [go_sem, reduceAdd, reduceEqDiff, reduceLeDiff, reduceSub, f5, t1, t2]
    exact ⟨fun _ => cl (S.tasks.set x2.toNat ⟨S.tasks[x2.toNat].join, S.tasks[x2.toNat].split, S.tasks[x2.toNat].inn, S.tasks[x2.toNat].out, l5, S.tasks[x2.toNat].stop, S.tasks[x2.toNat].role⟩) _ z a'' s'' (by simp [List.map_set]; try rfl) (by omega) (by omega) (by simp) (by omega) (by omega) (z17a h8 (by simp only [List.length_cons, List.length_nil]; omega)), fun _ => cl (S.tasks.set x2.toNat ⟨S.tasks[x2.toNat].join, S.tasks[x2.toNat].split, S.tasks[x2.toNat].inn, S.tasks[x2.toNat].out, l5, S.tasks[x2.toNat].stop, S.tasks[x2.toNat].role⟩) _ S.conds a' s' (by simp [List.map_set]; try rfl) (by omega) (by omega) (by simp) (by omega) (by omega) (z17a h8 (by simp only [List.length_cons, List.length_nil]; omega))⟩
  · obtain ⟨_, f5, x5, a5, s5, rfl, j1, j2, j3, j4⟩ := wgu S.tasks.length bs a3 s3 (by omega) (by omega) hl hb
    obtain ⟨b, z, a', s', a'', s'', t1, t2, t3, t4, t5, t6, t7, t8⟩ := fin a5 s5 (by omega) (by omega)
    simp (maxSteps := 2000000) (disch := first | omega | (simp only [lenS]; try omega)) only [go_sem, reduceAdd, reduceEqDiff, reduceLeDiff, reduceSub, f5, t1, t2]
    exact ⟨fun _ => cl (S.tasks.set x2.toNat ⟨S.tasks[x2.toNat].join, S.tasks[x2.toNat].split, S.tasks[x2.toNat].inn, S.tasks[x2.toNat].out, S.tasks[x2.toNat].cut, [x5], S.tasks[x2.toNat].role⟩) _ z a'' s'' (by simp [List.map_set]; try rfl) (by omega) (by omega) (by simp) (by omega) (by omega) (z17a h8 (by simp only [List.length_cons, List.length_nil]; omega)), fun _ => cl (S.tasks.set x2.toNat ⟨S.tasks[x2.toNat].join, S.tasks[x2.toNat].split, S.tasks[x2.toNat].inn, S.tasks[x2.toNat].out, S.tasks[x2.toNat].cut, [x5], S.tasks[x2.toNat].role⟩) _ S.conds a' s' (by simp [List.map_set]; try rfl) (by omega) (by omega) (by simp) (by omega) (by omega) (z17a h8 (by simp only [List.length_cons, List.length_nil]; omega))⟩
  · obtain ⟨b, z, a', s', a'', s'', t1, t2, t3, t4, t5, t6, t7, t8⟩ := fin a3 s3 (by omega) (by omega)
    simp (maxSteps := 2000000) (disch := first | omega | (simp only [lenS]; try omega)) only [go_sem, reduceAdd, reduceEqDiff, reduceLeDiff, reduceSub, t1, t2]
    exact ⟨fun _ => cl S.tasks _ z a'' s'' (by simp [List.map_set]; try rfl) (by omega) (by omega) (by simp) (by omega) (by omega) h8, fun _ => cl S.tasks _ S.conds a' s' (by simp [List.map_set]; try rfl) (by omega) (by omega) (by simp) (by omega) (by omega) h8⟩
theorem wh0 (n lo hi : Int) : C wa0 [I n, I lo, I hi] [] = some (.bool (inB lo hi n), []) := by
  refine w2l ?_
  simp (maxSteps := 2000000) (disch := first | omega | (simp only [lenS]; try omega)) only [wf4, go_sem, reduceAdd, reduceEqDiff, reduceLeDiff, reduceSub]
  unfold inB; grind
theorem wgz (l : List Int) (x : Int) (hl : l.length < 2^62) : C w9z [ints l, I x] [] = some (.bool (hasB l x), []) := by
  refine w2k ?_
  simp (maxSteps := 2000000) (disch := first | omega | (simp only [lenS]; try omega)) only [wf3, go_sem, reduceAdd, reduceEqDiff, reduceLeDiff, reduceSub]
  refine W_for l.length (fun k s => s = ⟨[.any, I x, .any, .any, ints l, I l.length, I k, .any, .any], []⟩ ∧ (l.take k).any (fun y => y == x) = false) ?_ ?_ ?_
  · simp (maxSteps := 2000000) (disch := first | omega | (simp only [lenS]; try omega)) only [go_sem, reduceAdd, reduceEqDiff, reduceLeDiff, reduceSub]
    rfl
  · rintro k s hk ⟨rfl, hall⟩
    simp (maxSteps := 2000000) (disch := first | omega | (simp only [lenS]; try omega)) only [go_sem, reduceAdd, reduceEqDiff, reduceLeDiff, reduceSub]
    refine ⟨fun h => ?_, fun h => ⟨rfl, z37 hk hall (by simpa using h)⟩⟩
    rw [zi0 hk h]
  · rintro s ⟨rfl, hall⟩
    simp (maxSteps := 2000000) (disch := first | omega | (simp only [lenS]; try omega)) only [go_sem, reduceAdd, reduceEqDiff, reduceLeDiff, reduceSub]
    rw [List.take_length] at hall
    rw [zhz hall]
theorem wh5 (l : List Int) (lo hi : Int) (hl : l.length < 2^62) : C wa4 [ints l, I lo, I hi] [] = some (.bool (incr l && l.all (inB lo hi)), []) := by
  refine w2o ?_
  simp (maxSteps := 2000000) (disch := first | omega | (simp only [lenS]; try omega)) only [wf8, go_sem, reduceAdd, reduceEqDiff, reduceLeDiff, reduceSub]
  refine W_for l.length (fun k s => s = ⟨[ints l, I lo, I hi, .any, .any, .any, ints l, I l.length, I k, .any, .any], []⟩ ∧ (l.take k).Pairwise (· < ·) ∧ (l.take k).all (inB lo hi) = true) ?_ ?_ ?_
  · simp (maxSteps := 2000000) (disch := first | omega | (simp only [lenS]; try omega)) only [go_sem, reduceAdd, reduceEqDiff, reduceLeDiff, reduceSub]
    exact ⟨rfl, List.Pairwise.nil⟩
  · rintro k s hk ⟨rfl, hp, hall⟩
    simp (maxSteps := 2000000) (disch := first | omega | (simp only [lenS]; try omega)) only [go_sem, reduceAdd, reduceEqDiff, reduceLeDiff, reduceSub, wh0]
    refine ⟨fun h => ⟨fun h2 => ?_, fun h2 => ?_⟩, fun h => by rw [z2r hk h]; simp⟩
    · simp (maxSteps := 2000000) (disch := first | omega | (simp only [lenS]; try omega)) only [go_sem, reduceAdd, reduceEqDiff, reduceLeDiff, reduceSub]
      obtain ⟨j, rfl⟩ : ∃ j, k = j + 1 := ⟨k - 1, by omega⟩
      have e : (((j + 1 : Nat) : Int) - 1).toNat = j := by omega
      refine ⟨fun h3 => ?_, fun h3 => ⟨rfl, ?_, z2s hk hall h⟩⟩
      · rw [zkh hk (by simp only [e] at h3; omega)]; rfl
      · exact zkk hk hp (by simp only [e] at h3; omega)
    · obtain rfl : k = 0 := by omega
      exact ⟨rfl, zki, z2s hk hall h⟩
  · rintro s ⟨rfl, hp, hall⟩
    simp (maxSteps := 2000000) (disch := first | omega | (simp only [lenS]; try omega)) only [go_sem, reduceAdd, reduceEqDiff, reduceLeDiff, reduceSub]
    rw [List.take_length] at hp hall
    rw [hall, show incr l = true by simpa [incr] using hp]
    rfl
theorem wgl (s : Spc) (k : Nat) (hk : k < s.tasks.length) (hl : s.tasks.length ≤ 6) (hc : 2 ≤ s.conds ∧ s.conds ≤ 8) (ht : smTk s.tasks[k]) : C w9l [encS s, I k] [] = some (.bool (goodK s k s.tasks[k]), []) := by
  obtain ⟨a, b, c, d⟩ := ht
  refine w2f ?_
  simp (maxSteps := 2000000) (disch := first | omega | (simp only [lenS]; try omega)) only [wen, go_sem, reduceAdd, reduceEqDiff, reduceLeDiff, reduceSub]
  unfold goodK
  generalize hT : s.tasks[k] = t at *
  simp (maxSteps := 2000000) (disch := first | omega | (simp only [lenS]; try omega)) only [go_sem, reduceAdd, reduceEqDiff, reduceLeDiff, reduceSub, hT, wh0, wh5, wgz]
  generalize t.inn.all (inB 0 (s.conds - 1)) = q1
  generalize t.out.all (inB 0 (s.conds - 1)) = q2
  generalize t.cut.all (inB 2 (s.conds - 1)) = q3
  generalize t.stop.all (inB 0 ((s.tasks.length : Int) - 1)) = q4
  (repeat' (first | apply And.intro | intro _)) <;> simp_all
theorem wh1 (l : List Int) (h : l.length < 2^36) : C wa1 [ints l] [] = some (.un t_int true 1 (l.map I), []) := by
  refine w2m ?_
  simp (maxSteps := 2000000) (disch := first | omega | (simp only [lenS]; try omega)) only [wf5, go_sem, reduceAdd, reduceEqDiff, reduceLeDiff, reduceSub]
theorem wh6 (l : List Int) (h : ∀ p ∈ l, 0 ≤ p ∧ p < 30) (hi : incr l = true) (hl : l.length < 2^30) : C wa5 [I (maskN l)] [] = some (.un t_int true 1 (l.map I), []) := by
  have hp : l.Pairwise (· < ·) := by simpa [incr] using hi
  have h0 : ∀ p ∈ l, 0 ≤ p := fun p hp => (h p hp).1
  have hm : maskN l < 2 ^ 30 := zpw (q := 30) h
  refine w2p ?_
  simp (maxSteps := 2000000) (disch := first | omega | (simp only [lenS]; try omega)) only [wf9, go_sem, reduceAdd, reduceEqDiff, reduceLeDiff, reduceSub]
  refine z1a (fun j s => ∃ k : Nat, j + k = 40 ∧ k ≤ 31 ∧ s = ⟨[I (maskN l), .any, .ref 0 1 0 (below l k).length, I k, .any, .any], [.row t_int true 1 ((below l k).map I)]⟩) 40 ?_ ?_
  · refine ⟨0, rfl, by omega, ?_⟩
    rw [z5b h0]
    simp (maxSteps := 2000000) (disch := first | omega | (simp only [lenS]; try omega)) only [go_sem, reduceAdd, reduceEqDiff, reduceLeDiff, reduceSub]
    rfl
  · rintro j s ⟨k, hj, hk, rfl⟩
    have hbl := z59 l k
    have e1 : ((maskN l : Nat) : Int) / 2 ^ min k 64 = ((maskN l / 2 ^ k : Nat) : Int) := by
      rw [show min k 64 = k by omega]; simp
    have e2 : maskN l / 2 ^ k < 2 ^ 62 := Nat.lt_of_le_of_lt (Nat.div_le_self _ _) (by omega)
    have e3 := z2x (a := maskN l / 2 ^ k) (b := 1) e2 (by decide)
    rw [Nat.and_one_is_mod] at e3
    have hk64 : IntKind.u64.wrap (k : Int) = k := by rw [IntKind.wrap_u64]; omega
    simp (maxSteps := 2000000) (disch := first | omega | (simp only [lenS]; try omega)) only [go_sem, reduceAdd, reduceEqDiff, reduceLeDiff, reduceSub, hk64, e1]
    have eb := zq0 h0 k
    have hone : ((1 : Nat) : Int) = 1 := rfl
    rw [hone] at e3
    refine ⟨fun hne => ?_, fun hz => ?_⟩
    · have hk30 : k < 30 := by
        rcases Nat.lt_or_ge k 30 with h5 | h5
        · exact h5
        · have h6 : maskN l / 2 ^ k = 0 := Nat.div_eq_of_lt (Nat.lt_of_lt_of_le hm (Nat.pow_le_pow_right (by decide) h5))
          omega
      refine ⟨fun h1 => ⟨j - 1, by omega, k + 1, by omega, by omega, ?_⟩, fun h1 => ⟨j - 1, by omega, k + 1, by omega, by omega, ?_⟩⟩
      · have hm1 : maskN l / 2 ^ k % 2 = 1 := by rw [e3] at h1; omega
        rw [decide_eq_true hm1] at eb
        rw [z5a hp, if_pos (by simpa [hasB] using eb), List.map_append]
        simp
      · have hm1 : ¬ maskN l / 2 ^ k % 2 = 1 := by rw [e3] at h1; omega
        rw [decide_eq_false hm1] at eb
        rw [z5a hp, if_neg (by simpa [hasB] using eb), List.append_nil]
        rfl
    · have hz2 : maskN l / 2 ^ k = 0 := by
        clear e1 e3
        generalize maskN l / 2 ^ k = z at hz
        omega
      rw [z58 (zq1 h0 k hz2)]
theorem wgk (l : List Int) (n : Nat) (hn : n < 8) (hl : 1 ≤ l.length ∧ l.length ≤ 3) (h : n < 2 ^ l.length) : C w9k [ints l, I n] [] = some (.un t_int true 1 ((someL l n).map I), []) := by
  obtain ⟨e1, e2, e3, e4, e5⟩ := z14y n hn
  have h5 := e5 l.length hl.1 hl.2 h
  have hS := wh6 (setB n) (fun p hp => by have := e3 p hp; omega) e2 (by omega)
  rw [e1] at hS
  refine w2e ?_
  simp (maxSteps := 2000000) (disch := first | omega | (simp only [lenS]; try omega)) only [wem, go_sem, reduceAdd, reduceEqDiff, reduceLeDiff, reduceSub]
  simp (maxSteps := 2000000) (disch := first | omega | (simp only [lenS]; try omega)) only [go_sem, reduceAdd, reduceEqDiff, reduceLeDiff, reduceSub, hS]
  refine W_for (setB n).length (fun i st => st = ⟨[ints l, .any, .any, .ref 0 1 0 i, .any, .ref 1 1 0 (setB n).length, I (setB n).length, I i, .any], [.row t_int true 1 (((setB n).take i).map fun p => I (at_ l p)), .row t_int true 1 ((setB n).map I)]⟩) ?_ ?_ ?_
  · simp (maxSteps := 2000000) (disch := first | omega | (simp only [lenS]; try omega)) only [go_sem, reduceAdd, reduceEqDiff, reduceLeDiff, reduceSub]
    simp
  · rintro i st hi rfl
    have h6 := h5 _ (List.getElem_mem hi)
    have h7 := e3 _ (List.getElem_mem hi)
    have e := at_eq (m := l) (p := (setB n)[i]) (by omega)
    simp (maxSteps := 2000000) (disch := first | omega | (simp only [lenS]; try omega)) only [go_sem, reduceAdd, reduceEqDiff, reduceLeDiff, reduceSub]
    rw [List.take_succ_eq_append_getElem hi, List.map_append]
    simp [e]
  · rintro st rfl
    simp (maxSteps := 2000000) (disch := first | omega | (simp only [lenS]; try omega)) only [go_sem, reduceAdd, reduceEqDiff, reduceLeDiff, reduceSub]
    simp [someL]
theorem wgj (s : Spc) (k : Nat) (hk : k < s.tasks.length) (hc : 2 ≤ s.conds ∧ s.conds ≤ 8) (ht : smTk s.tasks[k]) (h1 : s.tasks[k].cut.length ≤ 16) (h0 : s.tasks[k].stop.length ≤ 16) (h2 : ∀ x ∈ s.tasks[k].stop, 0 ≤ x ∧ x < 16) : C w9j [encS s, I k] [] = some (.un t_int true 1 ((regL s s.tasks[k]).map I), []) := by
  obtain ⟨a, b, c, d⟩ := ht
  refine w2d ?_
  simp (maxSteps := 2000000) (disch := first | omega | (simp only [lenS]; try omega)) only [wel, go_sem, reduceAdd, reduceEqDiff, reduceLeDiff, reduceSub]
  simp (maxSteps := 2000000) (disch := first | omega | (simp only [lenS]; try omega)) only [go_sem, reduceAdd, reduceEqDiff, reduceLeDiff, reduceSub, wh1]
  generalize hT : s.tasks[k] = t at *
  refine W_for t.stop.length (fun i st => st = ⟨[.any, .any, .ptr 0 0, .any, .ref 1 1 0 (t.cut.length + i), .any, ints t.stop, I t.stop.length, I i, .any], [.box whm [I s.conds, tks s.tasks], .row t_int true 1 ((t.cut ++ (t.stop.take i).map (s.conds + ·)).map I)]⟩) ?_ ?_ ?_
  · simp (maxSteps := 2000000) (disch := first | omega | (simp only [lenS]; try omega)) only [go_sem, reduceAdd, reduceEqDiff, reduceLeDiff, reduceSub]
    simp
  · rintro i st hi rfl
    have h3 := h2 _ (List.getElem_mem hi)
    have e := z10z (s := s) hi
    simp (maxSteps := 2000000) (disch := first | omega | (simp only [lenS]; try omega)) only [go_sem, reduceAdd, reduceEqDiff, reduceLeDiff, reduceSub]
    rw [e, List.map_append]
    simp
    omega
  · rintro st rfl
    simp (maxSteps := 2000000) (disch := first | omega | (simp only [lenS]; try omega)) only [go_sem, reduceAdd, reduceEqDiff, reduceLeDiff, reduceSub]
    simp [regL]
theorem wgh (s : Spc) (h : zts s = true) : C w9h [encS s] [] = some (.tup [.agg [I (s.conds + s.tasks.length), .un whp false 3 ((trS s).map encT), I 0, I 1], .un whj true 3 ((mvS s).map encM)], []) := by
  obtain ⟨hc, hn, hg⟩ := ztt h
  have shl1 : IntKind.i64.wrap (1 * 2 ^ min 1 64) = 2 := by decide
  have shl2 : IntKind.i64.wrap (1 * 2 ^ min 2 64) = 4 := by decide
  have shl3 : IntKind.i64.wrap (1 * 2 ^ min 3 64) = 8 := by decide
  have hu1 : IntKind.u64.wrap ((1 : Nat) : Int) = ((1 : Nat) : Int) := by decide
  have hu2 : IntKind.u64.wrap ((2 : Nat) : Int) = ((2 : Nat) : Int) := by decide
  have hu3 : IntKind.u64.wrap ((3 : Nat) : Int) = ((3 : Nat) : Int) := by decide
  refine w2b ?_
  simp (maxSteps := 2000000) (disch := first | omega | (simp only [lenS]; try omega)) only [wej, go_sem, reduceAdd, reduceEqDiff, reduceLeDiff, reduceSub]
  refine W_for s.tasks.length (fun k st => st = ⟨[.any, .ptr 0 0, .ptr 1 0, .any, .ptr 2 0, .ref 3 3 0 (mvU s k).length, .any, .any, .any, .any, .any, .any, .any, .any, .any, .any, .any, .any, .any, tks s.tasks, I s.tasks.length, I k, .any, .any, .any, .any, .any, .any, .any, .any, .any, .any, .any, .any, .any, .any, .any, .any, .any, .any, .any, .any, .any, .any], [.box whm [I s.conds, tks s.tasks], .box whi [I 0, .nil false 3, I 0, I 0], .box whi [I (s.conds + s.tasks.length), cellT 4 (trU s k), I 0, I 1], .row whj true 3 ((mvU s k).map encM)] ++ blkT whp (trU s k)⟩) ?_ ?_ ?_
  · simp (maxSteps := 2000000) (disch := first | omega | (simp only [lenS]; try omega)) only [go_sem, reduceAdd, reduceEqDiff, reduceLeDiff, reduceSub]
    simp [cellT, blkT, trU, mvU]
  · rintro k st hk rfl
    have hK := hg k hk
    have hl := zrq h k (by omega)
    have hlT := z1ay s k
    have hbl := z52 hK
    have hel := zc0 hK
    have hbin := z51 hK
    have hein := zbz hK
    have hRl := z10y h hk
    obtain ⟨c1, c2, c3, c4⟩ := ztu h hk
    have hreg := wgj s k hk hc c1 c2 c3 c4
    have heq := z1af hk
    rw [← heq] at hreg
    have hF : endF (tkN s k) = if (tkN s k).split = 2 then 0 else if (tkN s k).split = 3 then 1 else 0 := rfl
    rw [zrp, z1ax]
    generalize hT0 : trU s k = T at *
    generalize hU0 : mvU s k = U at *
    generalize hR0 : regL s (tkN s k) = R at *
    generalize hb0 : s.conds + (k : Int) = b at *
    have hg2 : s.tasks[k]? = some (tkN s k) := by rw [heq]; exact List.getElem?_eq_getElem hk
    have hg3 : s.tasks[k]'hk = tkN s k := heq.symm
    generalize tkN s k = t at *
    obtain ⟨hj, hs, h1, h2, -, -, -, -, -, -⟩ := zgz hK
    generalize hN : (z50 t).length = nb at *
    generalize hM : (endL t).length = ne at *
    refine' share (orc := C) (m := 0) (⟨[.any, .ptr 0 0, .ptr 1 0, .any, .ptr 2 0, .ref 3 3 0 U.length, I k, .ptr 4 0, .ref 5 1 0 1, .any, .any, .any, .any, .any, .any, .any, .any, .any, .any, tks s.tasks, I s.tasks.length, I k, .any, .any, .any, .any, .any, .any, .ref 6 1 0 nb, I nb, I 0, .any, .any, .any, .any, .any, .any, .any, .any, .any, .any, .any, .any, .any], [.box whm [I s.conds, tks s.tasks], .box whi [I 0, .nil false 3, I 0, I 0], .box whi [I (s.conds + s.tasks.length), cellT 7 T, I 0, I 1], .row whj true 3 (U.map encM), .box whn [I t.join, I t.split, ints t.inn, ints t.out, ints t.cut, ints t.stop, I t.role], .row t_int true 1 [I b], .row whs false 1 ((z50 t).map ints)] ++ blkT whp T⟩ : St) _ _ _ ?main4 ?key4
    case main4 =>
      intro key4
      have hTT : (cellT 4 T = .nil false 3 ∧ cellT 7 T = .nil false 3 ∧ blkT whp T = []) ∨ (cellT 4 T = .ref 4 3 0 T.length ∧ cellT 7 T = .ref 7 3 0 T.length ∧ blkT whp T = [.row whp false 3 (T.map encT)]) := by
        by_cases hTe : T = []
        · left; subst hTe; exact ⟨rfl, rfl, rfl⟩
        · right; exact ⟨z81 hTe, z81 hTe, z6h hTe⟩
      rcases hj with hj | hj
      · have hBl : z50 t = [t.inn] := by simp [z50, hj]
        have hN1 : nb = 1 := by rw [← hN, hBl]; rfl
        rcases hTT with ⟨q1, q2, q3⟩ | ⟨q1, q2, q3⟩
        all_goals
          simp (maxSteps := 2000000) (disch := first | omega | (simp only [lenS]; try omega)) only [go_sem, reduceAdd, reduceEqDiff, reduceLeDiff, reduceSub, hg2, hg3, hj, hb0, q1, q3]
          refine key4 _ ?_
          simp (maxSteps := 2000000) (disch := first | omega | (simp only [lenS]; try omega)) only [go_sem, reduceAdd, reduceEqDiff, reduceLeDiff, reduceSub, q2, q3]
          simp [hBl, hN1, hj]
      · have hBl : z50 t = t.inn.map fun p => [p] := by simp [z50, hj]
        have hN1 : nb = t.inn.length := by rw [← hN, hBl]; simp
        rcases hTT with ⟨q1, q2, q3⟩ | ⟨q1, q2, q3⟩
        all_goals
          simp (maxSteps := 2000000) (disch := first | omega | (simp only [lenS]; try omega)) only [go_sem, reduceAdd, reduceEqDiff, reduceLeDiff, reduceSub, hg2, hg3, hj, hb0, q1, q3]
          refine W_for nb (fun i st => st = ⟨[.any, .ptr 0 0, .ptr 1 0, .any, .ptr 2 0, .ref 3 3 0 U.length, I k, .ptr 4 0, .ref 5 1 0 1, .ref 6 1 0 i, .any, .any, .any, .any, .any, .any, .any, .any, .any, tks s.tasks, I s.tasks.length, I k, .any, .any, ints t.inn, I nb, I i, .any, .any, .any, .any, .any, .any, .any, .any, .any, .any, .any, .any, .any, .any, .any, .any, .any], [.box whm [I s.conds, tks s.tasks], .box whi [I 0, .nil false 3, I 0, I 0], .box whi [I (s.conds + s.tasks.length), cellT 7 T, I 0, I 1], .row whj true 3 (U.map encM), .box whn [I t.join, I t.split, ints t.inn, ints t.out, ints t.cut, ints t.stop, I t.role], .row t_int true 1 [I b], .row whs false 1 ((t.inn.take i).map fun p => ints [p])] ++ blkT whp T⟩) ?_ ?_ ?_
          · simp (maxSteps := 2000000) (disch := first | omega | (simp only [lenS]; try omega)) only [go_sem, reduceAdd, reduceEqDiff, reduceLeDiff, reduceSub, q2, q3]
            simp [hN1, hj]
          · rintro i st hi rfl
            simp (maxSteps := 2000000) (disch := first | omega | (simp only [lenS]; try omega)) only [go_sem, reduceAdd, reduceEqDiff, reduceLeDiff, reduceSub, q2, q3]
            rw [List.take_succ_eq_append_getElem (by omega), List.map_append]
            simp
          · rintro st rfl
            simp (maxSteps := 2000000) (disch := first | omega | (simp only [lenS]; try omega)) only [go_sem, reduceAdd, reduceEqDiff, reduceLeDiff, reduceSub, q2, q3]
            refine key4 _ ?_
            simp (maxSteps := 2000000) (disch := first | omega | (simp only [lenS]; try omega)) only [go_sem, reduceAdd, reduceEqDiff, reduceLeDiff, reduceSub, q2, q3]
            simp [hBl, hN1]
    case key4 =>
      intro st0 hst
      have hOb : C wa1 [.sl true 1 [I b]] [] = some (.un t_int true 1 [I b], []) := wh1 [b] (by simp)
      have hT8 : ∀ (l : List Tr), (l = [] ∧ cellT 7 l = .nil false 3 ∧ blkT whp l = []) ∨ (cellT 7 l = .ref 7 3 0 l.length ∧ blkT whp l = [.row whp false 3 (l.map encT)]) := by
        intro l
        by_cases hTe : l = []
        · left; subst hTe; exact ⟨rfl, rfl, rfl⟩
        · right; exact ⟨z81 hTe, z6h hTe⟩
      refine W_for nb (fun i st => st = ⟨[.any, .ptr 0 0, .ptr 1 0, .any, .ptr 2 0, .ref 3 3 0 (U.length + i), I k, .ptr 4 0, .ref 5 1 0 1, .any, .any, .any, .any, .any, .any, .any, .any, .any, .any, tks s.tasks, I s.tasks.length, I k, .any, .any, .any, .any, .any, .any, .ref 6 1 0 nb, I nb, I i, .any, .any, .any, .any, .any, .any, .any, .any, .any, .any, .any, .any, .any], [.box whm [I s.conds, tks s.tasks], .box whi [I 0, .nil false 3, I 0, I 0], .box whi [I (s.conds + s.tasks.length), cellT 7 (T ++ layB b ((z50 t).take i)), I 0, I 1], .row whj true 3 ((U ++ mvB k i).map encM), .box whn [I t.join, I t.split, ints t.inn, ints t.out, ints t.cut, ints t.stop, I t.role], .row t_int true 1 [I b], .row whs false 1 ((z50 t).map ints)] ++ blkT whp (T ++ layB b ((z50 t).take i))⟩) ?_ ?_ ?_
      · rw [hst]
        simp [mvB, layB]
      · rintro i st hi rfl
        have e1 := zrh k i
        have e2 := zmh (b := b) (l := z50 t) (i := i) (by omega)
        have e3 := zmi (b := b) (l := z50 t) (i := i) (by omega)
        have e4 := hbin _ (List.getElem_mem (show i < (z50 t).length by omega))
        have hlen : (T ++ layB b ((z50 t).take i)).length = T.length + i := by rw [List.length_append, e2]
        have hne : T ++ layB b ((z50 t).take i) ++ [⟨(z50 t)[i], [b], []⟩] ≠ [] := by simp
        have q5 := z81 (b := 7) hne
        have q6 := z6h (t := whp) hne
        rw [e3, ← List.append_assoc, q5, q6, zri]
        generalize T ++ layB b ((z50 t).take i) = L at *
        rcases hT8 L with ⟨hL, q1, q2⟩ | ⟨q1, q2⟩
        · subst hL
          simp (maxSteps := 2000000) (disch := first | omega | (simp only [lenS]; try omega)) only [go_sem, reduceAdd, reduceEqDiff, reduceLeDiff, reduceSub, q1, q2, e1, wh1, hOb]
          refine ⟨rfl, ?_⟩
          simp
          omega
        · simp (maxSteps := 2000000) (disch := first | omega | (simp only [lenS]; try omega)) only [go_sem, reduceAdd, reduceEqDiff, reduceLeDiff, reduceSub, q1, q2, e1, hlen, wh1, hOb]
          refine ⟨rfl, ?_⟩
          simp
          omega
      · rintro st rfl
        have e1 := zrh k nb
        have e2 := zmh (b := b) (l := z50 t) (i := nb) (by omega)
        have e3 : (z50 t).take nb = z50 t := by rw [← hN]; simp
        rw [e3] at e2
        have hlen : (T ++ layB b (z50 t)).length = T.length + nb := by rw [List.length_append, e2]
        have hVlen : (U ++ mvB k nb).length = U.length + nb := by rw [List.length_append, e1]
        rw [e3]
        have hYne : T ++ layB b (z50 t) ≠ [] := by intro e; rw [e] at hlen; simp at hlen; omega
        rw [z81 hYne, z6h hYne, ← hVlen]
        generalize hY0 : T ++ layB b (z50 t) = Y at *
        generalize hV0 : U ++ mvB k nb = V at *
        refine' share (orc := C) (m := 0) (⟨[.any, .ptr 0 0, .ptr 1 0, .any, .ptr 2 0, .ref 3 3 0 V.length, I k, .any, .ref 4 1 0 1, .any, .any, .any, .any, .any, I (endF t), .any, .any, .any, .any, tks s.tasks, I s.tasks.length, I k, .any, .any, .any, .any, .any, .any, .any, .any, .any, .any, .any, .any, .any, .any, .any, .any, .any, .any, .ref 5 1 0 ne, I ne, I 0, .any], [.box whm [I s.conds, tks s.tasks], .box whi [I 0, .nil false 3, I 0, I 0], .box whi [I (s.conds + s.tasks.length), .ref 6 3 0 Y.length, I 0, I 1], .row whj true 3 (V.map encM), .row t_int true 1 [I b], .row whs false 1 ((endL t).map ints), .row whp false 3 (Y.map encT)]⟩ : St) _ _ _ ?main11 ?key11
        case main11 =>
          intro key11
          rcases hs with hs | hs | hs
          · have hF0 : endF t = 0 := by simpa [hs] using hF
            have hEl : endL t = [t.out] := by simp [endL, hs]
            have hM1 : ne = 1 := by rw [← hM, hEl]; rfl
            simp (maxSteps := 2000000) (disch := first | omega | (simp only [lenS]; try omega)) only [go_sem, reduceAdd, reduceEqDiff, reduceLeDiff, reduceSub, hs]
            refine key11 _ ?_
            simp (maxSteps := 2000000) (disch := first | omega | (simp only [lenS]; try omega)) only [go_sem, reduceAdd, reduceEqDiff, reduceLeDiff, reduceSub]
            simp [hEl, hF0, hM1]
          · have hF0 : endF t = 0 := by simpa [hs] using hF
            have hEl : endL t = t.out.map fun p => [p] := by simp [endL, hs]
            have hM1 : ne = t.out.length := by rw [← hM, hEl]; simp
            simp (maxSteps := 2000000) (disch := first | omega | (simp only [lenS]; try omega)) only [go_sem, reduceAdd, reduceEqDiff, reduceLeDiff, reduceSub, hs]
            refine W_for ne (fun i st => st = ⟨[.any, .ptr 0 0, .ptr 1 0, .any, .ptr 2 0, .ref 3 3 0 V.length, I k, .any, .ref 4 1 0 1, .any, .any, .any, .any, .ref 5 1 0 i, I 0, .any, .any, .any, .any, tks s.tasks, I s.tasks.length, I k, .any, .any, .any, .any, .any, .any, .any, .any, .any, .any, .any, .any, ints t.out, I ne, I i, .any, .any, .any, .any, .any, .any, .any], [.box whm [I s.conds, tks s.tasks], .box whi [I 0, .nil false 3, I 0, I 0], .box whi [I (s.conds + s.tasks.length), .ref 6 3 0 Y.length, I 0, I 1], .row whj true 3 (V.map encM), .row t_int true 1 [I b], .row whs false 1 ((t.out.take i).map fun p => ints [p]), .row whp false 3 (Y.map encT)]⟩) ?_ ?_ ?_
            · simp (maxSteps := 2000000) (disch := first | omega | (simp only [lenS]; try omega)) only [go_sem, reduceAdd, reduceEqDiff, reduceLeDiff, reduceSub]
              simp [hM1]
            · rintro i st hi rfl
              simp (maxSteps := 2000000) (disch := first | omega | (simp only [lenS]; try omega)) only [go_sem, reduceAdd, reduceEqDiff, reduceLeDiff, reduceSub]
              rw [List.take_succ_eq_append_getElem (by omega), List.map_append]
              simp
            · rintro st rfl
              simp (maxSteps := 2000000) (disch := first | omega | (simp only [lenS]; try omega)) only [go_sem, reduceAdd, reduceEqDiff, reduceLeDiff, reduceSub]
              refine key11 _ ?_
              simp (maxSteps := 2000000) (disch := first | omega | (simp only [lenS]; try omega)) only [go_sem, reduceAdd, reduceEqDiff, reduceLeDiff, reduceSub]
              simp [hEl, hF0, hM1]
          · have hF0 : endF t = 1 := by simpa [hs] using hF
            have hEl : endL t = (List.range (2 ^ t.out.length - 1)).map fun i => someL t.out (i + 1) := by simp [endL, hs]
            have hM1 : ne = 2 ^ t.out.length - 1 := by rw [← hM, hEl]; simp
            have hpp := zyk h2.1 h2.2
            simp (maxSteps := 2000000) (disch := first | omega | (simp only [lenS]; try omega)) only [go_sem, reduceAdd, reduceEqDiff, reduceLeDiff, reduceSub, hs]
            refine W_for ne (fun i st => st = ⟨[.any, .ptr 0 0, .ptr 1 0, .any, .ptr 2 0, .ref 3 3 0 V.length, I k, .ptr 4 0, .ref 5 1 0 1, .any, .any, .any, .any, .ref 6 1 0 i, I 1, .any, I (i + 1 : Int), .any, .any, tks s.tasks, I s.tasks.length, I k, .any, .any, .any, .any, .any, .any, .any, .any, .any, .any, .any, .any, .any, .any, .any, .any, .any, .any, .any, .any, .any, .any], [.box whm [I s.conds, tks s.tasks], .box whi [I 0, .nil false 3, I 0, I 0], .box whi [I (s.conds + s.tasks.length), .ref 7 3 0 Y.length, I 0, I 1], .row whj true 3 (V.map encM), .box whn [I t.join, I t.split, ints t.inn, ints t.out, ints t.cut, ints t.stop, I t.role], .row t_int true 1 [I b], .row whs false 1 ((List.range i).map fun (j : Nat) => ints (someL t.out (j + 1))), .row whp false 3 (Y.map encT)]⟩) ?_ ?_ ?_
            · simp (maxSteps := 2000000) (disch := first | omega | (simp only [lenS]; try omega)) only [go_sem, reduceAdd, reduceEqDiff, reduceLeDiff, reduceSub]
              simp [hs]
            · rintro i st hi rfl
              have hS := wgk t.out (i + 1) (by omega) h2 (by omega)
              rw [show ((i + 1 : Nat) : Int) = (i : Int) + 1 by omega] at hS
              have e5 : t.out.length = 1 ∨ t.out.length = 2 ∨ t.out.length = 3 := by omega
              rcases e5 with e5 | e5 | e5
              all_goals
                simp only [e5] at hM1
                simp (maxSteps := 2000000) (disch := first | omega | (simp only [lenS]; try omega)) only [go_sem, reduceAdd, reduceEqDiff, reduceLeDiff, reduceSub, e5, shl1, shl2, shl3, hu1, hu2, hu3, hS]
                simp [List.range_succ]
            · rintro st rfl
              have e5 : t.out.length = 1 ∨ t.out.length = 2 ∨ t.out.length = 3 := by omega
              rcases e5 with e5 | e5 | e5
              all_goals
                simp only [e5] at hM1
                simp (maxSteps := 2000000) (disch := first | omega | (simp only [lenS]; try omega)) only [go_sem, reduceAdd, reduceEqDiff, reduceLeDiff, reduceSub, e5, shl1, shl2, shl3, hu1, hu2, hu3]
                refine key11 _ ?_
                simp (maxSteps := 2000000) (disch := first | omega | (simp only [lenS]; try omega)) only [go_sem, reduceAdd, reduceEqDiff, reduceLeDiff, reduceSub]
                simp [hEl, hF0, hM1, e5]
        case key11 =>
          intro st0 hst
          have hOb2 : C wa1 [.sl true 1 [I b]] [] = some (.un t_int true 1 [I b], []) := wh1 [b] (by simp)
          have hF2 : 0 ≤ endF t ∧ endF t ≤ 1 := by rw [hF]; (repeat' split) <;> omega
          refine W_for ne (fun i st => st = ⟨[.any, .ptr 0 0, .ptr 1 0, .any, .ptr 2 0, .ref 3 3 0 (V.length + i), I k, .any, .ref 4 1 0 1, .any, .any, .any, .any, .any, I (endF t), .any, .any, .any, .any, tks s.tasks, I s.tasks.length, I k, .any, .any, .any, .any, .any, .any, .any, .any, .any, .any, .any, .any, .any, .any, .any, .any, .any, .any, .ref 5 1 0 ne, I ne, I i, .any], [.box whm [I s.conds, tks s.tasks], .box whi [I 0, .nil false 3, I 0, I 0], .box whi [I (s.conds + s.tasks.length), .ref 6 3 0 (Y.length + i), I 0, I 1], .row whj true 3 ((V ++ mvE k (endF t) i).map encM), .row t_int true 1 [I b], .row whs false 1 ((endL t).map ints), .row whp false 3 ((Y ++ layE b R ((endL t).take i)).map encT)]⟩) ?_ ?_ ?_
          · rw [hst]
            simp [mvE, layE]
          · rintro i st hi rfl
            have e1 := zrj k (endF t) i
            have e2 := zmj (b := b) (R := R) (l := endL t) (i := i) (by omega)
            have e3 := zmk (b := b) (R := R) (l := endL t) (i := i) (by omega)
            have e4 := hein _ (List.getElem_mem (show i < (endL t).length by omega))
            simp (maxSteps := 2000000) (disch := first | omega | (simp only [lenS]; try omega)) only [go_sem, reduceAdd, reduceEqDiff, reduceLeDiff, reduceSub, e1, e2, wh1, hOb2, hreg]
            rw [zrk, e3]
            refine ⟨rfl, ?_⟩
            simp
            omega
          · rintro st rfl
            have e1 := zrj k (endF t) ne
            have e2 := zmj (b := b) (R := R) (l := endL t) (i := ne) (by omega)
            have e3 : (endL t).take ne = endL t := by rw [← hM]; simp
            rw [e3] at e2 ⊢
            have hZne : Y ++ layE b R (endL t) ≠ [] := by simp [hYne]
            have hZl : (Y ++ layE b R (endL t)).length = Y.length + ne := by rw [List.length_append, e2]
            have hWl : (V ++ mvE k (endF t) ne).length = V.length + ne := by rw [List.length_append, e1]
            rw [z81 hZne, z6h hZne, hZl, hWl]
            generalize Y ++ layE b R (endL t) = Z at *
            generalize V ++ mvE k (endF t) ne = X at *
            simp (maxSteps := 2000000) (disch := first | omega | (simp only [lenS]; try omega)) only [go_sem, reduceAdd, reduceEqDiff, reduceLeDiff, reduceSub]
            rfl
  · rintro st rfl
    have hml := zrq h s.tasks.length (by omega)
    have htl := z1ay s s.tasks.length
    have hZne : trU s s.tasks.length ≠ [] := by intro e; rw [e] at htl; simp at htl; omega
    rw [z81 hZne, z6h hZne]
    unfold trS mvS
    simp (maxSteps := 2000000) (disch := first | omega | (simp only [lenS]; try omega)) only [go_sem, reduceAdd, reduceEqDiff, reduceLeDiff, reduceSub]
theorem wh2 (n : Int) : C wa2 [I n] [] = some (.bool (inB 1 16 n), []) := by
  refine w2n ?_
  simp (maxSteps := 2000000) (disch := first | omega | (simp only [lenS]; try omega)) only [wf6, go_sem, reduceAdd, reduceEqDiff, reduceLeDiff, reduceSub]
  simp (maxSteps := 2000000) (disch := first | omega | (simp only [lenS]; try omega)) only [go_sem, reduceAdd, reduceEqDiff, reduceLeDiff, reduceSub, wh0]
  grind
theorem wgc (n : Net) (hn : smN n) : C w9c [encN n] [] = some (.bool (goodN n), []) := by
  have h0 := hn.1
  refine w26 ?_
  simp (maxSteps := 2000000) (disch := first | omega | (simp only [lenS]; try omega)) only [wee, go_sem, reduceAdd, reduceEqDiff, reduceLeDiff, reduceSub]
  simp (maxSteps := 2000000) (disch := first | omega | (simp only [lenS]; try omega)) only [go_sem, reduceAdd, reduceEqDiff, reduceLeDiff, reduceSub, wh2]
  refine ⟨fun h => ⟨fun h2 => ?_, fun h2 => ?_⟩, fun h => by simp [goodN, h]⟩
  · have : ¬ n.tr.length ≤ 24 := by omega
    simp [goodN, this]
  have hb : 1 ≤ n.pl ∧ n.pl ≤ 16 := by simpa [inB] using h
  refine W_for n.tr.length (fun k s => s = ⟨[.any, .ptr 0 0, .any, .any, .any, trs n.tr, I n.tr.length, I k, .any, .any], [.box whk [I n.pl, trs n.tr]]⟩ ∧ (n.tr.take k).all (goodT n.pl) = true) ?_ ?_ ?_
  · simp (maxSteps := 2000000) (disch := first | omega | (simp only [lenS]; try omega)) only [go_sem, reduceAdd, reduceEqDiff, reduceLeDiff, reduceSub]
    rfl
  · rintro k s hk ⟨rfl, hall⟩
    obtain ⟨h3, h4, h5⟩ := hn.2 _ (List.getElem_mem hk)
    simp (maxSteps := 2000000) (disch := first | omega | (simp only [lenS]; try omega)) only [go_sem, reduceAdd, reduceEqDiff, reduceLeDiff, reduceSub, wh5]
    simp only [zy3]
    refine ⟨fun h6 => by rw [zh8 hk (zhi (by omega))], fun h6 => ⟨fun h7 => ⟨fun h8 => ⟨fun h9 => ⟨rfl, z2s hk hall (zhd (by omega) h7 h8 h9)⟩, fun h9 => by rw [zh8 hk (by simp [goodT, h9])]⟩, fun h8 => by rw [zh8 hk (by simp [goodT, h8])]⟩, fun h7 => by rw [zh8 hk (by simp [goodT, h7])]⟩⟩
  · rintro s ⟨rfl, hall⟩
    simp (maxSteps := 2000000) (disch := first | omega | (simp only [lenS]; try omega)) only [go_sem, reduceAdd, reduceEqDiff, reduceLeDiff, reduceSub]
    rw [List.take_length] at hall
    simp [goodN, hall, h, show n.tr.length ≤ 24 by omega]
theorem whd (n : Net) (p : Int) (hg : goodN n = true) (hp : 0 ≤ p ∧ p < n.pl) : C wac [encN n, I p] [] = some (.tup [.un whf true 1 ((zzx n false p).pl.map PV.bool), .un whf true 1 ((zzx n false p).tr.map PV.bool)], []) := by
  have hb := zha hg
  have hlen := zzz n false p
  rw [zzy] at hlen ⊢
  refine w2w ?_
  simp (maxSteps := 2000000) (disch := first | omega | (simp only [lenS]; try omega)) only [wfg, go_sem, reduceAdd, reduceEqDiff, reduceLeDiff, reduceSub]
  simp (maxSteps := 2000000) (disch := first | omega | (simp only [lenS]; try omega)) only [go_sem, reduceAdd, reduceEqDiff, reduceLeDiff, reduceSub, List.getElem_replicate]
  generalize hR : clRun n false (cntF (List.replicate n.tr.length false) + 1) ⟨(List.replicate n.pl.toNat false).set p.toNat true, List.replicate n.tr.length false, true⟩ = R at *
  refine z1a (fun k s => ∃ c : Cl, c.pl.length = n.pl.toNat ∧ c.tr.length = n.tr.length ∧ ((k = cntF c.tr + 1 ∧ s = ⟨[.any, .any, .ptr 0 0, .any, .any, .ref 1 1 0 n.pl.toNat, .ref 2 1 0 n.tr.length, .bool true, .any, .any, .any, .any, .any, .any, .any, .any, .any, .any, .any, .any, .any, .any, .any, .any, .any, .any, .any], [.box whk [I n.pl, trs n.tr], .row whf true 1 (c.pl.map PV.bool), .row whf true 1 (c.tr.map PV.bool)]⟩ ∧ clRun n false (cntF c.tr + 1) c = R) ∨ (k = 0 ∧ s = ⟨[.any, .any, .ptr 0 0, .any, .any, .ref 1 1 0 n.pl.toNat, .ref 2 1 0 n.tr.length, .bool false, .any, .any, .any, .any, .any, .any, .any, .any, .any, .any, .any, .any, .any, .any, .any, .any, .any, .any, .any], [.box whk [I n.pl, trs n.tr], .row whf true 1 (c.pl.map PV.bool), .row whf true 1 (c.tr.map PV.bool)]⟩ ∧ c = R))) (cntF (List.replicate n.tr.length false) + 1) ?_ ?_
  · refine ⟨⟨(List.replicate n.pl.toNat false).set p.toNat true, List.replicate n.tr.length false, true⟩, by simp, by simp, .inl ⟨rfl, ?_, hR⟩⟩
    simp (maxSteps := 2000000) (disch := first | omega | (simp only [lenS]; try omega)) only [go_sem, reduceAdd, reduceEqDiff, reduceLeDiff, reduceSub]
    simp
  · rintro k0 s ⟨c, hc1, hc2, ⟨rfl, rfl, hc⟩ | ⟨rfl, rfl, rfl⟩⟩
    · have hcl := fun k => z8z n false c k
      simp (maxSteps := 2000000) (disch := first | omega | (simp only [lenS]; try omega)) only [go_sem, reduceAdd, reduceEqDiff, reduceLeDiff, reduceSub]
      refine W_for n.tr.length (fun k s => s = ⟨[.any, .any, .ptr 0 0, .any, .any, .ref 1 1 0 n.pl.toNat, .ref 2 1 0 n.tr.length, .bool (clK n false c k).ch, .any, .any, .any, .any, .any, .any, trs n.tr, I n.tr.length, I k, .any, .any, .any, .any, .any, .any, .any, .any, .any, .any], [.box whk [I n.pl, trs n.tr], .row whf true 1 ((clK n false c k).pl.map PV.bool), .row whf true 1 ((clK n false c k).tr.map PV.bool)]⟩) ?_ ?_ ?_
      · simp (maxSteps := 2000000) (disch := first | omega | (simp only [lenS]; try omega)) only [go_sem, reduceAdd, reduceEqDiff, reduceLeDiff, reduceSub]
        rfl
      · rintro k s hk rfl
        have hT := hb.2.2.2 _ (List.getElem_mem hk)
        have hLs := zhf hT (by omega)
        obtain ⟨_, g1, g2, g3⟩ := zhj hT
        have p1 := zy4 g1
        have p2 := zy4 g2
        have hd := hcl k
        have hstep := z90 n false c k
        have htr : n.tr[k] = trN n k := (z1aq hk).symm
        rw [htr] at hLs p1 p2
        have s1 : (clK n false c k).tr.getD k false = true → clK n false c (k + 1) = clK n false c k := fun h => hstep.trans (z99 (.inl h))
        have s2 : hitB (clK n false c k).pl (sideI false (trN n k)) = false → clK n false c (k + 1) = clK n false c k := fun h => hstep.trans (z99 (.inr h))
        have s3 : (clK n false c k).tr.getD k false = false → hitB (clK n false c k).pl (sideI false (trN n k)) = true → clK n false c (k + 1) = ⟨markB (clK n false c k).pl (sideO false (trN n k)), (clK n false c k).tr.set k true, true⟩ := fun h h2 => hstep.trans (z9a h h2)
        simp only [sideI, sideO, Bool.false_eq_true, if_false, if_true] at s2 s3
        clear hstep
        generalize clK n false c k = d at *
        generalize clK n false c (k + 1) = d' at *
        simp (maxSteps := 2000000) (disch := first | omega | (simp only [lenS]; try omega)) only [go_sem, reduceAdd, reduceEqDiff, reduceLeDiff, reduceSub]
        simp only [htr]
        generalize trN n k = tr at *
        refine W_for tr.inn.length (fun j s => s = ⟨[.any, .any, .ptr 0 0, .any, .any, .ref 1 1 0 n.pl.toNat, .ref 2 1 0 n.tr.length, .bool d.ch, I k, .ptr 3 0, .bool ((tr.inn.take j).any fun p => d.pl.getD p.toNat false), .any, .any, .any, trs n.tr, I n.tr.length, I k, .any, ints tr.inn, I tr.inn.length, I j, .any, .any, .any, .any, .any, .any], [.box whk [I n.pl, trs n.tr], .row whf true 1 (d.pl.map PV.bool), .row whf true 1 (d.tr.map PV.bool), .box whp [ints tr.inn, ints tr.out, ints tr.rst]]⟩) ?_ ?_ ?_
        · simp (maxSteps := 2000000) (disch := first | omega | (simp only [lenS]; try omega)) only [go_sem, reduceAdd, reduceEqDiff, reduceLeDiff, reduceSub]
          rfl
        · rintro j s hj rfl
          have h1 := p1 _ (List.getElem_mem hj)
          have h2 : tr.inn[j].toNat < d.pl.length := by omega
          simp (maxSteps := 2000000) (disch := first | omega | (simp only [lenS]; try omega)) only [go_sem, reduceAdd, reduceEqDiff, reduceLeDiff, reduceSub]
          refine ⟨fun h => ?_, fun h => ⟨fun h3 => ?_, fun h3 => ?_⟩⟩
          · rw [z34 hj h]; rfl
          · rw [z32 hj (by rw [← zgj h2]; exact h3)]; rfl
          · rw [z37 hj h (by rw [← zgj h2]; exact h3)]; rfl
        · rintro s rfl
          have hkd : k < d.tr.length := by omega
          simp (maxSteps := 2000000) (disch := first | omega | (simp only [lenS]; try omega)) only [go_sem, reduceAdd, reduceEqDiff, reduceLeDiff, reduceSub, List.take_length]
          refine ⟨fun h => ⟨fun h3 => ?_, fun h3 => ?_⟩, fun h => ?_⟩
          · rw [s1 (by rw [← zgj hkd]; exact h3)]; rfl
          · have e := s3 (by rw [← zgj hkd]; exact h3) h
            subst e
            refine W_for tr.out.length (fun j s => s = ⟨[.any, .any, .ptr 0 0, .any, .any, .ref 1 1 0 n.pl.toNat, .ref 2 1 0 n.tr.length, .bool true, .any, .any, .any, .any, .any, .any, trs n.tr, I n.tr.length, I k, .any, .any, .any, .any, .any, .any, ints tr.out, I tr.out.length, I j, .any], [.box whk [I n.pl, trs n.tr], .row whf true 1 ((markB d.pl (tr.out.take j)).map PV.bool), .row whf true 1 ((d.tr.set k true).map PV.bool)]⟩) ?_ ?_ ?_
            · simp (maxSteps := 2000000) (disch := first | omega | (simp only [lenS]; try omega)) only [go_sem, reduceAdd, reduceEqDiff, reduceLeDiff, reduceSub]
              rfl
            · rintro j s hj rfl
              have h1 := p2 _ (List.getElem_mem hj)
              have h2 : tr.out[j].toNat < d.pl.length := by omega
              have h4 := zpk d.pl (tr.out.take j)
              simp (maxSteps := 2000000) (disch := first | omega | (simp only [lenS]; try omega)) only [go_sem, reduceAdd, reduceEqDiff, reduceLeDiff, reduceSub]
              rw [zpl hj]; rfl
            · rintro s rfl
              simp (maxSteps := 2000000) (disch := first | omega | (simp only [lenS]; try omega)) only [go_sem, reduceAdd, reduceEqDiff, reduceLeDiff, reduceSub, List.take_length]
              rfl
          · rw [s2 h]; rfl
      · rintro s rfl
        simp (maxSteps := 2000000) (disch := first | omega | (simp only [lenS]; try omega)) only [go_sem, reduceAdd, reduceEqDiff, reduceLeDiff, reduceSub]
        have hn := z95 (n := n) (bk := false) hc2
        rw [hc] at hn
        cases e : (z91 n false c).ch with
        | true =>
          have h1 := (z8y (n := n) (bk := false) (s := c) (k := n.tr.length) (by omega)).2 e
          simp only [e, if_true] at hn
          refine ⟨cntF (z91 n false c).tr + 1, by unfold z91; omega, z91 n false c, by unfold z91; have := hcl n.tr.length; omega, by unfold z91; have := hcl n.tr.length; omega, .inl ⟨rfl, ?_, hn.symm⟩⟩
          unfold z91 at e ⊢
          rw [e]
        | false =>
          simp only [e, Bool.false_eq_true, if_false] at hn
          refine ⟨0, by omega, z91 n false c, by unfold z91; have := hcl n.tr.length; omega, by unfold z91; have := hcl n.tr.length; omega, .inr ⟨rfl, ?_, hn.symm⟩⟩
          unfold z91 at e ⊢
          rw [e]
    · simp (maxSteps := 2000000) (disch := first | omega | (simp only [lenS]; try omega)) only [go_sem, reduceAdd, reduceEqDiff, reduceLeDiff, reduceSub]
theorem whb (n : Net) (p : Int) (hg : goodN n = true) (hp : 0 ≤ p ∧ p < n.pl) : C waa [encN n, I p] [] = some (.tup [.un whf true 1 ((zzx n true p).pl.map PV.bool), .un whf true 1 ((zzx n true p).tr.map PV.bool)], []) := by
  have hb := zha hg
  have hlen := zzz n true p
  rw [zzy] at hlen ⊢
  refine w2u ?_
  simp (maxSteps := 2000000) (disch := first | omega | (simp only [lenS]; try omega)) only [wfe, go_sem, reduceAdd, reduceEqDiff, reduceLeDiff, reduceSub]
  simp (maxSteps := 2000000) (disch := first | omega | (simp only [lenS]; try omega)) only [go_sem, reduceAdd, reduceEqDiff, reduceLeDiff, reduceSub, List.getElem_replicate]
  generalize hR : clRun n true (cntF (List.replicate n.tr.length false) + 1) ⟨(List.replicate n.pl.toNat false).set p.toNat true, List.replicate n.tr.length false, true⟩ = R at *
  refine z1a (fun k s => ∃ c : Cl, c.pl.length = n.pl.toNat ∧ c.tr.length = n.tr.length ∧ ((k = cntF c.tr + 1 ∧ s = ⟨[.any, .any, .ptr 0 0, .any, .any, .ref 1 1 0 n.pl.toNat, .ref 2 1 0 n.tr.length, .bool true, .any, .any, .any, .any, .any, .any, .any, .any, .any, .any, .any, .any, .any, .any, .any, .any, .any, .any, .any], [.box whk [I n.pl, trs n.tr], .row whf true 1 (c.pl.map PV.bool), .row whf true 1 (c.tr.map PV.bool)]⟩ ∧ clRun n true (cntF c.tr + 1) c = R) ∨ (k = 0 ∧ s = ⟨[.any, .any, .ptr 0 0, .any, .any, .ref 1 1 0 n.pl.toNat, .ref 2 1 0 n.tr.length, .bool false, .any, .any, .any, .any, .any, .any, .any, .any, .any, .any, .any, .any, .any, .any, .any, .any, .any, .any, .any], [.box whk [I n.pl, trs n.tr], .row whf true 1 (c.pl.map PV.bool), .row whf true 1 (c.tr.map PV.bool)]⟩ ∧ c = R))) (cntF (List.replicate n.tr.length false) + 1) ?_ ?_
  · refine ⟨⟨(List.replicate n.pl.toNat false).set p.toNat true, List.replicate n.tr.length false, true⟩, by simp, by simp, .inl ⟨rfl, ?_, hR⟩⟩
    simp (maxSteps := 2000000) (disch := first | omega | (simp only [lenS]; try omega)) only [go_sem, reduceAdd, reduceEqDiff, reduceLeDiff, reduceSub]
    simp
  · rintro k0 s ⟨c, hc1, hc2, ⟨rfl, rfl, hc⟩ | ⟨rfl, rfl, rfl⟩⟩
    · have hcl := fun k => z8z n true c k
      simp (maxSteps := 2000000) (disch := first | omega | (simp only [lenS]; try omega)) only [go_sem, reduceAdd, reduceEqDiff, reduceLeDiff, reduceSub]
      refine W_for n.tr.length (fun k s => s = ⟨[.any, .any, .ptr 0 0, .any, .any, .ref 1 1 0 n.pl.toNat, .ref 2 1 0 n.tr.length, .bool (clK n true c k).ch, .any, .any, .any, .any, .any, .any, trs n.tr, I n.tr.length, I k, .any, .any, .any, .any, .any, .any, .any, .any, .any, .any], [.box whk [I n.pl, trs n.tr], .row whf true 1 ((clK n true c k).pl.map PV.bool), .row whf true 1 ((clK n true c k).tr.map PV.bool)]⟩) ?_ ?_ ?_
      · simp (maxSteps := 2000000) (disch := first | omega | (simp only [lenS]; try omega)) only [go_sem, reduceAdd, reduceEqDiff, reduceLeDiff, reduceSub]
        rfl
      · rintro k s hk rfl
        have hT := hb.2.2.2 _ (List.getElem_mem hk)
        have hLs := zhf hT (by omega)
        obtain ⟨_, g1, g2, g3⟩ := zhj hT
        have p1 := zy4 g2
        have p2 := zy4 g1
        have hd := hcl k
        have hstep := z90 n true c k
        have htr : n.tr[k] = trN n k := (z1aq hk).symm
        rw [htr] at hLs p1 p2
        have s1 : (clK n true c k).tr.getD k false = true → clK n true c (k + 1) = clK n true c k := fun h => hstep.trans (z99 (.inl h))
        have s2 : hitB (clK n true c k).pl (sideI true (trN n k)) = false → clK n true c (k + 1) = clK n true c k := fun h => hstep.trans (z99 (.inr h))
        have s3 : (clK n true c k).tr.getD k false = false → hitB (clK n true c k).pl (sideI true (trN n k)) = true → clK n true c (k + 1) = ⟨markB (clK n true c k).pl (sideO true (trN n k)), (clK n true c k).tr.set k true, true⟩ := fun h h2 => hstep.trans (z9a h h2)
        simp only [sideI, sideO, Bool.false_eq_true, if_false, if_true] at s2 s3
        clear hstep
        generalize clK n true c k = d at *
        generalize clK n true c (k + 1) = d' at *
        simp (maxSteps := 2000000) (disch := first | omega | (simp only [lenS]; try omega)) only [go_sem, reduceAdd, reduceEqDiff, reduceLeDiff, reduceSub]
        simp only [htr]
        generalize trN n k = tr at *
        refine W_for tr.out.length (fun j s => s = ⟨[.any, .any, .ptr 0 0, .any, .any, .ref 1 1 0 n.pl.toNat, .ref 2 1 0 n.tr.length, .bool d.ch, I k, .ptr 3 0, .bool ((tr.out.take j).any fun p => d.pl.getD p.toNat false), .any, .any, .any, trs n.tr, I n.tr.length, I k, .any, ints tr.out, I tr.out.length, I j, .any, .any, .any, .any, .any, .any], [.box whk [I n.pl, trs n.tr], .row whf true 1 (d.pl.map PV.bool), .row whf true 1 (d.tr.map PV.bool), .box whp [ints tr.inn, ints tr.out, ints tr.rst]]⟩) ?_ ?_ ?_
        · simp (maxSteps := 2000000) (disch := first | omega | (simp only [lenS]; try omega)) only [go_sem, reduceAdd, reduceEqDiff, reduceLeDiff, reduceSub]
          rfl
        · rintro j s hj rfl
          have h1 := p1 _ (List.getElem_mem hj)
          have h2 : tr.out[j].toNat < d.pl.length := by omega
          simp (maxSteps := 2000000) (disch := first | omega | (simp only [lenS]; try omega)) only [go_sem, reduceAdd, reduceEqDiff, reduceLeDiff, reduceSub]
          refine ⟨fun h => ?_, fun h => ⟨fun h3 => ?_, fun h3 => ?_⟩⟩
          · rw [z34 hj h]; rfl
          · rw [z32 hj (by rw [← zgj h2]; exact h3)]; rfl
          · rw [z37 hj h (by rw [← zgj h2]; exact h3)]; rfl
        · rintro s rfl
          have hkd : k < d.tr.length := by omega
          simp (maxSteps := 2000000) (disch := first | omega | (simp only [lenS]; try omega)) only [go_sem, reduceAdd, reduceEqDiff, reduceLeDiff, reduceSub, List.take_length]
          refine ⟨fun h => ⟨fun h3 => ?_, fun h3 => ?_⟩, fun h => ?_⟩
          · rw [s1 (by rw [← zgj hkd]; exact h3)]; rfl
          · have e := s3 (by rw [← zgj hkd]; exact h3) h
            subst e
            refine W_for tr.inn.length (fun j s => s = ⟨[.any, .any, .ptr 0 0, .any, .any, .ref 1 1 0 n.pl.toNat, .ref 2 1 0 n.tr.length, .bool true, .any, .any, .any, .any, .any, .any, trs n.tr, I n.tr.length, I k, .any, .any, .any, .any, .any, .any, ints tr.inn, I tr.inn.length, I j, .any], [.box whk [I n.pl, trs n.tr], .row whf true 1 ((markB d.pl (tr.inn.take j)).map PV.bool), .row whf true 1 ((d.tr.set k true).map PV.bool)]⟩) ?_ ?_ ?_
            · simp (maxSteps := 2000000) (disch := first | omega | (simp only [lenS]; try omega)) only [go_sem, reduceAdd, reduceEqDiff, reduceLeDiff, reduceSub]
              rfl
            · rintro j s hj rfl
              have h1 := p2 _ (List.getElem_mem hj)
              have h2 : tr.inn[j].toNat < d.pl.length := by omega
              have h4 := zpk d.pl (tr.inn.take j)
              simp (maxSteps := 2000000) (disch := first | omega | (simp only [lenS]; try omega)) only [go_sem, reduceAdd, reduceEqDiff, reduceLeDiff, reduceSub]
              rw [zpl hj]; rfl
            · rintro s rfl
              simp (maxSteps := 2000000) (disch := first | omega | (simp only [lenS]; try omega)) only [go_sem, reduceAdd, reduceEqDiff, reduceLeDiff, reduceSub, List.take_length]
              rfl
          · rw [s2 h]; rfl
      · rintro s rfl
        simp (maxSteps := 2000000) (disch := first | omega | (simp only [lenS]; try omega)) only [go_sem, reduceAdd, reduceEqDiff, reduceLeDiff, reduceSub]
        have hn := z95 (n := n) (bk := true) hc2
        rw [hc] at hn
        cases e : (z91 n true c).ch with
        | true =>
          have h1 := (z8y (n := n) (bk := true) (s := c) (k := n.tr.length) (by omega)).2 e
          simp only [e, if_true] at hn
          refine ⟨cntF (z91 n true c).tr + 1, by unfold z91; omega, z91 n true c, by unfold z91; have := hcl n.tr.length; omega, by unfold z91; have := hcl n.tr.length; omega, .inl ⟨rfl, ?_, hn.symm⟩⟩
          unfold z91 at e ⊢
          rw [e]
        | false =>
          simp only [e, Bool.false_eq_true, if_false] at hn
          refine ⟨0, by omega, z91 n true c, by unfold z91; have := hcl n.tr.length; omega, by unfold z91; have := hcl n.tr.length; omega, .inr ⟨rfl, ?_, hn.symm⟩⟩
          unfold z91 at e ⊢
          rw [e]
    · simp (maxSteps := 2000000) (disch := first | omega | (simp only [lenS]; try omega)) only [go_sem, reduceAdd, reduceEqDiff, reduceLeDiff, reduceSub]
theorem whc (a b : List Bool) (ha : a.length < 2^30) (hab : a.length ≤ b.length) : C wab [bls a, bls b] [] = some (.un t_int true 1 ((bothL a b).map I), []) := by
  refine w2v ?_
  simp (maxSteps := 2000000) (disch := first | omega | (simp only [lenS]; try omega)) only [wff, go_sem, reduceAdd, reduceEqDiff, reduceLeDiff, reduceSub]
  refine W_for a.length (fun k s => s = ⟨[bls a, bls b, .any, .ref 0 1 0 (bothK a b k).length, .any, I a.length, I k, .any, .any], [.row t_int true 1 ((bothK a b k).map I)]⟩) ?_ ?_ ?_
  · simp (maxSteps := 2000000) (disch := first | omega | (simp only [lenS]; try omega)) only [go_sem, reduceAdd, reduceEqDiff, reduceLeDiff, reduceSub]
    rfl
  · rintro k s hk rfl
    have h2 := z6n a b k
    have hkb : k < b.length := by omega
    have e1 := zgj hk
    have e2 := zgj hkb
    simp (maxSteps := 2000000) (disch := first | omega | (simp only [lenS]; try omega)) only [go_sem, reduceAdd, reduceEqDiff, reduceLeDiff, reduceSub]
    rw [e1, e2]
    refine ⟨fun h => ⟨fun h3 => ?_, fun h3 => ?_⟩, fun h => ?_⟩
    · rw [z6o h h3, List.map_append]; simp
    · rw [z6m (by rw [h, h3]; rfl)]; rfl
    · rw [z6m (by rw [h]; rfl)]; rfl
  · rintro s rfl
    simp (maxSteps := 2000000) (disch := first | omega | (simp only [lenS]; try omega)) only [go_sem, reduceAdd, reduceEqDiff, reduceLeDiff, reduceSub]
    rfl
theorem wgf (n : Net) (a b : Int) (hn : smN n) : C w9f [encN n, I a, I b] [] = some (.tup [.un t_int true 1 ((if okWay n a b then wayP n a b else []).map I), .un t_int true 1 ((if okWay n a b then wayT n a b else []).map I), .bool (okWay n a b)], []) := by
  refine w29 ?_
  simp (maxSteps := 2000000) (disch := first | omega | (simp only [lenS]; try omega)) only [weh, go_sem, reduceAdd, reduceEqDiff, reduceLeDiff, reduceSub]
  simp (maxSteps := 2000000) (disch := first | omega | (simp only [lenS]; try omega)) only [go_sem, reduceAdd, reduceEqDiff, reduceLeDiff, reduceSub, wgc n hn, wh0]
  cases hg : goodN n with
  | false => simp [okWay, hg]
  | true =>
    have hb := zha hg
    cases h1 : inB 0 (n.pl - 1) a with
    | false => simp (maxSteps := 2000000) (disch := first | omega | (simp only [lenS]; try omega)) only [go_sem, reduceAdd, reduceEqDiff, reduceLeDiff, reduceSub, h1]; simp [okWay, hg, h1]
    | true =>
      cases h2 : inB 0 (n.pl - 1) b with
      | false => simp (maxSteps := 2000000) (disch := first | omega | (simp only [lenS]; try omega)) only [go_sem, reduceAdd, reduceEqDiff, reduceLeDiff, reduceSub, h1, h2]; simp [okWay, hg, h1, h2]
      | true =>
        have hok : okWay n a b = true := by simp [okWay, hg, h1, h2]
        have ha : 0 ≤ a ∧ a < n.pl := by simp [inB] at h1; omega
        have hb2 : 0 ≤ b ∧ b < n.pl := by simp [inB] at h2; omega
        have l1 := zzz n false a
        have l2 := zzz n true b
        simp (maxSteps := 2000000) (disch := first | omega | (simp only [lenS]; try omega)) only [go_sem, reduceAdd, reduceEqDiff, reduceLeDiff, reduceSub, h1, h2, whd n a hg ha, whb n b hg hb2, hok]
        simp (maxSteps := 2000000) (disch := first | omega | (simp only [lenS]; try omega)) only [go_sem, reduceAdd, reduceEqDiff, reduceLeDiff, reduceSub, whc (zzx n false a).pl (zzx n true b).pl (by omega) (by omega), whc (zzx n false a).tr (zzx n true b).tr (by omega) (by omega)]
        rfl
theorem wga (f : Fl) (hf : smN f.net) : C w9a [encF f] [] = some (.bool (zgv f), []) := by
  have hl := hf.1
  have hw := wgf f.net f.src f.dst hf
  have hP : (wayP f.net f.src f.dst).length < 2^62 ∨ goodN f.net = false := by
    cases hg : goodN f.net with
    | false => exact .inr rfl
    | true =>
      have := zha hg
      have h1 := z6n (zzx f.net false f.src).pl (zzx f.net true f.dst).pl (zzx f.net false f.src).pl.length
      have h2 := zzz f.net false f.src
      exact .inl (by unfold wayP bothL; omega)
  have hT : (wayT f.net f.src f.dst).length < 2^62 := by
    have h1 := z6n (zzx f.net false f.src).tr (zzx f.net true f.dst).tr (zzx f.net false f.src).tr.length
    have h2 := zzz f.net false f.src
    unfold wayT bothL; omega
  refine w24 ?_
  simp (maxSteps := 2000000) (disch := first | omega | (simp only [lenS]; try omega)) only [wec, go_sem, reduceAdd, reduceEqDiff, reduceLeDiff, reduceSub]
  cases hok : okWay f.net f.src f.dst with
  | false =>
    simp only [hok] at hw
    simp (maxSteps := 2000000) (disch := first | omega | (simp only [lenS]; try omega)) only [go_sem, reduceAdd, reduceEqDiff, reduceLeDiff, reduceSub, hw]
    simp [zgv, hok]
  | true =>
    have hg : goodN f.net = true := by simp only [okWay, Bool.and_eq_true] at hok; exact hok.1.1
    have hb := zha hg
    have hP : (wayP f.net f.src f.dst).length < 2^62 := by
      rcases hP with h | h
      · exact h
      · rw [hg] at h; cases h
    simp only [hok, if_true] at hw
    simp (maxSteps := 2000000) (disch := first | omega | (simp only [lenS]; try omega)) only [go_sem, reduceAdd, reduceEqDiff, reduceLeDiff, reduceSub, hw]
    refine ⟨fun h => by simp [zgv, h], fun h => ⟨fun h2 => by simp [zgv, h2], fun h2 => ⟨fun h3 => ?_, fun h3 => ?_⟩⟩⟩
    · have : ¬ (wayT f.net f.src f.dst).length = f.net.tr.length := by omega
      simp [zgv, this]
    refine W_for f.net.tr.length (fun k s => s = ⟨[.any, .ptr 0 0, .any, .any, .any, .any, .any, .any, trs f.net.tr, I f.net.tr.length, I k, .any, .any], [.box whi [I f.net.pl, trs f.net.tr, I f.src, I f.dst]]⟩ ∧ (f.net.tr.take k).all (fun t => !z17k f t) = true) ?_ ?_ ?_
    · simp (maxSteps := 2000000) (disch := first | omega | (simp only [lenS]; try omega)) only [go_sem, reduceAdd, reduceEqDiff, reduceLeDiff, reduceSub]
      rfl
    · rintro k s hk ⟨rfl, hall⟩
      have hT := hb.2.2.2 _ (List.getElem_mem hk)
      have hLs := zhf hT (by omega)
      simp (maxSteps := 2000000) (disch := first | omega | (simp only [lenS]; try omega)) only [go_sem, reduceAdd, reduceEqDiff, reduceLeDiff, reduceSub, wgz]
      have gs : z17k f f.net.tr[k] = true → zgv f = false := fun hs => by
        have : (f.net.tr.all fun t => !z17k f t) = false := z2r hk (by simp [hs])
        simp [zgv, this]
      exact ⟨fun a => by rw [gs (by simp [z17k, a])], fun a => ⟨fun b => by rw [gs (by simp [z17k, b])], fun b => ⟨fun c => by rw [gs (by simp [z17k, c])], fun c => ⟨fun d => by rw [gs (by simp [z17k, d])], fun d => ⟨rfl, z2s hk hall (by simp [z17k, a, b, c, d])⟩⟩⟩⟩⟩
    · rintro s ⟨rfl, hall⟩
      simp (maxSteps := 2000000) (disch := first | omega | (simp only [lenS]; try omega)) only [go_sem, reduceAdd, reduceEqDiff, reduceLeDiff, reduceSub]
      rw [List.take_length] at hall
      have h4 : (wayT f.net f.src f.dst).length = f.net.tr.length := by omega
      simp [zgv, hok, h, h2, h4]
      simpa using hall
theorem wgd (s : Spc) (hs : smSpc s) : C w9d [encS s] [] = some (.bool (goodS s), []) := by
  obtain ⟨hl, ht⟩ := hs
  refine w27 ?_
  simp (maxSteps := 2000000) (disch := first | omega | (simp only [lenS]; try omega)) only [wef, go_sem, reduceAdd, reduceEqDiff, reduceLeDiff, reduceSub]
  simp (maxSteps := 2000000) (disch := first | omega | (simp only [lenS]; try omega)) only [go_sem, reduceAdd, reduceEqDiff, reduceLeDiff, reduceSub, wh0]
  refine ⟨fun h1 => ⟨fun h2 => ?_, fun h2 => by simp [goodS, zts, h2]⟩, fun h1 => by simp [goodS, zts, h1]⟩
  have hc : 2 ≤ s.conds ∧ s.conds ≤ 8 := by simpa [inB] using h1
  have hn : 1 ≤ s.tasks.length ∧ s.tasks.length ≤ 6 := by simp [inB] at h2; omega
  refine W_for s.tasks.length (fun i st => st = ⟨[.any, .ptr 0 0, .any, .any, .any, .any, I s.tasks.length, I i, .any, .any], [.box whm [I s.conds, tks s.tasks]]⟩ ∧ ∀ k, k < i → goodK s k (tkN s k) = true) ?_ ?_ ?_
  · simp (maxSteps := 2000000) (disch := first | omega | (simp only [lenS]; try omega)) only [go_sem, reduceAdd, reduceEqDiff, reduceLeDiff, reduceSub]
    exact ⟨rfl, fun k hk => by omega⟩
  · rintro i st hi ⟨rfl, hall⟩
    have hT := wgl s i hi hn.2 hc (ht _ (List.getElem_mem hi))
    rw [← z1af hi] at hT
    simp (maxSteps := 2000000) (disch := first | omega | (simp only [lenS]; try omega)) only [go_sem, reduceAdd, reduceEqDiff, reduceLeDiff, reduceSub, hT]
    refine ⟨fun h => ⟨rfl, fun k hk => ?_⟩, fun h => ?_⟩
    · rcases Nat.lt_or_ge k i with h5 | h5
      · exact hall k h5
      · rw [show k = i by omega]; exact h
    · have : zts s = false := by
        rw [Bool.eq_false_iff]
        intro he
        have := (ztt he).2.2 i hi
        rw [h] at this; cases this
      simp [goodS, this]
  · rintro st ⟨rfl, hall⟩
    have hok : zts s = true := by
      simp only [zts, h1, h2, Bool.true_and, List.all_eq_true, List.mem_range]
      exact hall
    have hf := wgh s hok
    have hg := wga (flS s) (zev hok)
    have e : (trS s).length = (mvS s).length := z1ay s s.tasks.length
    have h3 := zrq hok s.tasks.length (by omega)
    have h4 : (mvS s).length ≤ 60 := by unfold mvS; omega
    unfold encF flS at hg
    simp only at hg
    simp (maxSteps := 2000000) (disch := first | omega | (simp only [lenS]; try omega)) only [go_sem, reduceAdd, reduceEqDiff, reduceLeDiff, reduceSub, hf, hg]
    simp [goodS, hok, flS]
theorem whe (n p : Int) (hn : 0 ≤ n ∧ n < 2^30) (hp : 0 ≤ p ∧ p < n) : C wad [I n, I p] [] = some (.un t_int true 1 ((oneM n.toNat p).map I), []) := by
  refine w2x ?_
  simp (maxSteps := 2000000) (disch := first | omega | (simp only [lenS]; try omega)) only [wfh, go_sem, reduceAdd, reduceEqDiff, reduceLeDiff, reduceSub]
  simp (maxSteps := 2000000) (disch := first | omega | (simp only [lenS]; try omega)) only [go_sem, reduceAdd, reduceEqDiff, reduceLeDiff, reduceSub, List.getElem_replicate]
  simp [oneM, List.map_set]
theorem wge (s : Spc) (hs : smSpc s) : C w9e [encS s] [] = some (.tup [if goodS s = true then .agg [I 1, .un t_int true 1 ((oneM (s.conds + s.tasks.length).toNat 0).map I)] else .agg [I 0, .nil true 1], .bool (goodS s)], []) := by
  have hG := wgd s hs
  refine w28 ?_
  simp (maxSteps := 2000000) (disch := first | omega | (simp only [lenS]; try omega)) only [weg, go_sem, reduceAdd, reduceEqDiff, reduceLeDiff, reduceSub]
  cases hg : goodS s with
  | false => simp (maxSteps := 2000000) (disch := first | omega | (simp only [lenS]; try omega)) only [go_sem, reduceAdd, reduceEqDiff, reduceLeDiff, reduceSub, hG, hg]
  | true =>
    obtain ⟨hc, hn, -⟩ := ztt (zhc hg)
    have hO := whe (s.conds + s.tasks.length) 0 (by omega) (by omega)
    simp (maxSteps := 2000000) (disch := first | omega | (simp only [lenS]; try omega)) only [go_sem, reduceAdd, reduceEqDiff, reduceLeDiff, reduceSub, hG, hg, hO]
theorem wh7 (t : Tr) (m : List Int) (ht : ∀ q ∈ t.inn, 0 ≤ q ∧ q.toNat < m.length) (hl : t.inn.length < 2^62) : C wa6 [encT t, ints m] [] = some (.bool (canT t m), []) := by
  refine w2q ?_
  simp (maxSteps := 2000000) (disch := first | omega | (simp only [lenS]; try omega)) only [wfa, go_sem, reduceAdd, reduceEqDiff, reduceLeDiff, reduceSub]
  refine W_for t.inn.length (fun k s => s = ⟨[.any, ints m, .any, .any, .any, ints t.inn, I t.inn.length, I k, .any, .any], []⟩ ∧ (t.inn.take k).all (fun p => !(at_ m p == 0)) = true) ?_ ?_ ?_
  · simp (maxSteps := 2000000) (disch := first | omega | (simp only [lenS]; try omega)) only [go_sem, reduceAdd, reduceEqDiff, reduceLeDiff, reduceSub]
    rfl
  · rintro k s hk ⟨rfl, hall⟩
    obtain ⟨h1, h2⟩ := ht _ (List.getElem_mem hk)
    simp (maxSteps := 2000000) (disch := first | omega | (simp only [lenS]; try omega)) only [go_sem, reduceAdd, reduceEqDiff, reduceLeDiff, reduceSub]
    refine ⟨fun h => ?_, fun h => ⟨rfl, z2s hk hall ?_⟩⟩
    · have : canT t m = false := z2r hk (by rw [at_eq h2] at h; simp [h])
      rw [this]
    · rw [at_eq h2] at h; simp [h]
  · rintro s ⟨rfl, hall⟩
    simp (maxSteps := 2000000) (disch := first | omega | (simp only [lenS]; try omega)) only [go_sem, reduceAdd, reduceEqDiff, reduceLeDiff, reduceSub]
    rw [List.take_length] at hall
    unfold canT; rw [hall]
theorem wh8 (n : Net) (m : List Int) (hg : goodN n = true) (hm : (m.length : Int) = n.pl) : C wa7 [encN n, ints m] [] = some (.un t_int true 1 ((enabL n m).map I), []) := by
  have hb := zha hg
  refine w2r ?_
  simp (maxSteps := 2000000) (disch := first | omega | (simp only [lenS]; try omega)) only [wfb, go_sem, reduceAdd, reduceEqDiff, reduceLeDiff, reduceSub]
  refine W_for n.tr.length (fun k s => s = ⟨[.any, ints m, .any, .any, .ref 0 1 0 (enabK n m k).length, .any, .any, trs n.tr, I n.tr.length, I k, .any, .any], [.row t_int true 1 ((enabK n m k).map I)]⟩) ?_ ?_ ?_
  · simp (maxSteps := 2000000) (disch := first | omega | (simp only [lenS]; try omega)) only [go_sem, reduceAdd, reduceEqDiff, reduceLeDiff, reduceSub]
    rfl
  · rintro k s hk rfl
    have hT := hb.2.2.2 _ (List.getElem_mem hk)
    have h2 := zbs n m k
    simp (maxSteps := 2000000) (disch := first | omega | (simp only [lenS]; try omega)) only [go_sem, reduceAdd, reduceEqDiff, reduceLeDiff, reduceSub, wh7 _ m (zhg hT hm).1 (by have := (zhf hT (by omega)).1; omega)]
    refine ⟨fun h => ?_, fun h => ?_⟩
    · rw [zbt hk h, List.map_append]; simp
    · rw [zbr hk h]; rfl
  · rintro s rfl
    simp (maxSteps := 2000000) (disch := first | omega | (simp only [lenS]; try omega)) only [go_sem, reduceAdd, reduceEqDiff, reduceLeDiff, reduceSub]
    rfl
theorem wgm (s : Spc) (c : Cs) (hg : goodS s = true) (hc : goodC s c = true) : C w9m [encS s, encC c] [] = some (.un whj true 3 ((movL s c).map encM), []) := by
  have hok := zhc hg
  have hlay := wgh s hok
  have h2 := zrq hok s.tasks.length (by omega)
  have hn := (ztt hok).2.1
  have h3 : (mvS s).length ≤ 60 := by unfold mvS; omega
  have hcl := (zgt (zgu hc) (ztt hok).1.1).1
  have hE := wh8 (flS s).net c.mark (zhb hg) hcl
  have hlenE := zbs (flS s).net c.mark (flS s).net.tr.length
  have hlen : (flS s).net.tr.length = (mvS s).length := by show (trS s).length = _; rw [z1av]; simp
  have hin : ∀ t ∈ enabL (flS s).net c.mark, 0 ≤ t ∧ t.toNat < (mvS s).length := fun t ht => by
    have := zbu.1 ht
    exact ⟨this.1, by omega⟩
  have hmov := zbx s c ⟨0, false, 0⟩
  have hEl : (enabL (flS s).net c.mark).length ≤ 60 := by unfold enabL; omega
  unfold flS encN at hE
  simp only at hE
  change C wa7 [PV.agg [I (s.conds + s.tasks.length), trs (trS s)], ints c.mark] [] = some (.un t_int true 1 ((enabL (flS s).net c.mark).map I), []) at hE
  generalize enabL (flS s).net c.mark = E at *
  refine w2g ?_
  simp (maxSteps := 2000000) (disch := first | omega | (simp only [lenS]; try omega)) only [weo, go_sem, reduceAdd, reduceEqDiff, reduceLeDiff, reduceSub]
  unfold movL
  refine ⟨fun h => by simp [h], fun h => ?_⟩
  rw [if_pos h, ← hmov]
  generalize mvS s = M at *
  have htl : (trS s).length ≤ 60 := by have : (trS s).length = M.length := hlen; omega
  simp (maxSteps := 2000000) (disch := first | omega | (simp only [lenS]; try omega)) only [go_sem, reduceAdd, reduceEqDiff, reduceLeDiff, reduceSub, hlay, hE]
  refine W_for E.length (fun k st => st = ⟨[.any, .any, .any, .any, .any, .any, .ref 0 3 0 M.length, .ref 1 3 0 k, .any, .any, .ref 2 1 0 E.length, I E.length, I k, .any], [.row whj true 3 (M.map encM), .row whj true 3 ((E.take k).map fun t => encM (M.getD t.toNat ⟨0, false, 0⟩)), .row t_int true 1 (E.map I)]⟩) ?_ ?_ ?_
  · simp (maxSteps := 2000000) (disch := first | omega | (simp only [lenS]; try omega)) only [go_sem, reduceAdd, reduceEqDiff, reduceLeDiff, reduceSub]
    simp
  · rintro k st hk rfl
    obtain ⟨g1, g2⟩ := hin _ (List.getElem_mem hk)
    have e : M[E[k].toNat]? = some (M.getD E[k].toNat ⟨0, false, 0⟩) := by rw [List.getD_eq_getElem?_getD, List.getElem?_eq_getElem g2]; rfl
    simp (maxSteps := 2000000) (disch := first | omega | (simp only [lenS]; try omega)) only [go_sem, reduceAdd, reduceEqDiff, reduceLeDiff, reduceSub, e]
    rw [List.take_succ_eq_append_getElem hk, List.map_append]
    rfl
  · rintro st rfl
    simp (maxSteps := 2000000) (disch := first | omega | (simp only [lenS]; try omega)) only [go_sem, reduceAdd, reduceEqDiff, reduceLeDiff, reduceSub]
    simp
theorem wgi (s : Spc) (m : Mv) (h : zts s = true) : C w9i [encS s, encM m] [] = some (I (idxI (mvS s) (fun y => y == m)), []) := by
  have hlay := wgh s h
  have h2 := zrq h s.tasks.length (by omega)
  have h3 : (mvS s).length ≤ 60 := by have := (ztt h).2.1; unfold mvS; omega
  generalize mvS s = M at *
  refine w2c ?_
  simp (maxSteps := 2000000) (disch := first | omega | (simp only [lenS]; try omega)) only [wek, go_sem, reduceAdd, reduceEqDiff, reduceLeDiff, reduceSub]
  simp (maxSteps := 2000000) (disch := first | omega | (simp only [lenS]; try omega)) only [go_sem, reduceAdd, reduceEqDiff, reduceLeDiff, reduceSub, hlay]
  refine W_for M.length (fun k st => st = ⟨[.any, .any, .any, .ptr 0 0, .any, .any, .any, .any, .ref 1 3 0 M.length, I M.length, I k, .any, .any], [.box whj [I m.task, .bool m.begin_, I m.pick], .row whj true 3 (M.map encM)]⟩ ∧ (M.take k).any (fun y => y == m) = false) ?_ ?_ ?_
  · simp (maxSteps := 2000000) (disch := first | omega | (simp only [lenS]; try omega)) only [go_sem, reduceAdd, reduceEqDiff, reduceLeDiff, reduceSub]
    rfl
  · rintro k st hk ⟨rfl, hall⟩
    have e : (M[k] == m) = (M[k].task == m.task && (M[k].begin_ == m.begin_ && M[k].pick == m.pick)) := zru _ _
    simp (maxSteps := 2000000) (disch := first | omega | (simp only [lenS]; try omega)) only [go_sem, reduceAdd, reduceEqDiff, reduceLeDiff, reduceSub, eqL, eq1]
    rw [← e]
    refine ⟨fun h => ?_, fun h => ⟨rfl, z37 hk hall h⟩⟩
    rw [zid hk hall (by simpa using h)]
  · rintro st ⟨rfl, hall⟩
    simp (maxSteps := 2000000) (disch := first | omega | (simp only [lenS]; try omega)) only [go_sem, reduceAdd, reduceEqDiff, reduceLeDiff, reduceSub]
    rw [List.take_length] at hall
    rw [zic hall]
theorem wgp (l : List Int) (lo hi : Int) (hl : l.length < 2^62) : C w9p [ints l, I lo, I hi] [] = some (.bool (l.all (inB lo hi)), []) := by
  refine w2j ?_
  simp (maxSteps := 2000000) (disch := first | omega | (simp only [lenS]; try omega)) only [wer, go_sem, reduceAdd, reduceEqDiff, reduceLeDiff, reduceSub]
  refine W_for l.length (fun k s => s = ⟨[.any, I lo, I hi, .any, .any, ints l, I l.length, I k, .any, .any], []⟩ ∧ (l.take k).all (inB lo hi) = true) ?_ ?_ ?_
  · simp (maxSteps := 2000000) (disch := first | omega | (simp only [lenS]; try omega)) only [go_sem, reduceAdd, reduceEqDiff, reduceLeDiff, reduceSub]
    rfl
  · rintro k s hk ⟨rfl, hall⟩
    simp (maxSteps := 2000000) (disch := first | omega | (simp only [lenS]; try omega)) only [go_sem, reduceAdd, reduceEqDiff, reduceLeDiff, reduceSub, wh0]
    exact ⟨fun h => ⟨rfl, z2s hk hall h⟩, fun h => by rw [z2r hk h]⟩
  · rintro s ⟨rfl, hall⟩
    simp (maxSteps := 2000000) (disch := first | omega | (simp only [lenS]; try omega)) only [go_sem, reduceAdd, reduceEqDiff, reduceLeDiff, reduceSub]
    rw [List.take_length] at hall
    rw [hall]
theorem wgb (p : Int) (m : List Int) (hl : m.length < 2^62) : C w9b [I p, ints m] [] = some (.bool (goodM p m), []) := by
  refine w25 ?_
  simp (maxSteps := 2000000) (disch := first | omega | (simp only [lenS]; try omega)) only [wed, go_sem, reduceAdd, reduceEqDiff, reduceLeDiff, reduceSub]
  simp (maxSteps := 2000000) (disch := first | omega | (simp only [lenS]; try omega)) only [go_sem, reduceAdd, reduceEqDiff, reduceLeDiff, reduceSub, wh2, wgp m _ _ hl]
  unfold goodM; grind
theorem wha (n : Net) (m : List Int) (hn : smN n) (hm : m.length < 2^62) : C wa9 [encN n, ints m] [] = some (.bool (zpr n m), []) := by
  refine w2t ?_
  simp (maxSteps := 2000000) (disch := first | omega | (simp only [lenS]; try omega)) only [wfd, go_sem, reduceAdd, reduceEqDiff, reduceLeDiff, reduceSub]
  simp (maxSteps := 2000000) (disch := first | omega | (simp only [lenS]; try omega)) only [go_sem, reduceAdd, reduceEqDiff, reduceLeDiff, reduceSub, wgc n hn, wgb n.pl m hm]
  unfold zpr; grind
theorem wh9 (t : Tr) (m : List Int) (h1 : ∀ q ∈ t.inn, 0 ≤ q ∧ q.toNat < m.length) (h2 : ∀ q ∈ t.out, 0 ≤ q ∧ q.toNat < m.length) (h3 : ∀ q ∈ t.rst, 0 ≤ q ∧ q.toNat < m.length) (hl : smT t) (hm : m.length < 2^30) (hb : ∀ x ∈ m, 0 ≤ x ∧ x ≤ 50) :
    C wa8 [encT t, ints m] [] = some (.un t_int true 1 ((zem t m).map I), []) := by
  obtain ⟨g1, g2, g3⟩ := hl
  refine w2s ?_
  simp (maxSteps := 2000000) (disch := first | omega | (simp only [lenS]; try omega)) only [wfc, go_sem, reduceAdd, reduceEqDiff, reduceLeDiff, reduceSub]
  simp (maxSteps := 2000000) (disch := first | omega | (simp only [lenS]; try omega)) only [go_sem, reduceAdd, reduceEqDiff, reduceLeDiff, reduceSub, wh1 m (by omega)]
  refine W_for t.inn.length (fun k s => s = ⟨[.any, .any, .ptr 0 0, .any, .ref 1 1 0 m.length, .any, .any, .any, ints t.inn, I t.inn.length, I k, .any, .any, .any, .any, .any, .any, .any, .any, .any], [.box whp [ints t.inn, ints t.out, ints t.rst], .row t_int true 1 ((decL m (t.inn.take k)).map I)]⟩) ?_ ?_ ?_
  · simp (maxSteps := 2000000) (disch := first | omega | (simp only [lenS]; try omega)) only [go_sem, reduceAdd, reduceEqDiff, reduceLeDiff, reduceSub]
    rfl
  · rintro k s hk rfl
    obtain ⟨h4, h5⟩ := h1 _ (List.getElem_mem hk)
    have h6 := zb2 m (t.inn.take k)
    have h7 := z46 (p := t.inn[k]) (zb1 (l := t.inn.take k) hb (fun p hp => (h1 p (List.mem_of_mem_take hp)).2)) (by omega)
    have h8 : (t.inn.take k).length = k := by simp; omega
    simp (maxSteps := 2000000) (disch := first | omega | (simp only [lenS]; try omega)) only [go_sem, reduceAdd, reduceEqDiff, reduceLeDiff, reduceSub, at_eq]
    rw [zb3 hk]; rfl
  · rintro s rfl
    simp (maxSteps := 2000000) (disch := first | omega | (simp only [lenS]; try omega)) only [go_sem, reduceAdd, reduceEqDiff, reduceLeDiff, reduceSub, List.take_length]
    have b1 := zb1 (l := t.inn) hb (fun p hp => (h1 p hp).2)
    have l1 := zb2 m t.inn
    generalize e1 : decL m t.inn = m1 at b1 l1 ⊢
    refine W_for t.rst.length (fun k s => s = ⟨[.any, .any, .ptr 0 0, .any, .ref 1 1 0 m.length, .any, .any, .any, .any, .any, .any, .any, ints t.rst, I t.rst.length, I k, .any, .any, .any, .any, .any], [.box whp [ints t.inn, ints t.out, ints t.rst], .row t_int true 1 ((zerL m1 (t.rst.take k)).map I)]⟩) ?_ ?_ ?_
    · simp (maxSteps := 2000000) (disch := first | omega | (simp only [lenS]; try omega)) only [go_sem, reduceAdd, reduceEqDiff, reduceLeDiff, reduceSub]
      rfl
    · rintro k s hk rfl
      obtain ⟨h4, h5⟩ := h3 _ (List.getElem_mem hk)
      have h6 := z1co m1 (t.rst.take k)
      simp (maxSteps := 2000000) (disch := first | omega | (simp only [lenS]; try omega)) only [go_sem, reduceAdd, reduceEqDiff, reduceLeDiff, reduceSub]
      rw [z1cp hk]; rfl
    · rintro s rfl
      simp (maxSteps := 2000000) (disch := first | omega | (simp only [lenS]; try omega)) only [go_sem, reduceAdd, reduceEqDiff, reduceLeDiff, reduceSub, List.take_length]
      have b2 := z1cn (l := t.rst) b1 (by omega)
      have l2 := z1co m1 t.rst
      generalize e2 : zerL m1 t.rst = m2 at b2 l2 ⊢
      refine W_for t.out.length (fun k s => s = ⟨[.any, .any, .any, .any, .ref 0 1 0 m.length, .any, .any, .any, .any, .any, .any, .any, .any, .any, .any, .any, ints t.out, I t.out.length, I k, .any], [.row t_int true 1 ((incL m2 (t.out.take k)).map I)]⟩) ?_ ?_ ?_
      · simp (maxSteps := 2000000) (disch := first | omega | (simp only [lenS]; try omega)) only [go_sem, reduceAdd, reduceEqDiff, reduceLeDiff, reduceSub]
        rfl
      · rintro k s hk rfl
        obtain ⟨h4, h5⟩ := h2 _ (List.getElem_mem hk)
        have h6 := zkc m2 (t.out.take k)
        have h7 := z46 (p := t.out[k]) (zkb (l := t.out.take k) b2 (fun p hp => by have := (h2 p (List.mem_of_mem_take hp)).2; omega)) (by omega)
        have h8 : (t.out.take k).length = k := by simp; omega
        simp (maxSteps := 2000000) (disch := first | omega | (simp only [lenS]; try omega)) only [go_sem, reduceAdd, reduceEqDiff, reduceLeDiff, reduceSub, at_eq]
        rw [zkd hk]; rfl
      · rintro s rfl
        have h6 := zkc m2 t.out
        simp (maxSteps := 2000000) (disch := first | omega | (simp only [lenS]; try omega)) only [go_sem, reduceAdd, reduceEqDiff, reduceLeDiff, reduceSub, List.take_length]
        subst e2 e1; rfl
theorem wg9 (n : Net) (m : List Int) (t : Int) (hn : smN n) (hm : m.length < 2^62) : C w99 [encN n, ints m, I t] [] = some (.tup [.un t_int true 1 ((if ztb n m t then zem (trAt n t) m else []).map I), .bool (ztb n m t)], []) := by
  have h0 := hn.1
  refine w23 ?_
  simp (maxSteps := 2000000) (disch := first | omega | (simp only [lenS]; try omega)) only [web, go_sem, reduceAdd, reduceEqDiff, reduceLeDiff, reduceSub]
  simp (maxSteps := 2000000) (disch := first | omega | (simp only [lenS]; try omega)) only [go_sem, reduceAdd, reduceEqDiff, reduceLeDiff, reduceSub, wha n m hn hm, wh0]
  refine ⟨fun h1 => ⟨fun h2 => ?_, fun h2 => by simp [ztb, canN, h2]⟩, fun h1 => by simp [ztb, canN, h1]⟩
  obtain ⟨h3, h4⟩ := zps h1
  have h6 : 0 ≤ t ∧ t.toNat < n.tr.length := by simp [inB] at h2; omega
  have h8 := (zha h3).2.2.2 _ (List.getElem_mem h6.2)
  rw [z1ak h6.2] at h8
  have hx := zhg h8 (zh2 h4).2.2.1
  have hy := zhf h8 (by have := zha h3; omega)
  have hm := (zh2 h4).2.2
  have hz := zeo (trAt n t) m
  simp (maxSteps := 2000000) (disch := first | omega | (simp only [lenS]; try omega)) only [go_sem, reduceAdd, reduceEqDiff, reduceLeDiff, reduceSub, z1ak, wh7 (trAt n t) m hx.1 (by omega)]
  refine ⟨fun h7 => ?_, fun h7 => by simp [ztb, canN, h7]⟩
  have hg : goodM n.pl (zem (trAt n t) m) = ztb n m t := by
    have h9 : inB 1 16 n.pl = true := by have := zha h3; simp [inB]; omega
    have h10 : (((zem (trAt n t) m).length : Int) == n.pl) = true := by simp [hz]; omega
    simp only [goodM, ztb, canN, h1, h2, h7, h9, h10, Bool.true_and, Bool.and_self]
  simp (maxSteps := 2000000) (disch := first | omega | (simp only [lenS]; try omega)) only [go_sem, reduceAdd, reduceEqDiff, reduceLeDiff, reduceSub, z1ak, wh9 (trAt n t) m hx.1 hx.2.1 hx.2.2 ⟨by omega, by omega, by omega⟩ (by omega) hm.2.2, wgb n.pl (zem (trAt n t) m) (by omega), hg]
  refine ⟨fun h => by simp [h], fun h => by simp [h]⟩
theorem wgo (s : Spc) (c : Cs) (m : Mv) (hg : goodS s = true) (hc : goodC s c = true) : C w9o [encS s, encC c, encM m] [] = some (z17u t_int s c m, []) := by
  have hok := zhc hg
  have hlay := wgh s hok
  have h2 := zrq hok s.tasks.length (by omega)
  have hn := (ztt hok).2.1
  have h3 : (mvS s).length ≤ 60 := by unfold mvS; omega
  have hNo := wgi s m hok
  have hgm := zh2 (zgu hc)
  have hcl := (zgt (zgu hc) (ztt hok).1.1)
  have hlen : (trS s).length = (mvS s).length := by rw [z1av]; simp
  unfold z17u
  cases hb : (mvS s).any (fun y => y == m) with
  | false =>
    have hB : stepB s c m = false := by unfold stepB; simp [hb]
    rw [hB, if_neg (by simp)]
    rw [zij hb] at hNo
    obtain ⟨mt, mb, mp⟩ := m
    refine w2i ?_
    simp (maxSteps := 2000000) (disch := first | omega | (simp only [lenS]; try omega)) only [weq, go_sem, reduceAdd, reduceEqDiff, reduceLeDiff, reduceSub]
    cases mb with
    | true =>
      simp (maxSteps := 2000000) (disch := first | omega | (simp only [lenS]; try omega)) only [go_sem, reduceAdd, reduceEqDiff, reduceLeDiff, reduceSub, hNo]
    | false =>
      simp (maxSteps := 2000000) (disch := first | omega | (simp only [lenS]; try omega)) only [go_sem, reduceAdd, reduceEqDiff, reduceLeDiff, reduceSub, hNo]
  | true =>
    by_cases hst : c.state = 1
    · obtain ⟨e1, e2⟩ := zin hb
      have hF := wg9 (flS s).net c.mark (idxI (mvS s) (fun y => y == m)) (zev hok) (by omega)
      rw [zel hg hc hb hst, e2] at hF
      have hfl : (zem (trM s m) c.mark).length = c.mark.length := zeo (trM s m) c.mark
      have h1l : 1 < (zem (trM s m) c.mark).length := by omega
      simp only [stepC]
      have hF' : C w99 [.agg [I (s.conds + s.tasks.length), trs (trS s)], ints c.mark, I (idxI (mvS s) (fun y => y == m))] [] = _ := hF
      obtain ⟨mt, mb, mp⟩ := m
      generalize trM s ⟨mt, mb, mp⟩ = T at *
      generalize stepB s c ⟨mt, mb, mp⟩ = B at *
      generalize idxI (mvS s) (fun y => y == (⟨mt, mb, mp⟩ : Mv)) = K at *
      generalize hX : zem T c.mark = X at *
      refine w2i ?_
      simp (maxSteps := 2000000) (disch := first | omega | (simp only [lenS]; try omega)) only [weq, go_sem, reduceAdd, reduceEqDiff, reduceLeDiff, reduceSub]
      cases B with
      | false =>
        rw [if_neg (by simp)] at hF'
        cases mb with
        | true =>
          simp (maxSteps := 2000000) (disch := first | omega | (simp only [lenS]; try omega)) only [go_sem, reduceAdd, reduceEqDiff, reduceLeDiff, reduceSub, hNo, hst, hlay, hF']
        | false =>
          simp (maxSteps := 2000000) (disch := first | omega | (simp only [lenS]; try omega)) only [go_sem, reduceAdd, reduceEqDiff, reduceLeDiff, reduceSub, hNo, hst, hlay, hF']
      | true =>
        rw [if_pos rfl] at hF'
        cases mb with
        | true =>
          simp (maxSteps := 2000000) (disch := first | omega | (simp only [lenS]; try omega)) only [go_sem, reduceAdd, reduceEqDiff, reduceLeDiff, reduceSub, hNo, hst, hlay, hF', h1l]
          have e : X[Int.toNat 1]'h1l = at_ X 1 := at_eq (p := 1) h1l
          rw [e]
          exact ⟨fun h => by simp [h], fun h => by simp [show ¬ 0 < at_ X 1 by omega]⟩
        | false =>
          simp (maxSteps := 2000000) (disch := first | omega | (simp only [lenS]; try omega)) only [go_sem, reduceAdd, reduceEqDiff, reduceLeDiff, reduceSub, hNo, hst, hlay, hF', h1l]
          have e : X[Int.toNat 1]'h1l = at_ X 1 := at_eq (p := 1) h1l
          rw [e]
          exact ⟨fun h => by simp [h], fun h => by simp [show ¬ 0 < at_ X 1 by omega]⟩
    · have hB : stepB s c m = false := by unfold stepB; simp [hst]
      rw [hB, if_neg (by simp)]
      obtain ⟨mt, mb, mp⟩ := m
      refine w2i ?_
      simp (maxSteps := 2000000) (disch := first | omega | (simp only [lenS]; try omega)) only [weq, go_sem, reduceAdd, reduceEqDiff, reduceLeDiff, reduceSub]
      cases mb with
      | true =>
        simp (maxSteps := 2000000) (disch := first | omega | (simp only [lenS]; try omega)) only [go_sem, reduceAdd, reduceEqDiff, reduceLeDiff, reduceSub, hNo, hst]
      | false =>
        simp (maxSteps := 2000000) (disch := first | omega | (simp only [lenS]; try omega)) only [go_sem, reduceAdd, reduceEqDiff, reduceLeDiff, reduceSub, hNo, hst]
theorem wfm {orc : Orc} {m : Nat} {G : Prop} (H : Nat → Int → Int → Prop) (S0 : Nat → Int → Int → St) (k : List Bool) (b : ICode) (Q : Out → Prop) (h : (∀ (N : Nat) (A S : Int) (st0 : St), H N A S → gc m ⟨clean k st0.fr, st0.mem⟩ = S0 N A S → W orc m (.loop k b) st0 Q) → G)
    (h2 : ∀ (N : Nat) (A S : Int) (st0 : St), H N A S → gc m ⟨clean k st0.fr, st0.mem⟩ = S0 N A S → W orc m (.loop k b) st0 Q) : G := h h2
theorem wgr (s : Spc) (hs : drS s) (bs : List Int) (at_ sd : Int) (h0 : 0 ≤ at_) (h1 : at_ < 2^57) (hl : bs.length < 2^62) (hb : ∀ x ∈ bs, 0 ≤ x ∧ x < 256) :
    Lw (C w9r [.ptr 0 0, .agg [I s.conds, .ref 1 7 0 s.tasks.length]] [.box wht [bys bs, I at_, .int .u64 sd], .row whn false 7 (s.tasks.map encK)]) fun r => ∃ (l : List Mv) (at' sd' : Int), r = (.un whj true 3 (l.map encM), [.box wht [bys bs, I at', .int .u64 sd'], .row whn false 7 (s.tasks.map encK)]) ∧ at_ ≤ at' ∧ at' ≤ at_ + 1000 ∧ l.length ≤ 61 := by
  have hN := wge s hs.sm
  have hS1 := hs.1
  cases hg : goodS s with
  | false =>
    rw [hg, if_neg (by simp)] at hN
    refine w35 ?_
    simp (maxSteps := 2000000) (disch := first | omega | (simp only [lenS]; try omega)) only [wet, go_sem, reduceAdd, reduceEqDiff, reduceLeDiff, reduceSub]
    simp (maxSteps := 2000000) (disch := first | omega | (simp only [lenS]; try omega)) only [go_sem, reduceAdd, reduceEqDiff, reduceLeDiff, reduceSub, hN]
    exact ⟨[], at_, sd, rfl, by omega, by omega, by simp⟩
  | true =>
    rw [hg, if_pos rfl] at hN
    have hfl := zes (zhc hg)
    obtain ⟨_, e1, x1, a1, s1, rfl, g1, g2, g3, g4⟩ := wgu 12 bs at_ sd (by omega) (by omega) hl hb
    obtain ⟨_, e2, w2, a2, s2, rfl, g5, g6⟩ := wgt 30 bs a1 s1 (by omega) (by omega) hl hb
    obtain ⟨_, e3, x3, a3, s3, rfl, g7, g8, g9, g10⟩ := wgu 2 bs a2 s2 (by omega) (by omega) hl hb
    refine w35 ?_
    simp (maxSteps := 2000000) (disch := first | omega | (simp only [lenS]; try omega)) only [wet, go_sem, reduceAdd, reduceEqDiff, reduceLeDiff, reduceSub]
    refine' wfm (orc := C) (m := 2) (fun N A S => N ≤ 61 ∧ at_ ≤ A ∧ A ≤ at_ + 20) (fun N A S => ⟨[.ptr 0 0, .any, .ptr 2 0, .any, .ptr 3 0, .any, .ref 4 3 0 0, I N, .any, .any, .any, .any, .any, .any, .any, .any, .any], [.box wht [bys bs, I A, .int .u64 S], .row whn false 7 (s.tasks.map encK), .box whm [I s.conds, .ref 1 7 0 s.tasks.length], .box whh [I (zeq s).state, .ref 5 1 0 (zeq s).mark.length], .row whj true 3 [], .row t_int true 1 ((zeq s).mark.map I)]⟩) _ _ _ ?main ?key
    case main =>
      intro key
      cases w2 with
      | true =>
        obtain ⟨N, hN0⟩ : ∃ N : Nat, 60 + x3 = N := ⟨(60 + x3).toNat, by omega⟩
        simp (maxSteps := 2000000) (disch := first | omega | (simp only [lenS]; try omega)) only [go_sem, reduceAdd, reduceEqDiff, reduceLeDiff, reduceSub, hN, e1, e2, e3, hN0]
        refine key N a3 s3 _ ⟨by omega, by omega, by omega⟩ ?_
        simp (maxSteps := 2000000) (disch := first | omega | (simp only [lenS]; try omega)) only [go_sem, reduceAdd, reduceEqDiff, reduceLeDiff, reduceSub, hfl]
        rfl
      | false =>
        obtain ⟨N, hN0⟩ : ∃ N : Nat, x1 = N := ⟨x1.toNat, by omega⟩
        simp (maxSteps := 2000000) (disch := first | omega | (simp only [lenS]; try omega)) only [go_sem, reduceAdd, reduceEqDiff, reduceLeDiff, reduceSub, hN, e1, e2, hN0]
        refine key N a2 s2 _ ⟨by omega, by omega, by omega⟩ ?_
        simp (maxSteps := 2000000) (disch := first | omega | (simp only [lenS]; try omega)) only [go_sem, reduceAdd, reduceEqDiff, reduceLeDiff, reduceSub, hfl]
        rfl
    case key =>
      intro N A0 S0 st0 hH hst0
      refine W_for N (fun k st => ∃ (x : Cs) (l : List Mv) (a sd : Int), st = ⟨[.ptr 0 0, .any, .ptr 2 0, .any, .ptr 3 0, .any, .ref 4 3 0 l.length, I (N - k), .any, .any, .any, .any, .any, .any, .any, .any, .any], [.box wht [bys bs, I a, .int .u64 sd], .row whn false 7 (s.tasks.map encK), .box whm [I s.conds, .ref 1 7 0 s.tasks.length], .box whh [I x.state, .ref 5 1 0 x.mark.length], .row whj true 3 (l.map encM), .row t_int true 1 (x.mark.map I)]⟩ ∧ goodC s x = true ∧ l.length = k ∧ at_ ≤ a ∧ a ≤ at_ + 20 + 10 * k) ?_ ?_ ?_
      · refine ⟨zeq s, [], A0, S0, ?_, zer (zhc hg), rfl, by omega, by omega⟩
        rw [hst0]
        rw [show (N : Int) - ((0 : Nat) : Int) = N by omega]
        rfl
      · rintro k st hk ⟨x, l, a, sd, rfl, hx, hlk, h7, h8⟩
        have hxl := (zh2 (zgu hx)).2.2.2.1
        have hmv := wgm s x hg hx
        have hst := fun m => wgo s x m hg hx
        obtain ⟨_, f1, y1, b1, c1, rfl, j1, j2, j3, j4⟩ := wgu s.tasks.length bs a sd (by omega) (by omega) hl hb
        obtain ⟨_, f2, w2, b2, c2, rfl, j5, j6⟩ := wgt 2 bs b1 c1 (by omega) (by omega) hl hb
        obtain ⟨_, f3, y3, b3, c3, rfl, j7, j8, j9, j10⟩ := wgu 2 bs b2 c2 (by omega) (by omega) hl hb
        obtain ⟨_, f4, w4, b4, c4, rfl, j11, j12⟩ := wgt 12 bs b3 c3 (by omega) (by omega) hl hb
        have hML : (movL s x).length ≤ 60 := by
          have h2 := zrq (zhc hg) s.tasks.length (by omega)
          have := (ztt (zhc hg)).2.1
          unfold movL
          split
          · exact Nat.le_trans (List.length_filter_le _ _) (by unfold mvS; omega)
          · simp
        obtain ⟨_, f5, y5, b5, c5, rfl, j13, j14, j15, j16⟩ := wgu (movL s x).length bs b4 c4 (by omega) (by omega) hl hb
        generalize movL s x = ML at *
        have eN : (N : Int) - ((k + 1 : Nat) : Int) = N - k - 1 := by omega
        rw [eN]
        have fin : ∀ (X : Cs) (m : Mv) (P : PV) (A Sd : Int), goodC s X = true → at_ ≤ A → A ≤ at_ + 20 + 10 * (k + 1 : Nat) → P = encM m → ∃ (x : Cs) (l' : List Mv) (a sd : Int), (⟨[.ptr 0 0, .any, .ptr 2 0, .any, .ptr 3 0, .any, .ref 4 3 0 (l.length + 1), I (N - k - 1), .any, .any, .any, .any, .any, .any, .any, .any, .any], [.box wht [bys bs, I A, .int .u64 Sd], .row whn false 7 (s.tasks.map encK), .box whm [I s.conds, .ref 1 7 0 s.tasks.length], .box whh [I X.state, .ref 5 1 0 X.mark.length], .row whj true 3 (l.map encM ++ [P]), .row t_int true 1 (X.mark.map I)]⟩ : St) = ⟨[.ptr 0 0, .any, .ptr 2 0, .any, .ptr 3 0, .any, .ref 4 3 0 l'.length, I (N - k - 1), .any, .any, .any, .any, .any, .any, .any, .any, .any], [.box wht [bys bs, I a, .int .u64 sd], .row whn false 7 (s.tasks.map encK), .box whm [I s.conds, .ref 1 7 0 s.tasks.length], .box whh [I x.state, .ref 5 1 0 x.mark.length], .row whj true 3 (l'.map encM), .row t_int true 1 (x.mark.map I)]⟩ ∧ goodC s x = true ∧ l'.length = k + 1 ∧ at_ ≤ a ∧ a ≤ at_ + 20 + 10 * (k + 1 : Nat) := by
          intro X m P A Sd q1 q2 q3 q4
          subst q4
          exact ⟨X, l ++ [m], A, Sd, by rw [List.map_append, List.length_append]; rfl, q1, by simp [hlk], q2, q3⟩
        have two : ∀ m : Mv, (stepB s x m = true ∧ C w9o [encS s, encC x, encM m] [] = some (.tup [.agg [I (stepC s x m).state, .un t_int true 1 ((stepC s x m).mark.map I)], .bool true], []) ∧ goodC s (stepC s x m) = true ∧ (stepC s x m).mark.length ≤ 16) ∨ (stepB s x m = false ∧ C w9o [encS s, encC x, encM m] [] = some (.tup [.agg [I 0, .nil true 1], .bool false], [])) := by
          intro m
          have h := hst m
          unfold z17u at h
          cases hB : stepB s x m with
          | true =>
            rw [hB, if_pos rfl] at h
            have hgd := z17m hx hB
            exact .inl ⟨rfl, h, hgd, (zh2 (zgu hgd)).2.2.2.1⟩
          | false =>
            rw [hB, if_neg (by simp)] at h
            exact .inr ⟨rfl, h⟩
        by_cases hR : 0 < ML.length
        · have hy5 : y5.toNat < ML.length := by omega
          have hlk5 : ML[y5.toNat]? = some ML[y5.toNat] := List.getElem?_eq_getElem hy5
          generalize ML[y5.toNat] = M at *
          obtain ⟨mt, mb, mp⟩ := M
          cases w4 with
          | true =>
            rcases two ⟨y1, w2, y3⟩ with ⟨u1, u2, u3, u4⟩ | ⟨u1, u2⟩ <;> cases w2
            all_goals
              simp (maxSteps := 2000000) (disch := first | omega | (simp only [lenS]; try omega)) only [go_sem, reduceAdd, reduceEqDiff, reduceLeDiff, reduceSub, f1, f2, f3, f4, hmv, u2]
              first
                | exact fin _ ⟨y1, true, y3⟩ _ _ _ hx (by omega) (by omega) rfl
                | exact fin _ ⟨y1, false, y3⟩ _ _ _ hx (by omega) (by omega) rfl
                | exact fin _ ⟨y1, true, y3⟩ _ _ _ u3 (by omega) (by omega) rfl
                | exact fin _ ⟨y1, false, y3⟩ _ _ _ u3 (by omega) (by omega) rfl
                | exact fin _ ⟨mt, true, mp⟩ _ _ _ hx (by omega) (by omega) rfl
                | exact fin _ ⟨mt, false, mp⟩ _ _ _ hx (by omega) (by omega) rfl
                | exact fin _ ⟨mt, true, mp⟩ _ _ _ z3 (by omega) (by omega) rfl
                | exact fin _ ⟨mt, false, mp⟩ _ _ _ z3 (by omega) (by omega) rfl
          | false =>
            rcases two ⟨mt, mb, mp⟩ with ⟨z1, z2, z3, z4⟩ | ⟨z1, z2⟩ <;> cases mb <;> cases w2
            all_goals
              simp (maxSteps := 2000000) (disch := first | omega | (simp only [lenS]; try omega)) only [go_sem, reduceAdd, reduceEqDiff, reduceLeDiff, reduceSub, f1, f2, f3, f4, f5, hmv, hlk5, z2]
              first
                | exact fin _ ⟨y1, true, y3⟩ _ _ _ hx (by omega) (by omega) rfl
                | exact fin _ ⟨y1, false, y3⟩ _ _ _ hx (by omega) (by omega) rfl
                | exact fin _ ⟨y1, true, y3⟩ _ _ _ u3 (by omega) (by omega) rfl
                | exact fin _ ⟨y1, false, y3⟩ _ _ _ u3 (by omega) (by omega) rfl
                | exact fin _ ⟨mt, true, mp⟩ _ _ _ hx (by omega) (by omega) rfl
                | exact fin _ ⟨mt, false, mp⟩ _ _ _ hx (by omega) (by omega) rfl
                | exact fin _ ⟨mt, true, mp⟩ _ _ _ z3 (by omega) (by omega) rfl
                | exact fin _ ⟨mt, false, mp⟩ _ _ _ z3 (by omega) (by omega) rfl
        · have hR0 : ML = [] := List.eq_nil_of_length_eq_zero (by omega)
          subst hR0
          rcases two ⟨y1, w2, y3⟩ with ⟨u1, u2, u3, u4⟩ | ⟨u1, u2⟩ <;> cases w2
          all_goals
            simp (maxSteps := 2000000) (disch := first | omega | (simp only [lenS]; try omega)) only [go_sem, reduceAdd, reduceEqDiff, reduceLeDiff, reduceSub, f1, f2, f3, hmv, u2]
            first
              | exact fin _ ⟨y1, true, y3⟩ _ _ _ hx (by omega) (by omega) rfl
              | exact fin _ ⟨y1, false, y3⟩ _ _ _ hx (by omega) (by omega) rfl
              | exact fin _ ⟨y1, true, y3⟩ _ _ _ u3 (by omega) (by omega) rfl
              | exact fin _ ⟨y1, false, y3⟩ _ _ _ u3 (by omega) (by omega) rfl
      · rintro st ⟨x, l, a, sd, rfl, hx, hlk, h7, h8⟩
        simp (maxSteps := 2000000) (disch := first | omega | (simp only [lenS]; try omega)) only [go_sem, reduceAdd, reduceEqDiff, reduceLeDiff, reduceSub]
        exact ⟨l, a, sd, rfl, by omega, by omega, by omega⟩
theorem wg8 (a : List Int) (hl : a.length < 2^62) (hb : ∀ x ∈ a, 0 ≤ x ∧ x < 256) : Lw (C w98 [bys a] []) fun r => ∃ (s : Spc) (l : List Mv), r = (.tup [.agg [I s.conds, .un whn false 7 (s.tasks.map encK)], .un whj true 3 (l.map encM)], []) ∧ drS s ∧ l.length ≤ 61 := by
  obtain ⟨_, e1, S, a1, s1, rfl, h3, h4, h5⟩ := wgx a 0 0 (by omega) (by omega) hl hb
  obtain ⟨_, e2, l, a2, s2, rfl, g3, g4, g5⟩ := wgr S h5 a a1 s1 (by omega) (by omega) hl hb
  refine w33 ?_
  simp (maxSteps := 2000000) (disch := first | omega | (simp only [lenS]; try omega)) only [wea, go_sem, reduceAdd, reduceEqDiff, reduceLeDiff, reduceSub]
  simp (maxSteps := 2000000) (disch := first | omega | (simp only [lenS]; try omega)) only [go_sem, reduceAdd, reduceEqDiff, reduceLeDiff, reduceSub, e1, e2]
  exact ⟨by decide, S, l, rfl, h5, g5⟩
theorem wc1 (n lo hi : Int) : C w8i [I n, I lo, I hi] [] = some (.bool (inB lo hi n), []) := by
  refine w1h ?_
  simp (maxSteps := 2000000) (disch := first | omega | (simp only [lenS]; try omega)) only [wdl, go_sem, reduceAdd, reduceEqDiff, reduceLeDiff, reduceSub]
  unfold inB; grind
theorem wbe (l : List Int) (hl : l.length < 2^62) : C w7w [ints l] [] = some (.bool (incr l), []) := by
  refine w0w ?_
  simp (maxSteps := 2000000) (disch := first | omega | (simp only [lenS]; try omega)) only [wcz, go_sem, reduceAdd, reduceEqDiff, reduceLeDiff, reduceSub]
  refine W_for (l.length - 1) (fun k s => s = ⟨[ints l, .any, I (k + 1 : Int), .any, .any], []⟩ ∧ (l.take (k + 1)).Pairwise (· < ·)) ?_ ?_ ?_
  · simp (maxSteps := 2000000) (disch := first | omega | (simp only [lenS]; try omega)) only [go_sem, reduceAdd, reduceEqDiff, reduceLeDiff, reduceSub]
    exact ⟨rfl, zki⟩
  · rintro k s hk ⟨rfl, hp⟩
    simp (maxSteps := 2000000) (disch := first | omega | (simp only [lenS]; try omega)) only [go_sem, reduceAdd, reduceEqDiff, reduceLeDiff, reduceSub]
    have e1 : ((k : Int) + 1).toNat = k + 1 := by omega
    have e2 : ((k : Int) + 1 - 1).toNat = k := by omega
    simp only [e1, e2]
    refine ⟨fun h => by rw [zkh (k := k) (by omega) (by omega)], fun h => ⟨rfl, zkk (by omega) hp h⟩⟩
  · rintro s ⟨rfl, hp⟩
    simp (maxSteps := 2000000) (disch := first | omega | (simp only [lenS]; try omega)) only [go_sem, reduceAdd, reduceEqDiff, reduceLeDiff, reduceSub]
    rw [z1a4 (by omega)] at hp
    rw [show incr l = true by simpa [incr] using hp]
theorem waz (l : List Int) (lo hi : Int) (hl : l.length < 2^62) : C w7i [ints l, I lo, I hi] [] = some (.bool (l.all (inB lo hi)), []) := by
  refine w0i ?_
  simp (maxSteps := 2000000) (disch := first | omega | (simp only [lenS]; try omega)) only [wcl, go_sem, reduceAdd, reduceEqDiff, reduceLeDiff, reduceSub]
  refine W_for l.length (fun k s => s = ⟨[.any, I lo, I hi, .any, .any, ints l, I l.length, I k, .any, .any], []⟩ ∧ (l.take k).all (inB lo hi) = true) ?_ ?_ ?_
  · simp (maxSteps := 2000000) (disch := first | omega | (simp only [lenS]; try omega)) only [go_sem, reduceAdd, reduceEqDiff, reduceLeDiff, reduceSub]
    rfl
  · rintro k s hk ⟨rfl, hall⟩
    simp (maxSteps := 2000000) (disch := first | omega | (simp only [lenS]; try omega)) only [go_sem, reduceAdd, reduceEqDiff, reduceLeDiff, reduceSub, wc1]
    exact ⟨fun h => ⟨rfl, z2s hk hall h⟩, fun h => by rw [z2r hk h]⟩
  · rintro s ⟨rfl, hall⟩
    simp (maxSteps := 2000000) (disch := first | omega | (simp only [lenS]; try omega)) only [go_sem, reduceAdd, reduceEqDiff, reduceLeDiff, reduceSub]
    rw [List.take_length] at hall
    rw [hall]
theorem wb0 (s : Spc) (l : List Int) (f : Int) (hl : l.length < 2^62) (hc : 2 ≤ s.conds ∧ s.conds ≤ 8) : C w7j [encS s, ints l, I f] [] = some (.bool (incr l && l.all (inB f (s.conds - 1))), []) := by
  refine w0j ?_
  simp (maxSteps := 2000000) (disch := first | omega | (simp only [lenS]; try omega)) only [wcm, go_sem, reduceAdd, reduceEqDiff, reduceLeDiff, reduceSub]
  simp (maxSteps := 2000000) (disch := first | omega | (simp only [lenS]; try omega)) only [go_sem, reduceAdd, reduceEqDiff, reduceLeDiff, reduceSub, wbe l hl, waz l _ _ hl]
  grind
theorem wg4 (l : List Int) (x : Int) (hl : l.length < 2^62) : C w94 [ints l, I x] [] = some (I (idxI l (fun y => y == x)), []) := by
  refine w21 ?_
  simp (maxSteps := 2000000) (disch := first | omega | (simp only [lenS]; try omega)) only [we6, go_sem, reduceAdd, reduceEqDiff, reduceLeDiff, reduceSub]
  refine W_for l.length (fun k s => s = ⟨[ints l, I x, .any, .any, I l.length, I k, .any, .any], []⟩ ∧ (l.take k).any (fun y => y == x) = false) ?_ ?_ ?_
  · simp (maxSteps := 2000000) (disch := first | omega | (simp only [lenS]; try omega)) only [go_sem, reduceAdd, reduceEqDiff, reduceLeDiff, reduceSub]
    rfl
  · rintro k s hk ⟨rfl, hall⟩
    simp (maxSteps := 2000000) (disch := first | omega | (simp only [lenS]; try omega)) only [go_sem, reduceAdd, reduceEqDiff, reduceLeDiff, reduceSub]
    refine ⟨fun h => ?_, fun h => ⟨rfl, z37 hk hall (by simpa using fun e => h e.symm)⟩⟩
    rw [zid hk hall (by simpa using h.symm)]
  · rintro s ⟨rfl, hall⟩
    simp (maxSteps := 2000000) (disch := first | omega | (simp only [lenS]; try omega)) only [go_sem, reduceAdd, reduceEqDiff, reduceLeDiff, reduceSub]
    rw [List.take_length] at hall
    rw [zic hall]
theorem wfu (l : List Int) (x : Int) (hl : l.length < 2^62) : C w8u [ints l, I x] [] = some (.bool (hasB l x), []) := by
  refine w1s ?_
  simp (maxSteps := 2000000) (disch := first | omega | (simp only [lenS]; try omega)) only [wdw, go_sem, reduceAdd, reduceEqDiff, reduceLeDiff, reduceSub]
  simp (maxSteps := 2000000) (disch := first | omega | (simp only [lenS]; try omega)) only [go_sem, reduceAdd, reduceEqDiff, reduceLeDiff, reduceSub, wg4 l x hl]
  have := zia l (fun y => y == x)
  rw [zhx, this]
  exact ⟨fun h => by simp [h], fun h => by rw [decide_eq_false (by omega)]⟩
theorem wbk (s : Spc) (k : Nat) (hk : k < s.tasks.length) (hl : s.tasks.length ≤ 6) (hc : 2 ≤ s.conds ∧ s.conds ≤ 8) (ht : smTk s.tasks[k]) : C w82 [encS s, I k] [] = some (.bool (goodK s k s.tasks[k]), []) := by
  obtain ⟨a, b, c, d⟩ := ht
  refine w12 ?_
  simp (maxSteps := 2000000) (disch := first | omega | (simp only [lenS]; try omega)) only [wd5, go_sem, reduceAdd, reduceEqDiff, reduceLeDiff, reduceSub]
  unfold goodK
  generalize hT : s.tasks[k] = t at *
  simp (maxSteps := 2000000) (disch := first | omega | (simp only [lenS]; try omega)) only [go_sem, reduceAdd, reduceEqDiff, reduceLeDiff, reduceSub, hT, wc1, wb0 s _ _ _ hc, wbe, waz, wfu]
  generalize t.inn.all (inB 0 (s.conds - 1)) = q1
  generalize t.out.all (inB 0 (s.conds - 1)) = q2
  generalize t.cut.all (inB 2 (s.conds - 1)) = q3
  generalize t.stop.all (inB 0 ((s.tasks.length : Int) - 1)) = q4
  (repeat' (first | apply And.intro | intro _)) <;> simp_all
theorem wbn (s : Spc) (h : zts s = true) : C w85 [encS s] [] = some (.un whj true 3 ((mvS s).map encM), []) := by
  obtain ⟨hc, hn, hg⟩ := ztt h
  have shl1 : IntKind.i64.wrap (1 * 2 ^ min 1 64) = 2 := by decide
  have shl2 : IntKind.i64.wrap (1 * 2 ^ min 2 64) = 4 := by decide
  have shl3 : IntKind.i64.wrap (1 * 2 ^ min 3 64) = 8 := by decide
  refine w14 ?_
  simp (maxSteps := 2000000) (disch := first | omega | (simp only [lenS]; try omega)) only [wd8, go_sem, reduceAdd, reduceEqDiff, reduceLeDiff, reduceSub]
  refine W_for s.tasks.length (fun k st => st = ⟨[.any, .any, .any, .ref 0 3 0 (mvU s k).length, .any, .any, .any, .any, .any, tks s.tasks, I s.tasks.length, I k, .any, .any, .any, .any, .any, .any, .any, .any, .any], [.row whj true 3 ((mvU s k).map encM)]⟩) ?_ ?_ ?_
  · simp (maxSteps := 2000000) (disch := first | omega | (simp only [lenS]; try omega)) only [go_sem, reduceAdd, reduceEqDiff, reduceLeDiff, reduceSub]
    rfl
  · rintro k st hk rfl
    have hK := hg k hk
    have hl := zrq h k (by omega)
    have hbl := z52 hK
    have hel := zc0 hK
    have hU := zrs s k
    have hB : (z50 (tkN s k)).length = if (tkN s k).join = 2 then (tkN s k).inn.length else 1 := by unfold z50; split <;> simp
    have hE : (endL (tkN s k)).length = if (tkN s k).split = 2 then (tkN s k).out.length else if (tkN s k).split = 3 then 2 ^ (tkN s k).out.length - 1 else 1 := by unfold endL; (repeat' split) <;> simp
    have hF : endF (tkN s k) = if (tkN s k).split = 2 then 0 else if (tkN s k).split = 3 then 1 else 0 := rfl
    unfold mvK at hU
    have heq := z1af hk
    rw [hU]
    simp (maxSteps := 2000000) (disch := first | omega | (simp only [lenS]; try omega)) only [go_sem, reduceAdd, reduceEqDiff, reduceLeDiff, reduceSub]
    rw [← heq]
    generalize tkN s k = t at *
    obtain ⟨hj, hs, h1, h2, -, -, -, -, -, -⟩ := zgz hK
    have hp := zyk h2.1 h2.2
    generalize mvU s k = U at *
    generalize hN : (z50 t).length = nb at *
    generalize hM : (endL t).length = ne at *
    refine W_for (nb - 1) (fun j st => st = ⟨[.any, .any, .any, .ref 0 3 0 (U.length + (j + 1)), I k, .ptr 1 0, I (j + 1 : Int), .any, .any, tks s.tasks, I s.tasks.length, I k, .any, .any, .any, .any, .any, .any, .any, .any, .any], [.row whj true 3 ((U ++ mvB k (j + 1)).map encM), .box whn [I t.join, I t.split, ints t.inn, ints t.out, ints t.cut, ints t.stop, I t.role]]⟩) ?_ ?_ ?_
    · simp (maxSteps := 2000000) (disch := first | omega | (simp only [lenS]; try omega)) only [go_sem, reduceAdd, reduceEqDiff, reduceLeDiff, reduceSub]
      simp [mvB]
    · rintro j st hjj rfl
      have hj2 : t.join = 2 := by
        rcases hj with hj | hj
        · simp [hj] at hB; omega
        · exact hj
      simp [hj2] at hB
      have := zrh k (j + 1)
      simp (maxSteps := 2000000) (disch := first | omega | (simp only [lenS]; try omega)) only [go_sem, reduceAdd, reduceEqDiff, reduceLeDiff, reduceSub, hj2, this]
      rw [zri k (j + 1)]
      simp
      omega
    · rintro st rfl
      have e1 : nb - 1 + 1 = nb := by omega
      rw [e1]
      have e2 : ((nb - 1 : Nat) : Int) + 1 = nb := by omega
      rw [e2]
      have e3 := zrh k nb
      have hj3 : t.join = 2 → nb = t.inn.length := fun e => by simpa [e] using hB
      have e4 : (U ++ mvB k nb).length = U.length + nb := by simp [e3]
      generalize hV : U ++ mvB k nb = V at *
      rw [← List.append_assoc, hV, ← e4]
      have hVl : V.length ≤ 100 := by omega
      clear hB hV hN hM hU
      rcases hs with hs | hs | hs
      · have hne : ne = 1 := by simpa [hs] using hE
        have hF0 : endF t = 0 := by simpa [hs] using hF
        subst hne
        rcases hj with hj | hj
        · simp (maxSteps := 2000000) (disch := first | omega | (simp only [lenS]; try omega)) only [go_sem, reduceAdd, reduceEqDiff, reduceLeDiff, reduceSub, hj, hs]
          simp [hF0, mvE]
        · have := hj3 hj
          simp (maxSteps := 2000000) (disch := first | omega | (simp only [lenS]; try omega)) only [go_sem, reduceAdd, reduceEqDiff, reduceLeDiff, reduceSub, hj, hs]
          simp [hF0, mvE]
      · have hne : ne = t.out.length := by simpa [hs] using hE
        have hF0 : endF t = 0 := by simpa [hs] using hF
        rcases hj with hj | hj
        · simp (maxSteps := 2000000) (disch := first | omega | (simp only [lenS]; try omega)) only [go_sem, reduceAdd, reduceEqDiff, reduceLeDiff, reduceSub, hj, hs]
          refine W_for ne (fun i st => st = ⟨[.any, .any, .any, .ref 0 3 0 (V.length + i), I k, .any, .any, .any, .any, tks s.tasks, I s.tasks.length, I k, .any, .any, .any, .any, .any, .any, I ne, I i, .any], [.row whj true 3 ((V ++ mvE k 0 i).map encM)]⟩) ?_ ?_ ?_
          · simp (maxSteps := 2000000) (disch := first | omega | (simp only [lenS]; try omega)) only [go_sem, reduceAdd, reduceEqDiff, reduceLeDiff, reduceSub]
            simp [mvE, hne]
          · rintro i st hi rfl
            have := zrj k 0 i
            simp (maxSteps := 2000000) (disch := first | omega | (simp only [lenS]; try omega)) only [go_sem, reduceAdd, reduceEqDiff, reduceLeDiff, reduceSub, this]
            rw [zrk]
            simp
            omega
          · rintro st rfl
            have := zrj k 0 ne
            simp (maxSteps := 2000000) (disch := first | omega | (simp only [lenS]; try omega)) only [go_sem, reduceAdd, reduceEqDiff, reduceLeDiff, reduceSub, this]
            simp [hF0, this]
        · have := hj3 hj
          simp (maxSteps := 2000000) (disch := first | omega | (simp only [lenS]; try omega)) only [go_sem, reduceAdd, reduceEqDiff, reduceLeDiff, reduceSub, hj, hs]
          refine W_for ne (fun i st => st = ⟨[.any, .any, .any, .ref 0 3 0 (V.length + i), I k, .any, .any, .any, .any, tks s.tasks, I s.tasks.length, I k, .any, .any, .any, .any, .any, .any, I ne, I i, .any], [.row whj true 3 ((V ++ mvE k 0 i).map encM)]⟩) ?_ ?_ ?_
          · simp (maxSteps := 2000000) (disch := first | omega | (simp only [lenS]; try omega)) only [go_sem, reduceAdd, reduceEqDiff, reduceLeDiff, reduceSub]
            simp [mvE, hne]
          · rintro i st hi rfl
            have := zrj k 0 i
            simp (maxSteps := 2000000) (disch := first | omega | (simp only [lenS]; try omega)) only [go_sem, reduceAdd, reduceEqDiff, reduceLeDiff, reduceSub, this]
            rw [zrk]
            simp
            omega
          · rintro st rfl
            have := zrj k 0 ne
            simp (maxSteps := 2000000) (disch := first | omega | (simp only [lenS]; try omega)) only [go_sem, reduceAdd, reduceEqDiff, reduceLeDiff, reduceSub, this]
            simp [hF0, this]
      · have hne : ne = 2 ^ t.out.length - 1 := by simpa [hs] using hE
        have hF0 : endF t = 1 := by simpa [hs] using hF
        rcases hj with hj | hj
        · simp (maxSteps := 2000000) (disch := first | omega | (simp only [lenS]; try omega)) only [go_sem, reduceAdd, reduceEqDiff, reduceLeDiff, reduceSub, hj, hs]
          refine W_for ne (fun i st => st = ⟨[.any, .any, .any, .ref 0 3 0 (V.length + i), I k, .ptr 1 0, .any, .any, I (i + 1 : Int), tks s.tasks, I s.tasks.length, I k, .any, .any, .any, .any, .any, .any, .any, .any, .any], [.row whj true 3 ((V ++ mvE k 1 i).map encM), .box whn [I t.join, I t.split, ints t.inn, ints t.out, ints t.cut, ints t.stop, I t.role]]⟩) ?_ ?_ ?_
          · simp (maxSteps := 2000000) (disch := first | omega | (simp only [lenS]; try omega)) only [go_sem, reduceAdd, reduceEqDiff, reduceLeDiff, reduceSub]
            simp [mvE, hj, hs]
          · rintro i st hi rfl
            have e := zrj k 1 i
            have e5 : t.out.length = 1 ∨ t.out.length = 2 ∨ t.out.length = 3 := by omega
            rcases e5 with e5 | e5 | e5
            all_goals
              simp only [e5] at hne
              simp (maxSteps := 2000000) (disch := first | omega | (simp only [lenS]; try omega)) only [go_sem, reduceAdd, reduceEqDiff, reduceLeDiff, reduceSub, e, e5, shl1, shl2, shl3]
              rw [zrk]
              simp
              omega
          · rintro st rfl
            have e := zrj k 1 ne
            have e5 : t.out.length = 1 ∨ t.out.length = 2 ∨ t.out.length = 3 := by omega
            rcases e5 with e5 | e5 | e5
            all_goals
              simp only [e5] at hne
              simp (maxSteps := 2000000) (disch := first | omega | (simp only [lenS]; try omega)) only [go_sem, reduceAdd, reduceEqDiff, reduceLeDiff, reduceSub, e, e5, shl1, shl2, shl3]
              simp [hF0, e]
        · have := hj3 hj
          simp (maxSteps := 2000000) (disch := first | omega | (simp only [lenS]; try omega)) only [go_sem, reduceAdd, reduceEqDiff, reduceLeDiff, reduceSub, hj, hs]
          refine W_for ne (fun i st => st = ⟨[.any, .any, .any, .ref 0 3 0 (V.length + i), I k, .ptr 1 0, .any, .any, I (i + 1 : Int), tks s.tasks, I s.tasks.length, I k, .any, .any, .any, .any, .any, .any, .any, .any, .any], [.row whj true 3 ((V ++ mvE k 1 i).map encM), .box whn [I t.join, I t.split, ints t.inn, ints t.out, ints t.cut, ints t.stop, I t.role]]⟩) ?_ ?_ ?_
          · simp (maxSteps := 2000000) (disch := first | omega | (simp only [lenS]; try omega)) only [go_sem, reduceAdd, reduceEqDiff, reduceLeDiff, reduceSub]
            simp [mvE, hj, hs]
          · rintro i st hi rfl
            have e := zrj k 1 i
            have e5 : t.out.length = 1 ∨ t.out.length = 2 ∨ t.out.length = 3 := by omega
            rcases e5 with e5 | e5 | e5
            all_goals
              simp only [e5] at hne
              simp (maxSteps := 2000000) (disch := first | omega | (simp only [lenS]; try omega)) only [go_sem, reduceAdd, reduceEqDiff, reduceLeDiff, reduceSub, e, e5, shl1, shl2, shl3]
              rw [zrk]
              simp
              omega
          · rintro st rfl
            have e := zrj k 1 ne
            have e5 : t.out.length = 1 ∨ t.out.length = 2 ∨ t.out.length = 3 := by omega
            rcases e5 with e5 | e5 | e5
            all_goals
              simp only [e5] at hne
              simp (maxSteps := 2000000) (disch := first | omega | (simp only [lenS]; try omega)) only [go_sem, reduceAdd, reduceEqDiff, reduceLeDiff, reduceSub, e, e5, shl1, shl2, shl3]
              simp [hF0, e]
  · rintro st rfl
    simp (maxSteps := 2000000) (disch := first | omega | (simp only [lenS]; try omega)) only [go_sem, reduceAdd, reduceEqDiff, reduceLeDiff, reduceSub]
    rfl
theorem wbu (l : List Int) (h : ∀ p ∈ l, 0 ≤ p ∧ p < 30) (hi : incr l = true) (hl : l.length < 2^30) : C w8b [I (maskN l)] [] = some (.un t_int true 1 (l.map I), []) := by
  have hp : l.Pairwise (· < ·) := by simpa [incr] using hi
  have h0 : ∀ p ∈ l, 0 ≤ p := fun p hp => (h p hp).1
  have hm : maskN l < 2 ^ 30 := zpw (q := 30) h
  refine w1a ?_
  simp (maxSteps := 2000000) (disch := first | omega | (simp only [lenS]; try omega)) only [wde, go_sem, reduceAdd, reduceEqDiff, reduceLeDiff, reduceSub]
  refine z1a (fun j s => ∃ k : Nat, j + k = 40 ∧ k ≤ 31 ∧ s = ⟨[I (maskN l), .any, .ref 0 1 0 (below l k).length, I k, .any, .any], [.row t_int true 1 ((below l k).map I)]⟩) 40 ?_ ?_
  · refine ⟨0, rfl, by omega, ?_⟩
    rw [z5b h0]
    simp (maxSteps := 2000000) (disch := first | omega | (simp only [lenS]; try omega)) only [go_sem, reduceAdd, reduceEqDiff, reduceLeDiff, reduceSub]
    rfl
  · rintro j s ⟨k, hj, hk, rfl⟩
    have hbl := z59 l k
    have e1 : ((maskN l : Nat) : Int) / 2 ^ min k 64 = ((maskN l / 2 ^ k : Nat) : Int) := by
      rw [show min k 64 = k by omega]; simp
    have e2 : maskN l / 2 ^ k < 2 ^ 62 := Nat.lt_of_le_of_lt (Nat.div_le_self _ _) (by omega)
    have e3 := z2x (a := maskN l / 2 ^ k) (b := 1) e2 (by decide)
    rw [Nat.and_one_is_mod] at e3
    simp (maxSteps := 2000000) (disch := first | omega | (simp only [lenS]; try omega)) only [go_sem, reduceAdd, reduceEqDiff, reduceLeDiff, reduceSub, e1]
    have eb := zq0 h0 k
    have hone : ((1 : Nat) : Int) = 1 := rfl
    rw [hone] at e3
    refine ⟨fun hne => ?_, fun hz => ?_⟩
    · have hk30 : k < 30 := by
        rcases Nat.lt_or_ge k 30 with h5 | h5
        · exact h5
        · exact (hne (by rw [Nat.div_eq_of_lt (Nat.lt_of_lt_of_le hm (Nat.pow_le_pow_right (by decide) h5))]; rfl)).elim
      refine ⟨fun h1 => ⟨j - 1, by omega, k + 1, by omega, by omega, ?_⟩, fun h1 => ⟨j - 1, by omega, k + 1, by omega, by omega, ?_⟩⟩
      · have hm1 : maskN l / 2 ^ k % 2 = 1 := by rw [e3] at h1; omega
        rw [decide_eq_true hm1] at eb
        rw [z5a hp, if_pos (by simpa [hasB] using eb), List.map_append]
        simp
      · have hm1 : ¬ maskN l / 2 ^ k % 2 = 1 := by rw [e3] at h1; omega
        rw [decide_eq_false hm1] at eb
        rw [z5a hp, if_neg (by simpa [hasB] using eb), List.append_nil]
        rfl
    · rw [z58 (zq1 h0 k (by exact_mod_cast hz))]
theorem wbt (s : Spc) (k : Nat) (hk : k < s.tasks.length) (hc : 2 ≤ s.conds ∧ s.conds ≤ 8) (ht : smTk s.tasks[k]) (h1 : s.tasks[k].cut.length ≤ 16) (h0 : s.tasks[k].stop.length ≤ 16) (h2 : ∀ x ∈ s.tasks[k].stop, 0 ≤ x ∧ x < 16) : C w8a [encS s, I k] [] = some (.un t_int true 1 ((regL s s.tasks[k]).map I), []) := by
  obtain ⟨a, b, c, d⟩ := ht
  refine w19 ?_
  simp (maxSteps := 2000000) (disch := first | omega | (simp only [lenS]; try omega)) only [wdd, go_sem, reduceAdd, reduceEqDiff, reduceLeDiff, reduceSub]
  simp (maxSteps := 2000000) (disch := first | omega | (simp only [lenS]; try omega)) only [go_sem, reduceAdd, reduceEqDiff, reduceLeDiff, reduceSub, wfn]
  generalize hT : s.tasks[k] = t at *
  refine W_for t.stop.length (fun i st => st = ⟨[.any, .any, .ptr 0 0, .any, .ref 1 1 0 (t.cut.length + i), .any, ints t.stop, I t.stop.length, I i, .any], [.box whm [I s.conds, tks s.tasks], .row t_int true 1 ((t.cut ++ (t.stop.take i).map (s.conds + ·)).map I)]⟩) ?_ ?_ ?_
  · simp (maxSteps := 2000000) (disch := first | omega | (simp only [lenS]; try omega)) only [go_sem, reduceAdd, reduceEqDiff, reduceLeDiff, reduceSub]
    simp
  · rintro i st hi rfl
    have h3 := h2 _ (List.getElem_mem hi)
    have e := z10z (s := s) hi
    simp (maxSteps := 2000000) (disch := first | omega | (simp only [lenS]; try omega)) only [go_sem, reduceAdd, reduceEqDiff, reduceLeDiff, reduceSub]
    rw [e, List.map_append]
    simp
    omega
  · rintro st rfl
    simp (maxSteps := 2000000) (disch := first | omega | (simp only [lenS]; try omega)) only [go_sem, reduceAdd, reduceEqDiff, reduceLeDiff, reduceSub]
    simp [regL]
theorem wc0 (s : Spc) (m : Mv) (h : zts s = true) (hm : isMv s m) : C w8h [encS s, encM m] [] = some (.agg [.un t_int true 1 ((trM s m).inn.map I), .un t_int true 1 ((trM s m).out.map I), if m.begin_ then .nil true 1 else .un t_int true 1 ((trM s m).rst.map I)], []) := by
  obtain ⟨hc, hn, hg⟩ := ztt h
  obtain ⟨k, hk, e1, hb, he⟩ := hm
  have hK := hg k hk
  have hsm := ztu h hk
  have heq := z1af hk
  obtain ⟨c1, c2, c3, c4⟩ := hsm
  have hreg := wbt s k hk hc c1 c2 c3 c4
  rw [← heq] at c1 c2 c3 c4 hreg
  obtain ⟨b1, b2, b3, b4⟩ := c1
  obtain ⟨mt, mb, mp⟩ := m
  simp only at e1 hb he
  subst e1
  have eT : tkN s ((k : Int)).toNat = tkN s k := by simp
  refine w1g ?_
  simp (maxSteps := 2000000) (disch := first | omega | (simp only [lenS]; try omega)) only [wdk, go_sem, reduceAdd, reduceEqDiff, reduceLeDiff, reduceSub]
  simp only [trM, eT]
  have hb2 : (z50 (tkN s k)).length = if (tkN s k).join = 2 then (tkN s k).inn.length else 1 := by unfold z50; split <;> simp
  have hE : (endL (tkN s k)).length = if (tkN s k).split = 2 then (tkN s k).out.length else if (tkN s k).split = 3 then 2 ^ (tkN s k).out.length - 1 else 1 := by unfold endL; (repeat' split) <;> simp
  have hF : endF (tkN s k) = if (tkN s k).split = 2 then 0 else if (tkN s k).split = 3 then 1 else 0 := rfl
  simp only [← heq]
  generalize tkN s k = t at *
  obtain ⟨hj, hs, h1, h2, -, -, -, -, -, -⟩ := zgz hK
  cases mb with
  | true =>
    obtain ⟨hp0, hp1⟩ := hb rfl
    rcases hj with hj | hj
    · simp (maxSteps := 2000000) (disch := first | omega | (simp only [lenS]; try omega)) only [go_sem, reduceAdd, reduceEqDiff, reduceLeDiff, reduceSub, hj, wfn]
      exact fun h => absurd h (by decide)
    · simp only [hj, if_true] at hb2
      have := at_eq (m := t.inn) (p := mp) (by omega)
      simp (maxSteps := 2000000) (disch := first | omega | (simp only [lenS]; try omega)) only [go_sem, reduceAdd, reduceEqDiff, reduceLeDiff, reduceSub, hj, this]
  | false =>
    obtain ⟨hp0, hp1⟩ := he rfl
    rcases hs with hs | hs | hs
    · simp (maxSteps := 2000000) (disch := first | omega | (simp only [lenS]; try omega)) only [go_sem, reduceAdd, reduceEqDiff, reduceLeDiff, reduceSub, hs, wfn, hreg]
    · simp only [hs, if_true] at hE hF
      have := at_eq (m := t.out) (p := mp) (by omega)
      simp (maxSteps := 2000000) (disch := first | omega | (simp only [lenS]; try omega)) only [go_sem, reduceAdd, reduceEqDiff, reduceLeDiff, reduceSub, hs, wfn, hreg, this]
    · simp [hs] at hE hF
      have hpp := zyk h2.1 h2.2
      have hS := z14y mp.toNat (by omega)
      obtain ⟨d1, d2, d3, d4, d5⟩ := hS
      have d6 := d5 t.out.length h2.1 h2.2 (by omega)
      have hset := wbu (setB mp.toNat) (fun p hp => by have := d3 p hp; omega) d2 (by omega)
      rw [d1, show ((mp.toNat : Nat) : Int) = mp by omega] at hset
      simp (maxSteps := 2000000) (disch := first | omega | (simp only [lenS]; try omega)) only [go_sem, reduceAdd, reduceEqDiff, reduceLeDiff, reduceSub, hs, wfn, hset]
      refine W_for (setB mp.toNat).length (fun i st => st = ⟨[.any, .any, .ptr 0 0, .ptr 1 0, .ptr 2 0, .ptr 3 0, .ref 4 1 0 1, .ref 5 1 0 i, .any, .any, .any, .any, .any, .any, .ref 6 1 0 (setB mp.toNat).length, I (setB mp.toNat).length, I i, .any], [.box whm [I s.conds, tks s.tasks], .box whj [I k, .bool false, I mp], .box whp [.nil true 1, .nil true 1, .nil true 1], .box whn [I t.join, I t.split, ints t.inn, ints t.out, ints t.cut, ints t.stop, I t.role], .row t_int true 1 [I (s.conds + k)], .row t_int true 1 (((setB mp.toNat).take i).map fun p => I (at_ t.out p)), .row t_int true 1 ((setB mp.toNat).map I)]⟩) ?_ ?_ ?_
      · simp (maxSteps := 2000000) (disch := first | omega | (simp only [lenS]; try omega)) only [go_sem, reduceAdd, reduceEqDiff, reduceLeDiff, reduceSub]
        simp [hs]
      · rintro i st hi rfl
        have h6 := d6 _ (List.getElem_mem hi)
        have h7 := d3 _ (List.getElem_mem hi)
        have e := at_eq (m := t.out) (p := (setB mp.toNat)[i]) (by omega)
        simp (maxSteps := 2000000) (disch := first | omega | (simp only [lenS]; try omega)) only [go_sem, reduceAdd, reduceEqDiff, reduceLeDiff, reduceSub]
        rw [List.take_succ_eq_append_getElem hi, List.map_append]
        simp [e]
      · rintro st rfl
        simp (maxSteps := 2000000) (disch := first | omega | (simp only [lenS]; try omega)) only [go_sem, reduceAdd, reduceEqDiff, reduceLeDiff, reduceSub, hreg]
        simp [someL]
theorem wbw (s : Spc) (h : zts s = true) : C w8d [encS s] [] = some (.agg [I (s.conds + s.tasks.length), .un whp false 3 ((trS s).map encT), I 0, I 1], []) := by
  obtain ⟨hc, hn, hg⟩ := ztt h
  have hml := zrq h s.tasks.length (by omega)
  have hmv := wbn s h
  have hU : (mvS s).map (trM s) = trS s := trM_U s s.tasks.length
  rw [← hU]
  have hall : ∀ m ∈ mvS s, isMv s m := fun m hm => zro hm
  have hL : (mvS s).length ≤ 60 ∧ 2 ≤ (mvS s).length := by unfold mvS; omega
  generalize mvS s = M at *
  refine w1c ?_
  simp (maxSteps := 2000000) (disch := first | omega | (simp only [lenS]; try omega)) only [wdg, go_sem, reduceAdd, reduceEqDiff, reduceLeDiff, reduceSub]
  simp (maxSteps := 2000000) (disch := first | omega | (simp only [lenS]; try omega)) only [go_sem, reduceAdd, reduceEqDiff, reduceLeDiff, reduceSub, hmv]
  refine W_for M.length (fun i st => st = ⟨[.any, .ptr 0 0, .ptr 1 0, .ptr 2 0, .any, .ref 3 3 0 M.length, I M.length, I i, .any], [.box whm [I s.conds, tks s.tasks], .box whi [I 0, .nil false 3, I 0, I 0], .box whk [I (s.conds + s.tasks.length), cellT 4 ((M.take i).map (trM s))], .row whj true 3 (M.map encM)] ++ blkT whp ((M.take i).map (trM s))⟩) ?_ ?_ ?_
  · simp (maxSteps := 2000000) (disch := first | omega | (simp only [lenS]; try omega)) only [go_sem, reduceAdd, reduceEqDiff, reduceLeDiff, reduceSub]
    simp [cellT, blkT]
  · rintro i st hi rfl
    have hm := hall _ (List.getElem_mem hi)
    have ht := wc0 s M[i] h hm
    have hlen : ((M.take i).map (trM s)).length = i := by simp; omega
    have hne : (M.take (i + 1)).map (trM s) ≠ [] := by intro e; have := congrArg List.length e; rw [List.length_map, List.length_take, List.length_nil] at this; omega
    have hsn : (M.take (i + 1)).map (trM s) = (M.take i).map (trM s) ++ [trM s M[i]] := by rw [List.take_succ_eq_append_getElem hi, List.map_append]; rfl
    rw [z81 hne, z6h hne, hsn]
    generalize (M.take i).map (trM s) = L at *
    cases hb : M[i].begin_ with
    | true =>
      have hr : (trM s M[i]).rst = [] := by simp only [trM, hb, if_true]; split <;> rfl
      rw [hb, if_pos rfl] at ht
      by_cases hL0 : L = []
      · subst hL0
        simp only [z82, z6i]
        simp (maxSteps := 2000000) (disch := first | omega | (simp only [lenS]; try omega)) only [go_sem, reduceAdd, reduceEqDiff, reduceLeDiff, reduceSub, ht]
        simp [hr, hb]
      · rw [z81 hL0, z6h hL0]
        simp (maxSteps := 2000000) (disch := first | omega | (simp only [lenS]; try omega)) only [go_sem, reduceAdd, reduceEqDiff, reduceLeDiff, reduceSub, ht]
        simp [hr, hb]
    | false =>
      rw [hb, if_neg (by simp)] at ht
      by_cases hL0 : L = []
      · subst hL0
        simp only [z82, z6i]
        simp (maxSteps := 2000000) (disch := first | omega | (simp only [lenS]; try omega)) only [go_sem, reduceAdd, reduceEqDiff, reduceLeDiff, reduceSub, ht]
        simp [hb]
      · rw [z81 hL0, z6h hL0]
        simp (maxSteps := 2000000) (disch := first | omega | (simp only [lenS]; try omega)) only [go_sem, reduceAdd, reduceEqDiff, reduceLeDiff, reduceSub, ht]
        simp [hb]
  · rintro st rfl
    have hne : (M.take M.length).map (trM s) ≠ [] := by intro e; have := congrArg List.length e; rw [List.length_map, List.length_take, List.length_nil] at this; omega
    rw [z81 hne, z6h hne, List.take_length]
    simp (maxSteps := 2000000) (disch := first | omega | (simp only [lenS]; try omega)) only [go_sem, reduceAdd, reduceEqDiff, reduceLeDiff, reduceSub]
theorem wb3 (n : Net) (l : List Int) (h : 1 ≤ n.pl ∧ n.pl ≤ 16) (hl : l.length < 2^62) : C w7m [encN n, ints l] [] = some (.bool (zy2 n.pl l), []) := by
  refine w0m ?_
  simp (maxSteps := 2000000) (disch := first | omega | (simp only [lenS]; try omega)) only [wcp, go_sem, reduceAdd, reduceEqDiff, reduceLeDiff, reduceSub]
  simp (maxSteps := 2000000) (disch := first | omega | (simp only [lenS]; try omega)) only [go_sem, reduceAdd, reduceEqDiff, reduceLeDiff, reduceSub, wbe l hl, waz l _ _ hl]
  unfold zy2; grind
theorem wai (n : Net) (t : Tr) (h : 1 ≤ n.pl ∧ n.pl ≤ 16) (ht : smT t) : C w74 [encT t, .pv (encN n) 0] [] = some (.bool (!goodT n.pl t), []) := by
  obtain ⟨h1, h2, h3⟩ := ht
  refine w05 ?_
  simp (maxSteps := 2000000) (disch := first | omega | (simp only [lenS]; try omega)) only [wc7, go_sem, reduceAdd, reduceEqDiff, reduceLeDiff, reduceSub]
  simp (maxSteps := 2000000) (disch := first | omega | (simp only [lenS]; try omega)) only [go_sem, reduceAdd, reduceEqDiff, reduceLeDiff, reduceSub, wb3 n _ h]
  refine ⟨fun h6 => by rw [zhi (by omega)]; rfl, fun h6 => ⟨fun h7 => ⟨fun h8 => ⟨fun h9 => by rw [zhd (by omega) h7 h8 h9]; rfl, fun h9 => by simp [goodT, h9]⟩, fun h8 => by simp [goodT, h8]⟩, fun h7 => by simp [goodT, h7]⟩⟩
theorem wfz (l : List Tr) (g : FuncId) (caps : List PV) (hc : refsL caps = []) (hcv : ∀ m h, z1bj [] m h caps = some caps) (p : Tr → Bool) (hp : ∀ x ∈ l, C g (encT x :: caps) [] = some (.bool (p x), [])) (hl : l.length < 2^62) :
    C w8z [trs l, .clo g caps] [] = some (I (idxI l p), []) := by
  refine w1w ?_
  simp (maxSteps := 2000000) (disch := first | omega | (simp only [lenS]; try omega)) only [we1, go_sem, reduceAdd, reduceEqDiff, reduceLeDiff, reduceSub]
  refine W_for l.length (fun k s => s = ⟨[trs l, .clo g caps, .any, .any, I l.length, I k, .any, .any], []⟩ ∧ (l.take k).any p = false) ?_ ?_ ?_
  · simp (maxSteps := 2000000) (disch := first | omega | (simp only [lenS]; try omega)) only [go_sem, reduceAdd, reduceEqDiff, reduceLeDiff, reduceSub, hc]
    rfl
  · rintro k s hk ⟨rfl, hall⟩
    simp (maxSteps := 2000000) (disch := first | omega | (simp only [lenS]; try omega)) only [go_sem, reduceAdd, reduceEqDiff, reduceLeDiff, reduceSub, hc, hcv, hp _ (List.getElem_mem hk)]
    exact ⟨fun h => by rw [zid hk hall h], fun h => ⟨rfl, z37 hk hall h⟩⟩
  · rintro s ⟨rfl, hall⟩
    simp (maxSteps := 2000000) (disch := first | omega | (simp only [lenS]; try omega)) only [go_sem, reduceAdd, reduceEqDiff, reduceLeDiff, reduceSub]
    rw [List.take_length] at hall
    rw [zic hall]
theorem wfp (l : List Tr) (g : FuncId) (caps : List PV) (hc : refsL caps = []) (hcv : ∀ m h, z1bj [] m h caps = some caps) (p : Tr → Bool) (hp : ∀ x ∈ l, C g (encT x :: caps) [] = some (.bool (p x), [])) (hl : l.length < 2^62) :
    C w8q [trs l, .clo g caps] [] = some (.bool (l.any p), []) := by
  refine w1o ?_
  simp (maxSteps := 2000000) (disch := first | omega | (simp only [lenS]; try omega)) only [wds, go_sem, reduceAdd, reduceEqDiff, reduceLeDiff, reduceSub]
  simp (maxSteps := 2000000) (disch := first | omega | (simp only [lenS]; try omega)) only [go_sem, reduceAdd, reduceEqDiff, reduceLeDiff, reduceSub, hc, hcv, wfz l g caps hc hcv p hp hl]
  have := zia l p
  grind
theorem waj (n : Net) (hn : smN n) : C w73 [encN n] [] = some (.bool (goodN n), []) := by
  have h0 := hn.1
  refine w04 ?_
  simp (maxSteps := 2000000) (disch := first | omega | (simp only [lenS]; try omega)) only [wc6, go_sem, reduceAdd, reduceEqDiff, reduceLeDiff, reduceSub]
  simp (maxSteps := 2000000) (disch := first | omega | (simp only [lenS]; try omega)) only [go_sem, reduceAdd, reduceEqDiff, reduceLeDiff, reduceSub, wc1]
  refine ⟨fun h => ⟨fun h2 => ?_, fun h2 => ?_⟩, fun h => by simp [goodN, h]⟩
  · have hb : 1 ≤ n.pl ∧ n.pl ≤ 16 := by simpa [inB] using h
    have h3 := wfp n.tr w74 [.pv (encN n) 0] rfl (fun _ _ => rfl) (fun t => !goodT n.pl t) (fun x hx => wai n x hb (hn.2 x hx)) (by omega)
    simp (maxSteps := 2000000) (disch := first | omega | (simp only [lenS]; try omega)) only [go_sem, reduceAdd, reduceEqDiff, reduceLeDiff, reduceSub, h3]
    have : (n.tr.any fun t => !goodT n.pl t) = !n.tr.all (goodT n.pl) := by rw [List.any_eq_not_all_not]; simp
    have h4 : n.tr.length ≤ 24 := by omega
    simp only [this]
    simp [goodN, h, h4]
  · have : ¬ n.tr.length ≤ 24 := by omega
    simp [goodN, this]
theorem wbq (x : Int) (P : List Bool) (h : 0 ≤ x ∧ x.toNat < P.length) : C w89 [I x, .pv (.agg [bls P]) 0] [] = some (.bool (P.getD x.toNat false), []) := by
  obtain ⟨h1, h2⟩ := h
  refine w18 ?_
  simp (maxSteps := 2000000) (disch := first | omega | (simp only [lenS]; try omega)) only [wdc, go_sem, reduceAdd, reduceEqDiff, reduceLeDiff, reduceSub]
  rw [zgj h2]
  grind
theorem wg0 (l : List Int) (g : FuncId) (caps : List PV) (hc : refsL caps = []) (hcv : ∀ m h, z1bj [] m h caps = some caps) (p : Int → Bool) (hp : ∀ x ∈ l, C g (I x :: caps) [] = some (.bool (p x), [])) (hl : l.length < 2^62) :
    C w90 [ints l, .clo g caps] [] = some (I (idxI l p), []) := by
  refine w1x ?_
  simp (maxSteps := 2000000) (disch := first | omega | (simp only [lenS]; try omega)) only [we2, go_sem, reduceAdd, reduceEqDiff, reduceLeDiff, reduceSub]
  refine W_for l.length (fun k s => s = ⟨[ints l, .clo g caps, .any, .any, I l.length, I k, .any, .any], []⟩ ∧ (l.take k).any p = false) ?_ ?_ ?_
  · simp (maxSteps := 2000000) (disch := first | omega | (simp only [lenS]; try omega)) only [go_sem, reduceAdd, reduceEqDiff, reduceLeDiff, reduceSub, hc]
    rfl
  · rintro k s hk ⟨rfl, hall⟩
    simp (maxSteps := 2000000) (disch := first | omega | (simp only [lenS]; try omega)) only [go_sem, reduceAdd, reduceEqDiff, reduceLeDiff, reduceSub, hc, hcv, hp _ (List.getElem_mem hk)]
    exact ⟨fun h => by rw [zid hk hall h], fun h => ⟨rfl, z37 hk hall h⟩⟩
  · rintro s ⟨rfl, hall⟩
    simp (maxSteps := 2000000) (disch := first | omega | (simp only [lenS]; try omega)) only [go_sem, reduceAdd, reduceEqDiff, reduceLeDiff, reduceSub]
    rw [List.take_length] at hall
    rw [zic hall]
theorem wfq (l : List Int) (g : FuncId) (caps : List PV) (hc : refsL caps = []) (hcv : ∀ m h, z1bj [] m h caps = some caps) (p : Int → Bool) (hp : ∀ x ∈ l, C g (I x :: caps) [] = some (.bool (p x), [])) (hl : l.length < 2^62) :
    C w8r [ints l, .clo g caps] [] = some (.bool (l.any p), []) := by
  refine w1p ?_
  simp (maxSteps := 2000000) (disch := first | omega | (simp only [lenS]; try omega)) only [wdt, go_sem, reduceAdd, reduceEqDiff, reduceLeDiff, reduceSub]
  simp (maxSteps := 2000000) (disch := first | omega | (simp only [lenS]; try omega)) only [go_sem, reduceAdd, reduceEqDiff, reduceLeDiff, reduceSub, hc, hcv, wg0 l g caps hc hcv p hp hl]
  have := zia l p
  grind
theorem wbr (n : Net) (p : Int) (hg : goodN n = true) (hp : 0 ≤ p ∧ p < n.pl) : C w88 [encN n, I p, .bool false] [] = some (.tup [.un whf true 1 ((zzx n false p).pl.map PV.bool), .un whf true 1 ((zzx n false p).tr.map PV.bool)], []) := by
  have hb := zha hg
  have hlen := zzz n false p
  rw [zzy] at hlen ⊢
  refine w17 ?_
  simp (maxSteps := 2000000) (disch := first | omega | (simp only [lenS]; try omega)) only [wdb, go_sem, reduceAdd, reduceEqDiff, reduceLeDiff, reduceSub]
  simp (maxSteps := 2000000) (disch := first | omega | (simp only [lenS]; try omega)) only [go_sem, reduceAdd, reduceEqDiff, reduceLeDiff, reduceSub, List.getElem_replicate]
  generalize hR : clRun n false (cntF (List.replicate n.tr.length false) + 1) ⟨(List.replicate n.pl.toNat false).set p.toNat true, List.replicate n.tr.length false, true⟩ = R at *
  refine ⟨rfl, ?_⟩
  refine z1a (fun k s => ∃ c : Cl, c.pl.length = n.pl.toNat ∧ c.tr.length = n.tr.length ∧ ((k = cntF c.tr + 1 ∧ s = ⟨[.any, .any, .bool false, .ptr 0 0, .any, .any, .ptr 1 0, .ref 2 1 0 n.tr.length, .bool true, .any, .any, .any, .any, .any, .any, .any, .any, .any, .any, .any, .any, .any, .any, .any, .any], [.box whk [I n.pl, trs n.tr], .box whr [.ref 3 1 0 n.pl.toNat], .row whf true 1 (c.tr.map PV.bool), .row whf true 1 (c.pl.map PV.bool)]⟩ ∧ clRun n false (cntF c.tr + 1) c = R) ∨ (k = 0 ∧ s = ⟨[.any, .any, .bool false, .ptr 0 0, .any, .any, .ptr 1 0, .ref 2 1 0 n.tr.length, .bool false, .any, .any, .any, .any, .any, .any, .any, .any, .any, .any, .any, .any, .any, .any, .any, .any], [.box whk [I n.pl, trs n.tr], .box whr [.ref 3 1 0 n.pl.toNat], .row whf true 1 (c.tr.map PV.bool), .row whf true 1 (c.pl.map PV.bool)]⟩ ∧ c = R))) (cntF (List.replicate n.tr.length false) + 1) ?_ ?_
  · refine ⟨⟨(List.replicate n.pl.toNat false).set p.toNat true, List.replicate n.tr.length false, true⟩, by simp, by simp, .inl ⟨rfl, ?_, hR⟩⟩
    simp (maxSteps := 2000000) (disch := first | omega | (simp only [lenS]; try omega)) only [go_sem, reduceAdd, reduceEqDiff, reduceLeDiff, reduceSub]
    simp
  · rintro k0 s ⟨c, hc1, hc2, ⟨rfl, rfl, hc⟩ | ⟨rfl, rfl, rfl⟩⟩
    · have hcl := fun k => z8z n false c k
      simp (maxSteps := 2000000) (disch := first | omega | (simp only [lenS]; try omega)) only [go_sem, reduceAdd, reduceEqDiff, reduceLeDiff, reduceSub]
      refine W_for n.tr.length (fun k s => s = ⟨[.any, .any, .bool false, .ptr 0 0, .any, .any, .ptr 1 0, .ref 2 1 0 n.tr.length, .bool (clK n false c k).ch, .any, .any, .any, .any, .any, .any, trs n.tr, I n.tr.length, I k, .any, .any, .any, .any, .any, .any, .any], [.box whk [I n.pl, trs n.tr], .box whr [.ref 3 1 0 n.pl.toNat], .row whf true 1 ((clK n false c k).tr.map PV.bool), .row whf true 1 ((clK n false c k).pl.map PV.bool)]⟩) ?_ ?_ ?_
      · simp (maxSteps := 2000000) (disch := first | omega | (simp only [lenS]; try omega)) only [go_sem, reduceAdd, reduceEqDiff, reduceLeDiff, reduceSub]
        rfl
      · rintro k s hk rfl
        have hT := hb.2.2.2 _ (List.getElem_mem hk)
        have hLs := zhf hT (by omega)
        obtain ⟨_, g1, g2, g3⟩ := zhj hT
        have p1 := zy4 g1
        have p2 := zy4 g2
        have hd := hcl k
        have hstep := z90 n false c k
        have htr : n.tr[k] = trN n k := (z1aq hk).symm
        rw [htr] at hLs p1 p2
        have s1 : (clK n false c k).tr.getD k false = true → clK n false c (k + 1) = clK n false c k := fun h => hstep.trans (z99 (.inl h))
        have s2 : hitB (clK n false c k).pl (sideI false (trN n k)) = false → clK n false c (k + 1) = clK n false c k := fun h => hstep.trans (z99 (.inr h))
        have s3 : (clK n false c k).tr.getD k false = false → hitB (clK n false c k).pl (sideI false (trN n k)) = true → clK n false c (k + 1) = ⟨markB (clK n false c k).pl (sideO false (trN n k)), (clK n false c k).tr.set k true, true⟩ := fun h h2 => hstep.trans (z9a h h2)
        simp only [sideI, sideO, Bool.false_eq_true, if_false, if_true] at s2 s3
        clear hstep
        generalize clK n false c k = d at *
        generalize clK n false c (k + 1) = d' at *
        have hcont := wfq (trN n k).inn w89 [.pv (.agg [bls d.pl]) 0] rfl (fun _ _ => rfl) (fun q => d.pl.getD q.toNat false) (fun x hx => wbq x d.pl (by have := p1 x hx; omega)) (by omega)
        rw [show ((trN n k).inn.any fun q => d.pl.getD q.toNat false) = hitB d.pl (trN n k).inn from rfl] at hcont
        have hkd : k < d.tr.length := by omega
        simp (maxSteps := 2000000) (disch := first | omega | (simp only [lenS]; try omega)) only [go_sem, reduceAdd, reduceEqDiff, reduceLeDiff, reduceSub, htr, hcont]
        generalize trN n k = tr at *
        refine ⟨fun h3 => ?_, fun h3 => ⟨fun h => ?_, fun h => ?_⟩⟩
        · rw [s1 (by rw [← zgj hkd]; exact h3)]; rfl
        · have e := s3 (by rw [← zgj hkd]; exact h3) h
          subst e
          refine W_for tr.out.length (fun j s => s = ⟨[.any, .any, .bool false, .ptr 0 0, .any, .any, .ptr 1 0, .ref 2 1 0 n.tr.length, .bool true, .any, .any, .any, .any, .any, .any, trs n.tr, I n.tr.length, I k, .any, .any, .any, ints tr.out, I tr.out.length, I j, .any], [.box whk [I n.pl, trs n.tr], .box whr [.ref 3 1 0 n.pl.toNat], .row whf true 1 ((d.tr.set k true).map PV.bool), .row whf true 1 ((markB d.pl (tr.out.take j)).map PV.bool)]⟩) ?_ ?_ ?_
          · simp (maxSteps := 2000000) (disch := first | omega | (simp only [lenS]; try omega)) only [go_sem, reduceAdd, reduceEqDiff, reduceLeDiff, reduceSub]
            rfl
          · rintro j s hj rfl
            have h1 := p2 _ (List.getElem_mem hj)
            have h2 : tr.out[j].toNat < d.pl.length := by omega
            have h4 := zpk d.pl (tr.out.take j)
            simp (maxSteps := 2000000) (disch := first | omega | (simp only [lenS]; try omega)) only [go_sem, reduceAdd, reduceEqDiff, reduceLeDiff, reduceSub]
            rw [zpl hj]; rfl
          · rintro s rfl
            simp (maxSteps := 2000000) (disch := first | omega | (simp only [lenS]; try omega)) only [go_sem, reduceAdd, reduceEqDiff, reduceLeDiff, reduceSub, List.take_length]
            rfl
        · rw [s2 h]; rfl
      · rintro s rfl
        simp (maxSteps := 2000000) (disch := first | omega | (simp only [lenS]; try omega)) only [go_sem, reduceAdd, reduceEqDiff, reduceLeDiff, reduceSub]
        have hn := z95 (n := n) (bk := false) hc2
        rw [hc] at hn
        cases e : (z91 n false c).ch with
        | true =>
          have h1 := (z8y (n := n) (bk := false) (s := c) (k := n.tr.length) (by omega)).2 e
          simp only [e, if_true] at hn
          refine ⟨cntF (z91 n false c).tr + 1, by unfold z91; omega, z91 n false c, by unfold z91; have := hcl n.tr.length; omega, by unfold z91; have := hcl n.tr.length; omega, .inl ⟨rfl, ?_, hn.symm⟩⟩
          unfold z91 at e ⊢
          rw [e]
        | false =>
          simp only [e, Bool.false_eq_true, if_false] at hn
          refine ⟨0, by omega, z91 n false c, by unfold z91; have := hcl n.tr.length; omega, by unfold z91; have := hcl n.tr.length; omega, .inr ⟨rfl, ?_, hn.symm⟩⟩
          unfold z91 at e ⊢
          rw [e]
    · simp (maxSteps := 2000000) (disch := first | omega | (simp only [lenS]; try omega)) only [go_sem, reduceAdd, reduceEqDiff, reduceLeDiff, reduceSub]
theorem wbs (n : Net) (p : Int) (hg : goodN n = true) (hp : 0 ≤ p ∧ p < n.pl) : C w88 [encN n, I p, .bool true] [] = some (.tup [.un whf true 1 ((zzx n true p).pl.map PV.bool), .un whf true 1 ((zzx n true p).tr.map PV.bool)], []) := by
  have hb := zha hg
  have hlen := zzz n true p
  rw [zzy] at hlen ⊢
  refine w17 ?_
  simp (maxSteps := 2000000) (disch := first | omega | (simp only [lenS]; try omega)) only [wdb, go_sem, reduceAdd, reduceEqDiff, reduceLeDiff, reduceSub]
  simp (maxSteps := 2000000) (disch := first | omega | (simp only [lenS]; try omega)) only [go_sem, reduceAdd, reduceEqDiff, reduceLeDiff, reduceSub, List.getElem_replicate]
  generalize hR : clRun n true (cntF (List.replicate n.tr.length false) + 1) ⟨(List.replicate n.pl.toNat false).set p.toNat true, List.replicate n.tr.length false, true⟩ = R at *
  refine ⟨rfl, ?_⟩
  refine z1a (fun k s => ∃ c : Cl, c.pl.length = n.pl.toNat ∧ c.tr.length = n.tr.length ∧ ((k = cntF c.tr + 1 ∧ s = ⟨[.any, .any, .bool true, .ptr 0 0, .any, .any, .ptr 1 0, .ref 2 1 0 n.tr.length, .bool true, .any, .any, .any, .any, .any, .any, .any, .any, .any, .any, .any, .any, .any, .any, .any, .any], [.box whk [I n.pl, trs n.tr], .box whr [.ref 3 1 0 n.pl.toNat], .row whf true 1 (c.tr.map PV.bool), .row whf true 1 (c.pl.map PV.bool)]⟩ ∧ clRun n true (cntF c.tr + 1) c = R) ∨ (k = 0 ∧ s = ⟨[.any, .any, .bool true, .ptr 0 0, .any, .any, .ptr 1 0, .ref 2 1 0 n.tr.length, .bool false, .any, .any, .any, .any, .any, .any, .any, .any, .any, .any, .any, .any, .any, .any, .any, .any], [.box whk [I n.pl, trs n.tr], .box whr [.ref 3 1 0 n.pl.toNat], .row whf true 1 (c.tr.map PV.bool), .row whf true 1 (c.pl.map PV.bool)]⟩ ∧ c = R))) (cntF (List.replicate n.tr.length false) + 1) ?_ ?_
  · refine ⟨⟨(List.replicate n.pl.toNat false).set p.toNat true, List.replicate n.tr.length false, true⟩, by simp, by simp, .inl ⟨rfl, ?_, hR⟩⟩
    simp (maxSteps := 2000000) (disch := first | omega | (simp only [lenS]; try omega)) only [go_sem, reduceAdd, reduceEqDiff, reduceLeDiff, reduceSub]
    simp
  · rintro k0 s ⟨c, hc1, hc2, ⟨rfl, rfl, hc⟩ | ⟨rfl, rfl, rfl⟩⟩
    · have hcl := fun k => z8z n true c k
      simp (maxSteps := 2000000) (disch := first | omega | (simp only [lenS]; try omega)) only [go_sem, reduceAdd, reduceEqDiff, reduceLeDiff, reduceSub]
      refine W_for n.tr.length (fun k s => s = ⟨[.any, .any, .bool true, .ptr 0 0, .any, .any, .ptr 1 0, .ref 2 1 0 n.tr.length, .bool (clK n true c k).ch, .any, .any, .any, .any, .any, .any, trs n.tr, I n.tr.length, I k, .any, .any, .any, .any, .any, .any, .any], [.box whk [I n.pl, trs n.tr], .box whr [.ref 3 1 0 n.pl.toNat], .row whf true 1 ((clK n true c k).tr.map PV.bool), .row whf true 1 ((clK n true c k).pl.map PV.bool)]⟩) ?_ ?_ ?_
      · simp (maxSteps := 2000000) (disch := first | omega | (simp only [lenS]; try omega)) only [go_sem, reduceAdd, reduceEqDiff, reduceLeDiff, reduceSub]
        rfl
      · rintro k s hk rfl
        have hT := hb.2.2.2 _ (List.getElem_mem hk)
        have hLs := zhf hT (by omega)
        obtain ⟨_, g1, g2, g3⟩ := zhj hT
        have p1 := zy4 g2
        have p2 := zy4 g1
        have hd := hcl k
        have hstep := z90 n true c k
        have htr : n.tr[k] = trN n k := (z1aq hk).symm
        rw [htr] at hLs p1 p2
        have s1 : (clK n true c k).tr.getD k false = true → clK n true c (k + 1) = clK n true c k := fun h => hstep.trans (z99 (.inl h))
        have s2 : hitB (clK n true c k).pl (sideI true (trN n k)) = false → clK n true c (k + 1) = clK n true c k := fun h => hstep.trans (z99 (.inr h))
        have s3 : (clK n true c k).tr.getD k false = false → hitB (clK n true c k).pl (sideI true (trN n k)) = true → clK n true c (k + 1) = ⟨markB (clK n true c k).pl (sideO true (trN n k)), (clK n true c k).tr.set k true, true⟩ := fun h h2 => hstep.trans (z9a h h2)
        simp only [sideI, sideO, Bool.false_eq_true, if_false, if_true] at s2 s3
        clear hstep
        generalize clK n true c k = d at *
        generalize clK n true c (k + 1) = d' at *
        have hcont := wfq (trN n k).out w89 [.pv (.agg [bls d.pl]) 0] rfl (fun _ _ => rfl) (fun q => d.pl.getD q.toNat false) (fun x hx => wbq x d.pl (by have := p1 x hx; omega)) (by omega)
        rw [show ((trN n k).out.any fun q => d.pl.getD q.toNat false) = hitB d.pl (trN n k).out from rfl] at hcont
        have hkd : k < d.tr.length := by omega
        simp (maxSteps := 2000000) (disch := first | omega | (simp only [lenS]; try omega)) only [go_sem, reduceAdd, reduceEqDiff, reduceLeDiff, reduceSub, htr, hcont]
        generalize trN n k = tr at *
        refine ⟨fun h3 => ?_, fun h3 => ⟨fun h => ?_, fun h => ?_⟩⟩
        · rw [s1 (by rw [← zgj hkd]; exact h3)]; rfl
        · have e := s3 (by rw [← zgj hkd]; exact h3) h
          subst e
          refine W_for tr.inn.length (fun j s => s = ⟨[.any, .any, .bool true, .ptr 0 0, .any, .any, .ptr 1 0, .ref 2 1 0 n.tr.length, .bool true, .any, .any, .any, .any, .any, .any, trs n.tr, I n.tr.length, I k, .any, .any, .any, ints tr.inn, I tr.inn.length, I j, .any], [.box whk [I n.pl, trs n.tr], .box whr [.ref 3 1 0 n.pl.toNat], .row whf true 1 ((d.tr.set k true).map PV.bool), .row whf true 1 ((markB d.pl (tr.inn.take j)).map PV.bool)]⟩) ?_ ?_ ?_
          · simp (maxSteps := 2000000) (disch := first | omega | (simp only [lenS]; try omega)) only [go_sem, reduceAdd, reduceEqDiff, reduceLeDiff, reduceSub]
            rfl
          · rintro j s hj rfl
            have h1 := p2 _ (List.getElem_mem hj)
            have h2 : tr.inn[j].toNat < d.pl.length := by omega
            have h4 := zpk d.pl (tr.inn.take j)
            simp (maxSteps := 2000000) (disch := first | omega | (simp only [lenS]; try omega)) only [go_sem, reduceAdd, reduceEqDiff, reduceLeDiff, reduceSub]
            rw [zpl hj]; rfl
          · rintro s rfl
            simp (maxSteps := 2000000) (disch := first | omega | (simp only [lenS]; try omega)) only [go_sem, reduceAdd, reduceEqDiff, reduceLeDiff, reduceSub, List.take_length]
            rfl
        · rw [s2 h]; rfl
      · rintro s rfl
        simp (maxSteps := 2000000) (disch := first | omega | (simp only [lenS]; try omega)) only [go_sem, reduceAdd, reduceEqDiff, reduceLeDiff, reduceSub]
        have hn := z95 (n := n) (bk := true) hc2
        rw [hc] at hn
        cases e : (z91 n true c).ch with
        | true =>
          have h1 := (z8y (n := n) (bk := true) (s := c) (k := n.tr.length) (by omega)).2 e
          simp only [e, if_true] at hn
          refine ⟨cntF (z91 n true c).tr + 1, by unfold z91; omega, z91 n true c, by unfold z91; have := hcl n.tr.length; omega, by unfold z91; have := hcl n.tr.length; omega, .inl ⟨rfl, ?_, hn.symm⟩⟩
          unfold z91 at e ⊢
          rw [e]
        | false =>
          simp only [e, Bool.false_eq_true, if_false] at hn
          refine ⟨0, by omega, z91 n true c, by unfold z91; have := hcl n.tr.length; omega, by unfold z91; have := hcl n.tr.length; omega, .inr ⟨rfl, ?_, hn.symm⟩⟩
          unfold z91 at e ⊢
          rw [e]
    · simp (maxSteps := 2000000) (disch := first | omega | (simp only [lenS]; try omega)) only [go_sem, reduceAdd, reduceEqDiff, reduceLeDiff, reduceSub]
theorem wb4 (a b : List Bool) (ha : a.length < 2^30) (hab : a.length ≤ b.length) : C w7n [bls a, bls b] [] = some (.un t_int true 1 ((bothL a b).map I), []) := by
  refine w0n ?_
  simp (maxSteps := 2000000) (disch := first | omega | (simp only [lenS]; try omega)) only [wcq, go_sem, reduceAdd, reduceEqDiff, reduceLeDiff, reduceSub]
  refine W_for a.length (fun k s => s = ⟨[.any, bls b, .any, .ref 0 1 0 (bothK a b k).length, .any, .any, bls a, I a.length, I k, .any, .any], [.row t_int true 1 ((bothK a b k).map I)]⟩) ?_ ?_ ?_
  · simp (maxSteps := 2000000) (disch := first | omega | (simp only [lenS]; try omega)) only [go_sem, reduceAdd, reduceEqDiff, reduceLeDiff, reduceSub]
    rfl
  · rintro k s hk rfl
    have h2 := z6n a b k
    have hkb : k < b.length := by omega
    have e1 := zgj hk
    have e2 := zgj hkb
    simp (maxSteps := 2000000) (disch := first | omega | (simp only [lenS]; try omega)) only [go_sem, reduceAdd, reduceEqDiff, reduceLeDiff, reduceSub]
    rw [e1, e2]
    refine ⟨fun h => ⟨fun h3 => ?_, fun h3 => ?_⟩, fun h => ?_⟩
    · rw [z6o h h3, List.map_append]; simp
    · rw [z6m (by rw [h, h3]; rfl)]; rfl
    · rw [z6m (by rw [h]; rfl)]; rfl
  · rintro s rfl
    simp (maxSteps := 2000000) (disch := first | omega | (simp only [lenS]; try omega)) only [go_sem, reduceAdd, reduceEqDiff, reduceLeDiff, reduceSub]
    rfl
theorem wbp (n : Net) (a b : Int) (hg : goodN n = true) (ha : 0 ≤ a ∧ a < n.pl) (hb2 : 0 ≤ b ∧ b < n.pl) : C w87 [encN n, I a, I b] [] = some (.tup [.un t_int true 1 ((wayP n a b).map I), .un t_int true 1 ((wayT n a b).map I)], []) := by
  have hb := zha hg
  have l1 := zzz n false a
  have l2 := zzz n true b
  refine w16 ?_
  simp (maxSteps := 2000000) (disch := first | omega | (simp only [lenS]; try omega)) only [wda, go_sem, reduceAdd, reduceEqDiff, reduceLeDiff, reduceSub]
  simp (maxSteps := 2000000) (disch := first | omega | (simp only [lenS]; try omega)) only [go_sem, reduceAdd, reduceEqDiff, reduceLeDiff, reduceSub, wbr n a hg ha, wbs n b hg hb2]
  simp (maxSteps := 2000000) (disch := first | omega | (simp only [lenS]; try omega)) only [go_sem, reduceAdd, reduceEqDiff, reduceLeDiff, reduceSub, wb4 (zzx n false a).pl (zzx n true b).pl (by omega) (by omega), wb4 (zzx n false a).tr (zzx n true b).tr (by omega) (by omega)]
  rfl
theorem wag (f : Fl) (hf : smN f.net) : C w71 [encF f] [] = some (.bool (zgv f), []) := by
  have hl := hf.1
  refine w02 ?_
  simp (maxSteps := 2000000) (disch := first | omega | (simp only [lenS]; try omega)) only [wc4, go_sem, reduceAdd, reduceEqDiff, reduceLeDiff, reduceSub]
  simp (maxSteps := 2000000) (disch := first | omega | (simp only [lenS]; try omega)) only [go_sem, reduceAdd, reduceEqDiff, reduceLeDiff, reduceSub, waj f.net hf, wc1]
  cases hg : goodN f.net with
  | false => simp [zgv, okWay, hg]
  | true =>
    have hb := zha hg
    cases h1 : inB 0 (f.net.pl - 1) f.src with
    | false => simp (maxSteps := 2000000) (disch := first | omega | (simp only [lenS]; try omega)) only [go_sem, reduceAdd, reduceEqDiff, reduceLeDiff, reduceSub, h1]; simp [zgv, okWay, hg, h1]
    | true =>
      cases h2 : inB 0 (f.net.pl - 1) f.dst with
      | false => simp (maxSteps := 2000000) (disch := first | omega | (simp only [lenS]; try omega)) only [go_sem, reduceAdd, reduceEqDiff, reduceLeDiff, reduceSub, h1, h2]; simp [zgv, okWay, hg, h1, h2]
      | true =>
        have hok : okWay f.net f.src f.dst = true := by simp [okWay, hg, h1, h2]
        have ha : 0 ≤ f.src ∧ f.src < f.net.pl := by simp [inB] at h1; omega
        have hb2 : 0 ≤ f.dst ∧ f.dst < f.net.pl := by simp [inB] at h2; omega
        have hP : (wayP f.net f.src f.dst).length < 2^62 := by
          have h1 := z6n (zzx f.net false f.src).pl (zzx f.net true f.dst).pl (zzx f.net false f.src).pl.length
          have h2 := zzz f.net false f.src
          unfold wayP bothL; omega
        have hT : (wayT f.net f.src f.dst).length < 2^62 := by
          have h1 := z6n (zzx f.net false f.src).tr (zzx f.net true f.dst).tr (zzx f.net false f.src).tr.length
          have h2 := zzz f.net false f.src
          unfold wayT bothL; omega
        simp (maxSteps := 2000000) (disch := first | omega | (simp only [lenS]; try omega)) only [go_sem, reduceAdd, reduceEqDiff, reduceLeDiff, reduceSub, h1, h2]
        refine ⟨fun h => by simp [zgv, h], fun hne => ?_⟩
        refine W_for f.net.tr.length (fun k s => s = ⟨[.any, .ptr 0 0, .any, .ptr 1 0, .any, .any, .any, .any, trs f.net.tr, I f.net.tr.length, I k, .any, .any], [.box whi [I f.net.pl, trs f.net.tr, I f.src, I f.dst], .box whk [I f.net.pl, trs f.net.tr]]⟩ ∧ (f.net.tr.take k).all (fun t => !z17k f t) = true) ?_ ?_ ?_
        · simp (maxSteps := 2000000) (disch := first | omega | (simp only [lenS]; try omega)) only [go_sem, reduceAdd, reduceEqDiff, reduceLeDiff, reduceSub]
          rfl
        · rintro k s hk ⟨rfl, hall⟩
          have hT := hb.2.2.2 _ (List.getElem_mem hk)
          have hLs := zhf hT (by omega)
          simp (maxSteps := 2000000) (disch := first | omega | (simp only [lenS]; try omega)) only [go_sem, reduceAdd, reduceEqDiff, reduceLeDiff, reduceSub, wfu]
          have gs : z17k f f.net.tr[k] = true → zgv f = false := fun hs => by
            have : (f.net.tr.all fun t => !z17k f t) = false := z2r hk (by simp [hs])
            simp [zgv, this]
          exact ⟨fun a => by rw [gs (by simp [z17k, a])], fun a => ⟨fun b => by rw [gs (by simp [z17k, b])], fun b => ⟨fun c => by rw [gs (by simp [z17k, c])], fun c => ⟨fun d => by rw [gs (by simp [z17k, d])], fun d => ⟨rfl, z2s hk hall (by simp [z17k, a, b, c, d])⟩⟩⟩⟩⟩
        · rintro s ⟨rfl, hall⟩
          rw [List.take_length] at hall
          simp (maxSteps := 2000000) (disch := first | omega | (simp only [lenS]; try omega)) only [go_sem, reduceAdd, reduceEqDiff, reduceLeDiff, reduceSub, wbp f.net f.src f.dst hg ha hb2]
          have e : zgv f = (decide (((wayP f.net f.src f.dst).length : Int) = f.net.pl) && decide ((wayT f.net f.src f.dst).length = f.net.tr.length)) := by
            simp only [zgv, hok, hne, hall, decide_false, Bool.not_false, Bool.true_and]
          refine ⟨fun q1 => ⟨fun q2 => ?_, fun q2 => ?_⟩, fun q1 => ?_⟩
          · rw [e, decide_eq_true q1, decide_eq_true (by omega)]; rfl
          · rw [e, decide_eq_true q1, decide_eq_false (by omega)]; rfl
          · rw [e, decide_eq_false q1]; rfl
theorem wbj (s : Spc) (hs : smSpc s) : C w81 [encS s] [] = some (.bool (goodS s), []) := by
  obtain ⟨hl, ht⟩ := hs
  refine w11 ?_
  simp (maxSteps := 2000000) (disch := first | omega | (simp only [lenS]; try omega)) only [wd4, go_sem, reduceAdd, reduceEqDiff, reduceLeDiff, reduceSub]
  simp (maxSteps := 2000000) (disch := first | omega | (simp only [lenS]; try omega)) only [go_sem, reduceAdd, reduceEqDiff, reduceLeDiff, reduceSub, wc1]
  refine ⟨fun h1 => ⟨fun h2 => ?_, fun h2 => by simp [goodS, zts, h2]⟩, fun h1 => by simp [goodS, zts, h1]⟩
  have hc : 2 ≤ s.conds ∧ s.conds ≤ 8 := by simpa [inB] using h1
  have hn : 1 ≤ s.tasks.length ∧ s.tasks.length ≤ 6 := by simp [inB] at h2; omega
  refine W_for s.tasks.length (fun i st => st = ⟨[.any, .ptr 0 0, .any, .any, .any, I s.tasks.length, I i, .any, .any], [.box whm [I s.conds, tks s.tasks]]⟩ ∧ ∀ k, k < i → goodK s k (tkN s k) = true) ?_ ?_ ?_
  · simp (maxSteps := 2000000) (disch := first | omega | (simp only [lenS]; try omega)) only [go_sem, reduceAdd, reduceEqDiff, reduceLeDiff, reduceSub]
    exact ⟨rfl, fun k hk => by omega⟩
  · rintro i st hi ⟨rfl, hall⟩
    have hT := wbk s i hi hn.2 hc (ht _ (List.getElem_mem hi))
    rw [← z1af hi] at hT
    simp (maxSteps := 2000000) (disch := first | omega | (simp only [lenS]; try omega)) only [go_sem, reduceAdd, reduceEqDiff, reduceLeDiff, reduceSub, hT]
    refine ⟨fun h => ⟨rfl, fun k hk => ?_⟩, fun h => ?_⟩
    · rcases Nat.lt_or_ge k i with h5 | h5
      · exact hall k h5
      · rw [show k = i by omega]; exact h
    · have : zts s = false := by
        rw [Bool.eq_false_iff]
        intro he
        have := (ztt he).2.2 i hi
        rw [h] at this; cases this
      simp [goodS, this]
  · rintro st ⟨rfl, hall⟩
    have hok : zts s = true := by
      simp only [zts, h1, h2, Bool.true_and, List.all_eq_true, List.mem_range]
      exact hall
    have hf := wbw s hok
    have hg := wag (flS s) (zev hok)
    have e : (trS s).length = (mvS s).length := z1ay s s.tasks.length
    have h3 := zrq hok s.tasks.length (by omega)
    unfold mvS at e
    unfold encF flS at hg
    simp only at hg
    simp (maxSteps := 2000000) (disch := first | omega | (simp only [lenS]; try omega)) only [go_sem, reduceAdd, reduceEqDiff, reduceLeDiff, reduceSub, hf, hg]
    simp [goodS, hok, flS]
theorem wbv (n p : Int) (hn : 0 ≤ n ∧ n < 2^30) (hp : 0 ≤ p ∧ p < n) : C w8c [I n, I p] [] = some (.un t_int true 1 ((oneM n.toNat p).map I), []) := by
  refine w1b ?_
  simp (maxSteps := 2000000) (disch := first | omega | (simp only [lenS]; try omega)) only [wdf, go_sem, reduceAdd, reduceEqDiff, reduceLeDiff, reduceSub]
  simp (maxSteps := 2000000) (disch := first | omega | (simp only [lenS]; try omega)) only [go_sem, reduceAdd, reduceEqDiff, reduceLeDiff, reduceSub, List.getElem_replicate]
  simp [oneM, List.map_set]
theorem wbo (s : Spc) (h : zts s = true) : C w86 [encS s] [] = some (.agg [I 1, .un t_int true 1 ((oneM (s.conds + s.tasks.length).toNat 0).map I)], []) := by
  obtain ⟨hc, hn, -⟩ := ztt h
  have hO := wbv (s.conds + s.tasks.length) 0 (by omega) (by omega)
  refine w15 ?_
  simp (maxSteps := 2000000) (disch := first | omega | (simp only [lenS]; try omega)) only [wd9, go_sem, reduceAdd, reduceEqDiff, reduceLeDiff, reduceSub]
  simp (maxSteps := 2000000) (disch := first | omega | (simp only [lenS]; try omega)) only [go_sem, reduceAdd, reduceEqDiff, reduceLeDiff, reduceSub, hO]
theorem wbg (m : List Int) (p : Int) (h : 0 ≤ p ∧ p.toNat < m.length) : C w7z [I p, .pv (.agg [ints m]) 0] [] = some (.bool (at_ m p == 0), []) := by
  obtain ⟨h1, h2⟩ := h
  refine w0z ?_
  simp (maxSteps := 2000000) (disch := first | omega | (simp only [lenS]; try omega)) only [wd2, go_sem, reduceAdd, reduceEqDiff, reduceLeDiff, reduceSub]
  simp only [at_eq h2]
  grind
theorem wbh (t : Tr) (m : List Int) (ht : ∀ q ∈ t.inn, 0 ≤ q ∧ q.toNat < m.length) (hl : t.inn.length < 2^62) : C w7y [encT t, ints m] [] = some (.bool (canT t m), []) := by
  refine w0y ?_
  simp (maxSteps := 2000000) (disch := first | omega | (simp only [lenS]; try omega)) only [wd1, go_sem, reduceAdd, reduceEqDiff, reduceLeDiff, reduceSub]
  have h := wfq t.inn w7z [.pv (.agg [ints m]) 0] rfl (fun _ _ => rfl) (fun p => at_ m p == 0) (fun x hx => wbg m x (ht x hx)) hl
  simp (maxSteps := 2000000) (disch := first | omega | (simp only [lenS]; try omega)) only [go_sem, reduceAdd, reduceEqDiff, reduceLeDiff, reduceSub, h]
  have : (t.inn.any fun p => at_ m p == 0) = !canT t m := by rw [canT, List.any_eq_not_all_not]
  rw [this]; simp
theorem wbl (s : Spc) (c : Cs) (m : Mv) (hg : goodS s = true) (hc : goodC s c = true) (hm : m ∈ mvS s) : C w84 [encM m, .pv (encS s) 0, .pv (encC c) 0] [] = some (.bool (!canM s c m), []) := by
  have hok := zhc hg
  have hT := z1an hg hm
  have hcl := (zgt (zgu hc) (ztt hok).1.1).1
  have hlt := zhg hT hcl
  have ht := wc0 s m hok (zro hm)
  have hsz := z1aw hok (trM s m) (by rw [z1av]; exact List.mem_map_of_mem hm)
  have hE := wbh (trM s m) c.mark hlt.1 (by omega)
  unfold canM
  obtain ⟨mt, mb, mp⟩ := m
  refine w13 ?_
  simp (maxSteps := 2000000) (disch := first | omega | (simp only [lenS]; try omega)) only [wd7, go_sem, reduceAdd, reduceEqDiff, reduceLeDiff, reduceSub]
  cases mb with
  | true =>
    have hr : (trM s ⟨mt, true, mp⟩).rst = [] := by simp only [trM, if_true]; split <;> rfl
    rw [if_pos rfl] at ht
    unfold encT at hE
    rw [hr, show ints [] = .sl true 1 [] from rfl] at hE
    generalize trM s ⟨mt, true, mp⟩ = T at *
    simp (maxSteps := 2000000) (disch := first | omega | (simp only [lenS]; try omega)) only [go_sem, reduceAdd, reduceEqDiff, reduceLeDiff, reduceSub, ht, hE]
    grind
  | false =>
    rw [if_neg (by simp)] at ht
    generalize trM s ⟨mt, false, mp⟩ = T at *
    simp (maxSteps := 2000000) (disch := first | omega | (simp only [lenS]; try omega)) only [go_sem, reduceAdd, reduceEqDiff, reduceLeDiff, reduceSub, ht, hE]
    grind
theorem wfy (l : List Mv) (g : FuncId) (caps : List PV) (hc : refsL caps = []) (hcv : ∀ m h, z1bj [] m h caps = some caps) (p : Mv → Bool) (hp : ∀ x ∈ l, C g (encM x :: caps) [] = some (.bool (p x), [])) (hl : l.length < 2^62) :
    C w8y [.sl true 3 (l.map encM), .clo g caps] [] = some (I (idxI l p), []) := by
  refine w1v ?_
  simp (maxSteps := 2000000) (disch := first | omega | (simp only [lenS]; try omega)) only [we0, go_sem, reduceAdd, reduceEqDiff, reduceLeDiff, reduceSub]
  refine W_for l.length (fun k s => s = ⟨[.sl true 3 (l.map encM), .clo g caps, .any, .any, I l.length, I k, .any, .any], []⟩ ∧ (l.take k).any p = false) ?_ ?_ ?_
  · simp (maxSteps := 2000000) (disch := first | omega | (simp only [lenS]; try omega)) only [go_sem, reduceAdd, reduceEqDiff, reduceLeDiff, reduceSub, hc]
    rfl
  · rintro k s hk ⟨rfl, hall⟩
    simp (maxSteps := 2000000) (disch := first | omega | (simp only [lenS]; try omega)) only [go_sem, reduceAdd, reduceEqDiff, reduceLeDiff, reduceSub, hc, hcv, hp _ (List.getElem_mem hk)]
    exact ⟨fun h => by rw [zid hk hall h], fun h => ⟨rfl, z37 hk hall h⟩⟩
  · rintro s ⟨rfl, hall⟩
    simp (maxSteps := 2000000) (disch := first | omega | (simp only [lenS]; try omega)) only [go_sem, reduceAdd, reduceEqDiff, reduceLeDiff, reduceSub]
    rw [List.take_length] at hall
    rw [zic hall]
end Go.Proofs.YtkkifebmicbbaaaGreat.Pi
