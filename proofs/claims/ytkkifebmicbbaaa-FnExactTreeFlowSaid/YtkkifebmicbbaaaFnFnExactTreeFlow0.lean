/- The functions that the law reaches: what they answer. Conditions: those that each theorem names. -/
import Derived.Test.YtkkifebmicbbaaaIrFnExactTreeFlow
import Derived.Test.YtkkifebmicbbaaaPlBase
import Derived.Test.YtkkifebmicbbaaaPlNet
import Derived.Test.YtkkifebmicbbaaaPlFire
import Derived.Test.YtkkifebmicbbaaaPlTurn
import Derived.Test.YtkkifebmicbbaaaPlBack
import Derived.Test.YtkkifebmicbbaaaPlFlow
import Derived.Test.YtkkifebmicbbaaaPlMask
import Derived.Test.YtkkifebmicbbaaaPlSpec
import Derived.Test.YtkkifebmicbbaaaPlArg
import Derived.Test.YtkkifebmicbbaaaPlTree
import Derived.Test.YtkkifebmicbbaaaPlText
import Derived.Test.YtkkifebmicbbaaaPlTf
namespace Go.Proofs.Ytkkifebmicbbaaa.Pi
open Go
set_option linter.all false
set_option maxHeartbeats 4000000
set_option maxRecDepth 20000
theorem laws_szBranchS_ok (l : List Br) (left : Int) (h0 : 0 ≤ left) (h1 : left ≤ 1048576) (hl : l.length < 2^63) : C f_laws_szBranchS [brs l, I left] [] = some (I (if left - l.length < 0 then -1 else left - l.length), []) := by
  refine C_laws_szBranchS ?_
  simp (maxSteps := 2000000) (disch := (first | omega | (simp only [List.length_append, List.length_take, List.length_replicate, List.length_map, List.length_set, List.length_cons, List.length_nil, List.length_zipWith, List.length_drop, List.length_range]; first | done | omega))) only [ir_laws_szBranchS, go_sem, Nat.reduceAdd, Nat.reduceEqDiff, Nat.reduceLeDiff, Nat.reduceSub]
  refine ⟨fun h => by rw [if_pos h], fun h => by rw [if_neg (by omega)]⟩
theorem laws_toBranch_ok (b : Br) : C f_laws_toBranch [encB b] [] = some (encB b, []) := by
  refine C_laws_toBranch ?_
  simp (maxSteps := 2000000) (disch := (first | omega | (simp only [List.length_append, List.length_take, List.length_replicate, List.length_map, List.length_set, List.length_cons, List.length_nil, List.length_zipWith, List.length_drop, List.length_range]; first | done | omega))) only [ir_laws_toBranch, go_sem, Nat.reduceAdd, Nat.reduceEqDiff, Nat.reduceLeDiff, Nat.reduceSub]
theorem laws_toBranchS_ok (l : List Br) (hl : l.length ≤ 2^36) : C f_laws_toBranchS [brs l] [] = some (.un t_impl_Branch true 2 (l.map encB), []) := by
  refine C_laws_toBranchS ?_
  simp (maxSteps := 2000000) (disch := (first | omega | (simp only [List.length_append, List.length_take, List.length_replicate, List.length_map, List.length_set, List.length_cons, List.length_nil, List.length_zipWith, List.length_drop, List.length_range]; first | done | omega))) only [ir_laws_toBranchS, go_sem, Nat.reduceAdd, Nat.reduceEqDiff, Nat.reduceLeDiff, Nat.reduceSub]
  refine W_for l.length (fun k st => st = ⟨[brs l, .any, .ref 0 2 0 l.length, I k, .any], [.row t_impl_Branch true 2 ((padB l k).map encB)]⟩) ?_ ?_ ?_
  · simp (maxSteps := 2000000) (disch := (first | omega | (simp only [List.length_append, List.length_take, List.length_replicate, List.length_map, List.length_set, List.length_cons, List.length_nil, List.length_zipWith, List.length_drop, List.length_range]; first | done | omega))) only [go_sem, Nat.reduceAdd, Nat.reduceEqDiff, Nat.reduceLeDiff, Nat.reduceSub]
    rw [padB_zero]
    simp
  · rintro k st hk rfl
    have h1 := padB_len (l := l) (k := k) (by omega)
    have h2 := padB_step hk
    have h3 := padB_at hk
    have h4 := laws_toBranch_ok l[k]
    rw [← h2]
    generalize padB l k = M at *
    have hlk : l[k]? = some l[k] := List.getElem?_eq_getElem hk
    generalize l[k] = m at *
    obtain ⟨mt, mb⟩ := m
    simp (maxSteps := 2000000) (disch := (first | omega | (simp only [List.length_append, List.length_take, List.length_replicate, List.length_map, List.length_set, List.length_cons, List.length_nil, List.length_zipWith, List.length_drop, List.length_range]; first | done | omega))) only [go_sem, Nat.reduceAdd, Nat.reduceEqDiff, Nat.reduceLeDiff, Nat.reduceSub, hlk, h4, h1, h3]
    rw [List.map_set]; rfl
  · rintro st rfl
    have h1 := padB_len (l := l) (k := l.length) (by omega)
    simp (maxSteps := 2000000) (disch := (first | omega | (simp only [List.length_append, List.length_take, List.length_replicate, List.length_map, List.length_set, List.length_cons, List.length_nil, List.length_zipWith, List.length_drop, List.length_range]; first | done | omega))) only [go_sem, Nat.reduceAdd, Nat.reduceEqDiff, Nat.reduceLeDiff, Nat.reduceSub, h1]
    rw [padB_all]
theorem spec_l1In_ok (n lo hi : Int) : C f_spec_l1In [I n, I lo, I hi] [] = some (.bool (inB lo hi n), []) := by
  refine C_spec_l1In ?_
  simp (maxSteps := 2000000) (disch := (first | omega | (simp only [List.length_append, List.length_take, List.length_replicate, List.length_map, List.length_set, List.length_cons, List.length_nil, List.length_zipWith, List.length_drop, List.length_range]; first | done | omega))) only [ir_spec_l1In, go_sem, Nat.reduceAdd, Nat.reduceEqDiff, Nat.reduceLeDiff, Nat.reduceSub]
  unfold inB; grind
theorem spec_l11Good_ok (l : List Br) (hl : l.length < 2^40) : C f_spec_l11Good [brs l] [] = some (.bool (goodTree l), []) := by
  refine C_spec_l11Good ?_
  simp (maxSteps := 2000000) (disch := (first | omega | (simp only [List.length_append, List.length_take, List.length_replicate, List.length_map, List.length_set, List.length_cons, List.length_nil, List.length_zipWith, List.length_drop, List.length_range]; first | done | omega))) only [ir_spec_l11Good, go_sem, Nat.reduceAdd, Nat.reduceEqDiff, Nat.reduceLeDiff, Nat.reduceSub]
  simp (maxSteps := 2000000) (disch := (first | omega | (simp only [List.length_append, List.length_take, List.length_replicate, List.length_map, List.length_set, List.length_cons, List.length_nil, List.length_zipWith, List.length_drop, List.length_range]; first | done | omega))) only [go_sem, Nat.reduceAdd, Nat.reduceEqDiff, Nat.reduceLeDiff, Nat.reduceSub, spec_l1In_ok]
  refine ⟨fun hn => ?_, fun hn => ?_⟩
  rotate_left
  · simp only [inB, Bool.and_eq_false_iff, decide_eq_false_iff_not, Int.not_le] at hn
    rcases hn with hn | hn
    · have : l = [] := by cases l with
        | nil => rfl
        | cons _ _ => simp at hn; omega
      subst this; rfl
    · simp [goodTree]; omega
  refine W_for l.length (fun i st => ∃ p : Nat, st = ⟨[.any, .any, I p, .any, .any, brs l, I l.length, I i, .any, .any, .any], []⟩ ∧ pileB (l.drop i) p = pileB l 0 ∧ p ≤ i) ?_ ?_ ?_
  · simp (maxSteps := 2000000) (disch := (first | omega | (simp only [List.length_append, List.length_take, List.length_replicate, List.length_map, List.length_set, List.length_cons, List.length_nil, List.length_zipWith, List.length_drop, List.length_range]; first | done | omega))) only [go_sem, Nat.reduceAdd, Nat.reduceEqDiff, Nat.reduceLeDiff, Nat.reduceSub]
    exact ⟨0, rfl, by simp, by omega⟩
  · rintro i st hi ⟨p, rfl, hp, hpi⟩
    rw [pileB_step hi] at hp
    have hlk : l[i]? = some l[i] := List.getElem?_eq_getElem hi
    generalize l[i] = b at *
    obtain ⟨bo, bn⟩ := b
    simp (maxSteps := 2000000) (disch := (first | omega | (simp only [List.length_append, List.length_take, List.length_replicate, List.length_map, List.length_set, List.length_cons, List.length_nil, List.length_zipWith, List.length_drop, List.length_range]; first | done | omega))) only [go_sem, Nat.reduceAdd, Nat.reduceEqDiff, Nat.reduceLeDiff, Nat.reduceSub, hlk, spec_l1In_ok]
    simp only at hp
    have fin : pileB l 0 = none → some (PV.bool false, ([] : List Blk)) = some (PV.bool (goodTree l), []) := by
      intro h; simp [goodTree, h]
    simp only [inB, Bool.and_eq_true, Bool.and_eq_false_iff, decide_eq_true_eq, decide_eq_false_iff_not, Int.not_le]
    have leaf : bo = 1 ∧ 1 ≤ bn ∧ bn ≤ 9 → pileB (l.drop (i + 1)) (p + 1) = pileB l 0 := fun h => by rw [if_pos h] at hp; exact hp
    have fork : 2 ≤ bo ∧ bo ≤ 5 ∧ bn = 0 ∧ 2 ≤ p → pileB (l.drop (i + 1)) (p - 1) = pileB l 0 := fun h => by rw [if_neg (by omega), if_pos h] at hp; exact hp
    have none_ : ¬ (bo = 1 ∧ 1 ≤ bn ∧ bn ≤ 9) → ¬ (2 ≤ bo ∧ bo ≤ 5 ∧ bn = 0 ∧ 2 ≤ p) → some (PV.bool false, ([] : List Blk)) = some (PV.bool (goodTree l), []) := fun h1 h2 => fin (by rw [if_neg h1, if_neg h2] at hp; exact hp.symm)
    refine ⟨fun h1 => ⟨fun h2 => ⟨p + 1, by rw [show ((p + 1 : Nat) : Int) = (p : Int) + 1 by omega]; rfl, leaf ⟨h1, h2⟩, by omega⟩, fun h2 => ⟨fun h3 => by omega, fun h3 => none_ (by omega) (by omega)⟩⟩,
      fun h1 => ⟨fun h3 => ⟨fun h4 => ⟨fun h5 => ⟨p - 1, by rw [show ((p - 1 : Nat) : Int) = (p : Int) - 1 by omega]; rfl, fork (by omega), by omega⟩, fun h5 => none_ (by omega) (by omega)⟩, fun h4 => none_ (by omega) (by omega)⟩, fun h3 => none_ (by omega) (by omega)⟩⟩
  · rintro st ⟨p, rfl, hp, hpi⟩
    simp only [List.drop_length, pileB] at hp
    simp (maxSteps := 2000000) (disch := (first | omega | (simp only [List.length_append, List.length_take, List.length_replicate, List.length_map, List.length_set, List.length_cons, List.length_nil, List.length_zipWith, List.length_drop, List.length_range]; first | done | omega))) only [go_sem, Nat.reduceAdd, Nat.reduceEqDiff, Nat.reduceLeDiff, Nat.reduceSub]
    simp only [inB, Bool.and_eq_true, decide_eq_true_eq] at hn
    refine ⟨fun h => ?_, fun h => ?_⟩
    · rw [show p = 1 by omega] at hp
      simp [goodTree, ← hp]; omega
    · simp [goodTree, ← hp]; omega
theorem spec_l11Build_trans_ok (pl : Int) (tr : List Tr) (lt : List Int) (l : Int) (x y : List Int) (h0 : tr.length ≤ 2^30) (h1 : lt.length ≤ 2^30) (hx : x.length ≤ 2^30) (hy : y.length ≤ 2^30) :
    C f_spec_l11Build_trans [.ptr 0 0, .ref 1 1 0 x.length, .ref 2 1 0 y.length, I l] [.box t_spec_l11Build [I pl, .ref 3 3 0 tr.length, .ref 4 1 0 lt.length], .row t_int true 1 (x.map I), .row t_int true 1 (y.map I), .row t_impl_Trans false 3 (tr.map encT), .row t_int true 1 (lt.map I)]
      = some (.tup [], [.box t_spec_l11Build [I pl, .ref 5 3 0 (tr.length + 1), .ref 6 1 0 (lt.length + 1)], .fro true 1 (x.map I), .fro true 1 (y.map I), .dead, .dead, .row t_impl_Trans false 3 ((tr ++ [(⟨x, y, []⟩ : Tr)]).map encT), .row t_int true 1 ((lt ++ [l]).map I)]) := by
  refine C_spec_l11Build_trans ?_
  simp (maxSteps := 2000000) (disch := (first | omega | (simp only [List.length_append, List.length_take, List.length_replicate, List.length_map, List.length_set, List.length_cons, List.length_nil, List.length_zipWith, List.length_drop, List.length_range]; first | done | omega))) only [ir_spec_l11Build_trans, go_sem, Nat.reduceAdd, Nat.reduceEqDiff, Nat.reduceLeDiff, Nat.reduceSub]
  simp
theorem spec_l11Build_trans_nil (pl : Int) (l : Int) (x y : List Int) (hx : x.length ≤ 2^30) (hy : y.length ≤ 2^30) :
    C f_spec_l11Build_trans [.ptr 0 0, .ref 1 1 0 x.length, .ref 2 1 0 y.length, I l] [.box t_spec_l11Build [I pl, .nil false 3, .nil true 1], .row t_int true 1 (x.map I), .row t_int true 1 (y.map I)]
      = some (.tup [], [.box t_spec_l11Build [I pl, .ref 3 3 0 1, .ref 4 1 0 1], .fro true 1 (x.map I), .fro true 1 (y.map I), .row t_impl_Trans false 3 ([(⟨x, y, []⟩ : Tr)].map encT), .row t_int true 1 ([l].map I)]) := by
  refine C_spec_l11Build_trans ?_
  simp (maxSteps := 2000000) (disch := (first | omega | (simp only [List.length_append, List.length_take, List.length_replicate, List.length_map, List.length_set, List.length_cons, List.length_nil, List.length_zipWith, List.length_drop, List.length_range]; first | done | omega))) only [ir_spec_l11Build_trans, go_sem, Nat.reduceAdd, Nat.reduceEqDiff, Nat.reduceLeDiff, Nat.reduceSub]
  rfl
theorem spec_l11First_ok (pre : List Br) (y : PT) (suf : List Br) (hy : y.wf) (hl : (pre ++ y.post ++ suf).length < 2^40) : C f_spec_l11First [brs (pre ++ y.post ++ suf), I (pre.length + y.post.length)] [] = some (I (pre.length - 1), []) := by
  simp only [List.length_append] at hl
  refine C_spec_l11First ?_
  simp (maxSteps := 2000000) (disch := (first | omega | (simp only [List.length_append, List.length_take, List.length_replicate, List.length_map, List.length_set, List.length_cons, List.length_nil, List.length_zipWith, List.length_drop, List.length_range]; first | done | omega))) only [ir_spec_l11First, go_sem, Nat.reduceAdd, Nat.reduceEqDiff, Nat.reduceLeDiff, Nat.reduceSub]
  refine W_for y.post.length (fun i st => st = ⟨[brs (pre ++ y.post ++ suf), .any, .any, I (needB y.post i), I (pre.length + y.post.length - 1 - i), .any, .any], []⟩) ?_ ?_ ?_
  · simp (maxSteps := 2000000) (disch := (first | omega | (simp only [List.length_append, List.length_take, List.length_replicate, List.length_map, List.length_set, List.length_cons, List.length_nil, List.length_zipWith, List.length_drop, List.length_range]; first | done | omega))) only [go_sem, Nat.reduceAdd, Nat.reduceEqDiff, Nat.reduceLeDiff, Nat.reduceSub, needB_zero]
    simp
  · rintro i st hi rfl
    have h1 := needB_pos hy hi
    have h2 := needB_le y.post i (by omega)
    have h3 := needB_step hi
    have hj : y.post.length - 1 - i < y.post.length := by omega
    have e : (pre ++ y.post ++ suf)[pre.length + (y.post.length - 1 - i)]? = some y.post[y.post.length - 1 - i] := by
      rw [List.append_assoc, List.getElem?_append_right (by omega), Nat.add_sub_cancel_left, List.getElem?_append_left hj, List.getElem?_eq_getElem hj]
    have ei : (pre.length + y.post.length - 1 - i : Int) = ((pre.length + (y.post.length - 1 - i) : Nat) : Int) := by omega
    rw [ei, h3]
    have e2 : (pre.length + y.post.length - 1 - (i + 1 : Nat) : Int) = ((pre.length + (y.post.length - 1 - i) : Nat) : Int) - 1 := by omega
    rw [e2]
    have hL : (pre ++ y.post ++ suf).length = pre.length + y.post.length + suf.length := by simp; omega
    have hX : pre.length + (y.post.length - 1 - i) < pre.length + y.post.length := by omega
    generalize y.post[y.post.length - 1 - i] = b at *
    generalize pre.length + (y.post.length - 1 - i) = X at *
    generalize pre ++ y.post ++ suf = L at *
    generalize needB y.post i = n at *
    obtain ⟨bo, bn⟩ := b
    simp (maxSteps := 2000000) (disch := (first | omega | (simp only [List.length_append, List.length_take, List.length_replicate, List.length_map, List.length_set, List.length_cons, List.length_nil, List.length_zipWith, List.length_drop, List.length_range]; first | done | omega))) only [go_sem, Nat.reduceAdd, Nat.reduceEqDiff, Nat.reduceLeDiff, Nat.reduceSub, hL, e]
    unfold wB
    refine ⟨fun h => ?_, fun h => ?_⟩
    · rw [if_neg h, show n - 1 + 2 = n + 1 by omega]
    · rw [if_pos h, show n + -1 = n - 1 by omega]
  · rintro st rfl
    have h1 := needB_end hy
    simp (maxSteps := 2000000) (disch := (first | omega | (simp only [List.length_append, List.length_take, List.length_replicate, List.length_map, List.length_set, List.length_cons, List.length_nil, List.length_zipWith, List.length_drop, List.length_range]; first | done | omega))) only [go_sem, Nat.reduceAdd, Nat.reduceEqDiff, Nat.reduceLeDiff, Nat.reduceSub, h1]
    congr 3
    omega
/-- The builder's blocks. -/
def sbF (b : TB) : List Blk := [.box t_spec_l11Build [I b.pl, .ref 1 3 0 b.tr.length, .ref 2 1 0 b.lt.length], .row t_impl_Trans false 3 (b.tr.map encT), .row t_int true 1 (b.lt.map I)]
def sbG (b : TB) : List Blk := [.box t_spec_l11Build [I b.pl, .ref 3 3 0 b.tr.length, .ref 4 1 0 b.lt.length], .dead, .dead, .row t_impl_Trans false 3 (b.tr.map encT), .row t_int true 1 (b.lt.map I)]
/-- The builder's blocks before anything is built. -/
def sb0 (pl : Int) : List Blk := [.box t_spec_l11Build [I pl, .nil false 3, .nil true 1]]
theorem spec_l11Build_part_ok : ∀ (T : PT) (pre suf : List Br) (x y : Int) (b : TB), T.wf → (pre ++ T.post ++ suf).length ≤ 15 → b.tr.length = b.lt.length → b.tr.length + 3 * T.post.length ≤ 2^30 → 0 ≤ b.pl → b.pl + 4 * T.post.length ≤ 2^40 →
    C f_spec_l11Build_part [.ptr 0 0, brs (pre ++ T.post ++ suf), I (pre.length + T.post.length - 1), I x, I y] (sbF b) = some (.tup [], sbG (T.bld x y b))
  | .leaf n, pre, suf, x, y, b, h, hl, h1, h2, h3, h4 => by
    simp only [PT.post, List.length_append, List.length_cons, List.length_nil] at hl h2 h4 ⊢
    have e : (pre ++ [(⟨1, n⟩ : Br)] ++ suf)[pre.length]? = some ⟨1, n⟩ := by simp
    have hL : (pre ++ [(⟨1, n⟩ : Br)] ++ suf).length = pre.length + 1 + suf.length := by simp; omega
    generalize pre ++ [(⟨1, n⟩ : Br)] ++ suf = L at *
    rw [show (pre.length + (0 + 1 : Nat) - 1 : Int) = (pre.length : Nat) by omega]
    have e3 : L[pre.length]'(by omega) = ⟨1, n⟩ := by rw [List.getElem?_eq_getElem (by omega)] at e; exact Option.some.inj e
    obtain ⟨pl, tr, lt⟩ := b
    simp only at h1 h2 h3 h4
    have ht := spec_l11Build_trans_ok pl tr lt n [x] [y] (by omega) (by omega) (by simp) (by simp)
    simp only [List.map_cons, List.map_nil, List.length_cons, List.length_nil, Nat.zero_add] at ht
    simp only [sbF, sbG, PT.bld, addB, List.length_append, List.length_cons, List.length_nil]
    refine C_spec_l11Build_part ?_
    simp (maxSteps := 2000000) (disch := (first | omega | (simp only [List.length_append, List.length_take, List.length_replicate, List.length_map, List.length_set, List.length_cons, List.length_nil, List.length_zipWith, List.length_drop, List.length_range]; first | done | omega))) only [ir_spec_l11Build_part, go_sem, Nat.reduceAdd, Nat.reduceEqDiff, Nat.reduceLeDiff, Nat.reduceSub]
    simp (maxSteps := 2000000) (disch := (first | omega | (simp only [List.length_append, List.length_take, List.length_replicate, List.length_map, List.length_set, List.length_cons, List.length_nil, List.length_zipWith, List.length_drop, List.length_range]; first | done | omega))) only [go_sem, Nat.reduceAdd, Nat.reduceEqDiff, Nat.reduceLeDiff, Nat.reduceSub, e, e3, ht]
  | .node o p q, pre, suf, x, y, b, h, hl, h1, h2, h3, h4 => by
    obtain ⟨ho, ha, hb⟩ := h
    have pb := q.post_pos
    have pa := p.post_pos
    have hlN : pre.length + p.post.length + q.post.length + 1 + suf.length ≤ 15 := by
      simp only [PT.post, List.length_append, List.length_cons, List.length_nil] at hl; omega
    have hpo : (PT.node o p q).post.length = p.post.length + q.post.length + 1 := by simp [PT.post]; omega
    have hf := spec_l11First_ok (pre ++ p.post) q ([⟨o, 0⟩] ++ suf) hb (by simp; omega)
    have e1 : pre ++ p.post ++ (q.post ++ [⟨o, 0⟩] ++ suf) = pre ++ (PT.node o p q).post ++ suf := by simp [PT.post]
    have e2 : pre ++ p.post ++ q.post ++ ([⟨o, 0⟩] ++ suf) = pre ++ (PT.node o p q).post ++ suf := by simp [PT.post]
    rw [e2] at hf
    have e : (pre ++ (PT.node o p q).post ++ suf)[pre.length + p.post.length + q.post.length]? = some ⟨o, 0⟩ := by
      rw [← e2, List.getElem?_append_right (by simp only [List.length_append]; omega)]
      simp only [List.length_append]
      rw [Nat.sub_self]
      rfl
    have hL : (pre ++ (PT.node o p q).post ++ suf).length = pre.length + p.post.length + q.post.length + 1 + suf.length := by simp [PT.post]; omega
    have hk : (pre.length + (PT.node o p q).post.length - 1 : Int) = ((pre.length + p.post.length + q.post.length : Nat) : Int) := by omega
    rw [hk]
    rw [show (((pre ++ p.post).length : Nat) + (q.post.length : Nat) : Int) = ((pre.length + p.post.length + q.post.length : Nat) : Int) by simp] at hf
    rw [show (((pre ++ p.post).length : Nat) - 1 : Int) = (pre.length + p.post.length - 1 : Int) by simp] at hf
    have IH1 : ∀ (x y : Int) (c : TB), c.tr.length = c.lt.length → c.tr.length + 3 * p.post.length ≤ 2^30 → 0 ≤ c.pl → c.pl + 4 * p.post.length ≤ 2^40 → C f_spec_l11Build_part [.ptr 0 0, brs (pre ++ (PT.node o p q).post ++ suf), I (pre.length + p.post.length - 1), I x, I y] (sbF c) = some (.tup [], sbG (p.bld x y c)) := by
      intro x y c k1 k2 k3 k4
      have := spec_l11Build_part_ok p pre (q.post ++ [⟨o, 0⟩] ++ suf) x y c ha (by rw [e1, hL]; omega) k1 k2 k3 k4
      rw [e1] at this
      exact this
    have IH2 : ∀ (x y : Int) (c : TB), c.tr.length = c.lt.length → c.tr.length + 3 * q.post.length ≤ 2^30 → 0 ≤ c.pl → c.pl + 4 * q.post.length ≤ 2^40 → C f_spec_l11Build_part [.ptr 0 0, brs (pre ++ (PT.node o p q).post ++ suf), I (((pre.length + p.post.length + q.post.length : Nat) : Int) - 1), I x, I y] (sbF c) = some (.tup [], sbG (q.bld x y c)) := by
      intro x y c k1 k2 k3 k4
      have := spec_l11Build_part_ok q (pre ++ p.post) ([⟨o, 0⟩] ++ suf) x y c hb (by rw [e2, hL]; omega) k1 k2 k3 k4
      rw [e2, show (((pre ++ p.post).length : Nat) + (q.post.length : Nat) - 1 : Int) = ((pre.length + p.post.length + q.post.length : Nat) : Int) - 1 by simp] at this
      exact this
    generalize pre ++ (PT.node o p q).post ++ suf = L at *
    generalize hK : pre.length + p.post.length + q.post.length = K at *
    have e3 : L[K]'(by omega) = ⟨o, 0⟩ := by rw [List.getElem?_eq_getElem (by omega)] at e; exact Option.some.inj e
    generalize hR : (pre.length + p.post.length - 1 : Int) = R at *
    rw [hpo] at h2 h4
    obtain ⟨pl, tr, lt⟩ := b
    simp only at h1 h2 h3 h4
    rcases op_cases ho with rfl | rfl | rfl | rfl
    · have i1 := IH1 x pl ⟨pl + 1, tr, lt⟩ h1 (by simp only [List.length_append, List.length_cons, List.length_nil]; omega) (by simp only; omega) (by simp only; omega)
      have b1 := p.bld_ok x pl ⟨pl + 1, tr, lt⟩ h1
      rw [show PT.bld (.node 2 p q) x y ⟨pl, tr, lt⟩ = q.bld pl y (p.bld x pl ⟨pl + 1, tr, lt⟩) from rfl]
      generalize p.bld x pl ⟨pl + 1, tr, lt⟩ = B1 at *
      have a1 := b1.lo; have a2 := b1.hi; have a3 := b1.len; have a4 := b1.most
      simp only [List.length_append, List.length_cons, List.length_nil] at a4
      have i2 := IH2 pl y B1 a3 (by omega) (by simp only at a1; omega) (by simp only at a2; omega)
      generalize q.bld pl y B1 = B2 at *
      obtain ⟨p1, t1, l1⟩ := B1
      obtain ⟨p2, t2, l2⟩ := B2
      simp only [sb0, sbF, sbG, List.length_append, List.cons_append, List.nil_append, Nat.reduceAdd, List.length_cons, List.length_nil, List.map_cons, List.map_nil, List.map_append, Nat.zero_add] at i1 i2  ⊢
      refine C_spec_l11Build_part ?_
      simp (maxSteps := 2000000) (disch := (first | omega | (simp only [List.length_append, List.length_take, List.length_replicate, List.length_map, List.length_set, List.length_cons, List.length_nil, List.length_zipWith, List.length_drop, List.length_range]; first | done | omega))) only [ir_spec_l11Build_part, go_sem, Nat.reduceAdd, Nat.reduceEqDiff, Nat.reduceLeDiff, Nat.reduceSub]
      simp (maxSteps := 2000000) (disch := (first | omega | (simp only [List.length_append, List.length_take, List.length_replicate, List.length_map, List.length_set, List.length_cons, List.length_nil, List.length_zipWith, List.length_drop, List.length_range]; first | done | omega))) only [go_sem, Nat.reduceAdd, Nat.reduceEqDiff, Nat.reduceLeDiff, Nat.reduceSub, e, e3, hf, i1, i2, Int.reduceEq, false_implies, true_implies, not_false_eq_true, not_true_eq_false, true_and]
    · have i1 := IH1 x y ⟨pl, tr, lt⟩ h1 (by simp only [List.length_append, List.length_cons, List.length_nil]; omega) (by simp only; omega) (by simp only; omega)
      have b1 := p.bld_ok x y ⟨pl, tr, lt⟩ h1
      rw [show PT.bld (.node 3 p q) x y ⟨pl, tr, lt⟩ = q.bld x y (p.bld x y ⟨pl, tr, lt⟩) from rfl]
      generalize p.bld x y ⟨pl, tr, lt⟩ = B1 at *
      have a1 := b1.lo; have a2 := b1.hi; have a3 := b1.len; have a4 := b1.most
      simp only [List.length_append, List.length_cons, List.length_nil] at a4
      have i2 := IH2 x y B1 a3 (by omega) (by simp only at a1; omega) (by simp only at a2; omega)
      generalize q.bld x y B1 = B2 at *
      obtain ⟨p1, t1, l1⟩ := B1
      obtain ⟨p2, t2, l2⟩ := B2
      simp only [sb0, sbF, sbG, List.length_append, List.cons_append, List.nil_append, Nat.reduceAdd, List.length_cons, List.length_nil, List.map_cons, List.map_nil, List.map_append, Nat.zero_add] at i1 i2  ⊢
      refine C_spec_l11Build_part ?_
      simp (maxSteps := 2000000) (disch := (first | omega | (simp only [List.length_append, List.length_take, List.length_replicate, List.length_map, List.length_set, List.length_cons, List.length_nil, List.length_zipWith, List.length_drop, List.length_range]; first | done | omega))) only [ir_spec_l11Build_part, go_sem, Nat.reduceAdd, Nat.reduceEqDiff, Nat.reduceLeDiff, Nat.reduceSub]
      simp (maxSteps := 2000000) (disch := (first | omega | (simp only [List.length_append, List.length_take, List.length_replicate, List.length_map, List.length_set, List.length_cons, List.length_nil, List.length_zipWith, List.length_drop, List.length_range]; first | done | omega))) only [go_sem, Nat.reduceAdd, Nat.reduceEqDiff, Nat.reduceLeDiff, Nat.reduceSub, e, e3, hf, i1, i2, Int.reduceEq, false_implies, true_implies, not_false_eq_true, not_true_eq_false, true_and]
    · have ht1 := spec_l11Build_trans_ok (pl + 4) tr lt 0 [x] [pl, pl + 1] (by omega) (by omega) (by simp) (by simp)
      have ht2 := spec_l11Build_trans_ok (pl + 4) (tr ++ [⟨[x], [pl, pl + 1], []⟩]) (lt ++ [0]) 0 [pl + 2, pl + 3] [y] (by simp; omega) (by simp; omega) (by simp) (by simp)
      have i1 := IH1 pl (pl + 2) ⟨pl + 4, tr ++ [⟨[x], [pl, pl + 1], []⟩] ++ [⟨[pl + 2, pl + 3], [y], []⟩], lt ++ [0] ++ [0]⟩ (by simp; omega) (by simp only [List.length_append, List.length_cons, List.length_nil]; omega) (by simp only; omega) (by simp only; omega)
      have b1 := p.bld_ok pl (pl + 2) ⟨pl + 4, tr ++ [⟨[x], [pl, pl + 1], []⟩] ++ [⟨[pl + 2, pl + 3], [y], []⟩], lt ++ [0] ++ [0]⟩ (by simp; omega)
      rw [show PT.bld (.node 4 p q) x y ⟨pl, tr, lt⟩ = q.bld (pl + 1) (pl + 3) (p.bld pl (pl + 2) ⟨pl + 4, tr ++ [⟨[x], [pl, pl + 1], []⟩] ++ [⟨[pl + 2, pl + 3], [y], []⟩], lt ++ [0] ++ [0]⟩) from rfl]
      generalize p.bld pl (pl + 2) ⟨pl + 4, tr ++ [⟨[x], [pl, pl + 1], []⟩] ++ [⟨[pl + 2, pl + 3], [y], []⟩], lt ++ [0] ++ [0]⟩ = B1 at *
      have a1 := b1.lo; have a2 := b1.hi; have a3 := b1.len; have a4 := b1.most
      simp only [List.length_append, List.length_cons, List.length_nil] at a4
      have i2 := IH2 (pl + 1) (pl + 3) B1 a3 (by omega) (by simp only at a1; omega) (by simp only at a2; omega)
      generalize q.bld (pl + 1) (pl + 3) B1 = B2 at *
      obtain ⟨p1, t1, l1⟩ := B1
      obtain ⟨p2, t2, l2⟩ := B2
      simp only [sb0, sbF, sbG, List.length_append, List.cons_append, List.nil_append, Nat.reduceAdd, List.length_cons, List.length_nil, List.map_cons, List.map_nil, List.map_append, Nat.zero_add] at i1 i2 ht1 ht2 ⊢
      refine C_spec_l11Build_part ?_
      simp (maxSteps := 2000000) (disch := (first | omega | (simp only [List.length_append, List.length_take, List.length_replicate, List.length_map, List.length_set, List.length_cons, List.length_nil, List.length_zipWith, List.length_drop, List.length_range]; first | done | omega))) only [ir_spec_l11Build_part, go_sem, Nat.reduceAdd, Nat.reduceEqDiff, Nat.reduceLeDiff, Nat.reduceSub]
      simp (maxSteps := 2000000) (disch := (first | omega | (simp only [List.length_append, List.length_take, List.length_replicate, List.length_map, List.length_set, List.length_cons, List.length_nil, List.length_zipWith, List.length_drop, List.length_range]; first | done | omega))) only [go_sem, Nat.reduceAdd, Nat.reduceEqDiff, Nat.reduceLeDiff, Nat.reduceSub, e, e3, hf, i1, i2, ht1, ht2, Int.reduceEq, false_implies, true_implies, not_false_eq_true, not_true_eq_false, true_and]
    · have ht1 := spec_l11Build_trans_ok (pl + 2) tr lt 0 [x] [pl] (by omega) (by omega) (by simp) (by simp)
      have ht2 := spec_l11Build_trans_ok (pl + 2) (tr ++ [⟨[x], [pl], []⟩]) (lt ++ [0]) 0 [pl + 1] [y] (by simp; omega) (by simp; omega) (by simp) (by simp)
      have i1 := IH1 pl (pl + 1) ⟨pl + 2, tr ++ [⟨[x], [pl], []⟩] ++ [⟨[pl + 1], [y], []⟩], lt ++ [0] ++ [0]⟩ (by simp; omega) (by simp only [List.length_append, List.length_cons, List.length_nil]; omega) (by simp only; omega) (by simp only; omega)
      have b1 := p.bld_ok pl (pl + 1) ⟨pl + 2, tr ++ [⟨[x], [pl], []⟩] ++ [⟨[pl + 1], [y], []⟩], lt ++ [0] ++ [0]⟩ (by simp; omega)
      rw [show PT.bld (.node 5 p q) x y ⟨pl, tr, lt⟩ = q.bld (pl + 1) pl (p.bld pl (pl + 1) ⟨pl + 2, tr ++ [⟨[x], [pl], []⟩] ++ [⟨[pl + 1], [y], []⟩], lt ++ [0] ++ [0]⟩) from rfl]
      generalize p.bld pl (pl + 1) ⟨pl + 2, tr ++ [⟨[x], [pl], []⟩] ++ [⟨[pl + 1], [y], []⟩], lt ++ [0] ++ [0]⟩ = B1 at *
      have a1 := b1.lo; have a2 := b1.hi; have a3 := b1.len; have a4 := b1.most
      simp only [List.length_append, List.length_cons, List.length_nil] at a4
      have i2 := IH2 (pl + 1) pl B1 a3 (by omega) (by simp only at a1; omega) (by simp only at a2; omega)
      generalize q.bld (pl + 1) pl B1 = B2 at *
      obtain ⟨p1, t1, l1⟩ := B1
      obtain ⟨p2, t2, l2⟩ := B2
      simp only [sb0, sbF, sbG, List.length_append, List.cons_append, List.nil_append, Nat.reduceAdd, List.length_cons, List.length_nil, List.map_cons, List.map_nil, List.map_append, Nat.zero_add] at i1 i2 ht1 ht2 ⊢
      refine C_spec_l11Build_part ?_
      simp (maxSteps := 2000000) (disch := (first | omega | (simp only [List.length_append, List.length_take, List.length_replicate, List.length_map, List.length_set, List.length_cons, List.length_nil, List.length_zipWith, List.length_drop, List.length_range]; first | done | omega))) only [ir_spec_l11Build_part, go_sem, Nat.reduceAdd, Nat.reduceEqDiff, Nat.reduceLeDiff, Nat.reduceSub]
      simp (maxSteps := 2000000) (disch := (first | omega | (simp only [List.length_append, List.length_take, List.length_replicate, List.length_map, List.length_set, List.length_cons, List.length_nil, List.length_zipWith, List.length_drop, List.length_range]; first | done | omega))) only [go_sem, Nat.reduceAdd, Nat.reduceEqDiff, Nat.reduceLeDiff, Nat.reduceSub, e, e3, hf, i1, i2, ht1, ht2, Int.reduceEq, false_implies, true_implies, not_false_eq_true, not_true_eq_false, true_and]
theorem spec_l11Build_part_nil : ∀ (T : PT) (pre suf : List Br) (x y pl : Int), T.wf → (pre ++ T.post ++ suf).length ≤ 15 → 0 ≤ pl → pl + 4 * T.post.length ≤ 2^40 →
    C f_spec_l11Build_part [.ptr 0 0, brs (pre ++ T.post ++ suf), I (pre.length + T.post.length - 1), I x, I y] (sb0 pl) = some (.tup [], sbF (T.bld x y ⟨pl, [], []⟩))
  | .leaf n, pre, suf, x, y, pl, h, hl, h3, h4 => by
    simp only [PT.post, List.length_append, List.length_cons, List.length_nil] at hl h4 ⊢
    have e : (pre ++ [(⟨1, n⟩ : Br)] ++ suf)[pre.length]? = some ⟨1, n⟩ := by simp
    have hL : (pre ++ [(⟨1, n⟩ : Br)] ++ suf).length = pre.length + 1 + suf.length := by simp; omega
    generalize pre ++ [(⟨1, n⟩ : Br)] ++ suf = L at *
    rw [show (pre.length + (0 + 1 : Nat) - 1 : Int) = (pre.length : Nat) by omega]
    have e3 : L[pre.length]'(by omega) = ⟨1, n⟩ := by rw [List.getElem?_eq_getElem (by omega)] at e; exact Option.some.inj e
    have ht := spec_l11Build_trans_nil pl n [x] [y] (by simp) (by simp)
    simp only [List.map_cons, List.map_nil, List.length_cons, List.length_nil, Nat.zero_add] at ht
    simp only [sb0, sbF, PT.bld, addB, List.length_append, List.length_cons, List.length_nil]
    refine C_spec_l11Build_part ?_
    simp (maxSteps := 2000000) (disch := (first | omega | (simp only [List.length_append, List.length_take, List.length_replicate, List.length_map, List.length_set, List.length_cons, List.length_nil, List.length_zipWith, List.length_drop, List.length_range]; first | done | omega))) only [ir_spec_l11Build_part, go_sem, Nat.reduceAdd, Nat.reduceEqDiff, Nat.reduceLeDiff, Nat.reduceSub]
    simp (maxSteps := 2000000) (disch := (first | omega | (simp only [List.length_append, List.length_take, List.length_replicate, List.length_map, List.length_set, List.length_cons, List.length_nil, List.length_zipWith, List.length_drop, List.length_range]; first | done | omega))) only [go_sem, Nat.reduceAdd, Nat.reduceEqDiff, Nat.reduceLeDiff, Nat.reduceSub, e, e3, ht]
  | .node o p q, pre, suf, x, y, pl, h, hl, h3, h4 => by
    obtain ⟨ho, ha, hb⟩ := h
    have pb := q.post_pos
    have pa := p.post_pos
    have hlN : pre.length + p.post.length + q.post.length + 1 + suf.length ≤ 15 := by
      simp only [PT.post, List.length_append, List.length_cons, List.length_nil] at hl; omega
    have hpo : (PT.node o p q).post.length = p.post.length + q.post.length + 1 := by simp [PT.post]; omega
    have hf := spec_l11First_ok (pre ++ p.post) q ([⟨o, 0⟩] ++ suf) hb (by simp; omega)
    have e1 : pre ++ p.post ++ (q.post ++ [⟨o, 0⟩] ++ suf) = pre ++ (PT.node o p q).post ++ suf := by simp [PT.post]
    have e2 : pre ++ p.post ++ q.post ++ ([⟨o, 0⟩] ++ suf) = pre ++ (PT.node o p q).post ++ suf := by simp [PT.post]
    rw [e2] at hf
    have e : (pre ++ (PT.node o p q).post ++ suf)[pre.length + p.post.length + q.post.length]? = some ⟨o, 0⟩ := by
      rw [← e2, List.getElem?_append_right (by simp only [List.length_append]; omega)]
      simp only [List.length_append]
      rw [Nat.sub_self]
      rfl
    have hL : (pre ++ (PT.node o p q).post ++ suf).length = pre.length + p.post.length + q.post.length + 1 + suf.length := by simp [PT.post]; omega
    have hk : (pre.length + (PT.node o p q).post.length - 1 : Int) = ((pre.length + p.post.length + q.post.length : Nat) : Int) := by omega
    rw [hk]
    rw [show (((pre ++ p.post).length : Nat) + (q.post.length : Nat) : Int) = ((pre.length + p.post.length + q.post.length : Nat) : Int) by simp] at hf
    rw [show (((pre ++ p.post).length : Nat) - 1 : Int) = (pre.length + p.post.length - 1 : Int) by simp] at hf
    have IH0 : ∀ (x y pl : Int), 0 ≤ pl → pl + 4 * p.post.length ≤ 2^40 → C f_spec_l11Build_part [.ptr 0 0, brs (pre ++ (PT.node o p q).post ++ suf), I (pre.length + p.post.length - 1), I x, I y] (sb0 pl) = some (.tup [], sbF (p.bld x y ⟨pl, [], []⟩)) := by
      intro x y pl k3 k4
      have := spec_l11Build_part_nil p pre (q.post ++ [⟨o, 0⟩] ++ suf) x y pl ha (by rw [e1, hL]; omega) k3 k4
      rw [e1] at this
      exact this
    have IH1 : ∀ (x y : Int) (c : TB), c.tr.length = c.lt.length → c.tr.length + 3 * p.post.length ≤ 2^30 → 0 ≤ c.pl → c.pl + 4 * p.post.length ≤ 2^40 → C f_spec_l11Build_part [.ptr 0 0, brs (pre ++ (PT.node o p q).post ++ suf), I (pre.length + p.post.length - 1), I x, I y] (sbF c) = some (.tup [], sbG (p.bld x y c)) := by
      intro x y c k1 k2 k3 k4
      have := spec_l11Build_part_ok p pre (q.post ++ [⟨o, 0⟩] ++ suf) x y c ha (by rw [e1, hL]; omega) k1 k2 k3 k4
      rw [e1] at this
      exact this
    have IH2 : ∀ (x y : Int) (c : TB), c.tr.length = c.lt.length → c.tr.length + 3 * q.post.length ≤ 2^30 → 0 ≤ c.pl → c.pl + 4 * q.post.length ≤ 2^40 → C f_spec_l11Build_part [.ptr 0 0, brs (pre ++ (PT.node o p q).post ++ suf), I (((pre.length + p.post.length + q.post.length : Nat) : Int) - 1), I x, I y] (sbF c) = some (.tup [], sbG (q.bld x y c)) := by
      intro x y c k1 k2 k3 k4
      have := spec_l11Build_part_ok q (pre ++ p.post) ([⟨o, 0⟩] ++ suf) x y c hb (by rw [e2, hL]; omega) k1 k2 k3 k4
      rw [e2, show (((pre ++ p.post).length : Nat) + (q.post.length : Nat) - 1 : Int) = ((pre.length + p.post.length + q.post.length : Nat) : Int) - 1 by simp] at this
      exact this
    generalize pre ++ (PT.node o p q).post ++ suf = L at *
    generalize hK : pre.length + p.post.length + q.post.length = K at *
    have e3 : L[K]'(by omega) = ⟨o, 0⟩ := by rw [List.getElem?_eq_getElem (by omega)] at e; exact Option.some.inj e
    generalize hR : (pre.length + p.post.length - 1 : Int) = R at *
    rw [hpo] at h4
    rcases op_cases ho with rfl | rfl | rfl | rfl
    · have i1 := IH0 x pl (pl + 1) (by omega) (by omega)
      have b1 := p.bld_ok x pl ⟨pl + 1, [], []⟩ rfl
      rw [show PT.bld (.node 2 p q) x y ⟨pl, [], []⟩ = q.bld pl y (p.bld x pl ⟨pl + 1, [], []⟩) from rfl]
      generalize p.bld x pl ⟨pl + 1, [], []⟩ = B1 at *
      have a1 := b1.lo; have a2 := b1.hi; have a3 := b1.len; have a4 := b1.most
      simp only [List.length_append, List.length_cons, List.length_nil] at a4
      have i2 := IH2 pl y B1 a3 (by omega) (by simp only at a1; omega) (by simp only at a2; omega)
      generalize q.bld pl y B1 = B2 at *
      obtain ⟨p1, t1, l1⟩ := B1
      obtain ⟨p2, t2, l2⟩ := B2
      simp only [sb0, sbF, sbG, List.length_append, List.cons_append, List.nil_append, Nat.reduceAdd, List.length_cons, List.length_nil, List.map_cons, List.map_nil, List.map_append, Nat.zero_add] at i1 i2  ⊢
      refine C_spec_l11Build_part ?_
      simp (maxSteps := 2000000) (disch := (first | omega | (simp only [List.length_append, List.length_take, List.length_replicate, List.length_map, List.length_set, List.length_cons, List.length_nil, List.length_zipWith, List.length_drop, List.length_range]; first | done | omega))) only [ir_spec_l11Build_part, go_sem, Nat.reduceAdd, Nat.reduceEqDiff, Nat.reduceLeDiff, Nat.reduceSub]
      simp (maxSteps := 2000000) (disch := (first | omega | (simp only [List.length_append, List.length_take, List.length_replicate, List.length_map, List.length_set, List.length_cons, List.length_nil, List.length_zipWith, List.length_drop, List.length_range]; first | done | omega))) only [go_sem, Nat.reduceAdd, Nat.reduceEqDiff, Nat.reduceLeDiff, Nat.reduceSub, e, e3, hf, i1, i2, Int.reduceEq, false_implies, true_implies, not_false_eq_true, not_true_eq_false, true_and]
    · have i1 := IH0 x y (pl) (by omega) (by omega)
      have b1 := p.bld_ok x y ⟨pl, [], []⟩ rfl
      rw [show PT.bld (.node 3 p q) x y ⟨pl, [], []⟩ = q.bld x y (p.bld x y ⟨pl, [], []⟩) from rfl]
      generalize p.bld x y ⟨pl, [], []⟩ = B1 at *
      have a1 := b1.lo; have a2 := b1.hi; have a3 := b1.len; have a4 := b1.most
      simp only [List.length_append, List.length_cons, List.length_nil] at a4
      have i2 := IH2 x y B1 a3 (by omega) (by simp only at a1; omega) (by simp only at a2; omega)
      generalize q.bld x y B1 = B2 at *
      obtain ⟨p1, t1, l1⟩ := B1
      obtain ⟨p2, t2, l2⟩ := B2
      simp only [sb0, sbF, sbG, List.length_append, List.cons_append, List.nil_append, Nat.reduceAdd, List.length_cons, List.length_nil, List.map_cons, List.map_nil, List.map_append, Nat.zero_add] at i1 i2  ⊢
      refine C_spec_l11Build_part ?_
      simp (maxSteps := 2000000) (disch := (first | omega | (simp only [List.length_append, List.length_take, List.length_replicate, List.length_map, List.length_set, List.length_cons, List.length_nil, List.length_zipWith, List.length_drop, List.length_range]; first | done | omega))) only [ir_spec_l11Build_part, go_sem, Nat.reduceAdd, Nat.reduceEqDiff, Nat.reduceLeDiff, Nat.reduceSub]
      simp (maxSteps := 2000000) (disch := (first | omega | (simp only [List.length_append, List.length_take, List.length_replicate, List.length_map, List.length_set, List.length_cons, List.length_nil, List.length_zipWith, List.length_drop, List.length_range]; first | done | omega))) only [go_sem, Nat.reduceAdd, Nat.reduceEqDiff, Nat.reduceLeDiff, Nat.reduceSub, e, e3, hf, i1, i2, Int.reduceEq, false_implies, true_implies, not_false_eq_true, not_true_eq_false, true_and]
    · have ht1 := spec_l11Build_trans_nil (pl + 4) 0 [x] [pl, pl + 1] (by simp) (by simp)
      have ht2 := spec_l11Build_trans_ok (pl + 4) [⟨[x], [pl, pl + 1], []⟩] [0] 0 [pl + 2, pl + 3] [y] (by simp) (by simp) (by simp) (by simp)
      have i1 := IH1 pl (pl + 2) ⟨pl + 4, [⟨[x], [pl, pl + 1], []⟩] ++ [⟨[pl + 2, pl + 3], [y], []⟩], [0] ++ [0]⟩ (by simp) (by simp only [List.length_append, List.length_cons, List.length_nil]; omega) (by simp only; omega) (by simp only; omega)
      have b1 := p.bld_ok pl (pl + 2) ⟨pl + 4, [⟨[x], [pl, pl + 1], []⟩] ++ [⟨[pl + 2, pl + 3], [y], []⟩], [0] ++ [0]⟩ (by simp)
      rw [show PT.bld (.node 4 p q) x y ⟨pl, [], []⟩ = q.bld (pl + 1) (pl + 3) (p.bld pl (pl + 2) ⟨pl + 4, [⟨[x], [pl, pl + 1], []⟩] ++ [⟨[pl + 2, pl + 3], [y], []⟩], [0] ++ [0]⟩) from rfl]
      generalize p.bld pl (pl + 2) ⟨pl + 4, [⟨[x], [pl, pl + 1], []⟩] ++ [⟨[pl + 2, pl + 3], [y], []⟩], [0] ++ [0]⟩ = B1 at *
      have a1 := b1.lo; have a2 := b1.hi; have a3 := b1.len; have a4 := b1.most
      simp only [List.length_append, List.length_cons, List.length_nil] at a4
      have i2 := IH2 (pl + 1) (pl + 3) B1 a3 (by omega) (by simp only at a1; omega) (by simp only at a2; omega)
      generalize q.bld (pl + 1) (pl + 3) B1 = B2 at *
      obtain ⟨p1, t1, l1⟩ := B1
      obtain ⟨p2, t2, l2⟩ := B2
      simp only [sb0, sbF, sbG, List.length_append, List.cons_append, List.nil_append, Nat.reduceAdd, List.length_cons, List.length_nil, List.map_cons, List.map_nil, List.map_append, Nat.zero_add] at i1 i2 ht1 ht2 ⊢
      refine C_spec_l11Build_part ?_
      simp (maxSteps := 2000000) (disch := (first | omega | (simp only [List.length_append, List.length_take, List.length_replicate, List.length_map, List.length_set, List.length_cons, List.length_nil, List.length_zipWith, List.length_drop, List.length_range]; first | done | omega))) only [ir_spec_l11Build_part, go_sem, Nat.reduceAdd, Nat.reduceEqDiff, Nat.reduceLeDiff, Nat.reduceSub]
      simp (maxSteps := 2000000) (disch := (first | omega | (simp only [List.length_append, List.length_take, List.length_replicate, List.length_map, List.length_set, List.length_cons, List.length_nil, List.length_zipWith, List.length_drop, List.length_range]; first | done | omega))) only [go_sem, Nat.reduceAdd, Nat.reduceEqDiff, Nat.reduceLeDiff, Nat.reduceSub, e, e3, hf, i1, i2, ht1, ht2, Int.reduceEq, false_implies, true_implies, not_false_eq_true, not_true_eq_false, true_and]
    · have ht1 := spec_l11Build_trans_nil (pl + 2) 0 [x] [pl] (by simp) (by simp)
      have ht2 := spec_l11Build_trans_ok (pl + 2) [⟨[x], [pl], []⟩] [0] 0 [pl + 1] [y] (by simp) (by simp) (by simp) (by simp)
      have i1 := IH1 pl (pl + 1) ⟨pl + 2, [⟨[x], [pl], []⟩] ++ [⟨[pl + 1], [y], []⟩], [0] ++ [0]⟩ (by simp) (by simp only [List.length_append, List.length_cons, List.length_nil]; omega) (by simp only; omega) (by simp only; omega)
      have b1 := p.bld_ok pl (pl + 1) ⟨pl + 2, [⟨[x], [pl], []⟩] ++ [⟨[pl + 1], [y], []⟩], [0] ++ [0]⟩ (by simp)
      rw [show PT.bld (.node 5 p q) x y ⟨pl, [], []⟩ = q.bld (pl + 1) pl (p.bld pl (pl + 1) ⟨pl + 2, [⟨[x], [pl], []⟩] ++ [⟨[pl + 1], [y], []⟩], [0] ++ [0]⟩) from rfl]
      generalize p.bld pl (pl + 1) ⟨pl + 2, [⟨[x], [pl], []⟩] ++ [⟨[pl + 1], [y], []⟩], [0] ++ [0]⟩ = B1 at *
      have a1 := b1.lo; have a2 := b1.hi; have a3 := b1.len; have a4 := b1.most
      simp only [List.length_append, List.length_cons, List.length_nil] at a4
      have i2 := IH2 (pl + 1) pl B1 a3 (by omega) (by simp only at a1; omega) (by simp only at a2; omega)
      generalize q.bld (pl + 1) pl B1 = B2 at *
      obtain ⟨p1, t1, l1⟩ := B1
      obtain ⟨p2, t2, l2⟩ := B2
      simp only [sb0, sbF, sbG, List.length_append, List.cons_append, List.nil_append, Nat.reduceAdd, List.length_cons, List.length_nil, List.map_cons, List.map_nil, List.map_append, Nat.zero_add] at i1 i2 ht1 ht2 ⊢
      refine C_spec_l11Build_part ?_
      simp (maxSteps := 2000000) (disch := (first | omega | (simp only [List.length_append, List.length_take, List.length_replicate, List.length_map, List.length_set, List.length_cons, List.length_nil, List.length_zipWith, List.length_drop, List.length_range]; first | done | omega))) only [ir_spec_l11Build_part, go_sem, Nat.reduceAdd, Nat.reduceEqDiff, Nat.reduceLeDiff, Nat.reduceSub]
      simp (maxSteps := 2000000) (disch := (first | omega | (simp only [List.length_append, List.length_take, List.length_replicate, List.length_map, List.length_set, List.length_cons, List.length_nil, List.length_zipWith, List.length_drop, List.length_range]; first | done | omega))) only [go_sem, Nat.reduceAdd, Nat.reduceEqDiff, Nat.reduceLeDiff, Nat.reduceSub, e, e3, hf, i1, i2, ht1, ht2, Int.reduceEq, false_implies, true_implies, not_false_eq_true, not_true_eq_false, true_and]
theorem spec_l1Places_ok (n : Int) : C f_spec_l1Places [I n] [] = some (.bool (inB 1 16 n), []) := by
  refine C_spec_l1Places ?_
  simp (maxSteps := 2000000) (disch := (first | omega | (simp only [List.length_append, List.length_take, List.length_replicate, List.length_map, List.length_set, List.length_cons, List.length_nil, List.length_zipWith, List.length_drop, List.length_range]; first | done | omega))) only [ir_spec_l1Places, go_sem, Nat.reduceAdd, Nat.reduceEqDiff, Nat.reduceLeDiff, Nat.reduceSub]
  simp (maxSteps := 2000000) (disch := (first | omega | (simp only [List.length_append, List.length_take, List.length_replicate, List.length_map, List.length_set, List.length_cons, List.length_nil, List.length_zipWith, List.length_drop, List.length_range]; first | done | omega))) only [go_sem, Nat.reduceAdd, Nat.reduceEqDiff, Nat.reduceLeDiff, Nat.reduceSub, spec_l1In_ok]
  grind
theorem spec_l1Rising_ok (l : List Int) (lo hi : Int) (hl : l.length < 2^62) : C f_spec_l1Rising [ints l, I lo, I hi] [] = some (.bool (incr l && l.all (inB lo hi)), []) := by
  refine C_spec_l1Rising ?_
  simp (maxSteps := 2000000) (disch := (first | omega | (simp only [List.length_append, List.length_take, List.length_replicate, List.length_map, List.length_set, List.length_cons, List.length_nil, List.length_zipWith, List.length_drop, List.length_range]; first | done | omega))) only [ir_spec_l1Rising, go_sem, Nat.reduceAdd, Nat.reduceEqDiff, Nat.reduceLeDiff, Nat.reduceSub]
  refine W_for l.length (fun k s => s = ⟨[ints l, I lo, I hi, .any, .any, .any, ints l, I l.length, I k, .any, .any], []⟩ ∧ (l.take k).Pairwise (· < ·) ∧ (l.take k).all (inB lo hi) = true) ?_ ?_ ?_
  · simp (maxSteps := 2000000) (disch := (first | omega | (simp only [List.length_append, List.length_take, List.length_replicate, List.length_map, List.length_set, List.length_cons, List.length_nil, List.length_zipWith, List.length_drop, List.length_range]; first | done | omega))) only [go_sem, Nat.reduceAdd, Nat.reduceEqDiff, Nat.reduceLeDiff, Nat.reduceSub]
    exact ⟨rfl, List.Pairwise.nil⟩
  · rintro k s hk ⟨rfl, hp, hall⟩
    simp (maxSteps := 2000000) (disch := (first | omega | (simp only [List.length_append, List.length_take, List.length_replicate, List.length_map, List.length_set, List.length_cons, List.length_nil, List.length_zipWith, List.length_drop, List.length_range]; first | done | omega))) only [go_sem, Nat.reduceAdd, Nat.reduceEqDiff, Nat.reduceLeDiff, Nat.reduceSub, spec_l1In_ok]
    refine ⟨fun h => ⟨fun h2 => ?_, fun h2 => ?_⟩, fun h => by rw [all_false hk h]; simp⟩
    · simp (maxSteps := 2000000) (disch := (first | omega | (simp only [List.length_append, List.length_take, List.length_replicate, List.length_map, List.length_set, List.length_cons, List.length_nil, List.length_zipWith, List.length_drop, List.length_range]; first | done | omega))) only [go_sem, Nat.reduceAdd, Nat.reduceEqDiff, Nat.reduceLeDiff, Nat.reduceSub]
      obtain ⟨j, rfl⟩ : ∃ j, k = j + 1 := ⟨k - 1, by omega⟩
      have e : (((j + 1 : Nat) : Int) - 1).toNat = j := by omega
      refine ⟨fun h3 => ?_, fun h3 => ⟨rfl, ?_, all_take hk hall h⟩⟩
      · rw [incr_not hk (by simp only [e] at h3; omega)]; rfl
      · exact incr_step hk hp (by simp only [e] at h3; omega)
    · obtain rfl : k = 0 := by omega
      exact ⟨rfl, incr_one, all_take hk hall h⟩
  · rintro s ⟨rfl, hp, hall⟩
    simp (maxSteps := 2000000) (disch := (first | omega | (simp only [List.length_append, List.length_take, List.length_replicate, List.length_map, List.length_set, List.length_cons, List.length_nil, List.length_zipWith, List.length_drop, List.length_range]; first | done | omega))) only [go_sem, Nat.reduceAdd, Nat.reduceEqDiff, Nat.reduceLeDiff, Nat.reduceSub]
    rw [List.take_length] at hp hall
    rw [hall, show incr l = true by simpa [incr] using hp]
    rfl
theorem spec_GoodNet_ok (n : Net) (hn : smN n) : C f_spec_GoodNet [encN n] [] = some (.bool (goodN n), []) := by
  have h0 := hn.1
  refine C_spec_GoodNet ?_
  simp (maxSteps := 2000000) (disch := (first | omega | (simp only [List.length_append, List.length_take, List.length_replicate, List.length_map, List.length_set, List.length_cons, List.length_nil, List.length_zipWith, List.length_drop, List.length_range]; first | done | omega))) only [ir_spec_GoodNet, go_sem, Nat.reduceAdd, Nat.reduceEqDiff, Nat.reduceLeDiff, Nat.reduceSub]
  simp (maxSteps := 2000000) (disch := (first | omega | (simp only [List.length_append, List.length_take, List.length_replicate, List.length_map, List.length_set, List.length_cons, List.length_nil, List.length_zipWith, List.length_drop, List.length_range]; first | done | omega))) only [go_sem, Nat.reduceAdd, Nat.reduceEqDiff, Nat.reduceLeDiff, Nat.reduceSub, spec_l1Places_ok]
  refine ⟨fun h => ⟨fun h2 => ?_, fun h2 => ?_⟩, fun h => by simp [goodN, h]⟩
  · have : ¬ n.tr.length ≤ 24 := by omega
    simp [goodN, this]
  have hb : 1 ≤ n.pl ∧ n.pl ≤ 16 := by simpa [inB] using h
  refine W_for n.tr.length (fun k s => s = ⟨[.any, .ptr 0 0, .any, .any, .any, trs n.tr, I n.tr.length, I k, .any, .any], [.box t_impl_Net [I n.pl, trs n.tr]]⟩ ∧ (n.tr.take k).all (goodT n.pl) = true) ?_ ?_ ?_
  · simp (maxSteps := 2000000) (disch := (first | omega | (simp only [List.length_append, List.length_take, List.length_replicate, List.length_map, List.length_set, List.length_cons, List.length_nil, List.length_zipWith, List.length_drop, List.length_range]; first | done | omega))) only [go_sem, Nat.reduceAdd, Nat.reduceEqDiff, Nat.reduceLeDiff, Nat.reduceSub]
    rfl
  · rintro k s hk ⟨rfl, hall⟩
    obtain ⟨h3, h4, h5⟩ := hn.2 _ (List.getElem_mem hk)
    simp (maxSteps := 2000000) (disch := (first | omega | (simp only [List.length_append, List.length_take, List.length_replicate, List.length_map, List.length_set, List.length_cons, List.length_nil, List.length_zipWith, List.length_drop, List.length_range]; first | done | omega))) only [go_sem, Nat.reduceAdd, Nat.reduceEqDiff, Nat.reduceLeDiff, Nat.reduceSub, spec_l1Rising_ok]
    simp only [places_eq]
    refine ⟨fun h6 => by rw [goodN_not hk (goodT_nil (by omega))], fun h6 => ⟨fun h7 => ⟨fun h8 => ⟨fun h9 => ⟨rfl, all_take hk hall (goodT_all (by omega) h7 h8 h9)⟩, fun h9 => by rw [goodN_not hk (by simp [goodT, h9])]⟩, fun h8 => by rw [goodN_not hk (by simp [goodT, h8])]⟩, fun h7 => by rw [goodN_not hk (by simp [goodT, h7])]⟩⟩
  · rintro s ⟨rfl, hall⟩
    simp (maxSteps := 2000000) (disch := (first | omega | (simp only [List.length_append, List.length_take, List.length_replicate, List.length_map, List.length_set, List.length_cons, List.length_nil, List.length_zipWith, List.length_drop, List.length_range]; first | done | omega))) only [go_sem, Nat.reduceAdd, Nat.reduceEqDiff, Nat.reduceLeDiff, Nat.reduceSub]
    rw [List.take_length] at hall
    simp [goodN, hall, h, show n.tr.length ≤ 24 by omega]
theorem spec_l3Forward_ok (n : Net) (p : Int) (hg : goodN n = true) (hp : 0 ≤ p ∧ p < n.pl) : C f_spec_l3Forward [encN n, I p] [] = some (.tup [.un t_bool true 1 ((reachC n false p).pl.map PV.bool), .un t_bool true 1 ((reachC n false p).tr.map PV.bool)], []) := by
  have hb := goodN_parts hg
  have hlen := reachC_len n false p
  rw [reachC_eq] at hlen ⊢
  refine C_spec_l3Forward ?_
  simp (maxSteps := 2000000) (disch := (first | omega | (simp only [List.length_append, List.length_take, List.length_replicate, List.length_map, List.length_set, List.length_cons, List.length_nil, List.length_zipWith, List.length_drop, List.length_range]; first | done | omega))) only [ir_spec_l3Forward, go_sem, Nat.reduceAdd, Nat.reduceEqDiff, Nat.reduceLeDiff, Nat.reduceSub]
  simp (maxSteps := 2000000) (disch := (first | omega | (simp only [List.length_append, List.length_take, List.length_replicate, List.length_map, List.length_set, List.length_cons, List.length_nil, List.length_zipWith, List.length_drop, List.length_range]; first | done | omega))) only [go_sem, Nat.reduceAdd, Nat.reduceEqDiff, Nat.reduceLeDiff, Nat.reduceSub, List.getElem_replicate]
  generalize hR : clRun n false (cntF (List.replicate n.tr.length false) + 1) ⟨(List.replicate n.pl.toNat false).set p.toNat true, List.replicate n.tr.length false, true⟩ = R at *
  refine W_down (fun k s => ∃ c : Cl, c.pl.length = n.pl.toNat ∧ c.tr.length = n.tr.length ∧ ((k = cntF c.tr + 1 ∧ s = ⟨[.any, .any, .ptr 0 0, .any, .any, .ref 1 1 0 n.pl.toNat, .ref 2 1 0 n.tr.length, .bool true, .any, .any, .any, .any, .any, .any, .any, .any, .any, .any, .any, .any, .any, .any, .any, .any, .any, .any, .any], [.box t_impl_Net [I n.pl, trs n.tr], .row t_bool true 1 (c.pl.map PV.bool), .row t_bool true 1 (c.tr.map PV.bool)]⟩ ∧ clRun n false (cntF c.tr + 1) c = R) ∨ (k = 0 ∧ s = ⟨[.any, .any, .ptr 0 0, .any, .any, .ref 1 1 0 n.pl.toNat, .ref 2 1 0 n.tr.length, .bool false, .any, .any, .any, .any, .any, .any, .any, .any, .any, .any, .any, .any, .any, .any, .any, .any, .any, .any, .any], [.box t_impl_Net [I n.pl, trs n.tr], .row t_bool true 1 (c.pl.map PV.bool), .row t_bool true 1 (c.tr.map PV.bool)]⟩ ∧ c = R))) (cntF (List.replicate n.tr.length false) + 1) ?_ ?_
  · refine ⟨⟨(List.replicate n.pl.toNat false).set p.toNat true, List.replicate n.tr.length false, true⟩, by simp, by simp, .inl ⟨rfl, ?_, hR⟩⟩
    simp (maxSteps := 2000000) (disch := (first | omega | (simp only [List.length_append, List.length_take, List.length_replicate, List.length_map, List.length_set, List.length_cons, List.length_nil, List.length_zipWith, List.length_drop, List.length_range]; first | done | omega))) only [go_sem, Nat.reduceAdd, Nat.reduceEqDiff, Nat.reduceLeDiff, Nat.reduceSub]
    simp
  · rintro k0 s ⟨c, hc1, hc2, ⟨rfl, rfl, hc⟩ | ⟨rfl, rfl, rfl⟩⟩
    · have hcl := fun k => clK_len n false c k
      simp (maxSteps := 2000000) (disch := (first | omega | (simp only [List.length_append, List.length_take, List.length_replicate, List.length_map, List.length_set, List.length_cons, List.length_nil, List.length_zipWith, List.length_drop, List.length_range]; first | done | omega))) only [go_sem, Nat.reduceAdd, Nat.reduceEqDiff, Nat.reduceLeDiff, Nat.reduceSub]
      refine W_for n.tr.length (fun k s => s = ⟨[.any, .any, .ptr 0 0, .any, .any, .ref 1 1 0 n.pl.toNat, .ref 2 1 0 n.tr.length, .bool (clK n false c k).ch, .any, .any, .any, .any, .any, .any, trs n.tr, I n.tr.length, I k, .any, .any, .any, .any, .any, .any, .any, .any, .any, .any], [.box t_impl_Net [I n.pl, trs n.tr], .row t_bool true 1 ((clK n false c k).pl.map PV.bool), .row t_bool true 1 ((clK n false c k).tr.map PV.bool)]⟩) ?_ ?_ ?_
      · simp (maxSteps := 2000000) (disch := (first | omega | (simp only [List.length_append, List.length_take, List.length_replicate, List.length_map, List.length_set, List.length_cons, List.length_nil, List.length_zipWith, List.length_drop, List.length_range]; first | done | omega))) only [go_sem, Nat.reduceAdd, Nat.reduceEqDiff, Nat.reduceLeDiff, Nat.reduceSub]
        rfl
      · rintro k s hk rfl
        have hT := hb.2.2.2 _ (List.getElem_mem hk)
        have hLs := goodT_lens hT (by omega)
        obtain ⟨_, g1, g2, g3⟩ := goodT_parts hT
        have p1 := places_in g1
        have p2 := places_in g2
        have hd := hcl k
        have hstep := clK_succ n false c k
        have htr : n.tr[k] = trN n k := (trN_eq hk).symm
        rw [htr] at hLs p1 p2
        have s1 : (clK n false c k).tr.getD k false = true → clK n false c (k + 1) = clK n false c k := fun h => hstep.trans (clStep_no (.inl h))
        have s2 : hitB (clK n false c k).pl (sideI false (trN n k)) = false → clK n false c (k + 1) = clK n false c k := fun h => hstep.trans (clStep_no (.inr h))
        have s3 : (clK n false c k).tr.getD k false = false → hitB (clK n false c k).pl (sideI false (trN n k)) = true → clK n false c (k + 1) = ⟨markB (clK n false c k).pl (sideO false (trN n k)), (clK n false c k).tr.set k true, true⟩ := fun h h2 => hstep.trans (clStep_yes h h2)
        simp only [sideI, sideO, Bool.false_eq_true, if_false, if_true] at s2 s3
        clear hstep
        generalize clK n false c k = d at *
        generalize clK n false c (k + 1) = d' at *
        simp (maxSteps := 2000000) (disch := (first | omega | (simp only [List.length_append, List.length_take, List.length_replicate, List.length_map, List.length_set, List.length_cons, List.length_nil, List.length_zipWith, List.length_drop, List.length_range]; first | done | omega))) only [go_sem, Nat.reduceAdd, Nat.reduceEqDiff, Nat.reduceLeDiff, Nat.reduceSub]
        simp only [htr]
        generalize trN n k = tr at *
        refine W_for tr.inn.length (fun j s => s = ⟨[.any, .any, .ptr 0 0, .any, .any, .ref 1 1 0 n.pl.toNat, .ref 2 1 0 n.tr.length, .bool d.ch, I k, .ptr 3 0, .bool ((tr.inn.take j).any fun p => d.pl.getD p.toNat false), .any, .any, .any, trs n.tr, I n.tr.length, I k, .any, ints tr.inn, I tr.inn.length, I j, .any, .any, .any, .any, .any, .any], [.box t_impl_Net [I n.pl, trs n.tr], .row t_bool true 1 (d.pl.map PV.bool), .row t_bool true 1 (d.tr.map PV.bool), .box t_impl_Trans [ints tr.inn, ints tr.out, ints tr.rst]]⟩) ?_ ?_ ?_
        · simp (maxSteps := 2000000) (disch := (first | omega | (simp only [List.length_append, List.length_take, List.length_replicate, List.length_map, List.length_set, List.length_cons, List.length_nil, List.length_zipWith, List.length_drop, List.length_range]; first | done | omega))) only [go_sem, Nat.reduceAdd, Nat.reduceEqDiff, Nat.reduceLeDiff, Nat.reduceSub]
          rfl
        · rintro j s hj rfl
          have h1 := p1 _ (List.getElem_mem hj)
          have h2 : tr.inn[j].toNat < d.pl.length := by omega
          simp (maxSteps := 2000000) (disch := (first | omega | (simp only [List.length_append, List.length_take, List.length_replicate, List.length_map, List.length_set, List.length_cons, List.length_nil, List.length_zipWith, List.length_drop, List.length_range]; first | done | omega))) only [go_sem, Nat.reduceAdd, Nat.reduceEqDiff, Nat.reduceLeDiff, Nat.reduceSub]
          refine ⟨fun h => ?_, fun h => ⟨fun h3 => ?_, fun h3 => ?_⟩⟩
          · rw [any_more hj h]; rfl
          · rw [any_here hj (by rw [← getD_eq h2]; exact h3)]; rfl
          · rw [any_take hj h (by rw [← getD_eq h2]; exact h3)]; rfl
        · rintro s rfl
          have hkd : k < d.tr.length := by omega
          simp (maxSteps := 2000000) (disch := (first | omega | (simp only [List.length_append, List.length_take, List.length_replicate, List.length_map, List.length_set, List.length_cons, List.length_nil, List.length_zipWith, List.length_drop, List.length_range]; first | done | omega))) only [go_sem, Nat.reduceAdd, Nat.reduceEqDiff, Nat.reduceLeDiff, Nat.reduceSub, List.take_length]
          refine ⟨fun h => ⟨fun h3 => ?_, fun h3 => ?_⟩, fun h => ?_⟩
          · rw [s1 (by rw [← getD_eq hkd]; exact h3)]; rfl
          · have e := s3 (by rw [← getD_eq hkd]; exact h3) h
            subst e
            refine W_for tr.out.length (fun j s => s = ⟨[.any, .any, .ptr 0 0, .any, .any, .ref 1 1 0 n.pl.toNat, .ref 2 1 0 n.tr.length, .bool true, .any, .any, .any, .any, .any, .any, trs n.tr, I n.tr.length, I k, .any, .any, .any, .any, .any, .any, ints tr.out, I tr.out.length, I j, .any], [.box t_impl_Net [I n.pl, trs n.tr], .row t_bool true 1 ((markB d.pl (tr.out.take j)).map PV.bool), .row t_bool true 1 ((d.tr.set k true).map PV.bool)]⟩) ?_ ?_ ?_
            · simp (maxSteps := 2000000) (disch := (first | omega | (simp only [List.length_append, List.length_take, List.length_replicate, List.length_map, List.length_set, List.length_cons, List.length_nil, List.length_zipWith, List.length_drop, List.length_range]; first | done | omega))) only [go_sem, Nat.reduceAdd, Nat.reduceEqDiff, Nat.reduceLeDiff, Nat.reduceSub]
              rfl
            · rintro j s hj rfl
              have h1 := p2 _ (List.getElem_mem hj)
              have h2 : tr.out[j].toNat < d.pl.length := by omega
              have h4 := markB_len d.pl (tr.out.take j)
              simp (maxSteps := 2000000) (disch := (first | omega | (simp only [List.length_append, List.length_take, List.length_replicate, List.length_map, List.length_set, List.length_cons, List.length_nil, List.length_zipWith, List.length_drop, List.length_range]; first | done | omega))) only [go_sem, Nat.reduceAdd, Nat.reduceEqDiff, Nat.reduceLeDiff, Nat.reduceSub]
              rw [markB_take hj]; rfl
            · rintro s rfl
              simp (maxSteps := 2000000) (disch := (first | omega | (simp only [List.length_append, List.length_take, List.length_replicate, List.length_map, List.length_set, List.length_cons, List.length_nil, List.length_zipWith, List.length_drop, List.length_range]; first | done | omega))) only [go_sem, Nat.reduceAdd, Nat.reduceEqDiff, Nat.reduceLeDiff, Nat.reduceSub, List.take_length]
              rfl
          · rw [s2 h]; rfl
      · rintro s rfl
        simp (maxSteps := 2000000) (disch := (first | omega | (simp only [List.length_append, List.length_take, List.length_replicate, List.length_map, List.length_set, List.length_cons, List.length_nil, List.length_zipWith, List.length_drop, List.length_range]; first | done | omega))) only [go_sem, Nat.reduceAdd, Nat.reduceEqDiff, Nat.reduceLeDiff, Nat.reduceSub]
        have hn := clRun_next (n := n) (bk := false) hc2
        rw [hc] at hn
        cases e : (clRound n false c).ch with
        | true =>
          have h1 := (clK_cnt (n := n) (bk := false) (s := c) (k := n.tr.length) (by omega)).2 e
          simp only [e, if_true] at hn
          refine ⟨cntF (clRound n false c).tr + 1, by unfold clRound; omega, clRound n false c, by unfold clRound; have := hcl n.tr.length; omega, by unfold clRound; have := hcl n.tr.length; omega, .inl ⟨rfl, ?_, hn.symm⟩⟩
          unfold clRound at e ⊢
          rw [e]
        | false =>
          simp only [e, Bool.false_eq_true, if_false] at hn
          refine ⟨0, by omega, clRound n false c, by unfold clRound; have := hcl n.tr.length; omega, by unfold clRound; have := hcl n.tr.length; omega, .inr ⟨rfl, ?_, hn.symm⟩⟩
          unfold clRound at e ⊢
          rw [e]
    · simp (maxSteps := 2000000) (disch := (first | omega | (simp only [List.length_append, List.length_take, List.length_replicate, List.length_map, List.length_set, List.length_cons, List.length_nil, List.length_zipWith, List.length_drop, List.length_range]; first | done | omega))) only [go_sem, Nat.reduceAdd, Nat.reduceEqDiff, Nat.reduceLeDiff, Nat.reduceSub]
theorem spec_l3Back_ok (n : Net) (p : Int) (hg : goodN n = true) (hp : 0 ≤ p ∧ p < n.pl) : C f_spec_l3Back [encN n, I p] [] = some (.tup [.un t_bool true 1 ((reachC n true p).pl.map PV.bool), .un t_bool true 1 ((reachC n true p).tr.map PV.bool)], []) := by
  have hb := goodN_parts hg
  have hlen := reachC_len n true p
  rw [reachC_eq] at hlen ⊢
  refine C_spec_l3Back ?_
  simp (maxSteps := 2000000) (disch := (first | omega | (simp only [List.length_append, List.length_take, List.length_replicate, List.length_map, List.length_set, List.length_cons, List.length_nil, List.length_zipWith, List.length_drop, List.length_range]; first | done | omega))) only [ir_spec_l3Back, go_sem, Nat.reduceAdd, Nat.reduceEqDiff, Nat.reduceLeDiff, Nat.reduceSub]
  simp (maxSteps := 2000000) (disch := (first | omega | (simp only [List.length_append, List.length_take, List.length_replicate, List.length_map, List.length_set, List.length_cons, List.length_nil, List.length_zipWith, List.length_drop, List.length_range]; first | done | omega))) only [go_sem, Nat.reduceAdd, Nat.reduceEqDiff, Nat.reduceLeDiff, Nat.reduceSub, List.getElem_replicate]
  generalize hR : clRun n true (cntF (List.replicate n.tr.length false) + 1) ⟨(List.replicate n.pl.toNat false).set p.toNat true, List.replicate n.tr.length false, true⟩ = R at *
  refine W_down (fun k s => ∃ c : Cl, c.pl.length = n.pl.toNat ∧ c.tr.length = n.tr.length ∧ ((k = cntF c.tr + 1 ∧ s = ⟨[.any, .any, .ptr 0 0, .any, .any, .ref 1 1 0 n.pl.toNat, .ref 2 1 0 n.tr.length, .bool true, .any, .any, .any, .any, .any, .any, .any, .any, .any, .any, .any, .any, .any, .any, .any, .any, .any, .any, .any], [.box t_impl_Net [I n.pl, trs n.tr], .row t_bool true 1 (c.pl.map PV.bool), .row t_bool true 1 (c.tr.map PV.bool)]⟩ ∧ clRun n true (cntF c.tr + 1) c = R) ∨ (k = 0 ∧ s = ⟨[.any, .any, .ptr 0 0, .any, .any, .ref 1 1 0 n.pl.toNat, .ref 2 1 0 n.tr.length, .bool false, .any, .any, .any, .any, .any, .any, .any, .any, .any, .any, .any, .any, .any, .any, .any, .any, .any, .any, .any], [.box t_impl_Net [I n.pl, trs n.tr], .row t_bool true 1 (c.pl.map PV.bool), .row t_bool true 1 (c.tr.map PV.bool)]⟩ ∧ c = R))) (cntF (List.replicate n.tr.length false) + 1) ?_ ?_
  · refine ⟨⟨(List.replicate n.pl.toNat false).set p.toNat true, List.replicate n.tr.length false, true⟩, by simp, by simp, .inl ⟨rfl, ?_, hR⟩⟩
    simp (maxSteps := 2000000) (disch := (first | omega | (simp only [List.length_append, List.length_take, List.length_replicate, List.length_map, List.length_set, List.length_cons, List.length_nil, List.length_zipWith, List.length_drop, List.length_range]; first | done | omega))) only [go_sem, Nat.reduceAdd, Nat.reduceEqDiff, Nat.reduceLeDiff, Nat.reduceSub]
    simp
  · rintro k0 s ⟨c, hc1, hc2, ⟨rfl, rfl, hc⟩ | ⟨rfl, rfl, rfl⟩⟩
    · have hcl := fun k => clK_len n true c k
      simp (maxSteps := 2000000) (disch := (first | omega | (simp only [List.length_append, List.length_take, List.length_replicate, List.length_map, List.length_set, List.length_cons, List.length_nil, List.length_zipWith, List.length_drop, List.length_range]; first | done | omega))) only [go_sem, Nat.reduceAdd, Nat.reduceEqDiff, Nat.reduceLeDiff, Nat.reduceSub]
      refine W_for n.tr.length (fun k s => s = ⟨[.any, .any, .ptr 0 0, .any, .any, .ref 1 1 0 n.pl.toNat, .ref 2 1 0 n.tr.length, .bool (clK n true c k).ch, .any, .any, .any, .any, .any, .any, trs n.tr, I n.tr.length, I k, .any, .any, .any, .any, .any, .any, .any, .any, .any, .any], [.box t_impl_Net [I n.pl, trs n.tr], .row t_bool true 1 ((clK n true c k).pl.map PV.bool), .row t_bool true 1 ((clK n true c k).tr.map PV.bool)]⟩) ?_ ?_ ?_
      · simp (maxSteps := 2000000) (disch := (first | omega | (simp only [List.length_append, List.length_take, List.length_replicate, List.length_map, List.length_set, List.length_cons, List.length_nil, List.length_zipWith, List.length_drop, List.length_range]; first | done | omega))) only [go_sem, Nat.reduceAdd, Nat.reduceEqDiff, Nat.reduceLeDiff, Nat.reduceSub]
        rfl
      · rintro k s hk rfl
        have hT := hb.2.2.2 _ (List.getElem_mem hk)
        have hLs := goodT_lens hT (by omega)
        obtain ⟨_, g1, g2, g3⟩ := goodT_parts hT
        have p1 := places_in g2
        have p2 := places_in g1
        have hd := hcl k
        have hstep := clK_succ n true c k
        have htr : n.tr[k] = trN n k := (trN_eq hk).symm
        rw [htr] at hLs p1 p2
        have s1 : (clK n true c k).tr.getD k false = true → clK n true c (k + 1) = clK n true c k := fun h => hstep.trans (clStep_no (.inl h))
        have s2 : hitB (clK n true c k).pl (sideI true (trN n k)) = false → clK n true c (k + 1) = clK n true c k := fun h => hstep.trans (clStep_no (.inr h))
        have s3 : (clK n true c k).tr.getD k false = false → hitB (clK n true c k).pl (sideI true (trN n k)) = true → clK n true c (k + 1) = ⟨markB (clK n true c k).pl (sideO true (trN n k)), (clK n true c k).tr.set k true, true⟩ := fun h h2 => hstep.trans (clStep_yes h h2)
        simp only [sideI, sideO, Bool.false_eq_true, if_false, if_true] at s2 s3
        clear hstep
        generalize clK n true c k = d at *
        generalize clK n true c (k + 1) = d' at *
        simp (maxSteps := 2000000) (disch := (first | omega | (simp only [List.length_append, List.length_take, List.length_replicate, List.length_map, List.length_set, List.length_cons, List.length_nil, List.length_zipWith, List.length_drop, List.length_range]; first | done | omega))) only [go_sem, Nat.reduceAdd, Nat.reduceEqDiff, Nat.reduceLeDiff, Nat.reduceSub]
        simp only [htr]
        generalize trN n k = tr at *
        refine W_for tr.out.length (fun j s => s = ⟨[.any, .any, .ptr 0 0, .any, .any, .ref 1 1 0 n.pl.toNat, .ref 2 1 0 n.tr.length, .bool d.ch, I k, .ptr 3 0, .bool ((tr.out.take j).any fun p => d.pl.getD p.toNat false), .any, .any, .any, trs n.tr, I n.tr.length, I k, .any, ints tr.out, I tr.out.length, I j, .any, .any, .any, .any, .any, .any], [.box t_impl_Net [I n.pl, trs n.tr], .row t_bool true 1 (d.pl.map PV.bool), .row t_bool true 1 (d.tr.map PV.bool), .box t_impl_Trans [ints tr.inn, ints tr.out, ints tr.rst]]⟩) ?_ ?_ ?_
        · simp (maxSteps := 2000000) (disch := (first | omega | (simp only [List.length_append, List.length_take, List.length_replicate, List.length_map, List.length_set, List.length_cons, List.length_nil, List.length_zipWith, List.length_drop, List.length_range]; first | done | omega))) only [go_sem, Nat.reduceAdd, Nat.reduceEqDiff, Nat.reduceLeDiff, Nat.reduceSub]
          rfl
        · rintro j s hj rfl
          have h1 := p1 _ (List.getElem_mem hj)
          have h2 : tr.out[j].toNat < d.pl.length := by omega
          simp (maxSteps := 2000000) (disch := (first | omega | (simp only [List.length_append, List.length_take, List.length_replicate, List.length_map, List.length_set, List.length_cons, List.length_nil, List.length_zipWith, List.length_drop, List.length_range]; first | done | omega))) only [go_sem, Nat.reduceAdd, Nat.reduceEqDiff, Nat.reduceLeDiff, Nat.reduceSub]
          refine ⟨fun h => ?_, fun h => ⟨fun h3 => ?_, fun h3 => ?_⟩⟩
          · rw [any_more hj h]; rfl
          · rw [any_here hj (by rw [← getD_eq h2]; exact h3)]; rfl
          · rw [any_take hj h (by rw [← getD_eq h2]; exact h3)]; rfl
        · rintro s rfl
          have hkd : k < d.tr.length := by omega
          simp (maxSteps := 2000000) (disch := (first | omega | (simp only [List.length_append, List.length_take, List.length_replicate, List.length_map, List.length_set, List.length_cons, List.length_nil, List.length_zipWith, List.length_drop, List.length_range]; first | done | omega))) only [go_sem, Nat.reduceAdd, Nat.reduceEqDiff, Nat.reduceLeDiff, Nat.reduceSub, List.take_length]
          refine ⟨fun h => ⟨fun h3 => ?_, fun h3 => ?_⟩, fun h => ?_⟩
          · rw [s1 (by rw [← getD_eq hkd]; exact h3)]; rfl
          · have e := s3 (by rw [← getD_eq hkd]; exact h3) h
            subst e
            refine W_for tr.inn.length (fun j s => s = ⟨[.any, .any, .ptr 0 0, .any, .any, .ref 1 1 0 n.pl.toNat, .ref 2 1 0 n.tr.length, .bool true, .any, .any, .any, .any, .any, .any, trs n.tr, I n.tr.length, I k, .any, .any, .any, .any, .any, .any, ints tr.inn, I tr.inn.length, I j, .any], [.box t_impl_Net [I n.pl, trs n.tr], .row t_bool true 1 ((markB d.pl (tr.inn.take j)).map PV.bool), .row t_bool true 1 ((d.tr.set k true).map PV.bool)]⟩) ?_ ?_ ?_
            · simp (maxSteps := 2000000) (disch := (first | omega | (simp only [List.length_append, List.length_take, List.length_replicate, List.length_map, List.length_set, List.length_cons, List.length_nil, List.length_zipWith, List.length_drop, List.length_range]; first | done | omega))) only [go_sem, Nat.reduceAdd, Nat.reduceEqDiff, Nat.reduceLeDiff, Nat.reduceSub]
              rfl
            · rintro j s hj rfl
              have h1 := p2 _ (List.getElem_mem hj)
              have h2 : tr.inn[j].toNat < d.pl.length := by omega
              have h4 := markB_len d.pl (tr.inn.take j)
              simp (maxSteps := 2000000) (disch := (first | omega | (simp only [List.length_append, List.length_take, List.length_replicate, List.length_map, List.length_set, List.length_cons, List.length_nil, List.length_zipWith, List.length_drop, List.length_range]; first | done | omega))) only [go_sem, Nat.reduceAdd, Nat.reduceEqDiff, Nat.reduceLeDiff, Nat.reduceSub]
              rw [markB_take hj]; rfl
            · rintro s rfl
              simp (maxSteps := 2000000) (disch := (first | omega | (simp only [List.length_append, List.length_take, List.length_replicate, List.length_map, List.length_set, List.length_cons, List.length_nil, List.length_zipWith, List.length_drop, List.length_range]; first | done | omega))) only [go_sem, Nat.reduceAdd, Nat.reduceEqDiff, Nat.reduceLeDiff, Nat.reduceSub, List.take_length]
              rfl
          · rw [s2 h]; rfl
      · rintro s rfl
        simp (maxSteps := 2000000) (disch := (first | omega | (simp only [List.length_append, List.length_take, List.length_replicate, List.length_map, List.length_set, List.length_cons, List.length_nil, List.length_zipWith, List.length_drop, List.length_range]; first | done | omega))) only [go_sem, Nat.reduceAdd, Nat.reduceEqDiff, Nat.reduceLeDiff, Nat.reduceSub]
        have hn := clRun_next (n := n) (bk := true) hc2
        rw [hc] at hn
        cases e : (clRound n true c).ch with
        | true =>
          have h1 := (clK_cnt (n := n) (bk := true) (s := c) (k := n.tr.length) (by omega)).2 e
          simp only [e, if_true] at hn
          refine ⟨cntF (clRound n true c).tr + 1, by unfold clRound; omega, clRound n true c, by unfold clRound; have := hcl n.tr.length; omega, by unfold clRound; have := hcl n.tr.length; omega, .inl ⟨rfl, ?_, hn.symm⟩⟩
          unfold clRound at e ⊢
          rw [e]
        | false =>
          simp only [e, Bool.false_eq_true, if_false] at hn
          refine ⟨0, by omega, clRound n true c, by unfold clRound; have := hcl n.tr.length; omega, by unfold clRound; have := hcl n.tr.length; omega, .inr ⟨rfl, ?_, hn.symm⟩⟩
          unfold clRound at e ⊢
          rw [e]
    · simp (maxSteps := 2000000) (disch := (first | omega | (simp only [List.length_append, List.length_take, List.length_replicate, List.length_map, List.length_set, List.length_cons, List.length_nil, List.length_zipWith, List.length_drop, List.length_range]; first | done | omega))) only [go_sem, Nat.reduceAdd, Nat.reduceEqDiff, Nat.reduceLeDiff, Nat.reduceSub]
theorem spec_l3Both_ok (a b : List Bool) (ha : a.length < 2^30) (hab : a.length ≤ b.length) : C f_spec_l3Both [bls a, bls b] [] = some (.un t_int true 1 ((bothL a b).map I), []) := by
  refine C_spec_l3Both ?_
  simp (maxSteps := 2000000) (disch := (first | omega | (simp only [List.length_append, List.length_take, List.length_replicate, List.length_map, List.length_set, List.length_cons, List.length_nil, List.length_zipWith, List.length_drop, List.length_range]; first | done | omega))) only [ir_spec_l3Both, go_sem, Nat.reduceAdd, Nat.reduceEqDiff, Nat.reduceLeDiff, Nat.reduceSub]
  refine W_for a.length (fun k s => s = ⟨[bls a, bls b, .any, .ref 0 1 0 (bothK a b k).length, .any, I a.length, I k, .any, .any], [.row t_int true 1 ((bothK a b k).map I)]⟩) ?_ ?_ ?_
  · simp (maxSteps := 2000000) (disch := (first | omega | (simp only [List.length_append, List.length_take, List.length_replicate, List.length_map, List.length_set, List.length_cons, List.length_nil, List.length_zipWith, List.length_drop, List.length_range]; first | done | omega))) only [go_sem, Nat.reduceAdd, Nat.reduceEqDiff, Nat.reduceLeDiff, Nat.reduceSub]
    rfl
  · rintro k s hk rfl
    have h2 := bothK_len a b k
    have hkb : k < b.length := by omega
    have e1 := getD_eq hk
    have e2 := getD_eq hkb
    simp (maxSteps := 2000000) (disch := (first | omega | (simp only [List.length_append, List.length_take, List.length_replicate, List.length_map, List.length_set, List.length_cons, List.length_nil, List.length_zipWith, List.length_drop, List.length_range]; first | done | omega))) only [go_sem, Nat.reduceAdd, Nat.reduceEqDiff, Nat.reduceLeDiff, Nat.reduceSub]
    rw [e1, e2]
    refine ⟨fun h => ⟨fun h3 => ?_, fun h3 => ?_⟩, fun h => ?_⟩
    · rw [bothK_t h h3, List.map_append]; simp
    · rw [bothK_f (by rw [h, h3]; rfl)]; rfl
    · rw [bothK_f (by rw [h]; rfl)]; rfl
  · rintro s rfl
    simp (maxSteps := 2000000) (disch := (first | omega | (simp only [List.length_append, List.length_take, List.length_replicate, List.length_map, List.length_set, List.length_cons, List.length_nil, List.length_zipWith, List.length_drop, List.length_range]; first | done | omega))) only [go_sem, Nat.reduceAdd, Nat.reduceEqDiff, Nat.reduceLeDiff, Nat.reduceSub]
    rfl
theorem spec_OnWay_ok (n : Net) (a b : Int) (hn : smN n) : C f_spec_OnWay [encN n, I a, I b] [] = some (.tup [.un t_int true 1 ((if okWay n a b then wayP n a b else []).map I), .un t_int true 1 ((if okWay n a b then wayT n a b else []).map I), .bool (okWay n a b)], []) := by
  refine C_spec_OnWay ?_
  simp (maxSteps := 2000000) (disch := (first | omega | (simp only [List.length_append, List.length_take, List.length_replicate, List.length_map, List.length_set, List.length_cons, List.length_nil, List.length_zipWith, List.length_drop, List.length_range]; first | done | omega))) only [ir_spec_OnWay, go_sem, Nat.reduceAdd, Nat.reduceEqDiff, Nat.reduceLeDiff, Nat.reduceSub]
  simp (maxSteps := 2000000) (disch := (first | omega | (simp only [List.length_append, List.length_take, List.length_replicate, List.length_map, List.length_set, List.length_cons, List.length_nil, List.length_zipWith, List.length_drop, List.length_range]; first | done | omega))) only [go_sem, Nat.reduceAdd, Nat.reduceEqDiff, Nat.reduceLeDiff, Nat.reduceSub, spec_GoodNet_ok n hn, spec_l1In_ok]
  cases hg : goodN n with
  | false => simp [okWay, hg]
  | true =>
    have hb := goodN_parts hg
    cases h1 : inB 0 (n.pl - 1) a with
    | false => simp (maxSteps := 2000000) (disch := (first | omega | (simp only [List.length_append, List.length_take, List.length_replicate, List.length_map, List.length_set, List.length_cons, List.length_nil, List.length_zipWith, List.length_drop, List.length_range]; first | done | omega))) only [go_sem, Nat.reduceAdd, Nat.reduceEqDiff, Nat.reduceLeDiff, Nat.reduceSub, h1]; simp [okWay, hg, h1]
    | true =>
      cases h2 : inB 0 (n.pl - 1) b with
      | false => simp (maxSteps := 2000000) (disch := (first | omega | (simp only [List.length_append, List.length_take, List.length_replicate, List.length_map, List.length_set, List.length_cons, List.length_nil, List.length_zipWith, List.length_drop, List.length_range]; first | done | omega))) only [go_sem, Nat.reduceAdd, Nat.reduceEqDiff, Nat.reduceLeDiff, Nat.reduceSub, h1, h2]; simp [okWay, hg, h1, h2]
      | true =>
        have hok : okWay n a b = true := by simp [okWay, hg, h1, h2]
        have ha : 0 ≤ a ∧ a < n.pl := by simp [inB] at h1; omega
        have hb2 : 0 ≤ b ∧ b < n.pl := by simp [inB] at h2; omega
        have l1 := reachC_len n false a
        have l2 := reachC_len n true b
        simp (maxSteps := 2000000) (disch := (first | omega | (simp only [List.length_append, List.length_take, List.length_replicate, List.length_map, List.length_set, List.length_cons, List.length_nil, List.length_zipWith, List.length_drop, List.length_range]; first | done | omega))) only [go_sem, Nat.reduceAdd, Nat.reduceEqDiff, Nat.reduceLeDiff, Nat.reduceSub, h1, h2, spec_l3Forward_ok n a hg ha, spec_l3Back_ok n b hg hb2, hok]
        simp (maxSteps := 2000000) (disch := (first | omega | (simp only [List.length_append, List.length_take, List.length_replicate, List.length_map, List.length_set, List.length_cons, List.length_nil, List.length_zipWith, List.length_drop, List.length_range]; first | done | omega))) only [go_sem, Nat.reduceAdd, Nat.reduceEqDiff, Nat.reduceLeDiff, Nat.reduceSub, spec_l3Both_ok (reachC n false a).pl (reachC n true b).pl (by omega) (by omega), spec_l3Both_ok (reachC n false a).tr (reachC n true b).tr (by omega) (by omega)]
        rfl
theorem spec_l1Has_ok (l : List Int) (x : Int) (hl : l.length < 2^62) : C f_spec_l1Has [ints l, I x] [] = some (.bool (hasB l x), []) := by
  refine C_spec_l1Has ?_
  simp (maxSteps := 2000000) (disch := (first | omega | (simp only [List.length_append, List.length_take, List.length_replicate, List.length_map, List.length_set, List.length_cons, List.length_nil, List.length_zipWith, List.length_drop, List.length_range]; first | done | omega))) only [ir_spec_l1Has, go_sem, Nat.reduceAdd, Nat.reduceEqDiff, Nat.reduceLeDiff, Nat.reduceSub]
  refine W_for l.length (fun k s => s = ⟨[.any, I x, .any, .any, ints l, I l.length, I k, .any, .any], []⟩ ∧ (l.take k).any (fun y => y == x) = false) ?_ ?_ ?_
  · simp (maxSteps := 2000000) (disch := (first | omega | (simp only [List.length_append, List.length_take, List.length_replicate, List.length_map, List.length_set, List.length_cons, List.length_nil, List.length_zipWith, List.length_drop, List.length_range]; first | done | omega))) only [go_sem, Nat.reduceAdd, Nat.reduceEqDiff, Nat.reduceLeDiff, Nat.reduceSub]
    rfl
  · rintro k s hk ⟨rfl, hall⟩
    simp (maxSteps := 2000000) (disch := (first | omega | (simp only [List.length_append, List.length_take, List.length_replicate, List.length_map, List.length_set, List.length_cons, List.length_nil, List.length_zipWith, List.length_drop, List.length_range]; first | done | omega))) only [go_sem, Nat.reduceAdd, Nat.reduceEqDiff, Nat.reduceLeDiff, Nat.reduceSub]
    refine ⟨fun h => ?_, fun h => ⟨rfl, any_take hk hall (by simpa using h)⟩⟩
    rw [hasB_yes hk h]
  · rintro s ⟨rfl, hall⟩
    simp (maxSteps := 2000000) (disch := (first | omega | (simp only [List.length_append, List.length_take, List.length_replicate, List.length_map, List.length_set, List.length_cons, List.length_nil, List.length_zipWith, List.length_drop, List.length_range]; first | done | omega))) only [go_sem, Nat.reduceAdd, Nat.reduceEqDiff, Nat.reduceLeDiff, Nat.reduceSub]
    rw [List.take_length] at hall
    rw [hasB_no hall]
theorem spec_GoodFlow_ok (f : Fl) (hf : smN f.net) : C f_spec_GoodFlow [encF f] [] = some (.bool (goodFl f), []) := by
  have hl := hf.1
  have hw := spec_OnWay_ok f.net f.src f.dst hf
  have hP : (wayP f.net f.src f.dst).length < 2^62 ∨ goodN f.net = false := by
    cases hg : goodN f.net with
    | false => exact .inr rfl
    | true =>
      have := goodN_parts hg
      have h1 := bothK_len (reachC f.net false f.src).pl (reachC f.net true f.dst).pl (reachC f.net false f.src).pl.length
      have h2 := reachC_len f.net false f.src
      exact .inl (by unfold wayP bothL; omega)
  have hT : (wayT f.net f.src f.dst).length < 2^62 := by
    have h1 := bothK_len (reachC f.net false f.src).tr (reachC f.net true f.dst).tr (reachC f.net false f.src).tr.length
    have h2 := reachC_len f.net false f.src
    unfold wayT bothL; omega
  refine C_spec_GoodFlow ?_
  simp (maxSteps := 2000000) (disch := (first | omega | (simp only [List.length_append, List.length_take, List.length_replicate, List.length_map, List.length_set, List.length_cons, List.length_nil, List.length_zipWith, List.length_drop, List.length_range]; first | done | omega))) only [ir_spec_GoodFlow, go_sem, Nat.reduceAdd, Nat.reduceEqDiff, Nat.reduceLeDiff, Nat.reduceSub]
  cases hok : okWay f.net f.src f.dst with
  | false =>
    simp only [hok] at hw
    simp (maxSteps := 2000000) (disch := (first | omega | (simp only [List.length_append, List.length_take, List.length_replicate, List.length_map, List.length_set, List.length_cons, List.length_nil, List.length_zipWith, List.length_drop, List.length_range]; first | done | omega))) only [go_sem, Nat.reduceAdd, Nat.reduceEqDiff, Nat.reduceLeDiff, Nat.reduceSub, hw]
    simp [goodFl, hok]
  | true =>
    have hg : goodN f.net = true := by simp only [okWay, Bool.and_eq_true] at hok; exact hok.1.1
    have hb := goodN_parts hg
    have hP : (wayP f.net f.src f.dst).length < 2^62 := by
      rcases hP with h | h
      · exact h
      · rw [hg] at h; cases h
    simp only [hok, if_true] at hw
    simp (maxSteps := 2000000) (disch := (first | omega | (simp only [List.length_append, List.length_take, List.length_replicate, List.length_map, List.length_set, List.length_cons, List.length_nil, List.length_zipWith, List.length_drop, List.length_range]; first | done | omega))) only [go_sem, Nat.reduceAdd, Nat.reduceEqDiff, Nat.reduceLeDiff, Nat.reduceSub, hw]
    refine ⟨fun h => by simp [goodFl, h], fun h => ⟨fun h2 => by simp [goodFl, h2], fun h2 => ⟨fun h3 => ?_, fun h3 => ?_⟩⟩⟩
    · have : ¬ (wayT f.net f.src f.dst).length = f.net.tr.length := by omega
      simp [goodFl, this]
    refine W_for f.net.tr.length (fun k s => s = ⟨[.any, .ptr 0 0, .any, .any, .any, .any, .any, .any, trs f.net.tr, I f.net.tr.length, I k, .any, .any], [.box t_impl_Flow [I f.net.pl, trs f.net.tr, I f.src, I f.dst]]⟩ ∧ (f.net.tr.take k).all (fun t => !spoils f t) = true) ?_ ?_ ?_
    · simp (maxSteps := 2000000) (disch := (first | omega | (simp only [List.length_append, List.length_take, List.length_replicate, List.length_map, List.length_set, List.length_cons, List.length_nil, List.length_zipWith, List.length_drop, List.length_range]; first | done | omega))) only [go_sem, Nat.reduceAdd, Nat.reduceEqDiff, Nat.reduceLeDiff, Nat.reduceSub]
      rfl
    · rintro k s hk ⟨rfl, hall⟩
      have hT := hb.2.2.2 _ (List.getElem_mem hk)
      have hLs := goodT_lens hT (by omega)
      simp (maxSteps := 2000000) (disch := (first | omega | (simp only [List.length_append, List.length_take, List.length_replicate, List.length_map, List.length_set, List.length_cons, List.length_nil, List.length_zipWith, List.length_drop, List.length_range]; first | done | omega))) only [go_sem, Nat.reduceAdd, Nat.reduceEqDiff, Nat.reduceLeDiff, Nat.reduceSub, spec_l1Has_ok]
      have gs : spoils f f.net.tr[k] = true → goodFl f = false := fun hs => by
        have : (f.net.tr.all fun t => !spoils f t) = false := all_false hk (by simp [hs])
        simp [goodFl, this]
      exact ⟨fun a => by rw [gs (by simp [spoils, a])], fun a => ⟨fun b => by rw [gs (by simp [spoils, b])], fun b => ⟨fun c => by rw [gs (by simp [spoils, c])], fun c => ⟨fun d => by rw [gs (by simp [spoils, d])], fun d => ⟨rfl, all_take hk hall (by simp [spoils, a, b, c, d])⟩⟩⟩⟩⟩
    · rintro s ⟨rfl, hall⟩
      simp (maxSteps := 2000000) (disch := (first | omega | (simp only [List.length_append, List.length_take, List.length_replicate, List.length_map, List.length_set, List.length_cons, List.length_nil, List.length_zipWith, List.length_drop, List.length_range]; first | done | omega))) only [go_sem, Nat.reduceAdd, Nat.reduceEqDiff, Nat.reduceLeDiff, Nat.reduceSub]
      rw [List.take_length] at hall
      have h4 : (wayT f.net f.src f.dst).length = f.net.tr.length := by omega
      simp [goodFl, hok, h, h2, h4]
      simpa using hall
theorem spec_TreeFlow_ok (l : List Br) (hl : l.length < 2^36) : C f_spec_TreeFlow [brs l] [] = some (match tfV l with | some r => .tup [.agg [I r.1.net.pl, .un t_impl_Trans false 3 (r.1.net.tr.map encT), I 0, I 1], .un t_int true 1 (r.2.map I), .bool true] | none => .tup [.agg [I 0, .nil false 3, I 0, I 0], .un t_int true 1 [], .bool false], []) := by
  have hg := spec_l11Good_ok l (by omega)
  refine C_spec_TreeFlow ?_
  simp (maxSteps := 2000000) (disch := (first | omega | (simp only [List.length_append, List.length_take, List.length_replicate, List.length_map, List.length_set, List.length_cons, List.length_nil, List.length_zipWith, List.length_drop, List.length_range]; first | done | omega))) only [ir_spec_TreeFlow, go_sem, Nat.reduceAdd, Nat.reduceEqDiff, Nat.reduceLeDiff, Nat.reduceSub]
  cases g : goodTree l with
  | false =>
    rw [g] at hg
    rw [tfV_bad g]
    simp (maxSteps := 2000000) (disch := (first | omega | (simp only [List.length_append, List.length_take, List.length_replicate, List.length_map, List.length_set, List.length_cons, List.length_nil, List.length_zipWith, List.length_drop, List.length_range]; first | done | omega))) only [go_sem, Nat.reduceAdd, Nat.reduceEqDiff, Nat.reduceLeDiff, Nat.reduceSub, hg]
  | true =>
    rw [g] at hg
    obtain ⟨h15, T, hw, hp, hT⟩ := goodTree_ok g
    rw [tfV_good g hT]
    have hb := spec_l11Build_part_nil T [] [] 0 1 2 hw (by simpa [hp] using h15) (by omega) (by rw [hp]; omega)
    rw [show T.bld 0 1 ⟨2, [], []⟩ = T.all from rfl] at hb
    have hgf := spec_GoodFlow_ok T.flow (T.flow_sm (by rw [hp]; omega))
    have ok := T.all_ok
    rw [hp] at ok
    simp only [List.nil_append, List.append_nil, hp, List.length_nil, sb0, sbF] at hb
    rw [show (((0 : Nat) : Int) + (l.length : Int) - 1) = (l.length : Int) - 1 by omega] at hb
    have hl1 : 1 ≤ l.length := by rw [← hp]; exact T.post_pos
    unfold encF trs PT.flow at hgf
    unfold PT.flow
    generalize goodFl _ = gf at *
    simp only at hgf ⊢
    generalize T.all = B at *
    obtain ⟨p1, t1, l1⟩ := B
    simp only at ok hb hgf ⊢
    cases gf with
    | true =>
      simp (maxSteps := 2000000) (disch := (first | omega | (simp only [List.length_append, List.length_take, List.length_replicate, List.length_map, List.length_set, List.length_cons, List.length_nil, List.length_zipWith, List.length_drop, List.length_range]; first | done | omega))) only [go_sem, Nat.reduceAdd, Nat.reduceEqDiff, Nat.reduceLeDiff, Nat.reduceSub, hg, hb, hgf]
      rfl
    | false =>
      simp (maxSteps := 2000000) (disch := (first | omega | (simp only [List.length_append, List.length_take, List.length_replicate, List.length_map, List.length_set, List.length_cons, List.length_nil, List.length_zipWith, List.length_drop, List.length_range]; first | done | omega))) only [go_sem, Nat.reduceAdd, Nat.reduceEqDiff, Nat.reduceLeDiff, Nat.reduceSub, hg, hb, hgf]
theorem impl_within_ok (n lo hi : Int) : C f_impl_within [I n, I lo, I hi] [] = some (.bool (inB lo hi n), []) := by
  refine C_impl_within ?_
  simp (maxSteps := 2000000) (disch := (first | omega | (simp only [List.length_append, List.length_take, List.length_replicate, List.length_map, List.length_set, List.length_cons, List.length_nil, List.length_zipWith, List.length_drop, List.length_range]; first | done | omega))) only [ir_impl_within, go_sem, Nat.reduceAdd, Nat.reduceEqDiff, Nat.reduceLeDiff, Nat.reduceSub]
  unfold inB; grind
theorem impl_isTree_ok (l : List Br) (hl : l.length < 2^40) : C f_impl_isTree [brs l] [] = some (.bool (goodTree l), []) := by
  refine C_impl_isTree ?_
  simp (maxSteps := 2000000) (disch := (first | omega | (simp only [List.length_append, List.length_take, List.length_replicate, List.length_map, List.length_set, List.length_cons, List.length_nil, List.length_zipWith, List.length_drop, List.length_range]; first | done | omega))) only [ir_impl_isTree, go_sem, Nat.reduceAdd, Nat.reduceEqDiff, Nat.reduceLeDiff, Nat.reduceSub]
  refine W_for l.length (fun i st => ∃ p : Nat, st = ⟨[brs l, .any, I p, .any, brs l, I l.length, I i, .any, .any, .any], []⟩ ∧ pileB (l.drop i) p = pileB l 0 ∧ p ≤ i) ?_ ?_ ?_
  · simp (maxSteps := 2000000) (disch := (first | omega | (simp only [List.length_append, List.length_take, List.length_replicate, List.length_map, List.length_set, List.length_cons, List.length_nil, List.length_zipWith, List.length_drop, List.length_range]; first | done | omega))) only [go_sem, Nat.reduceAdd, Nat.reduceEqDiff, Nat.reduceLeDiff, Nat.reduceSub]
    exact ⟨0, rfl, by simp, by omega⟩
  · rintro i st hi ⟨p, rfl, hp, hpi⟩
    rw [pileB_step hi] at hp
    have hlk : l[i]? = some l[i] := List.getElem?_eq_getElem hi
    generalize l[i] = b at *
    obtain ⟨bo, bn⟩ := b
    simp (maxSteps := 2000000) (disch := (first | omega | (simp only [List.length_append, List.length_take, List.length_replicate, List.length_map, List.length_set, List.length_cons, List.length_nil, List.length_zipWith, List.length_drop, List.length_range]; first | done | omega))) only [go_sem, Nat.reduceAdd, Nat.reduceEqDiff, Nat.reduceLeDiff, Nat.reduceSub, hlk, impl_within_ok]
    simp only at hp
    have fin : pileB l 0 = none → some (PV.bool false, ([] : List Blk)) = some (PV.bool (goodTree l), []) := by
      intro h; simp [goodTree, h]
    simp only [inB, Bool.and_eq_true, Bool.and_eq_false_iff, decide_eq_true_eq, decide_eq_false_iff_not, Int.not_le]
    have leaf : bo = 1 ∧ 1 ≤ bn ∧ bn ≤ 9 → pileB (l.drop (i + 1)) (p + 1) = pileB l 0 := fun h => by rw [if_pos h] at hp; exact hp
    have fork : 2 ≤ bo ∧ bo ≤ 5 ∧ bn = 0 ∧ 2 ≤ p → pileB (l.drop (i + 1)) (p - 1) = pileB l 0 := fun h => by rw [if_neg (by omega), if_pos h] at hp; exact hp
    have none_ : ¬ (bo = 1 ∧ 1 ≤ bn ∧ bn ≤ 9) → ¬ (2 ≤ bo ∧ bo ≤ 5 ∧ bn = 0 ∧ 2 ≤ p) → some (PV.bool false, ([] : List Blk)) = some (PV.bool (goodTree l), []) := fun h1 h2 => fin (by rw [if_neg h1, if_neg h2] at hp; exact hp.symm)
    refine ⟨fun h1 => ⟨fun h2 => ⟨p + 1, by rw [show ((p + 1 : Nat) : Int) = (p : Int) + 1 by omega]; rfl, leaf ⟨h1, h2⟩, by omega⟩, fun h2 => ⟨fun h3 => by omega, fun h3 => none_ (by omega) (by omega)⟩⟩,
      fun h1 => ⟨fun h3 => ⟨fun h4 => ⟨fun h5 => ⟨p - 1, by rw [show ((p - 1 : Nat) : Int) = (p : Int) - 1 by omega]; rfl, fork (by omega), by omega⟩, fun h5 => none_ (by omega) (by omega)⟩, fun h4 => none_ (by omega) (by omega)⟩, fun h3 => none_ (by omega) (by omega)⟩⟩
  · rintro st ⟨p, rfl, hp, hpi⟩
    simp only [List.drop_length, pileB] at hp
    simp (maxSteps := 2000000) (disch := (first | omega | (simp only [List.length_append, List.length_take, List.length_replicate, List.length_map, List.length_set, List.length_cons, List.length_nil, List.length_zipWith, List.length_drop, List.length_range]; first | done | omega))) only [go_sem, Nat.reduceAdd, Nat.reduceEqDiff, Nat.reduceLeDiff, Nat.reduceSub]
    refine ⟨fun h => ⟨fun h2 => ?_, fun h2 => ?_⟩, fun h => ?_⟩
    · rw [show p = 1 by omega] at hp
      simp [goodTree, ← hp]; omega
    · simp [goodTree]; omega
    · simp [goodTree, ← hp]; omega
theorem appK_in {mem : List Blk} {t : TypeId} {fl : Bool} {sz b len : Nat} {y : PV} {es : List PV} (h1 : len < es.length) : appK mem t fl sz b 0 len [y] (some (.row t fl sz es)) = some (.ref b sz 0 (len + 1), mem.set b (.row t fl sz (es.set len y))) := by
  unfold appK
  have e : splice es (0 + len) [y] = es.set len y := by
    unfold splice
    rw [Nat.zero_add, List.set_eq_take_append_cons_drop, if_pos h1]; simp
  simp only [e, List.length_cons, List.length_nil]
  rw [if_pos ⟨trivial, trivial, trivial⟩, if_neg (by omega), if_pos (by omega)]
theorem impl_parsed_ok (l : List Br) (T : PT) (h15 : l.length ≤ 15) (hT : pT l [] = some [T]) : C f_impl_parsed [brs l] [] = some (.un t_impl_treeNode true 4 ((T.nds 0).map encD), []) := by
  refine C_impl_parsed ?_
  simp (maxSteps := 2000000) (disch := (first | omega | (simp only [List.length_append, List.length_take, List.length_replicate, List.length_map, List.length_set, List.length_cons, List.length_nil, List.length_zipWith, List.length_drop, List.length_range]; first | done | omega))) only [ir_impl_parsed, go_sem, Nat.reduceAdd, Nat.reduceEqDiff, Nat.reduceLeDiff, Nat.reduceSub]
  refine W_for l.length (fun i st => ∃ (Ts : List PT) (E : List Int), st = ⟨[.any, .any, .ref 0 4 0 l.length, .ref 1 1 0 Ts.length, .any, .any, .any, brs l, I l.length, I i, .any, .any], [.row t_impl_treeNode true 4 ((ndT Ts ++ List.replicate (l.length - i) (⟨0, 0, 0, 0⟩ : Nd)).map encD), .row t_int true 1 (E.map I)]⟩ ∧ pT (l.drop i) Ts = some [T] ∧ flatP Ts = l.take i ∧ E.take Ts.length = ixT Ts ∧ Ts.length ≤ E.length ∧ E.length ≤ i) ?_ ?_ ?_
  · simp (maxSteps := 2000000) (disch := (first | omega | (simp only [List.length_append, List.length_take, List.length_replicate, List.length_map, List.length_set, List.length_cons, List.length_nil, List.length_zipWith, List.length_drop, List.length_range]; first | done | omega))) only [go_sem, Nat.reduceAdd, Nat.reduceEqDiff, Nat.reduceLeDiff, Nat.reduceSub]
    exact ⟨[], [], by simp [ndT], by simpa using hT, by simp [flatP], rfl, by simp, by simp⟩
  · rintro i st hi ⟨Ts, E, rfl, h1, h2, h4, h5, h6⟩
    have h7 := flatP_num Ts
    have hnl := ndT_len Ts
    rw [h2, List.length_take] at h7 hnl
    have hnl' : (ndT Ts).length = i := by omega
    have hlk : l[i]? = some l[i] := List.getElem?_eq_getElem hi
    have hrep : List.replicate (l.length - i) (⟨0, 0, 0, 0⟩ : Nd) = ⟨0, 0, 0, 0⟩ :: List.replicate (l.length - (i + 1)) ⟨0, 0, 0, 0⟩ := by
      rw [show l.length - i = (l.length - (i + 1)) + 1 by omega, List.replicate_succ]
    have hNl : (ndT Ts ++ List.replicate (l.length - i) (⟨0, 0, 0, 0⟩ : Nd)).length = l.length := by simp [hnl']; omega
    have hNi : (ndT Ts ++ List.replicate (l.length - i) (⟨0, 0, 0, 0⟩ : Nd))[i]? = some ⟨0, 0, 0, 0⟩ := by
      rw [List.getElem?_append_right (by omega), hrep, hnl', Nat.sub_self]; rfl
    have hset : ∀ d : Nd, (ndT Ts ++ List.replicate (l.length - i) (⟨0, 0, 0, 0⟩ : Nd)).set i d = ndT Ts ++ [d] ++ List.replicate (l.length - (i + 1)) ⟨0, 0, 0, 0⟩ := by
      intro d
      rw [hrep, List.set_append, if_neg (by omega), hnl', Nat.sub_self, List.set_cons_zero]; simp
    generalize ndT Ts ++ List.replicate (l.length - i) (⟨0, 0, 0, 0⟩ : Nd) = N at *
    rcases pT_step hi h1 with ⟨o1, n1, n2, hn⟩ | ⟨o1, o2, n1, x, y, R, rfl, hn⟩
    · have hf : flatP (.leaf l[i].n :: Ts) = l.take (i + 1) := by
        rw [flatP_cons, h2, List.take_succ_eq_append_getElem hi]
        have : l[i] = ⟨1, l[i].n⟩ := by rw [← o1]
        rw [PT.post, ← this]
      have hix := ixT_len Ts
      have hfl : ((flatP Ts).length : Int) = i := by rw [h2, List.length_take]; omega
      generalize l[i] = b at *
      obtain ⟨bo, bn⟩ := b
      simp only at o1 n1 n2 hf hn
      subst o1
      have hs1 := hset ⟨1, bn, 0, 0⟩
      by_cases he : Ts.length = E.length
      · simp (maxSteps := 2000000) (disch := (first | omega | (simp only [List.length_append, List.length_take, List.length_replicate, List.length_map, List.length_set, List.length_cons, List.length_nil, List.length_zipWith, List.length_drop, List.length_range]; first | done | omega))) only [go_sem, Nat.reduceAdd, Nat.reduceEqDiff, Nat.reduceLeDiff, Nat.reduceSub, hlk, hNl, hNi]
        refine ⟨.leaf bn :: Ts, E ++ [(i : Int)], ?_, hn, hf, ?_, by simp; omega, by simp; omega⟩
        · rw [ndT_leaf, ← hs1, List.map_set]
          simp [he]
          try trivial
        · rw [ixT_leaf, hfl, List.length_cons, ← hix]
          exact take_app (by rw [hix]; exact h4) (by omega)
      · simp (maxSteps := 2000000) (disch := (first | omega | (simp only [List.length_append, List.length_take, List.length_replicate, List.length_map, List.length_set, List.length_cons, List.length_nil, List.length_zipWith, List.length_drop, List.length_range]; first | done | omega))) only [go_sem, Nat.reduceAdd, Nat.reduceEqDiff, Nat.reduceLeDiff, Nat.reduceSub, hlk, hNl, hNi, appK_in]
        refine ⟨.leaf bn :: Ts, E.set Ts.length (i : Int), ?_, hn, hf, ?_, by simp; omega, by simp; omega⟩
        · rw [ndT_leaf, ← hs1, List.map_set]
          simp [List.map_set]
          try trivial
        · rw [ixT_leaf, hfl, List.length_cons, ← hix]
          exact take_set (by rw [hix]; exact h4) (by omega)
    · have hbb : l[i] = ⟨l[i].op, 0⟩ := by rw [← n1]
      have hf : flatP (.node l[i].op x y :: R) = l.take (i + 1) := by
        rw [flatP_cons, List.take_succ_eq_append_getElem hi, ← h2, flatP_cons, flatP_cons, PT.post, hbb]; simp
      have hix := ixT_len R
      simp only [List.length_cons] at h5 h7 h4
      rw [ixT_two, ← hix] at h4
      obtain ⟨k1, k2, k3, k4⟩ := take_two h4
      rw [hix] at k1 k2 k3 k4
      have hR : R.length + 2 ≤ 15 := by omega
      have hfl : ((flatP (y :: x :: R)).length : Int) = i := by rw [h2, List.length_take]; omega
      have hfl2 : (flatP R).length + x.post.length + y.post.length = i := by
        have : (flatP (y :: x :: R)).length = i := by omega
        rw [flatP_cons, flatP_cons, List.length_append, List.length_append] at this
        exact this
      generalize l[i] = b at *
      obtain ⟨bo, bn⟩ := b
      simp only at o1 o2 n1 hf hn
      subst n1
      have hs1 := hset ⟨bo, 0, (((flatP R).length + x.post.length : Nat) : Int) - 1, (((flatP R).length + x.post.length + y.post.length : Nat) : Int) - 1⟩
      generalize hsx : (((flatP R).length + x.post.length : Nat) : Int) - 1 = sx at *
      generalize hsy : (((flatP R).length + x.post.length + y.post.length : Nat) : Int) - 1 = sy at *
      have g1 : E[R.length]'(by omega) = sx := by rw [List.getElem?_eq_getElem (by omega)] at k2; exact Option.some.inj k2
      have g2 : E[R.length + 1]'(by omega) = sy := by rw [List.getElem?_eq_getElem (by omega)] at k3; exact Option.some.inj k3
      have hidx : (((R.length + 1 + 1 : Nat) : Int) - 2).toNat = R.length := by omega
      have hidy : (((R.length + 1 + 1 : Nat) : Int) - 1).toNat = R.length + 1 := by omega
      simp (maxSteps := 2000000) (disch := (first | omega | (simp only [List.length_append, List.length_take, List.length_replicate, List.length_map, List.length_set, List.length_cons, List.length_nil, List.length_zipWith, List.length_drop, List.length_range]; first | done | omega))) only [go_sem, Nat.reduceAdd, Nat.reduceEqDiff, Nat.reduceLeDiff, Nat.reduceSub, hlk, hNl, hNi, hidx, hidy, g1, g2, appK_in, List.getElem?_set_self, List.set_set]
      refine ⟨.node bo x y :: R, E.set R.length (i : Int), ?_, hn, hf, ?_, by simp; omega, by simp; omega⟩
      · rw [ndT_node, hsx, hsy, ← hs1, List.map_set]
        simp [List.map_set]
      · rw [ixT_node, hfl, List.length_cons, ← hix]
        exact take_set (by rw [hix]; exact k1) (by omega)
  · rintro st ⟨Ts, E, rfl, h1, h2, h4, h5, h6⟩
    rw [List.drop_length, pT] at h1
    obtain rfl := Option.some.inj h1
    have hnl := ndT_len [T]
    rw [h2, List.take_length] at hnl
    have e : ndT [T] ++ List.replicate (l.length - l.length) (⟨0, 0, 0, 0⟩ : Nd) = T.nds 0 := by simp [ndT, flatP]
    have e2 : (T.nds 0).length = l.length := by rw [← hnl]; simp [ndT, flatP]
    rw [e]
    simp (maxSteps := 2000000) (disch := (first | omega | (simp only [List.length_append, List.length_take, List.length_replicate, List.length_map, List.length_set, List.length_cons, List.length_nil, List.length_zipWith, List.length_drop, List.length_range]; first | done | omega))) only [go_sem, Nat.reduceAdd, Nat.reduceEqDiff, Nat.reduceLeDiff, Nat.reduceSub, e2]
theorem impl_treeBuild_trans_ok (N : List PV) (nl : Nat) (pl : Int) (tr : List Tr) (lt : List Int) (l : Int) (x y : List Int) (h0 : tr.length ≤ 2^30) (h1 : lt.length ≤ 2^30) (hx : x.length ≤ 2^30) (hy : y.length ≤ 2^30) :
    C f_impl_treeBuild_trans [.ptr 0 0, I l, .ref 1 1 0 x.length, .ref 2 1 0 y.length] [.box t_impl_treeBuild [.ref 3 4 0 nl, I pl, .ref 4 3 0 tr.length, .ref 5 1 0 lt.length], .row t_int true 1 (x.map I), .row t_int true 1 (y.map I), .row t_impl_treeNode true 4 N, .lin t_impl_Trans 3 (tr.map encT), .row t_int true 1 (lt.map I)]
      = some (.tup [], [.box t_impl_treeBuild [.ref 3 4 0 nl, I pl, .ref 6 3 0 (tr.length + 1), .ref 7 1 0 (lt.length + 1)], .dead, .dead, .row t_impl_treeNode true 4 N, .dead, .dead, .lin t_impl_Trans 3 ((tr ++ [(⟨x, y, []⟩ : Tr)]).map encT), .row t_int true 1 ((lt ++ [l]).map I)]) := by
  refine C_impl_treeBuild_trans ?_
  simp (maxSteps := 2000000) (disch := (first | omega | (simp only [List.length_append, List.length_take, List.length_replicate, List.length_map, List.length_set, List.length_cons, List.length_nil, List.length_zipWith, List.length_drop, List.length_range]; first | done | omega))) only [ir_impl_treeBuild_trans, go_sem, Nat.reduceAdd, Nat.reduceEqDiff, Nat.reduceLeDiff, Nat.reduceSub]
  simp
theorem impl_treeBuild_trans_nil (N : List PV) (nl : Nat) (pl : Int) (l : Int) (x y : List Int) (hx : x.length ≤ 2^30) (hy : y.length ≤ 2^30) :
    C f_impl_treeBuild_trans [.ptr 0 0, I l, .ref 1 1 0 x.length, .ref 2 1 0 y.length] [.box t_impl_treeBuild [.ref 3 4 0 nl, I pl, .nil false 3, .nil true 1], .row t_int true 1 (x.map I), .row t_int true 1 (y.map I), .row t_impl_treeNode true 4 N]
      = some (.tup [], [.box t_impl_treeBuild [.ref 3 4 0 nl, I pl, .ref 4 3 0 1, .ref 5 1 0 1], .dead, .dead, .row t_impl_treeNode true 4 N, .lin t_impl_Trans 3 ([(⟨x, y, []⟩ : Tr)].map encT), .row t_int true 1 ([l].map I)]) := by
  refine C_impl_treeBuild_trans ?_
  simp (maxSteps := 2000000) (disch := (first | omega | (simp only [List.length_append, List.length_take, List.length_replicate, List.length_map, List.length_set, List.length_cons, List.length_nil, List.length_zipWith, List.length_drop, List.length_range]; first | done | omega))) only [ir_impl_treeBuild_trans, go_sem, Nat.reduceAdd, Nat.reduceEqDiff, Nat.reduceLeDiff, Nat.reduceSub]
  rfl
theorem impl_treeBuild_place_ok (N TR LT : List PV) (nl a c : Nat) (pl : Int) (h0 : 0 ≤ pl) (h1 : pl ≤ 2^40) :
    C f_impl_treeBuild_place [.ptr 0 0] [.box t_impl_treeBuild [.ref 1 4 0 nl, I pl, .ref 2 3 0 a, .ref 3 1 0 c], .row t_impl_treeNode true 4 N, .lin t_impl_Trans 3 TR, .row t_int true 1 LT]
      = some (I pl, [.box t_impl_treeBuild [.ref 1 4 0 nl, I (pl + 1), .ref 2 3 0 a, .ref 3 1 0 c], .row t_impl_treeNode true 4 N, .lin t_impl_Trans 3 TR, .row t_int true 1 LT]) := by
  refine C_impl_treeBuild_place ?_
  simp (maxSteps := 2000000) (disch := (first | omega | (simp only [List.length_append, List.length_take, List.length_replicate, List.length_map, List.length_set, List.length_cons, List.length_nil, List.length_zipWith, List.length_drop, List.length_range]; first | done | omega))) only [ir_impl_treeBuild_place, go_sem, Nat.reduceAdd, Nat.reduceEqDiff, Nat.reduceLeDiff, Nat.reduceSub]
  simp
theorem impl_treeBuild_place_nil (N : List PV) (nl : Nat) (pl : Int) (h0 : 0 ≤ pl) (h1 : pl ≤ 2^40) :
    C f_impl_treeBuild_place [.ptr 0 0] [.box t_impl_treeBuild [.ref 1 4 0 nl, I pl, .nil false 3, .nil true 1], .row t_impl_treeNode true 4 N]
      = some (I pl, [.box t_impl_treeBuild [.ref 1 4 0 nl, I (pl + 1), .nil false 3, .nil true 1], .row t_impl_treeNode true 4 N]) := by
  refine C_impl_treeBuild_place ?_
  simp (maxSteps := 2000000) (disch := (first | omega | (simp only [List.length_append, List.length_take, List.length_replicate, List.length_map, List.length_set, List.length_cons, List.length_nil, List.length_zipWith, List.length_drop, List.length_range]; first | done | omega))) only [ir_impl_treeBuild_place, go_sem, Nat.reduceAdd, Nat.reduceEqDiff, Nat.reduceLeDiff, Nat.reduceSub]
  simp
/-- The builder's blocks. -/
def tbF (N : List PV) (nl : Nat) (b : TB) : List Blk := [.box t_impl_treeBuild [.ref 1 4 0 nl, I b.pl, .ref 2 3 0 b.tr.length, .ref 3 1 0 b.lt.length], .row t_impl_treeNode true 4 N, .lin t_impl_Trans 3 (b.tr.map encT), .row t_int true 1 (b.lt.map I)]
def tbG (N : List PV) (nl : Nat) (b : TB) : List Blk := [.box t_impl_treeBuild [.ref 1 4 0 nl, I b.pl, .ref 4 3 0 b.tr.length, .ref 5 1 0 b.lt.length], .row t_impl_treeNode true 4 N, .dead, .dead, .lin t_impl_Trans 3 (b.tr.map encT), .row t_int true 1 (b.lt.map I)]
theorem impl_treeBuild_build_ok : ∀ (T : PT) (pre suf : List Nd) (x y : Int) (b : TB), T.wf → (pre ++ T.nds pre.length ++ suf).length ≤ 15 → b.tr.length = b.lt.length → b.tr.length + 3 * T.post.length ≤ 2^30 → 0 ≤ b.pl → b.pl + 4 * T.post.length ≤ 2^40 →
    C f_impl_treeBuild_build [.ptr 0 0, I (pre.length + T.post.length - 1), I x, I y] (tbF ((pre ++ T.nds pre.length ++ suf).map encD) (pre ++ T.nds pre.length ++ suf).length b) = some (.tup [], tbG ((pre ++ T.nds pre.length ++ suf).map encD) (pre ++ T.nds pre.length ++ suf).length (T.bld x y b))
  | .leaf n, pre, suf, x, y, b, h, hl, h1, h2, h3, h4 => by
    simp only [PT.post, PT.nds, List.length_append, List.length_cons, List.length_nil] at hl h2 h4 ⊢
    have e : (pre ++ [(⟨1, n, 0, 0⟩ : Nd)] ++ suf)[pre.length]? = some ⟨1, n, 0, 0⟩ := by simp
    have hL : (pre ++ [(⟨1, n, 0, 0⟩ : Nd)] ++ suf).length = pre.length + 1 + suf.length := by simp; omega
    have hnl : pre.length + (0 + 1) + suf.length = (pre ++ [(⟨1, n, 0, 0⟩ : Nd)] ++ suf).length := by simp; omega
    rw [hnl] at hl ⊢
    generalize pre ++ [(⟨1, n, 0, 0⟩ : Nd)] ++ suf = L at *
    rw [show (pre.length + (0 + 1 : Nat) - 1 : Int) = (pre.length : Nat) by omega]
    have e3 : L[pre.length]'(by omega) = ⟨1, n, 0, 0⟩ := by rw [List.getElem?_eq_getElem (by omega)] at e; exact Option.some.inj e
    obtain ⟨pl, tr, lt⟩ := b
    simp only at h1 h2 h3 h4
    have ht := impl_treeBuild_trans_ok (L.map encD) L.length pl tr lt n [x] [y] (by omega) (by omega) (by simp) (by simp)
    simp only [List.map_cons, List.map_nil, List.length_cons, List.length_nil, Nat.zero_add] at ht
    simp only [tbF, tbG, PT.bld, addB, List.length_append, List.length_cons, List.length_nil]
    refine C_impl_treeBuild_build ?_
    simp (maxSteps := 2000000) (disch := (first | omega | (simp only [List.length_append, List.length_take, List.length_replicate, List.length_map, List.length_set, List.length_cons, List.length_nil, List.length_zipWith, List.length_drop, List.length_range]; first | done | omega))) only [ir_impl_treeBuild_build, go_sem, Nat.reduceAdd, Nat.reduceEqDiff, Nat.reduceLeDiff, Nat.reduceSub]
    simp (maxSteps := 2000000) (disch := (first | omega | (simp only [List.length_append, List.length_take, List.length_replicate, List.length_map, List.length_set, List.length_cons, List.length_nil, List.length_zipWith, List.length_drop, List.length_range]; first | done | omega))) only [go_sem, Nat.reduceAdd, Nat.reduceEqDiff, Nat.reduceLeDiff, Nat.reduceSub, e, e3, ht]
  | .node o p q, pre, suf, x, y, b, h, hl, h1, h2, h3, h4 => by
    obtain ⟨ho, ha, hb⟩ := h
    have pb := q.post_pos
    have pa := p.post_pos
    have la := p.nds_len pre.length
    have lb := q.nds_len (pre.length + p.post.length)
    have hlN : pre.length + p.post.length + q.post.length + 1 + suf.length ≤ 15 := by
      simp only [PT.nds, List.length_append, List.length_cons, List.length_nil] at hl; omega
    have hpa : (pre ++ p.nds pre.length).length = pre.length + p.post.length := by simp [la]
    have hpo : (PT.node o p q).post.length = p.post.length + q.post.length + 1 := by simp [PT.post]; omega
    have e1 : pre ++ p.nds pre.length ++ (q.nds (pre.length + p.post.length) ++ [⟨o, 0, ((pre.length + p.post.length : Nat) : Int) - 1, ((pre.length + p.post.length + q.post.length : Nat) : Int) - 1⟩] ++ suf) = pre ++ (PT.node o p q).nds pre.length ++ suf := by simp [PT.nds]
    have e2 : pre ++ p.nds pre.length ++ q.nds (pre.length + p.post.length) ++ ([⟨o, 0, ((pre.length + p.post.length : Nat) : Int) - 1, ((pre.length + p.post.length + q.post.length : Nat) : Int) - 1⟩] ++ suf) = pre ++ (PT.node o p q).nds pre.length ++ suf := by simp [PT.nds]
    have e : (pre ++ (PT.node o p q).nds pre.length ++ suf)[pre.length + p.post.length + q.post.length]? = some ⟨o, 0, ((pre.length + p.post.length : Nat) : Int) - 1, ((pre.length + p.post.length + q.post.length : Nat) : Int) - 1⟩ := by
      rw [← e2, List.getElem?_append_right (by simp only [List.length_append, la, lb]; omega)]
      simp only [List.length_append, la, lb]
      rw [Nat.sub_self]
      rfl
    have hL : (pre ++ (PT.node o p q).nds pre.length ++ suf).length = pre.length + p.post.length + q.post.length + 1 + suf.length := by simp [PT.nds, la, lb]; omega
    have hk : (pre.length + (PT.node o p q).post.length - 1 : Int) = ((pre.length + p.post.length + q.post.length : Nat) : Int) := by omega
    rw [hk]
    have IH1 : ∀ (x y : Int) (c : TB), c.tr.length = c.lt.length → c.tr.length + 3 * p.post.length ≤ 2^30 → 0 ≤ c.pl → c.pl + 4 * p.post.length ≤ 2^40 → C f_impl_treeBuild_build [.ptr 0 0, I (((pre.length + p.post.length : Nat) : Int) - 1), I x, I y] (tbF ((pre ++ (PT.node o p q).nds pre.length ++ suf).map encD) (pre ++ (PT.node o p q).nds pre.length ++ suf).length c) = some (.tup [], tbG ((pre ++ (PT.node o p q).nds pre.length ++ suf).map encD) (pre ++ (PT.node o p q).nds pre.length ++ suf).length (p.bld x y c)) := by
      intro x y c k1 k2 k3 k4
      have := impl_treeBuild_build_ok p pre (q.nds (pre.length + p.post.length) ++ [⟨o, 0, ((pre.length + p.post.length : Nat) : Int) - 1, ((pre.length + p.post.length + q.post.length : Nat) : Int) - 1⟩] ++ suf) x y c ha (by rw [e1, hL]; omega) k1 k2 k3 k4
      rw [e1] at this
      exact this
    have IH2 : ∀ (x y : Int) (c : TB), c.tr.length = c.lt.length → c.tr.length + 3 * q.post.length ≤ 2^30 → 0 ≤ c.pl → c.pl + 4 * q.post.length ≤ 2^40 → C f_impl_treeBuild_build [.ptr 0 0, I (((pre.length + p.post.length + q.post.length : Nat) : Int) - 1), I x, I y] (tbF ((pre ++ (PT.node o p q).nds pre.length ++ suf).map encD) (pre ++ (PT.node o p q).nds pre.length ++ suf).length c) = some (.tup [], tbG ((pre ++ (PT.node o p q).nds pre.length ++ suf).map encD) (pre ++ (PT.node o p q).nds pre.length ++ suf).length (q.bld x y c)) := by
      intro x y c k1 k2 k3 k4
      have := impl_treeBuild_build_ok q (pre ++ p.nds pre.length) ([⟨o, 0, ((pre.length + p.post.length : Nat) : Int) - 1, ((pre.length + p.post.length + q.post.length : Nat) : Int) - 1⟩] ++ suf) x y c hb (by rw [hpa, e2, hL]; omega) k1 k2 k3 k4
      rw [hpa, e2] at this
      exact this
    rw [hpo] at h2 h4
    generalize pre ++ (PT.node o p q).nds pre.length ++ suf = L at *
    generalize hK : pre.length + p.post.length + q.post.length = K at *
    generalize hR : (((pre.length + p.post.length : Nat) : Int) - 1 : Int) = R at *
    have e3 : L[K]'(by omega) = ⟨o, 0, R, (K : Int) - 1⟩ := by rw [List.getElem?_eq_getElem (by omega)] at e; exact Option.some.inj e
    obtain ⟨pl, tr, lt⟩ := b
    simp only at h1 h2 h3 h4
    rcases op_cases ho with rfl | rfl | rfl | rfl
    · have hp := impl_treeBuild_place_ok (L.map encD) (tr.map encT) (lt.map I) L.length tr.length lt.length pl h3 (by omega)
      have i1 := IH1 x pl ⟨pl + 1, tr, lt⟩ h1 (by simp only; omega) (by simp only; omega) (by simp only; omega)
      have b1 := p.bld_ok x pl ⟨pl + 1, tr, lt⟩ h1
      rw [show PT.bld (.node 2 p q) x y ⟨pl, tr, lt⟩ = q.bld pl y (p.bld x pl ⟨pl + 1, tr, lt⟩) from rfl]
      generalize p.bld x pl ⟨pl + 1, tr, lt⟩ = B1 at *
      have a1 := b1.lo; have a2 := b1.hi; have a3 := b1.len; have a4 := b1.most
      have i2 := IH2 pl y B1 a3 (by simp only at a4; omega) (by simp only at a1; omega) (by simp only at a2; omega)
      generalize q.bld pl y B1 = B2 at *
      obtain ⟨p1, t1, l1⟩ := B1
      obtain ⟨p2, t2, l2⟩ := B2
      simp only [tbF, tbG] at i1 i2 ⊢
      refine C_impl_treeBuild_build ?_
      simp (maxSteps := 2000000) (disch := (first | omega | (simp only [List.length_append, List.length_take, List.length_replicate, List.length_map, List.length_set, List.length_cons, List.length_nil, List.length_zipWith, List.length_drop, List.length_range]; first | done | omega))) only [ir_impl_treeBuild_build, go_sem, Nat.reduceAdd, Nat.reduceEqDiff, Nat.reduceLeDiff, Nat.reduceSub]
      simp (maxSteps := 2000000) (disch := (first | omega | (simp only [List.length_append, List.length_take, List.length_replicate, List.length_map, List.length_set, List.length_cons, List.length_nil, List.length_zipWith, List.length_drop, List.length_range]; first | done | omega))) only [go_sem, Nat.reduceAdd, Nat.reduceEqDiff, Nat.reduceLeDiff, Nat.reduceSub, e, e3, hp, i1, i2, Int.reduceEq, false_implies, true_implies, not_false_eq_true, not_true_eq_false, true_and]
    · have i1 := IH1 x y ⟨pl, tr, lt⟩ h1 (by simp only; omega) (by simp only; omega) (by simp only; omega)
      have b1 := p.bld_ok x y ⟨pl, tr, lt⟩ h1
      rw [show PT.bld (.node 3 p q) x y ⟨pl, tr, lt⟩ = q.bld x y (p.bld x y ⟨pl, tr, lt⟩) from rfl]
      generalize p.bld x y ⟨pl, tr, lt⟩ = B1 at *
      have a1 := b1.lo; have a2 := b1.hi; have a3 := b1.len; have a4 := b1.most
      have i2 := IH2 x y B1 a3 (by simp only at a4; omega) (by simp only at a1; omega) (by simp only at a2; omega)
      generalize q.bld x y B1 = B2 at *
      obtain ⟨p1, t1, l1⟩ := B1
      obtain ⟨p2, t2, l2⟩ := B2
      simp only [tbF, tbG] at i1 i2 ⊢
      refine C_impl_treeBuild_build ?_
      simp (maxSteps := 2000000) (disch := (first | omega | (simp only [List.length_append, List.length_take, List.length_replicate, List.length_map, List.length_set, List.length_cons, List.length_nil, List.length_zipWith, List.length_drop, List.length_range]; first | done | omega))) only [ir_impl_treeBuild_build, go_sem, Nat.reduceAdd, Nat.reduceEqDiff, Nat.reduceLeDiff, Nat.reduceSub]
      simp (maxSteps := 2000000) (disch := (first | omega | (simp only [List.length_append, List.length_take, List.length_replicate, List.length_map, List.length_set, List.length_cons, List.length_nil, List.length_zipWith, List.length_drop, List.length_range]; first | done | omega))) only [go_sem, Nat.reduceAdd, Nat.reduceEqDiff, Nat.reduceLeDiff, Nat.reduceSub, e, e3, i1, i2, Int.reduceEq, false_implies, true_implies, not_false_eq_true, not_true_eq_false, true_and]
    · have hp := impl_treeBuild_place_ok (L.map encD) (tr.map encT) (lt.map I) L.length tr.length lt.length pl h3 (by omega)
      have hp1 := impl_treeBuild_place_ok (L.map encD) (tr.map encT) (lt.map I) L.length tr.length lt.length (pl + 1) (by omega) (by omega)
      have hp2 := impl_treeBuild_place_ok (L.map encD) (tr.map encT) (lt.map I) L.length tr.length lt.length (pl + 1 + 1) (by omega) (by omega)
      have hp3 := impl_treeBuild_place_ok (L.map encD) (tr.map encT) (lt.map I) L.length tr.length lt.length (pl + 1 + 1 + 1) (by omega) (by omega)
      have ht1 := impl_treeBuild_trans_ok (L.map encD) L.length (pl + 1 + 1 + 1 + 1) tr lt 0 [x] [pl, pl + 1] (by omega) (by omega) (by simp) (by simp)
      have ht2 := impl_treeBuild_trans_ok (L.map encD) L.length (pl + 1 + 1 + 1 + 1) (tr ++ [⟨[x], [pl, pl + 1], []⟩]) (lt ++ [0]) 0 [pl + 1 + 1, pl + 1 + 1 + 1] [y] (by simp; omega) (by simp; omega) (by simp) (by simp)
      have i1 := IH1 pl (pl + 1 + 1) ⟨pl + 1 + 1 + 1 + 1, tr ++ [⟨[x], [pl, pl + 1], []⟩] ++ [⟨[pl + 1 + 1, pl + 1 + 1 + 1], [y], []⟩], lt ++ [0] ++ [0]⟩ (by simp; omega) (by simp only [List.length_append, List.length_cons, List.length_nil]; omega) (by simp only; omega) (by simp only; omega)
      have b1 := p.bld_ok pl (pl + 1 + 1) ⟨pl + 1 + 1 + 1 + 1, tr ++ [⟨[x], [pl, pl + 1], []⟩] ++ [⟨[pl + 1 + 1, pl + 1 + 1 + 1], [y], []⟩], lt ++ [0] ++ [0]⟩ (by simp; omega)
      rw [show PT.bld (.node 4 p q) x y ⟨pl, tr, lt⟩ = q.bld (pl + 1) (pl + 1 + 1 + 1) (p.bld pl (pl + 1 + 1) ⟨pl + 1 + 1 + 1 + 1, tr ++ [⟨[x], [pl, pl + 1], []⟩] ++ [⟨[pl + 1 + 1, pl + 1 + 1 + 1], [y], []⟩], lt ++ [0] ++ [0]⟩) by simp only [Int.add_assoc, Int.reduceAdd]; rfl]
      generalize p.bld pl (pl + 1 + 1) ⟨pl + 1 + 1 + 1 + 1, tr ++ [⟨[x], [pl, pl + 1], []⟩] ++ [⟨[pl + 1 + 1, pl + 1 + 1 + 1], [y], []⟩], lt ++ [0] ++ [0]⟩ = B1 at *
      have a1 := b1.lo; have a2 := b1.hi; have a3 := b1.len; have a4 := b1.most
      simp only [List.length_append, List.length_cons, List.length_nil] at a4
      have i2 := IH2 (pl + 1) (pl + 1 + 1 + 1) B1 a3 (by omega) (by simp only at a1; omega) (by simp only at a2; omega)
      generalize q.bld (pl + 1) (pl + 1 + 1 + 1) B1 = B2 at *
      obtain ⟨p1, t1, l1⟩ := B1
      obtain ⟨p2, t2, l2⟩ := B2
      simp only [tbF, tbG, List.length_append, List.length_cons, List.length_nil, List.map_cons, List.map_nil, List.map_append, Nat.zero_add] at i1 i2 ht1 ht2 ⊢
      refine C_impl_treeBuild_build ?_
      simp (maxSteps := 2000000) (disch := (first | omega | (simp only [List.length_append, List.length_take, List.length_replicate, List.length_map, List.length_set, List.length_cons, List.length_nil, List.length_zipWith, List.length_drop, List.length_range]; first | done | omega))) only [ir_impl_treeBuild_build, go_sem, Nat.reduceAdd, Nat.reduceEqDiff, Nat.reduceLeDiff, Nat.reduceSub]
      simp (maxSteps := 2000000) (disch := (first | omega | (simp only [List.length_append, List.length_take, List.length_replicate, List.length_map, List.length_set, List.length_cons, List.length_nil, List.length_zipWith, List.length_drop, List.length_range]; first | done | omega))) only [go_sem, Nat.reduceAdd, Nat.reduceEqDiff, Nat.reduceLeDiff, Nat.reduceSub, e, e3, hp, hp1, hp2, hp3, ht1, ht2, i1, i2, Int.reduceEq, false_implies, true_implies, not_false_eq_true, not_true_eq_false, true_and]
    · have hp := impl_treeBuild_place_ok (L.map encD) (tr.map encT) (lt.map I) L.length tr.length lt.length pl h3 (by omega)
      have hp1 := impl_treeBuild_place_ok (L.map encD) (tr.map encT) (lt.map I) L.length tr.length lt.length (pl + 1) (by omega) (by omega)
      have ht1 := impl_treeBuild_trans_ok (L.map encD) L.length (pl + 1 + 1) tr lt 0 [x] [pl] (by omega) (by omega) (by simp) (by simp)
      have ht2 := impl_treeBuild_trans_ok (L.map encD) L.length (pl + 1 + 1) (tr ++ [⟨[x], [pl], []⟩]) (lt ++ [0]) 0 [pl + 1] [y] (by simp; omega) (by simp; omega) (by simp) (by simp)
      have i1 := IH1 pl (pl + 1) ⟨pl + 1 + 1, tr ++ [⟨[x], [pl], []⟩] ++ [⟨[pl + 1], [y], []⟩], lt ++ [0] ++ [0]⟩ (by simp; omega) (by simp only [List.length_append, List.length_cons, List.length_nil]; omega) (by simp only; omega) (by simp only; omega)
      have b1 := p.bld_ok pl (pl + 1) ⟨pl + 1 + 1, tr ++ [⟨[x], [pl], []⟩] ++ [⟨[pl + 1], [y], []⟩], lt ++ [0] ++ [0]⟩ (by simp; omega)
      rw [show PT.bld (.node 5 p q) x y ⟨pl, tr, lt⟩ = q.bld (pl + 1) pl (p.bld pl (pl + 1) ⟨pl + 1 + 1, tr ++ [⟨[x], [pl], []⟩] ++ [⟨[pl + 1], [y], []⟩], lt ++ [0] ++ [0]⟩) by simp only [Int.add_assoc, Int.reduceAdd]; rfl]
      generalize p.bld pl (pl + 1) ⟨pl + 1 + 1, tr ++ [⟨[x], [pl], []⟩] ++ [⟨[pl + 1], [y], []⟩], lt ++ [0] ++ [0]⟩ = B1 at *
      have a1 := b1.lo; have a2 := b1.hi; have a3 := b1.len; have a4 := b1.most
      simp only [List.length_append, List.length_cons, List.length_nil] at a4
      have i2 := IH2 (pl + 1) pl B1 a3 (by omega) (by simp only at a1; omega) (by simp only at a2; omega)
      generalize q.bld (pl + 1) pl B1 = B2 at *
      obtain ⟨p1, t1, l1⟩ := B1
      obtain ⟨p2, t2, l2⟩ := B2
      simp only [tbF, tbG, List.length_append, List.length_cons, List.length_nil, List.map_cons, List.map_nil, List.map_append, Nat.zero_add] at i1 i2 ht1 ht2 ⊢
      refine C_impl_treeBuild_build ?_
      simp (maxSteps := 2000000) (disch := (first | omega | (simp only [List.length_append, List.length_take, List.length_replicate, List.length_map, List.length_set, List.length_cons, List.length_nil, List.length_zipWith, List.length_drop, List.length_range]; first | done | omega))) only [ir_impl_treeBuild_build, go_sem, Nat.reduceAdd, Nat.reduceEqDiff, Nat.reduceLeDiff, Nat.reduceSub]
      simp (maxSteps := 2000000) (disch := (first | omega | (simp only [List.length_append, List.length_take, List.length_replicate, List.length_map, List.length_set, List.length_cons, List.length_nil, List.length_zipWith, List.length_drop, List.length_range]; first | done | omega))) only [go_sem, Nat.reduceAdd, Nat.reduceEqDiff, Nat.reduceLeDiff, Nat.reduceSub, e, e3, hp, hp1, ht1, ht2, i1, i2, Int.reduceEq, false_implies, true_implies, not_false_eq_true, not_true_eq_false, true_and]
/-- The builder's blocks before anything is built. -/
def tb0 (N : List PV) (nl : Nat) (pl : Int) : List Blk := [.box t_impl_treeBuild [.ref 1 4 0 nl, I pl, .nil false 3, .nil true 1], .row t_impl_treeNode true 4 N]
theorem impl_treeBuild_build_nil : ∀ (T : PT) (pre suf : List Nd) (x y pl : Int), T.wf → (pre ++ T.nds pre.length ++ suf).length ≤ 15 → 0 ≤ pl → pl + 4 * T.post.length ≤ 2^40 → 
    C f_impl_treeBuild_build [.ptr 0 0, I (pre.length + T.post.length - 1), I x, I y] (tb0 ((pre ++ T.nds pre.length ++ suf).map encD) (pre ++ T.nds pre.length ++ suf).length pl) = some (.tup [], tbF ((pre ++ T.nds pre.length ++ suf).map encD) (pre ++ T.nds pre.length ++ suf).length (T.bld x y ⟨pl, [], []⟩))
  | .leaf n, pre, suf, x, y, pl, h, hl, h3, h4 => by
    simp only [PT.post, PT.nds, List.length_append, List.length_cons, List.length_nil] at hl h4 ⊢
    have e : (pre ++ [(⟨1, n, 0, 0⟩ : Nd)] ++ suf)[pre.length]? = some ⟨1, n, 0, 0⟩ := by simp
    have hL : (pre ++ [(⟨1, n, 0, 0⟩ : Nd)] ++ suf).length = pre.length + 1 + suf.length := by simp; omega
    have hnl : pre.length + (0 + 1) + suf.length = (pre ++ [(⟨1, n, 0, 0⟩ : Nd)] ++ suf).length := by simp; omega
    rw [hnl] at hl ⊢
    generalize pre ++ [(⟨1, n, 0, 0⟩ : Nd)] ++ suf = L at *
    rw [show (pre.length + (0 + 1 : Nat) - 1 : Int) = (pre.length : Nat) by omega]
    have e3 : L[pre.length]'(by omega) = ⟨1, n, 0, 0⟩ := by rw [List.getElem?_eq_getElem (by omega)] at e; exact Option.some.inj e
    have ht := impl_treeBuild_trans_nil (L.map encD) L.length pl n [x] [y] (by simp) (by simp)
    simp only [List.map_cons, List.map_nil, List.length_cons, List.length_nil, Nat.zero_add] at ht
    simp only [tb0, tbF, PT.bld, addB, List.length_append, List.length_cons, List.length_nil]
    refine C_impl_treeBuild_build ?_
    simp (maxSteps := 2000000) (disch := (first | omega | (simp only [List.length_append, List.length_take, List.length_replicate, List.length_map, List.length_set, List.length_cons, List.length_nil, List.length_zipWith, List.length_drop, List.length_range]; first | done | omega))) only [ir_impl_treeBuild_build, go_sem, Nat.reduceAdd, Nat.reduceEqDiff, Nat.reduceLeDiff, Nat.reduceSub]
    simp (maxSteps := 2000000) (disch := (first | omega | (simp only [List.length_append, List.length_take, List.length_replicate, List.length_map, List.length_set, List.length_cons, List.length_nil, List.length_zipWith, List.length_drop, List.length_range]; first | done | omega))) only [go_sem, Nat.reduceAdd, Nat.reduceEqDiff, Nat.reduceLeDiff, Nat.reduceSub, e, e3, ht]
  | .node o p q, pre, suf, x, y, pl, h, hl, h3, h4 => by
    obtain ⟨ho, ha, hb⟩ := h
    have pb := q.post_pos
    have pa := p.post_pos
    have la := p.nds_len pre.length
    have lb := q.nds_len (pre.length + p.post.length)
    have hlN : pre.length + p.post.length + q.post.length + 1 + suf.length ≤ 15 := by
      simp only [PT.nds, List.length_append, List.length_cons, List.length_nil] at hl; omega
    have hpa : (pre ++ p.nds pre.length).length = pre.length + p.post.length := by simp [la]
    have hpo : (PT.node o p q).post.length = p.post.length + q.post.length + 1 := by simp [PT.post]; omega
    have e1 : pre ++ p.nds pre.length ++ (q.nds (pre.length + p.post.length) ++ [⟨o, 0, ((pre.length + p.post.length : Nat) : Int) - 1, ((pre.length + p.post.length + q.post.length : Nat) : Int) - 1⟩] ++ suf) = pre ++ (PT.node o p q).nds pre.length ++ suf := by simp [PT.nds]
    have e2 : pre ++ p.nds pre.length ++ q.nds (pre.length + p.post.length) ++ ([⟨o, 0, ((pre.length + p.post.length : Nat) : Int) - 1, ((pre.length + p.post.length + q.post.length : Nat) : Int) - 1⟩] ++ suf) = pre ++ (PT.node o p q).nds pre.length ++ suf := by simp [PT.nds]
    have e : (pre ++ (PT.node o p q).nds pre.length ++ suf)[pre.length + p.post.length + q.post.length]? = some ⟨o, 0, ((pre.length + p.post.length : Nat) : Int) - 1, ((pre.length + p.post.length + q.post.length : Nat) : Int) - 1⟩ := by
      rw [← e2, List.getElem?_append_right (by simp only [List.length_append, la, lb]; omega)]
      simp only [List.length_append, la, lb]
      rw [Nat.sub_self]
      rfl
    have hL : (pre ++ (PT.node o p q).nds pre.length ++ suf).length = pre.length + p.post.length + q.post.length + 1 + suf.length := by simp [PT.nds, la, lb]; omega
    have hk : (pre.length + (PT.node o p q).post.length - 1 : Int) = ((pre.length + p.post.length + q.post.length : Nat) : Int) := by omega
    rw [hk]
    have IH1 : ∀ (x y : Int) (c : TB), c.tr.length = c.lt.length → c.tr.length + 3 * p.post.length ≤ 2^30 → 0 ≤ c.pl → c.pl + 4 * p.post.length ≤ 2^40 → C f_impl_treeBuild_build [.ptr 0 0, I (((pre.length + p.post.length : Nat) : Int) - 1), I x, I y] (tbF ((pre ++ (PT.node o p q).nds pre.length ++ suf).map encD) (pre ++ (PT.node o p q).nds pre.length ++ suf).length c) = some (.tup [], tbG ((pre ++ (PT.node o p q).nds pre.length ++ suf).map encD) (pre ++ (PT.node o p q).nds pre.length ++ suf).length (p.bld x y c)) := by
      intro x y c k1 k2 k3 k4
      have := impl_treeBuild_build_ok p pre (q.nds (pre.length + p.post.length) ++ [⟨o, 0, ((pre.length + p.post.length : Nat) : Int) - 1, ((pre.length + p.post.length + q.post.length : Nat) : Int) - 1⟩] ++ suf) x y c ha (by rw [e1, hL]; omega) k1 k2 k3 k4
      rw [e1] at this
      exact this
    have IH2 : ∀ (x y : Int) (c : TB), c.tr.length = c.lt.length → c.tr.length + 3 * q.post.length ≤ 2^30 → 0 ≤ c.pl → c.pl + 4 * q.post.length ≤ 2^40 → C f_impl_treeBuild_build [.ptr 0 0, I (((pre.length + p.post.length + q.post.length : Nat) : Int) - 1), I x, I y] (tbF ((pre ++ (PT.node o p q).nds pre.length ++ suf).map encD) (pre ++ (PT.node o p q).nds pre.length ++ suf).length c) = some (.tup [], tbG ((pre ++ (PT.node o p q).nds pre.length ++ suf).map encD) (pre ++ (PT.node o p q).nds pre.length ++ suf).length (q.bld x y c)) := by
      intro x y c k1 k2 k3 k4
      have := impl_treeBuild_build_ok q (pre ++ p.nds pre.length) ([⟨o, 0, ((pre.length + p.post.length : Nat) : Int) - 1, ((pre.length + p.post.length + q.post.length : Nat) : Int) - 1⟩] ++ suf) x y c hb (by rw [hpa, e2, hL]; omega) k1 k2 k3 k4
      rw [hpa, e2] at this
      exact this
    have IH0 : ∀ (x y pl : Int), 0 ≤ pl → pl + 4 * p.post.length ≤ 2^40 → C f_impl_treeBuild_build [.ptr 0 0, I (((pre.length + p.post.length : Nat) : Int) - 1), I x, I y] (tb0 ((pre ++ (PT.node o p q).nds pre.length ++ suf).map encD) (pre ++ (PT.node o p q).nds pre.length ++ suf).length pl) = some (.tup [], tbF ((pre ++ (PT.node o p q).nds pre.length ++ suf).map encD) (pre ++ (PT.node o p q).nds pre.length ++ suf).length (p.bld x y ⟨pl, [], []⟩)) := by
      intro x y pl k3 k4
      have := impl_treeBuild_build_nil p pre (q.nds (pre.length + p.post.length) ++ [⟨o, 0, ((pre.length + p.post.length : Nat) : Int) - 1, ((pre.length + p.post.length + q.post.length : Nat) : Int) - 1⟩] ++ suf) x y pl ha (by rw [e1, hL]; omega) k3 k4
      rw [e1] at this
      exact this
    rw [hpo] at h4
    have lp := hl
    rw [hL] at lp
    generalize pre ++ (PT.node o p q).nds pre.length ++ suf = L at *
    generalize hK : pre.length + p.post.length + q.post.length = K at *
    generalize hR : (((pre.length + p.post.length : Nat) : Int) - 1 : Int) = R at *
    have e3 : L[K]'(by omega) = ⟨o, 0, R, (K : Int) - 1⟩ := by rw [List.getElem?_eq_getElem (by omega)] at e; exact Option.some.inj e
    rcases op_cases ho with rfl | rfl | rfl | rfl
    · have hp := impl_treeBuild_place_nil (L.map encD) L.length pl h3 (by omega)
      have i1 := IH0 x pl (pl + 1) (by omega) (by omega)
      have b1 := p.bld_ok x pl ⟨pl + 1, [], []⟩ rfl
      rw [show PT.bld (.node 2 p q) x y ⟨pl, [], []⟩ = q.bld pl y (p.bld x pl ⟨pl + 1, [], []⟩) from rfl]
      generalize p.bld x pl ⟨pl + 1, [], []⟩ = B1 at *
      have a1 := b1.lo; have a2 := b1.hi; have a3 := b1.len; have a4 := b1.most
      have i2 := IH2 pl y B1 a3 (by simp only [List.length_nil] at a4; omega) (by simp only at a1; omega) (by simp only at a2; omega)
      generalize q.bld pl y B1 = B2 at *
      obtain ⟨p1, t1, l1⟩ := B1
      obtain ⟨p2, t2, l2⟩ := B2
      simp only [tb0, tbF, tbG] at i1 i2 ⊢
      refine C_impl_treeBuild_build ?_
      simp (maxSteps := 2000000) (disch := (first | omega | (simp only [List.length_append, List.length_take, List.length_replicate, List.length_map, List.length_set, List.length_cons, List.length_nil, List.length_zipWith, List.length_drop, List.length_range]; first | done | omega))) only [ir_impl_treeBuild_build, go_sem, Nat.reduceAdd, Nat.reduceEqDiff, Nat.reduceLeDiff, Nat.reduceSub]
      simp (maxSteps := 2000000) (disch := (first | omega | (simp only [List.length_append, List.length_take, List.length_replicate, List.length_map, List.length_set, List.length_cons, List.length_nil, List.length_zipWith, List.length_drop, List.length_range]; first | done | omega))) only [go_sem, Nat.reduceAdd, Nat.reduceEqDiff, Nat.reduceLeDiff, Nat.reduceSub, e, e3, hp, i1, i2, Int.reduceEq, false_implies, true_implies, not_false_eq_true, not_true_eq_false, true_and]
    · have i1 := IH0 x y pl (by omega) (by omega)
      have b1 := p.bld_ok x y ⟨pl, [], []⟩ rfl
      rw [show PT.bld (.node 3 p q) x y ⟨pl, [], []⟩ = q.bld x y (p.bld x y ⟨pl, [], []⟩) from rfl]
      generalize p.bld x y ⟨pl, [], []⟩ = B1 at *
      have a1 := b1.lo; have a2 := b1.hi; have a3 := b1.len; have a4 := b1.most
      have i2 := IH2 x y B1 a3 (by simp only [List.length_nil] at a4; omega) (by simp only at a1; omega) (by simp only at a2; omega)
      generalize q.bld x y B1 = B2 at *
      obtain ⟨p1, t1, l1⟩ := B1
      obtain ⟨p2, t2, l2⟩ := B2
      simp only [tb0, tbF, tbG] at i1 i2 ⊢
      refine C_impl_treeBuild_build ?_
      simp (maxSteps := 2000000) (disch := (first | omega | (simp only [List.length_append, List.length_take, List.length_replicate, List.length_map, List.length_set, List.length_cons, List.length_nil, List.length_zipWith, List.length_drop, List.length_range]; first | done | omega))) only [ir_impl_treeBuild_build, go_sem, Nat.reduceAdd, Nat.reduceEqDiff, Nat.reduceLeDiff, Nat.reduceSub]
      simp (maxSteps := 2000000) (disch := (first | omega | (simp only [List.length_append, List.length_take, List.length_replicate, List.length_map, List.length_set, List.length_cons, List.length_nil, List.length_zipWith, List.length_drop, List.length_range]; first | done | omega))) only [go_sem, Nat.reduceAdd, Nat.reduceEqDiff, Nat.reduceLeDiff, Nat.reduceSub, e, e3, i1, i2, Int.reduceEq, false_implies, true_implies, not_false_eq_true, not_true_eq_false, true_and]
    · have hp := impl_treeBuild_place_nil (L.map encD) L.length pl h3 (by omega)
      have hp1 := impl_treeBuild_place_nil (L.map encD) L.length (pl + 1) (by omega) (by omega)
      have hp2 := impl_treeBuild_place_nil (L.map encD) L.length (pl + 1 + 1) (by omega) (by omega)
      have hp3 := impl_treeBuild_place_nil (L.map encD) L.length (pl + 1 + 1 + 1) (by omega) (by omega)
      have ht1 := impl_treeBuild_trans_nil (L.map encD) L.length (pl + 1 + 1 + 1 + 1) 0 [x] [pl, pl + 1] (by simp) (by simp)
      have ht2 := impl_treeBuild_trans_ok (L.map encD) L.length (pl + 1 + 1 + 1 + 1) [⟨[x], [pl, pl + 1], []⟩] [0] 0 [pl + 1 + 1, pl + 1 + 1 + 1] [y] (by simp) (by simp) (by simp) (by simp)
      have i1 := IH1 pl (pl + 1 + 1) ⟨pl + 1 + 1 + 1 + 1, [⟨[x], [pl, pl + 1], []⟩] ++ [⟨[pl + 1 + 1, pl + 1 + 1 + 1], [y], []⟩], [0] ++ [0]⟩ (by simp) (by simp only [List.length_append, List.length_cons, List.length_nil]; omega) (by simp only; omega) (by simp only; omega)
      have b1 := p.bld_ok pl (pl + 1 + 1) ⟨pl + 1 + 1 + 1 + 1, [⟨[x], [pl, pl + 1], []⟩] ++ [⟨[pl + 1 + 1, pl + 1 + 1 + 1], [y], []⟩], [0] ++ [0]⟩ (by simp)
      rw [show PT.bld (.node 4 p q) x y ⟨pl, [], []⟩ = q.bld (pl + 1) (pl + 1 + 1 + 1) (p.bld pl (pl + 1 + 1) ⟨pl + 1 + 1 + 1 + 1, [⟨[x], [pl, pl + 1], []⟩] ++ [⟨[pl + 1 + 1, pl + 1 + 1 + 1], [y], []⟩], [0] ++ [0]⟩) by simp only [Int.add_assoc, Int.reduceAdd]; rfl]
      generalize p.bld pl (pl + 1 + 1) ⟨pl + 1 + 1 + 1 + 1, [⟨[x], [pl, pl + 1], []⟩] ++ [⟨[pl + 1 + 1, pl + 1 + 1 + 1], [y], []⟩], [0] ++ [0]⟩ = B1 at *
      have a1 := b1.lo; have a2 := b1.hi; have a3 := b1.len; have a4 := b1.most
      simp only [List.length_append, List.length_cons, List.length_nil] at a4
      have i2 := IH2 (pl + 1) (pl + 1 + 1 + 1) B1 a3 (by omega) (by simp only at a1; omega) (by simp only at a2; omega)
      generalize q.bld (pl + 1) (pl + 1 + 1 + 1) B1 = B2 at *
      obtain ⟨p1, t1, l1⟩ := B1
      obtain ⟨p2, t2, l2⟩ := B2
      simp only [tb0, tbF, tbG, List.length_append, List.cons_append, List.nil_append, Nat.reduceAdd, List.length_cons, List.length_nil, List.map_cons, List.map_nil, List.map_append, Nat.zero_add] at i1 i2 ht1 ht2 ⊢
      refine C_impl_treeBuild_build ?_
      simp (maxSteps := 2000000) (disch := (first | omega | (simp only [List.length_append, List.length_take, List.length_replicate, List.length_map, List.length_set, List.length_cons, List.length_nil, List.length_zipWith, List.length_drop, List.length_range]; first | done | omega))) only [ir_impl_treeBuild_build, go_sem, Nat.reduceAdd, Nat.reduceEqDiff, Nat.reduceLeDiff, Nat.reduceSub]
      simp (maxSteps := 2000000) (disch := (first | omega | (simp only [List.length_append, List.length_take, List.length_replicate, List.length_map, List.length_set, List.length_cons, List.length_nil, List.length_zipWith, List.length_drop, List.length_range]; first | done | omega))) only [go_sem, Nat.reduceAdd, Nat.reduceEqDiff, Nat.reduceLeDiff, Nat.reduceSub, e, e3, hp, hp1, hp2, hp3, ht1, ht2, i1, i2, Int.reduceEq, false_implies, true_implies, not_false_eq_true, not_true_eq_false, true_and]
    · have hp := impl_treeBuild_place_nil (L.map encD) L.length pl h3 (by omega)
      have hp1 := impl_treeBuild_place_nil (L.map encD) L.length (pl + 1) (by omega) (by omega)
      have ht1 := impl_treeBuild_trans_nil (L.map encD) L.length (pl + 1 + 1) 0 [x] [pl] (by simp) (by simp)
      have ht2 := impl_treeBuild_trans_ok (L.map encD) L.length (pl + 1 + 1) [⟨[x], [pl], []⟩] [0] 0 [pl + 1] [y] (by simp) (by simp) (by simp) (by simp)
      have i1 := IH1 pl (pl + 1) ⟨pl + 1 + 1, [⟨[x], [pl], []⟩] ++ [⟨[pl + 1], [y], []⟩], [0] ++ [0]⟩ (by simp) (by simp only [List.length_append, List.length_cons, List.length_nil]; omega) (by simp only; omega) (by simp only; omega)
      have b1 := p.bld_ok pl (pl + 1) ⟨pl + 1 + 1, [⟨[x], [pl], []⟩] ++ [⟨[pl + 1], [y], []⟩], [0] ++ [0]⟩ (by simp)
      rw [show PT.bld (.node 5 p q) x y ⟨pl, [], []⟩ = q.bld (pl + 1) pl (p.bld pl (pl + 1) ⟨pl + 1 + 1, [⟨[x], [pl], []⟩] ++ [⟨[pl + 1], [y], []⟩], [0] ++ [0]⟩) by simp only [Int.add_assoc, Int.reduceAdd]; rfl]
      generalize p.bld pl (pl + 1) ⟨pl + 1 + 1, [⟨[x], [pl], []⟩] ++ [⟨[pl + 1], [y], []⟩], [0] ++ [0]⟩ = B1 at *
      have a1 := b1.lo; have a2 := b1.hi; have a3 := b1.len; have a4 := b1.most
      simp only [List.length_append, List.length_cons, List.length_nil] at a4
      have i2 := IH2 (pl + 1) pl B1 a3 (by omega) (by simp only at a1; omega) (by simp only at a2; omega)
      generalize q.bld (pl + 1) pl B1 = B2 at *
      obtain ⟨p1, t1, l1⟩ := B1
      obtain ⟨p2, t2, l2⟩ := B2
      simp only [tb0, tbF, tbG, List.length_append, List.cons_append, List.nil_append, Nat.reduceAdd, List.length_cons, List.length_nil, List.map_cons, List.map_nil, List.map_append, Nat.zero_add] at i1 i2 ht1 ht2 ⊢
      refine C_impl_treeBuild_build ?_
      simp (maxSteps := 2000000) (disch := (first | omega | (simp only [List.length_append, List.length_take, List.length_replicate, List.length_map, List.length_set, List.length_cons, List.length_nil, List.length_zipWith, List.length_drop, List.length_range]; first | done | omega))) only [ir_impl_treeBuild_build, go_sem, Nat.reduceAdd, Nat.reduceEqDiff, Nat.reduceLeDiff, Nat.reduceSub]
      simp (maxSteps := 2000000) (disch := (first | omega | (simp only [List.length_append, List.length_take, List.length_replicate, List.length_map, List.length_set, List.length_cons, List.length_nil, List.length_zipWith, List.length_drop, List.length_range]; first | done | omega))) only [go_sem, Nat.reduceAdd, Nat.reduceEqDiff, Nat.reduceLeDiff, Nat.reduceSub, e, e3, hp, hp1, ht1, ht2, i1, i2, Int.reduceEq, false_implies, true_implies, not_false_eq_true, not_true_eq_false, true_and]
theorem impl_increasing_ok (l : List Int) (hl : l.length < 2^62) : C f_impl_increasing [ints l] [] = some (.bool (incr l), []) := by
  refine C_impl_increasing ?_
  simp (maxSteps := 2000000) (disch := (first | omega | (simp only [List.length_append, List.length_take, List.length_replicate, List.length_map, List.length_set, List.length_cons, List.length_nil, List.length_zipWith, List.length_drop, List.length_range]; first | done | omega))) only [ir_impl_increasing, go_sem, Nat.reduceAdd, Nat.reduceEqDiff, Nat.reduceLeDiff, Nat.reduceSub]
  refine W_for (l.length - 1) (fun k s => s = ⟨[ints l, .any, I (k + 1 : Int), .any, .any], []⟩ ∧ (l.take (k + 1)).Pairwise (· < ·)) ?_ ?_ ?_
  · simp (maxSteps := 2000000) (disch := (first | omega | (simp only [List.length_append, List.length_take, List.length_replicate, List.length_map, List.length_set, List.length_cons, List.length_nil, List.length_zipWith, List.length_drop, List.length_range]; first | done | omega))) only [go_sem, Nat.reduceAdd, Nat.reduceEqDiff, Nat.reduceLeDiff, Nat.reduceSub]
    exact ⟨rfl, incr_one⟩
  · rintro k s hk ⟨rfl, hp⟩
    simp (maxSteps := 2000000) (disch := (first | omega | (simp only [List.length_append, List.length_take, List.length_replicate, List.length_map, List.length_set, List.length_cons, List.length_nil, List.length_zipWith, List.length_drop, List.length_range]; first | done | omega))) only [go_sem, Nat.reduceAdd, Nat.reduceEqDiff, Nat.reduceLeDiff, Nat.reduceSub]
    have e1 : ((k : Int) + 1).toNat = k + 1 := by omega
    have e2 : ((k : Int) + 1 - 1).toNat = k := by omega
    simp only [e1, e2]
    refine ⟨fun h => by rw [incr_not (k := k) (by omega) (by omega)], fun h => ⟨rfl, incr_step (by omega) hp h⟩⟩
  · rintro s ⟨rfl, hp⟩
    simp (maxSteps := 2000000) (disch := (first | omega | (simp only [List.length_append, List.length_take, List.length_replicate, List.length_map, List.length_set, List.length_cons, List.length_nil, List.length_zipWith, List.length_drop, List.length_range]; first | done | omega))) only [go_sem, Nat.reduceAdd, Nat.reduceEqDiff, Nat.reduceLeDiff, Nat.reduceSub]
    rw [take_all (by omega)] at hp
    rw [show incr l = true by simpa [incr] using hp]
theorem impl_allWithin_ok (l : List Int) (lo hi : Int) (hl : l.length < 2^62) : C f_impl_allWithin [ints l, I lo, I hi] [] = some (.bool (l.all (inB lo hi)), []) := by
  refine C_impl_allWithin ?_
  simp (maxSteps := 2000000) (disch := (first | omega | (simp only [List.length_append, List.length_take, List.length_replicate, List.length_map, List.length_set, List.length_cons, List.length_nil, List.length_zipWith, List.length_drop, List.length_range]; first | done | omega))) only [ir_impl_allWithin, go_sem, Nat.reduceAdd, Nat.reduceEqDiff, Nat.reduceLeDiff, Nat.reduceSub]
  refine W_for l.length (fun k s => s = ⟨[.any, I lo, I hi, .any, .any, ints l, I l.length, I k, .any, .any], []⟩ ∧ (l.take k).all (inB lo hi) = true) ?_ ?_ ?_
  · simp (maxSteps := 2000000) (disch := (first | omega | (simp only [List.length_append, List.length_take, List.length_replicate, List.length_map, List.length_set, List.length_cons, List.length_nil, List.length_zipWith, List.length_drop, List.length_range]; first | done | omega))) only [go_sem, Nat.reduceAdd, Nat.reduceEqDiff, Nat.reduceLeDiff, Nat.reduceSub]
    rfl
  · rintro k s hk ⟨rfl, hall⟩
    simp (maxSteps := 2000000) (disch := (first | omega | (simp only [List.length_append, List.length_take, List.length_replicate, List.length_map, List.length_set, List.length_cons, List.length_nil, List.length_zipWith, List.length_drop, List.length_range]; first | done | omega))) only [go_sem, Nat.reduceAdd, Nat.reduceEqDiff, Nat.reduceLeDiff, Nat.reduceSub, impl_within_ok]
    exact ⟨fun h => ⟨rfl, all_take hk hall h⟩, fun h => by rw [all_false hk h]⟩
  · rintro s ⟨rfl, hall⟩
    simp (maxSteps := 2000000) (disch := (first | omega | (simp only [List.length_append, List.length_take, List.length_replicate, List.length_map, List.length_set, List.length_cons, List.length_nil, List.length_zipWith, List.length_drop, List.length_range]; first | done | omega))) only [go_sem, Nat.reduceAdd, Nat.reduceEqDiff, Nat.reduceLeDiff, Nat.reduceSub]
    rw [List.take_length] at hall
    rw [hall]
theorem impl_arePlaces_ok (n : Net) (l : List Int) (h : 1 ≤ n.pl ∧ n.pl ≤ 16) (hl : l.length < 2^62) : C f_impl_arePlaces [encN n, ints l] [] = some (.bool (places n.pl l), []) := by
  refine C_impl_arePlaces ?_
  simp (maxSteps := 2000000) (disch := (first | omega | (simp only [List.length_append, List.length_take, List.length_replicate, List.length_map, List.length_set, List.length_cons, List.length_nil, List.length_zipWith, List.length_drop, List.length_range]; first | done | omega))) only [ir_impl_arePlaces, go_sem, Nat.reduceAdd, Nat.reduceEqDiff, Nat.reduceLeDiff, Nat.reduceSub]
  simp (maxSteps := 2000000) (disch := (first | omega | (simp only [List.length_append, List.length_take, List.length_replicate, List.length_map, List.length_set, List.length_cons, List.length_nil, List.length_zipWith, List.length_drop, List.length_range]; first | done | omega))) only [go_sem, Nat.reduceAdd, Nat.reduceEqDiff, Nat.reduceLeDiff, Nat.reduceSub, impl_increasing_ok l hl, impl_allWithin_ok l _ _ hl]
  unfold places; grind
theorem impl_GoodNet_1_ok (n : Net) (t : Tr) (h : 1 ≤ n.pl ∧ n.pl ≤ 16) (ht : smT t) : C f_impl_GoodNet_1 [encT t, .pv (encN n) 0] [] = some (.bool (!goodT n.pl t), []) := by
  obtain ⟨h1, h2, h3⟩ := ht
  refine C_impl_GoodNet_1 ?_
  simp (maxSteps := 2000000) (disch := (first | omega | (simp only [List.length_append, List.length_take, List.length_replicate, List.length_map, List.length_set, List.length_cons, List.length_nil, List.length_zipWith, List.length_drop, List.length_range]; first | done | omega))) only [ir_impl_GoodNet_1, go_sem, Nat.reduceAdd, Nat.reduceEqDiff, Nat.reduceLeDiff, Nat.reduceSub]
  simp (maxSteps := 2000000) (disch := (first | omega | (simp only [List.length_append, List.length_take, List.length_replicate, List.length_map, List.length_set, List.length_cons, List.length_nil, List.length_zipWith, List.length_drop, List.length_range]; first | done | omega))) only [go_sem, Nat.reduceAdd, Nat.reduceEqDiff, Nat.reduceLeDiff, Nat.reduceSub, impl_arePlaces_ok n _ h]
  refine ⟨fun h6 => by rw [goodT_nil (by omega)]; rfl, fun h6 => ⟨fun h7 => ⟨fun h8 => ⟨fun h9 => by rw [goodT_all (by omega) h7 h8 h9]; rfl, fun h9 => by simp [goodT, h9]⟩, fun h8 => by simp [goodT, h8]⟩, fun h7 => by simp [goodT, h7]⟩⟩
theorem slices_IndexFunc_sl_impl_Trans_impl_Trans_ok (l : List Tr) (g : FuncId) (caps : List PV) (hc : refsL caps = []) (hcv : ∀ m h, viewLWith [] m h caps = some caps) (p : Tr → Bool) (hp : ∀ x ∈ l, C g (encT x :: caps) [] = some (.bool (p x), [])) (hl : l.length < 2^62) :
    C f_slices_IndexFunc_sl_impl_Trans_impl_Trans [trs l, .clo g caps] [] = some (I (idxI l p), []) := by
  refine C_slices_IndexFunc_sl_impl_Trans_impl_Trans ?_
  simp (maxSteps := 2000000) (disch := (first | omega | (simp only [List.length_append, List.length_take, List.length_replicate, List.length_map, List.length_set, List.length_cons, List.length_nil, List.length_zipWith, List.length_drop, List.length_range]; first | done | omega))) only [ir_slices_IndexFunc_sl_impl_Trans_impl_Trans, go_sem, Nat.reduceAdd, Nat.reduceEqDiff, Nat.reduceLeDiff, Nat.reduceSub]
  refine W_for l.length (fun k s => s = ⟨[trs l, .clo g caps, .any, .any, I l.length, I k, .any, .any], []⟩ ∧ (l.take k).any p = false) ?_ ?_ ?_
  · simp (maxSteps := 2000000) (disch := (first | omega | (simp only [List.length_append, List.length_take, List.length_replicate, List.length_map, List.length_set, List.length_cons, List.length_nil, List.length_zipWith, List.length_drop, List.length_range]; first | done | omega))) only [go_sem, Nat.reduceAdd, Nat.reduceEqDiff, Nat.reduceLeDiff, Nat.reduceSub, hc]
    rfl
  · rintro k s hk ⟨rfl, hall⟩
    simp (maxSteps := 2000000) (disch := (first | omega | (simp only [List.length_append, List.length_take, List.length_replicate, List.length_map, List.length_set, List.length_cons, List.length_nil, List.length_zipWith, List.length_drop, List.length_range]; first | done | omega))) only [go_sem, Nat.reduceAdd, Nat.reduceEqDiff, Nat.reduceLeDiff, Nat.reduceSub, hc, hcv, hp _ (List.getElem_mem hk)]
    exact ⟨fun h => by rw [idxI_some hk hall h], fun h => ⟨rfl, any_take hk hall h⟩⟩
  · rintro s ⟨rfl, hall⟩
    simp (maxSteps := 2000000) (disch := (first | omega | (simp only [List.length_append, List.length_take, List.length_replicate, List.length_map, List.length_set, List.length_cons, List.length_nil, List.length_zipWith, List.length_drop, List.length_range]; first | done | omega))) only [go_sem, Nat.reduceAdd, Nat.reduceEqDiff, Nat.reduceLeDiff, Nat.reduceSub]
    rw [List.take_length] at hall
    rw [idxI_none hall]
theorem slices_ContainsFunc_sl_impl_Trans_impl_Trans_ok (l : List Tr) (g : FuncId) (caps : List PV) (hc : refsL caps = []) (hcv : ∀ m h, viewLWith [] m h caps = some caps) (p : Tr → Bool) (hp : ∀ x ∈ l, C g (encT x :: caps) [] = some (.bool (p x), [])) (hl : l.length < 2^62) :
    C f_slices_ContainsFunc_sl_impl_Trans_impl_Trans [trs l, .clo g caps] [] = some (.bool (l.any p), []) := by
  refine C_slices_ContainsFunc_sl_impl_Trans_impl_Trans ?_
  simp (maxSteps := 2000000) (disch := (first | omega | (simp only [List.length_append, List.length_take, List.length_replicate, List.length_map, List.length_set, List.length_cons, List.length_nil, List.length_zipWith, List.length_drop, List.length_range]; first | done | omega))) only [ir_slices_ContainsFunc_sl_impl_Trans_impl_Trans, go_sem, Nat.reduceAdd, Nat.reduceEqDiff, Nat.reduceLeDiff, Nat.reduceSub]
  simp (maxSteps := 2000000) (disch := (first | omega | (simp only [List.length_append, List.length_take, List.length_replicate, List.length_map, List.length_set, List.length_cons, List.length_nil, List.length_zipWith, List.length_drop, List.length_range]; first | done | omega))) only [go_sem, Nat.reduceAdd, Nat.reduceEqDiff, Nat.reduceLeDiff, Nat.reduceSub, hc, hcv, slices_IndexFunc_sl_impl_Trans_impl_Trans_ok l g caps hc hcv p hp hl]
  have := idxI_any l p
  grind
theorem impl_GoodNet_ok (n : Net) (hn : smN n) : C f_impl_GoodNet [encN n] [] = some (.bool (goodN n), []) := by
  have h0 := hn.1
  refine C_impl_GoodNet ?_
  simp (maxSteps := 2000000) (disch := (first | omega | (simp only [List.length_append, List.length_take, List.length_replicate, List.length_map, List.length_set, List.length_cons, List.length_nil, List.length_zipWith, List.length_drop, List.length_range]; first | done | omega))) only [ir_impl_GoodNet, go_sem, Nat.reduceAdd, Nat.reduceEqDiff, Nat.reduceLeDiff, Nat.reduceSub]
  simp (maxSteps := 2000000) (disch := (first | omega | (simp only [List.length_append, List.length_take, List.length_replicate, List.length_map, List.length_set, List.length_cons, List.length_nil, List.length_zipWith, List.length_drop, List.length_range]; first | done | omega))) only [go_sem, Nat.reduceAdd, Nat.reduceEqDiff, Nat.reduceLeDiff, Nat.reduceSub, impl_within_ok]
  refine ⟨fun h => ⟨fun h2 => ?_, fun h2 => ?_⟩, fun h => by simp [goodN, h]⟩
  · have hb : 1 ≤ n.pl ∧ n.pl ≤ 16 := by simpa [inB] using h
    have h3 := slices_ContainsFunc_sl_impl_Trans_impl_Trans_ok n.tr f_impl_GoodNet_1 [.pv (encN n) 0] rfl (fun _ _ => rfl) (fun t => !goodT n.pl t) (fun x hx => impl_GoodNet_1_ok n x hb (hn.2 x hx)) (by omega)
    simp (maxSteps := 2000000) (disch := (first | omega | (simp only [List.length_append, List.length_take, List.length_replicate, List.length_map, List.length_set, List.length_cons, List.length_nil, List.length_zipWith, List.length_drop, List.length_range]; first | done | omega))) only [go_sem, Nat.reduceAdd, Nat.reduceEqDiff, Nat.reduceLeDiff, Nat.reduceSub, h3]
    have : (n.tr.any fun t => !goodT n.pl t) = !n.tr.all (goodT n.pl) := by rw [List.any_eq_not_all_not]; simp
    have h4 : n.tr.length ≤ 24 := by omega
    simp only [this]
    simp [goodN, h, h4]
  · have : ¬ n.tr.length ≤ 24 := by omega
    simp [goodN, this]
theorem slices_Index_sl_int_int_ok (l : List Int) (x : Int) (hl : l.length < 2^62) : C f_slices_Index_sl_int_int [ints l, I x] [] = some (I (idxI l (fun y => y == x)), []) := by
  refine C_slices_Index_sl_int_int ?_
  simp (maxSteps := 2000000) (disch := (first | omega | (simp only [List.length_append, List.length_take, List.length_replicate, List.length_map, List.length_set, List.length_cons, List.length_nil, List.length_zipWith, List.length_drop, List.length_range]; first | done | omega))) only [ir_slices_Index_sl_int_int, go_sem, Nat.reduceAdd, Nat.reduceEqDiff, Nat.reduceLeDiff, Nat.reduceSub]
  refine W_for l.length (fun k s => s = ⟨[ints l, I x, .any, .any, I l.length, I k, .any, .any], []⟩ ∧ (l.take k).any (fun y => y == x) = false) ?_ ?_ ?_
  · simp (maxSteps := 2000000) (disch := (first | omega | (simp only [List.length_append, List.length_take, List.length_replicate, List.length_map, List.length_set, List.length_cons, List.length_nil, List.length_zipWith, List.length_drop, List.length_range]; first | done | omega))) only [go_sem, Nat.reduceAdd, Nat.reduceEqDiff, Nat.reduceLeDiff, Nat.reduceSub]
    rfl
  · rintro k s hk ⟨rfl, hall⟩
    simp (maxSteps := 2000000) (disch := (first | omega | (simp only [List.length_append, List.length_take, List.length_replicate, List.length_map, List.length_set, List.length_cons, List.length_nil, List.length_zipWith, List.length_drop, List.length_range]; first | done | omega))) only [go_sem, Nat.reduceAdd, Nat.reduceEqDiff, Nat.reduceLeDiff, Nat.reduceSub]
    refine ⟨fun h => ?_, fun h => ⟨rfl, any_take hk hall (by simpa using fun e => h e.symm)⟩⟩
    rw [idxI_some hk hall (by simpa using h.symm)]
  · rintro s ⟨rfl, hall⟩
    simp (maxSteps := 2000000) (disch := (first | omega | (simp only [List.length_append, List.length_take, List.length_replicate, List.length_map, List.length_set, List.length_cons, List.length_nil, List.length_zipWith, List.length_drop, List.length_range]; first | done | omega))) only [go_sem, Nat.reduceAdd, Nat.reduceEqDiff, Nat.reduceLeDiff, Nat.reduceSub]
    rw [List.take_length] at hall
    rw [idxI_none hall]
theorem slices_Contains_sl_int_int_ok (l : List Int) (x : Int) (hl : l.length < 2^62) : C f_slices_Contains_sl_int_int [ints l, I x] [] = some (.bool (hasB l x), []) := by
  refine C_slices_Contains_sl_int_int ?_
  simp (maxSteps := 2000000) (disch := (first | omega | (simp only [List.length_append, List.length_take, List.length_replicate, List.length_map, List.length_set, List.length_cons, List.length_nil, List.length_zipWith, List.length_drop, List.length_range]; first | done | omega))) only [ir_slices_Contains_sl_int_int, go_sem, Nat.reduceAdd, Nat.reduceEqDiff, Nat.reduceLeDiff, Nat.reduceSub]
  simp (maxSteps := 2000000) (disch := (first | omega | (simp only [List.length_append, List.length_take, List.length_replicate, List.length_map, List.length_set, List.length_cons, List.length_nil, List.length_zipWith, List.length_drop, List.length_range]; first | done | omega))) only [go_sem, Nat.reduceAdd, Nat.reduceEqDiff, Nat.reduceLeDiff, Nat.reduceSub, slices_Index_sl_int_int_ok l x hl]
  have := idxI_any l (fun y => y == x)
  rw [hasB_any, this]
  exact ⟨fun h => by simp [h], fun h => by rw [decide_eq_false (by omega)]⟩
theorem impl_reachedFrom_1_ok (x : Int) (P : List Bool) (h : 0 ≤ x ∧ x.toNat < P.length) : C f_impl_reachedFrom_1 [I x, .pv (.agg [bls P]) 0] [] = some (.bool (P.getD x.toNat false), []) := by
  obtain ⟨h1, h2⟩ := h
  refine C_impl_reachedFrom_1 ?_
  simp (maxSteps := 2000000) (disch := (first | omega | (simp only [List.length_append, List.length_take, List.length_replicate, List.length_map, List.length_set, List.length_cons, List.length_nil, List.length_zipWith, List.length_drop, List.length_range]; first | done | omega))) only [ir_impl_reachedFrom_1, go_sem, Nat.reduceAdd, Nat.reduceEqDiff, Nat.reduceLeDiff, Nat.reduceSub]
  rw [getD_eq h2]
  grind
theorem slices_IndexFunc_sl_int_int_ok (l : List Int) (g : FuncId) (caps : List PV) (hc : refsL caps = []) (hcv : ∀ m h, viewLWith [] m h caps = some caps) (p : Int → Bool) (hp : ∀ x ∈ l, C g (I x :: caps) [] = some (.bool (p x), [])) (hl : l.length < 2^62) :
    C f_slices_IndexFunc_sl_int_int [ints l, .clo g caps] [] = some (I (idxI l p), []) := by
  refine C_slices_IndexFunc_sl_int_int ?_
  simp (maxSteps := 2000000) (disch := (first | omega | (simp only [List.length_append, List.length_take, List.length_replicate, List.length_map, List.length_set, List.length_cons, List.length_nil, List.length_zipWith, List.length_drop, List.length_range]; first | done | omega))) only [ir_slices_IndexFunc_sl_int_int, go_sem, Nat.reduceAdd, Nat.reduceEqDiff, Nat.reduceLeDiff, Nat.reduceSub]
  refine W_for l.length (fun k s => s = ⟨[ints l, .clo g caps, .any, .any, I l.length, I k, .any, .any], []⟩ ∧ (l.take k).any p = false) ?_ ?_ ?_
  · simp (maxSteps := 2000000) (disch := (first | omega | (simp only [List.length_append, List.length_take, List.length_replicate, List.length_map, List.length_set, List.length_cons, List.length_nil, List.length_zipWith, List.length_drop, List.length_range]; first | done | omega))) only [go_sem, Nat.reduceAdd, Nat.reduceEqDiff, Nat.reduceLeDiff, Nat.reduceSub, hc]
    rfl
  · rintro k s hk ⟨rfl, hall⟩
    simp (maxSteps := 2000000) (disch := (first | omega | (simp only [List.length_append, List.length_take, List.length_replicate, List.length_map, List.length_set, List.length_cons, List.length_nil, List.length_zipWith, List.length_drop, List.length_range]; first | done | omega))) only [go_sem, Nat.reduceAdd, Nat.reduceEqDiff, Nat.reduceLeDiff, Nat.reduceSub, hc, hcv, hp _ (List.getElem_mem hk)]
    exact ⟨fun h => by rw [idxI_some hk hall h], fun h => ⟨rfl, any_take hk hall h⟩⟩
  · rintro s ⟨rfl, hall⟩
    simp (maxSteps := 2000000) (disch := (first | omega | (simp only [List.length_append, List.length_take, List.length_replicate, List.length_map, List.length_set, List.length_cons, List.length_nil, List.length_zipWith, List.length_drop, List.length_range]; first | done | omega))) only [go_sem, Nat.reduceAdd, Nat.reduceEqDiff, Nat.reduceLeDiff, Nat.reduceSub]
    rw [List.take_length] at hall
    rw [idxI_none hall]
theorem slices_ContainsFunc_sl_int_int_ok (l : List Int) (g : FuncId) (caps : List PV) (hc : refsL caps = []) (hcv : ∀ m h, viewLWith [] m h caps = some caps) (p : Int → Bool) (hp : ∀ x ∈ l, C g (I x :: caps) [] = some (.bool (p x), [])) (hl : l.length < 2^62) :
    C f_slices_ContainsFunc_sl_int_int [ints l, .clo g caps] [] = some (.bool (l.any p), []) := by
  refine C_slices_ContainsFunc_sl_int_int ?_
  simp (maxSteps := 2000000) (disch := (first | omega | (simp only [List.length_append, List.length_take, List.length_replicate, List.length_map, List.length_set, List.length_cons, List.length_nil, List.length_zipWith, List.length_drop, List.length_range]; first | done | omega))) only [ir_slices_ContainsFunc_sl_int_int, go_sem, Nat.reduceAdd, Nat.reduceEqDiff, Nat.reduceLeDiff, Nat.reduceSub]
  simp (maxSteps := 2000000) (disch := (first | omega | (simp only [List.length_append, List.length_take, List.length_replicate, List.length_map, List.length_set, List.length_cons, List.length_nil, List.length_zipWith, List.length_drop, List.length_range]; first | done | omega))) only [go_sem, Nat.reduceAdd, Nat.reduceEqDiff, Nat.reduceLeDiff, Nat.reduceSub, hc, hcv, slices_IndexFunc_sl_int_int_ok l g caps hc hcv p hp hl]
  have := idxI_any l p
  grind
theorem impl_reachedFrom_false (n : Net) (p : Int) (hg : goodN n = true) (hp : 0 ≤ p ∧ p < n.pl) : C f_impl_reachedFrom [encN n, I p, .bool false] [] = some (.tup [.un t_bool true 1 ((reachC n false p).pl.map PV.bool), .un t_bool true 1 ((reachC n false p).tr.map PV.bool)], []) := by
  have hb := goodN_parts hg
  have hlen := reachC_len n false p
  rw [reachC_eq] at hlen ⊢
  refine C_impl_reachedFrom ?_
  simp (maxSteps := 2000000) (disch := (first | omega | (simp only [List.length_append, List.length_take, List.length_replicate, List.length_map, List.length_set, List.length_cons, List.length_nil, List.length_zipWith, List.length_drop, List.length_range]; first | done | omega))) only [ir_impl_reachedFrom, go_sem, Nat.reduceAdd, Nat.reduceEqDiff, Nat.reduceLeDiff, Nat.reduceSub]
  simp (maxSteps := 2000000) (disch := (first | omega | (simp only [List.length_append, List.length_take, List.length_replicate, List.length_map, List.length_set, List.length_cons, List.length_nil, List.length_zipWith, List.length_drop, List.length_range]; first | done | omega))) only [go_sem, Nat.reduceAdd, Nat.reduceEqDiff, Nat.reduceLeDiff, Nat.reduceSub, List.getElem_replicate]
  generalize hR : clRun n false (cntF (List.replicate n.tr.length false) + 1) ⟨(List.replicate n.pl.toNat false).set p.toNat true, List.replicate n.tr.length false, true⟩ = R at *
  refine ⟨rfl, ?_⟩
  refine W_down (fun k s => ∃ c : Cl, c.pl.length = n.pl.toNat ∧ c.tr.length = n.tr.length ∧ ((k = cntF c.tr + 1 ∧ s = ⟨[.any, .any, .bool false, .ptr 0 0, .any, .any, .ptr 1 0, .ref 2 1 0 n.tr.length, .bool true, .any, .any, .any, .any, .any, .any, .any, .any, .any, .any, .any, .any, .any, .any, .any, .any], [.box t_impl_Net [I n.pl, trs n.tr], .box t_sl_bool [.ref 3 1 0 n.pl.toNat], .row t_bool true 1 (c.tr.map PV.bool), .row t_bool true 1 (c.pl.map PV.bool)]⟩ ∧ clRun n false (cntF c.tr + 1) c = R) ∨ (k = 0 ∧ s = ⟨[.any, .any, .bool false, .ptr 0 0, .any, .any, .ptr 1 0, .ref 2 1 0 n.tr.length, .bool false, .any, .any, .any, .any, .any, .any, .any, .any, .any, .any, .any, .any, .any, .any, .any, .any], [.box t_impl_Net [I n.pl, trs n.tr], .box t_sl_bool [.ref 3 1 0 n.pl.toNat], .row t_bool true 1 (c.tr.map PV.bool), .row t_bool true 1 (c.pl.map PV.bool)]⟩ ∧ c = R))) (cntF (List.replicate n.tr.length false) + 1) ?_ ?_
  · refine ⟨⟨(List.replicate n.pl.toNat false).set p.toNat true, List.replicate n.tr.length false, true⟩, by simp, by simp, .inl ⟨rfl, ?_, hR⟩⟩
    simp (maxSteps := 2000000) (disch := (first | omega | (simp only [List.length_append, List.length_take, List.length_replicate, List.length_map, List.length_set, List.length_cons, List.length_nil, List.length_zipWith, List.length_drop, List.length_range]; first | done | omega))) only [go_sem, Nat.reduceAdd, Nat.reduceEqDiff, Nat.reduceLeDiff, Nat.reduceSub]
    simp
  · rintro k0 s ⟨c, hc1, hc2, ⟨rfl, rfl, hc⟩ | ⟨rfl, rfl, rfl⟩⟩
    · have hcl := fun k => clK_len n false c k
      simp (maxSteps := 2000000) (disch := (first | omega | (simp only [List.length_append, List.length_take, List.length_replicate, List.length_map, List.length_set, List.length_cons, List.length_nil, List.length_zipWith, List.length_drop, List.length_range]; first | done | omega))) only [go_sem, Nat.reduceAdd, Nat.reduceEqDiff, Nat.reduceLeDiff, Nat.reduceSub]
      refine W_for n.tr.length (fun k s => s = ⟨[.any, .any, .bool false, .ptr 0 0, .any, .any, .ptr 1 0, .ref 2 1 0 n.tr.length, .bool (clK n false c k).ch, .any, .any, .any, .any, .any, .any, trs n.tr, I n.tr.length, I k, .any, .any, .any, .any, .any, .any, .any], [.box t_impl_Net [I n.pl, trs n.tr], .box t_sl_bool [.ref 3 1 0 n.pl.toNat], .row t_bool true 1 ((clK n false c k).tr.map PV.bool), .row t_bool true 1 ((clK n false c k).pl.map PV.bool)]⟩) ?_ ?_ ?_
      · simp (maxSteps := 2000000) (disch := (first | omega | (simp only [List.length_append, List.length_take, List.length_replicate, List.length_map, List.length_set, List.length_cons, List.length_nil, List.length_zipWith, List.length_drop, List.length_range]; first | done | omega))) only [go_sem, Nat.reduceAdd, Nat.reduceEqDiff, Nat.reduceLeDiff, Nat.reduceSub]
        rfl
      · rintro k s hk rfl
        have hT := hb.2.2.2 _ (List.getElem_mem hk)
        have hLs := goodT_lens hT (by omega)
        obtain ⟨_, g1, g2, g3⟩ := goodT_parts hT
        have p1 := places_in g1
        have p2 := places_in g2
        have hd := hcl k
        have hstep := clK_succ n false c k
        have htr : n.tr[k] = trN n k := (trN_eq hk).symm
        rw [htr] at hLs p1 p2
        have s1 : (clK n false c k).tr.getD k false = true → clK n false c (k + 1) = clK n false c k := fun h => hstep.trans (clStep_no (.inl h))
        have s2 : hitB (clK n false c k).pl (sideI false (trN n k)) = false → clK n false c (k + 1) = clK n false c k := fun h => hstep.trans (clStep_no (.inr h))
        have s3 : (clK n false c k).tr.getD k false = false → hitB (clK n false c k).pl (sideI false (trN n k)) = true → clK n false c (k + 1) = ⟨markB (clK n false c k).pl (sideO false (trN n k)), (clK n false c k).tr.set k true, true⟩ := fun h h2 => hstep.trans (clStep_yes h h2)
        simp only [sideI, sideO, Bool.false_eq_true, if_false, if_true] at s2 s3
        clear hstep
        generalize clK n false c k = d at *
        generalize clK n false c (k + 1) = d' at *
        have hcont := slices_ContainsFunc_sl_int_int_ok (trN n k).inn f_impl_reachedFrom_1 [.pv (.agg [bls d.pl]) 0] rfl (fun _ _ => rfl) (fun q => d.pl.getD q.toNat false) (fun x hx => impl_reachedFrom_1_ok x d.pl (by have := p1 x hx; omega)) (by omega)
        rw [show ((trN n k).inn.any fun q => d.pl.getD q.toNat false) = hitB d.pl (trN n k).inn from rfl] at hcont
        have hkd : k < d.tr.length := by omega
        simp (maxSteps := 2000000) (disch := (first | omega | (simp only [List.length_append, List.length_take, List.length_replicate, List.length_map, List.length_set, List.length_cons, List.length_nil, List.length_zipWith, List.length_drop, List.length_range]; first | done | omega))) only [go_sem, Nat.reduceAdd, Nat.reduceEqDiff, Nat.reduceLeDiff, Nat.reduceSub, htr, hcont]
        generalize trN n k = tr at *
        refine ⟨fun h3 => ?_, fun h3 => ⟨fun h => ?_, fun h => ?_⟩⟩
        · rw [s1 (by rw [← getD_eq hkd]; exact h3)]; rfl
        · have e := s3 (by rw [← getD_eq hkd]; exact h3) h
          subst e
          refine W_for tr.out.length (fun j s => s = ⟨[.any, .any, .bool false, .ptr 0 0, .any, .any, .ptr 1 0, .ref 2 1 0 n.tr.length, .bool true, .any, .any, .any, .any, .any, .any, trs n.tr, I n.tr.length, I k, .any, .any, .any, ints tr.out, I tr.out.length, I j, .any], [.box t_impl_Net [I n.pl, trs n.tr], .box t_sl_bool [.ref 3 1 0 n.pl.toNat], .row t_bool true 1 ((d.tr.set k true).map PV.bool), .row t_bool true 1 ((markB d.pl (tr.out.take j)).map PV.bool)]⟩) ?_ ?_ ?_
          · simp (maxSteps := 2000000) (disch := (first | omega | (simp only [List.length_append, List.length_take, List.length_replicate, List.length_map, List.length_set, List.length_cons, List.length_nil, List.length_zipWith, List.length_drop, List.length_range]; first | done | omega))) only [go_sem, Nat.reduceAdd, Nat.reduceEqDiff, Nat.reduceLeDiff, Nat.reduceSub]
            rfl
          · rintro j s hj rfl
            have h1 := p2 _ (List.getElem_mem hj)
            have h2 : tr.out[j].toNat < d.pl.length := by omega
            have h4 := markB_len d.pl (tr.out.take j)
            simp (maxSteps := 2000000) (disch := (first | omega | (simp only [List.length_append, List.length_take, List.length_replicate, List.length_map, List.length_set, List.length_cons, List.length_nil, List.length_zipWith, List.length_drop, List.length_range]; first | done | omega))) only [go_sem, Nat.reduceAdd, Nat.reduceEqDiff, Nat.reduceLeDiff, Nat.reduceSub]
            rw [markB_take hj]; rfl
          · rintro s rfl
            simp (maxSteps := 2000000) (disch := (first | omega | (simp only [List.length_append, List.length_take, List.length_replicate, List.length_map, List.length_set, List.length_cons, List.length_nil, List.length_zipWith, List.length_drop, List.length_range]; first | done | omega))) only [go_sem, Nat.reduceAdd, Nat.reduceEqDiff, Nat.reduceLeDiff, Nat.reduceSub, List.take_length]
            rfl
        · rw [s2 h]; rfl
      · rintro s rfl
        simp (maxSteps := 2000000) (disch := (first | omega | (simp only [List.length_append, List.length_take, List.length_replicate, List.length_map, List.length_set, List.length_cons, List.length_nil, List.length_zipWith, List.length_drop, List.length_range]; first | done | omega))) only [go_sem, Nat.reduceAdd, Nat.reduceEqDiff, Nat.reduceLeDiff, Nat.reduceSub]
        have hn := clRun_next (n := n) (bk := false) hc2
        rw [hc] at hn
        cases e : (clRound n false c).ch with
        | true =>
          have h1 := (clK_cnt (n := n) (bk := false) (s := c) (k := n.tr.length) (by omega)).2 e
          simp only [e, if_true] at hn
          refine ⟨cntF (clRound n false c).tr + 1, by unfold clRound; omega, clRound n false c, by unfold clRound; have := hcl n.tr.length; omega, by unfold clRound; have := hcl n.tr.length; omega, .inl ⟨rfl, ?_, hn.symm⟩⟩
          unfold clRound at e ⊢
          rw [e]
        | false =>
          simp only [e, Bool.false_eq_true, if_false] at hn
          refine ⟨0, by omega, clRound n false c, by unfold clRound; have := hcl n.tr.length; omega, by unfold clRound; have := hcl n.tr.length; omega, .inr ⟨rfl, ?_, hn.symm⟩⟩
          unfold clRound at e ⊢
          rw [e]
    · simp (maxSteps := 2000000) (disch := (first | omega | (simp only [List.length_append, List.length_take, List.length_replicate, List.length_map, List.length_set, List.length_cons, List.length_nil, List.length_zipWith, List.length_drop, List.length_range]; first | done | omega))) only [go_sem, Nat.reduceAdd, Nat.reduceEqDiff, Nat.reduceLeDiff, Nat.reduceSub]
theorem impl_reachedFrom_true (n : Net) (p : Int) (hg : goodN n = true) (hp : 0 ≤ p ∧ p < n.pl) : C f_impl_reachedFrom [encN n, I p, .bool true] [] = some (.tup [.un t_bool true 1 ((reachC n true p).pl.map PV.bool), .un t_bool true 1 ((reachC n true p).tr.map PV.bool)], []) := by
  have hb := goodN_parts hg
  have hlen := reachC_len n true p
  rw [reachC_eq] at hlen ⊢
  refine C_impl_reachedFrom ?_
  simp (maxSteps := 2000000) (disch := (first | omega | (simp only [List.length_append, List.length_take, List.length_replicate, List.length_map, List.length_set, List.length_cons, List.length_nil, List.length_zipWith, List.length_drop, List.length_range]; first | done | omega))) only [ir_impl_reachedFrom, go_sem, Nat.reduceAdd, Nat.reduceEqDiff, Nat.reduceLeDiff, Nat.reduceSub]
  simp (maxSteps := 2000000) (disch := (first | omega | (simp only [List.length_append, List.length_take, List.length_replicate, List.length_map, List.length_set, List.length_cons, List.length_nil, List.length_zipWith, List.length_drop, List.length_range]; first | done | omega))) only [go_sem, Nat.reduceAdd, Nat.reduceEqDiff, Nat.reduceLeDiff, Nat.reduceSub, List.getElem_replicate]
  generalize hR : clRun n true (cntF (List.replicate n.tr.length false) + 1) ⟨(List.replicate n.pl.toNat false).set p.toNat true, List.replicate n.tr.length false, true⟩ = R at *
  refine ⟨rfl, ?_⟩
  refine W_down (fun k s => ∃ c : Cl, c.pl.length = n.pl.toNat ∧ c.tr.length = n.tr.length ∧ ((k = cntF c.tr + 1 ∧ s = ⟨[.any, .any, .bool true, .ptr 0 0, .any, .any, .ptr 1 0, .ref 2 1 0 n.tr.length, .bool true, .any, .any, .any, .any, .any, .any, .any, .any, .any, .any, .any, .any, .any, .any, .any, .any], [.box t_impl_Net [I n.pl, trs n.tr], .box t_sl_bool [.ref 3 1 0 n.pl.toNat], .row t_bool true 1 (c.tr.map PV.bool), .row t_bool true 1 (c.pl.map PV.bool)]⟩ ∧ clRun n true (cntF c.tr + 1) c = R) ∨ (k = 0 ∧ s = ⟨[.any, .any, .bool true, .ptr 0 0, .any, .any, .ptr 1 0, .ref 2 1 0 n.tr.length, .bool false, .any, .any, .any, .any, .any, .any, .any, .any, .any, .any, .any, .any, .any, .any, .any, .any], [.box t_impl_Net [I n.pl, trs n.tr], .box t_sl_bool [.ref 3 1 0 n.pl.toNat], .row t_bool true 1 (c.tr.map PV.bool), .row t_bool true 1 (c.pl.map PV.bool)]⟩ ∧ c = R))) (cntF (List.replicate n.tr.length false) + 1) ?_ ?_
  · refine ⟨⟨(List.replicate n.pl.toNat false).set p.toNat true, List.replicate n.tr.length false, true⟩, by simp, by simp, .inl ⟨rfl, ?_, hR⟩⟩
    simp (maxSteps := 2000000) (disch := (first | omega | (simp only [List.length_append, List.length_take, List.length_replicate, List.length_map, List.length_set, List.length_cons, List.length_nil, List.length_zipWith, List.length_drop, List.length_range]; first | done | omega))) only [go_sem, Nat.reduceAdd, Nat.reduceEqDiff, Nat.reduceLeDiff, Nat.reduceSub]
    simp
  · rintro k0 s ⟨c, hc1, hc2, ⟨rfl, rfl, hc⟩ | ⟨rfl, rfl, rfl⟩⟩
    · have hcl := fun k => clK_len n true c k
      simp (maxSteps := 2000000) (disch := (first | omega | (simp only [List.length_append, List.length_take, List.length_replicate, List.length_map, List.length_set, List.length_cons, List.length_nil, List.length_zipWith, List.length_drop, List.length_range]; first | done | omega))) only [go_sem, Nat.reduceAdd, Nat.reduceEqDiff, Nat.reduceLeDiff, Nat.reduceSub]
      refine W_for n.tr.length (fun k s => s = ⟨[.any, .any, .bool true, .ptr 0 0, .any, .any, .ptr 1 0, .ref 2 1 0 n.tr.length, .bool (clK n true c k).ch, .any, .any, .any, .any, .any, .any, trs n.tr, I n.tr.length, I k, .any, .any, .any, .any, .any, .any, .any], [.box t_impl_Net [I n.pl, trs n.tr], .box t_sl_bool [.ref 3 1 0 n.pl.toNat], .row t_bool true 1 ((clK n true c k).tr.map PV.bool), .row t_bool true 1 ((clK n true c k).pl.map PV.bool)]⟩) ?_ ?_ ?_
      · simp (maxSteps := 2000000) (disch := (first | omega | (simp only [List.length_append, List.length_take, List.length_replicate, List.length_map, List.length_set, List.length_cons, List.length_nil, List.length_zipWith, List.length_drop, List.length_range]; first | done | omega))) only [go_sem, Nat.reduceAdd, Nat.reduceEqDiff, Nat.reduceLeDiff, Nat.reduceSub]
        rfl
      · rintro k s hk rfl
        have hT := hb.2.2.2 _ (List.getElem_mem hk)
        have hLs := goodT_lens hT (by omega)
        obtain ⟨_, g1, g2, g3⟩ := goodT_parts hT
        have p1 := places_in g2
        have p2 := places_in g1
        have hd := hcl k
        have hstep := clK_succ n true c k
        have htr : n.tr[k] = trN n k := (trN_eq hk).symm
        rw [htr] at hLs p1 p2
        have s1 : (clK n true c k).tr.getD k false = true → clK n true c (k + 1) = clK n true c k := fun h => hstep.trans (clStep_no (.inl h))
        have s2 : hitB (clK n true c k).pl (sideI true (trN n k)) = false → clK n true c (k + 1) = clK n true c k := fun h => hstep.trans (clStep_no (.inr h))
        have s3 : (clK n true c k).tr.getD k false = false → hitB (clK n true c k).pl (sideI true (trN n k)) = true → clK n true c (k + 1) = ⟨markB (clK n true c k).pl (sideO true (trN n k)), (clK n true c k).tr.set k true, true⟩ := fun h h2 => hstep.trans (clStep_yes h h2)
        simp only [sideI, sideO, Bool.false_eq_true, if_false, if_true] at s2 s3
        clear hstep
        generalize clK n true c k = d at *
        generalize clK n true c (k + 1) = d' at *
        have hcont := slices_ContainsFunc_sl_int_int_ok (trN n k).out f_impl_reachedFrom_1 [.pv (.agg [bls d.pl]) 0] rfl (fun _ _ => rfl) (fun q => d.pl.getD q.toNat false) (fun x hx => impl_reachedFrom_1_ok x d.pl (by have := p1 x hx; omega)) (by omega)
        rw [show ((trN n k).out.any fun q => d.pl.getD q.toNat false) = hitB d.pl (trN n k).out from rfl] at hcont
        have hkd : k < d.tr.length := by omega
        simp (maxSteps := 2000000) (disch := (first | omega | (simp only [List.length_append, List.length_take, List.length_replicate, List.length_map, List.length_set, List.length_cons, List.length_nil, List.length_zipWith, List.length_drop, List.length_range]; first | done | omega))) only [go_sem, Nat.reduceAdd, Nat.reduceEqDiff, Nat.reduceLeDiff, Nat.reduceSub, htr, hcont]
        generalize trN n k = tr at *
        refine ⟨fun h3 => ?_, fun h3 => ⟨fun h => ?_, fun h => ?_⟩⟩
        · rw [s1 (by rw [← getD_eq hkd]; exact h3)]; rfl
        · have e := s3 (by rw [← getD_eq hkd]; exact h3) h
          subst e
          refine W_for tr.inn.length (fun j s => s = ⟨[.any, .any, .bool true, .ptr 0 0, .any, .any, .ptr 1 0, .ref 2 1 0 n.tr.length, .bool true, .any, .any, .any, .any, .any, .any, trs n.tr, I n.tr.length, I k, .any, .any, .any, ints tr.inn, I tr.inn.length, I j, .any], [.box t_impl_Net [I n.pl, trs n.tr], .box t_sl_bool [.ref 3 1 0 n.pl.toNat], .row t_bool true 1 ((d.tr.set k true).map PV.bool), .row t_bool true 1 ((markB d.pl (tr.inn.take j)).map PV.bool)]⟩) ?_ ?_ ?_
          · simp (maxSteps := 2000000) (disch := (first | omega | (simp only [List.length_append, List.length_take, List.length_replicate, List.length_map, List.length_set, List.length_cons, List.length_nil, List.length_zipWith, List.length_drop, List.length_range]; first | done | omega))) only [go_sem, Nat.reduceAdd, Nat.reduceEqDiff, Nat.reduceLeDiff, Nat.reduceSub]
            rfl
          · rintro j s hj rfl
            have h1 := p2 _ (List.getElem_mem hj)
            have h2 : tr.inn[j].toNat < d.pl.length := by omega
            have h4 := markB_len d.pl (tr.inn.take j)
            simp (maxSteps := 2000000) (disch := (first | omega | (simp only [List.length_append, List.length_take, List.length_replicate, List.length_map, List.length_set, List.length_cons, List.length_nil, List.length_zipWith, List.length_drop, List.length_range]; first | done | omega))) only [go_sem, Nat.reduceAdd, Nat.reduceEqDiff, Nat.reduceLeDiff, Nat.reduceSub]
            rw [markB_take hj]; rfl
          · rintro s rfl
            simp (maxSteps := 2000000) (disch := (first | omega | (simp only [List.length_append, List.length_take, List.length_replicate, List.length_map, List.length_set, List.length_cons, List.length_nil, List.length_zipWith, List.length_drop, List.length_range]; first | done | omega))) only [go_sem, Nat.reduceAdd, Nat.reduceEqDiff, Nat.reduceLeDiff, Nat.reduceSub, List.take_length]
            rfl
        · rw [s2 h]; rfl
      · rintro s rfl
        simp (maxSteps := 2000000) (disch := (first | omega | (simp only [List.length_append, List.length_take, List.length_replicate, List.length_map, List.length_set, List.length_cons, List.length_nil, List.length_zipWith, List.length_drop, List.length_range]; first | done | omega))) only [go_sem, Nat.reduceAdd, Nat.reduceEqDiff, Nat.reduceLeDiff, Nat.reduceSub]
        have hn := clRun_next (n := n) (bk := true) hc2
        rw [hc] at hn
        cases e : (clRound n true c).ch with
        | true =>
          have h1 := (clK_cnt (n := n) (bk := true) (s := c) (k := n.tr.length) (by omega)).2 e
          simp only [e, if_true] at hn
          refine ⟨cntF (clRound n true c).tr + 1, by unfold clRound; omega, clRound n true c, by unfold clRound; have := hcl n.tr.length; omega, by unfold clRound; have := hcl n.tr.length; omega, .inl ⟨rfl, ?_, hn.symm⟩⟩
          unfold clRound at e ⊢
          rw [e]
        | false =>
          simp only [e, Bool.false_eq_true, if_false] at hn
          refine ⟨0, by omega, clRound n true c, by unfold clRound; have := hcl n.tr.length; omega, by unfold clRound; have := hcl n.tr.length; omega, .inr ⟨rfl, ?_, hn.symm⟩⟩
          unfold clRound at e ⊢
          rw [e]
    · simp (maxSteps := 2000000) (disch := (first | omega | (simp only [List.length_append, List.length_take, List.length_replicate, List.length_map, List.length_set, List.length_cons, List.length_nil, List.length_zipWith, List.length_drop, List.length_range]; first | done | omega))) only [go_sem, Nat.reduceAdd, Nat.reduceEqDiff, Nat.reduceLeDiff, Nat.reduceSub]
theorem impl_bothOf_ok (a b : List Bool) (ha : a.length < 2^30) (hab : a.length ≤ b.length) : C f_impl_bothOf [bls a, bls b] [] = some (.un t_int true 1 ((bothL a b).map I), []) := by
  refine C_impl_bothOf ?_
  simp (maxSteps := 2000000) (disch := (first | omega | (simp only [List.length_append, List.length_take, List.length_replicate, List.length_map, List.length_set, List.length_cons, List.length_nil, List.length_zipWith, List.length_drop, List.length_range]; first | done | omega))) only [ir_impl_bothOf, go_sem, Nat.reduceAdd, Nat.reduceEqDiff, Nat.reduceLeDiff, Nat.reduceSub]
  refine W_for a.length (fun k s => s = ⟨[.any, bls b, .any, .ref 0 1 0 (bothK a b k).length, .any, .any, bls a, I a.length, I k, .any, .any], [.row t_int true 1 ((bothK a b k).map I)]⟩) ?_ ?_ ?_
  · simp (maxSteps := 2000000) (disch := (first | omega | (simp only [List.length_append, List.length_take, List.length_replicate, List.length_map, List.length_set, List.length_cons, List.length_nil, List.length_zipWith, List.length_drop, List.length_range]; first | done | omega))) only [go_sem, Nat.reduceAdd, Nat.reduceEqDiff, Nat.reduceLeDiff, Nat.reduceSub]
    rfl
  · rintro k s hk rfl
    have h2 := bothK_len a b k
    have hkb : k < b.length := by omega
    have e1 := getD_eq hk
    have e2 := getD_eq hkb
    simp (maxSteps := 2000000) (disch := (first | omega | (simp only [List.length_append, List.length_take, List.length_replicate, List.length_map, List.length_set, List.length_cons, List.length_nil, List.length_zipWith, List.length_drop, List.length_range]; first | done | omega))) only [go_sem, Nat.reduceAdd, Nat.reduceEqDiff, Nat.reduceLeDiff, Nat.reduceSub]
    rw [e1, e2]
    refine ⟨fun h => ⟨fun h3 => ?_, fun h3 => ?_⟩, fun h => ?_⟩
    · rw [bothK_t h h3, List.map_append]; simp
    · rw [bothK_f (by rw [h, h3]; rfl)]; rfl
    · rw [bothK_f (by rw [h]; rfl)]; rfl
  · rintro s rfl
    simp (maxSteps := 2000000) (disch := (first | omega | (simp only [List.length_append, List.length_take, List.length_replicate, List.length_map, List.length_set, List.length_cons, List.length_nil, List.length_zipWith, List.length_drop, List.length_range]; first | done | omega))) only [go_sem, Nat.reduceAdd, Nat.reduceEqDiff, Nat.reduceLeDiff, Nat.reduceSub]
    rfl
theorem impl_onWay_ok (n : Net) (a b : Int) (hg : goodN n = true) (ha : 0 ≤ a ∧ a < n.pl) (hb2 : 0 ≤ b ∧ b < n.pl) : C f_impl_onWay [encN n, I a, I b] [] = some (.tup [.un t_int true 1 ((wayP n a b).map I), .un t_int true 1 ((wayT n a b).map I)], []) := by
  have hb := goodN_parts hg
  have l1 := reachC_len n false a
  have l2 := reachC_len n true b
  refine C_impl_onWay ?_
  simp (maxSteps := 2000000) (disch := (first | omega | (simp only [List.length_append, List.length_take, List.length_replicate, List.length_map, List.length_set, List.length_cons, List.length_nil, List.length_zipWith, List.length_drop, List.length_range]; first | done | omega))) only [ir_impl_onWay, go_sem, Nat.reduceAdd, Nat.reduceEqDiff, Nat.reduceLeDiff, Nat.reduceSub]
  simp (maxSteps := 2000000) (disch := (first | omega | (simp only [List.length_append, List.length_take, List.length_replicate, List.length_map, List.length_set, List.length_cons, List.length_nil, List.length_zipWith, List.length_drop, List.length_range]; first | done | omega))) only [go_sem, Nat.reduceAdd, Nat.reduceEqDiff, Nat.reduceLeDiff, Nat.reduceSub, impl_reachedFrom_false n a hg ha, impl_reachedFrom_true n b hg hb2]
  simp (maxSteps := 2000000) (disch := (first | omega | (simp only [List.length_append, List.length_take, List.length_replicate, List.length_map, List.length_set, List.length_cons, List.length_nil, List.length_zipWith, List.length_drop, List.length_range]; first | done | omega))) only [go_sem, Nat.reduceAdd, Nat.reduceEqDiff, Nat.reduceLeDiff, Nat.reduceSub, impl_bothOf_ok (reachC n false a).pl (reachC n true b).pl (by omega) (by omega), impl_bothOf_ok (reachC n false a).tr (reachC n true b).tr (by omega) (by omega)]
  rfl
theorem impl_GoodFlow_ok (f : Fl) (hf : smN f.net) : C f_impl_GoodFlow [encF f] [] = some (.bool (goodFl f), []) := by
  have hl := hf.1
  refine C_impl_GoodFlow ?_
  simp (maxSteps := 2000000) (disch := (first | omega | (simp only [List.length_append, List.length_take, List.length_replicate, List.length_map, List.length_set, List.length_cons, List.length_nil, List.length_zipWith, List.length_drop, List.length_range]; first | done | omega))) only [ir_impl_GoodFlow, go_sem, Nat.reduceAdd, Nat.reduceEqDiff, Nat.reduceLeDiff, Nat.reduceSub]
  simp (maxSteps := 2000000) (disch := (first | omega | (simp only [List.length_append, List.length_take, List.length_replicate, List.length_map, List.length_set, List.length_cons, List.length_nil, List.length_zipWith, List.length_drop, List.length_range]; first | done | omega))) only [go_sem, Nat.reduceAdd, Nat.reduceEqDiff, Nat.reduceLeDiff, Nat.reduceSub, impl_GoodNet_ok f.net hf, impl_within_ok]
  cases hg : goodN f.net with
  | false => simp [goodFl, okWay, hg]
  | true =>
    have hb := goodN_parts hg
    cases h1 : inB 0 (f.net.pl - 1) f.src with
    | false => simp (maxSteps := 2000000) (disch := (first | omega | (simp only [List.length_append, List.length_take, List.length_replicate, List.length_map, List.length_set, List.length_cons, List.length_nil, List.length_zipWith, List.length_drop, List.length_range]; first | done | omega))) only [go_sem, Nat.reduceAdd, Nat.reduceEqDiff, Nat.reduceLeDiff, Nat.reduceSub, h1]; simp [goodFl, okWay, hg, h1]
    | true =>
      cases h2 : inB 0 (f.net.pl - 1) f.dst with
      | false => simp (maxSteps := 2000000) (disch := (first | omega | (simp only [List.length_append, List.length_take, List.length_replicate, List.length_map, List.length_set, List.length_cons, List.length_nil, List.length_zipWith, List.length_drop, List.length_range]; first | done | omega))) only [go_sem, Nat.reduceAdd, Nat.reduceEqDiff, Nat.reduceLeDiff, Nat.reduceSub, h1, h2]; simp [goodFl, okWay, hg, h1, h2]
      | true =>
        have hok : okWay f.net f.src f.dst = true := by simp [okWay, hg, h1, h2]
        have ha : 0 ≤ f.src ∧ f.src < f.net.pl := by simp [inB] at h1; omega
        have hb2 : 0 ≤ f.dst ∧ f.dst < f.net.pl := by simp [inB] at h2; omega
        have hP : (wayP f.net f.src f.dst).length < 2^62 := by
          have h1 := bothK_len (reachC f.net false f.src).pl (reachC f.net true f.dst).pl (reachC f.net false f.src).pl.length
          have h2 := reachC_len f.net false f.src
          unfold wayP bothL; omega
        have hT : (wayT f.net f.src f.dst).length < 2^62 := by
          have h1 := bothK_len (reachC f.net false f.src).tr (reachC f.net true f.dst).tr (reachC f.net false f.src).tr.length
          have h2 := reachC_len f.net false f.src
          unfold wayT bothL; omega
        simp (maxSteps := 2000000) (disch := (first | omega | (simp only [List.length_append, List.length_take, List.length_replicate, List.length_map, List.length_set, List.length_cons, List.length_nil, List.length_zipWith, List.length_drop, List.length_range]; first | done | omega))) only [go_sem, Nat.reduceAdd, Nat.reduceEqDiff, Nat.reduceLeDiff, Nat.reduceSub, h1, h2]
        refine ⟨fun h => by simp [goodFl, h], fun hne => ?_⟩
        refine W_for f.net.tr.length (fun k s => s = ⟨[.any, .ptr 0 0, .any, .ptr 1 0, .any, .any, .any, .any, trs f.net.tr, I f.net.tr.length, I k, .any, .any], [.box t_impl_Flow [I f.net.pl, trs f.net.tr, I f.src, I f.dst], .box t_impl_Net [I f.net.pl, trs f.net.tr]]⟩ ∧ (f.net.tr.take k).all (fun t => !spoils f t) = true) ?_ ?_ ?_
        · simp (maxSteps := 2000000) (disch := (first | omega | (simp only [List.length_append, List.length_take, List.length_replicate, List.length_map, List.length_set, List.length_cons, List.length_nil, List.length_zipWith, List.length_drop, List.length_range]; first | done | omega))) only [go_sem, Nat.reduceAdd, Nat.reduceEqDiff, Nat.reduceLeDiff, Nat.reduceSub]
          rfl
        · rintro k s hk ⟨rfl, hall⟩
          have hT := hb.2.2.2 _ (List.getElem_mem hk)
          have hLs := goodT_lens hT (by omega)
          simp (maxSteps := 2000000) (disch := (first | omega | (simp only [List.length_append, List.length_take, List.length_replicate, List.length_map, List.length_set, List.length_cons, List.length_nil, List.length_zipWith, List.length_drop, List.length_range]; first | done | omega))) only [go_sem, Nat.reduceAdd, Nat.reduceEqDiff, Nat.reduceLeDiff, Nat.reduceSub, slices_Contains_sl_int_int_ok]
          have gs : spoils f f.net.tr[k] = true → goodFl f = false := fun hs => by
            have : (f.net.tr.all fun t => !spoils f t) = false := all_false hk (by simp [hs])
            simp [goodFl, this]
          exact ⟨fun a => by rw [gs (by simp [spoils, a])], fun a => ⟨fun b => by rw [gs (by simp [spoils, b])], fun b => ⟨fun c => by rw [gs (by simp [spoils, c])], fun c => ⟨fun d => by rw [gs (by simp [spoils, d])], fun d => ⟨rfl, all_take hk hall (by simp [spoils, a, b, c, d])⟩⟩⟩⟩⟩
        · rintro s ⟨rfl, hall⟩
          rw [List.take_length] at hall
          simp (maxSteps := 2000000) (disch := (first | omega | (simp only [List.length_append, List.length_take, List.length_replicate, List.length_map, List.length_set, List.length_cons, List.length_nil, List.length_zipWith, List.length_drop, List.length_range]; first | done | omega))) only [go_sem, Nat.reduceAdd, Nat.reduceEqDiff, Nat.reduceLeDiff, Nat.reduceSub, impl_onWay_ok f.net f.src f.dst hg ha hb2]
          have e : goodFl f = (decide (((wayP f.net f.src f.dst).length : Int) = f.net.pl) && decide ((wayT f.net f.src f.dst).length = f.net.tr.length)) := by
            simp only [goodFl, hok, hne, hall, decide_false, Bool.not_false, Bool.true_and]
          refine ⟨fun q1 => ⟨fun q2 => ?_, fun q2 => ?_⟩, fun q1 => ?_⟩
          · rw [e, decide_eq_true q1, decide_eq_true (by omega)]; rfl
          · rw [e, decide_eq_true q1, decide_eq_false (by omega)]; rfl
          · rw [e, decide_eq_false q1]; rfl
theorem impl_TreeFlow_ok (l : List Br) (hl : l.length < 2^36) : C f_impl_TreeFlow [brs l] [] = some (match tfV l with | some r => .tup [.agg [I r.1.net.pl, .unn t_impl_Trans 3 (r.1.net.tr.map encT), I 0, I 1], .un t_int true 1 (r.2.map I), .bool true] | none => .tup [.agg [I 0, .nil false 3, I 0, I 0], .un t_int true 1 [], .bool false], []) := by
  have hg := impl_isTree_ok l (by omega)
  refine C_impl_TreeFlow ?_
  simp (maxSteps := 2000000) (disch := (first | omega | (simp only [List.length_append, List.length_take, List.length_replicate, List.length_map, List.length_set, List.length_cons, List.length_nil, List.length_zipWith, List.length_drop, List.length_range]; first | done | omega))) only [ir_impl_TreeFlow, go_sem, Nat.reduceAdd, Nat.reduceEqDiff, Nat.reduceLeDiff, Nat.reduceSub]
  cases g : goodTree l with
  | false =>
    rw [g] at hg
    rw [tfV_bad g]
    simp (maxSteps := 2000000) (disch := (first | omega | (simp only [List.length_append, List.length_take, List.length_replicate, List.length_map, List.length_set, List.length_cons, List.length_nil, List.length_zipWith, List.length_drop, List.length_range]; first | done | omega))) only [go_sem, Nat.reduceAdd, Nat.reduceEqDiff, Nat.reduceLeDiff, Nat.reduceSub, hg]
  | true =>
    rw [g] at hg
    obtain ⟨h15, T, hw, hp, hT⟩ := goodTree_ok g
    rw [tfV_good g hT]
    have hpa := impl_parsed_ok l T h15 hT
    have hnl := T.nds_len 0
    rw [hp] at hnl
    have hb := impl_treeBuild_build_nil T [] [] 0 1 2 hw (by simpa [hp, hnl] using h15) (by omega) (by rw [hp]; omega)
    rw [show T.bld 0 1 ⟨2, [], []⟩ = T.all from rfl] at hb
    have hgf := impl_GoodFlow_ok T.flow (T.flow_sm (by rw [hp]; omega))
    have ok := T.all_ok
    rw [hp] at ok
    simp only [List.nil_append, List.append_nil, hp, List.length_nil, tb0, tbF, hnl] at hb
    rw [show (((0 : Nat) : Int) + (l.length : Int) - 1) = (l.length : Int) - 1 by omega] at hb
    have hl1 : 1 ≤ l.length := by rw [← hp]; exact T.post_pos
    unfold encF trs PT.flow at hgf
    unfold PT.flow
    generalize goodFl _ = gf at *
    simp only at hgf ⊢
    generalize T.all = B at *
    obtain ⟨p1, t1, l1⟩ := B
    simp only at ok hb hgf ⊢
    cases gf with
    | true =>
      simp (maxSteps := 2000000) (disch := (first | omega | (simp only [List.length_append, List.length_take, List.length_replicate, List.length_map, List.length_set, List.length_cons, List.length_nil, List.length_zipWith, List.length_drop, List.length_range]; first | done | omega))) only [go_sem, Nat.reduceAdd, Nat.reduceEqDiff, Nat.reduceLeDiff, Nat.reduceSub, hg, hpa, hnl, hb, hgf]
      rfl
    | false =>
      simp (maxSteps := 2000000) (disch := (first | omega | (simp only [List.length_append, List.length_take, List.length_replicate, List.length_map, List.length_set, List.length_cons, List.length_nil, List.length_zipWith, List.length_drop, List.length_range]; first | done | omega))) only [go_sem, Nat.reduceAdd, Nat.reduceEqDiff, Nat.reduceLeDiff, Nat.reduceSub, hg, hpa, hnl, hb, hgf]
theorem laws_eqIntS_ok (a b : List Int) (ha : a.length < 2^62) (hb : b.length < 2^62) : C f_laws_eqIntS [ints a, ints b] [] = some (.bool (decide (a = b)), []) := by
  refine C_laws_eqIntS ?_
  simp (maxSteps := 2000000) (disch := (first | omega | (simp only [List.length_append, List.length_take, List.length_replicate, List.length_map, List.length_set, List.length_cons, List.length_nil, List.length_zipWith, List.length_drop, List.length_range]; first | done | omega))) only [ir_laws_eqIntS, go_sem, Nat.reduceAdd, Nat.reduceEqDiff, Nat.reduceLeDiff, Nat.reduceSub]
  refine ⟨fun h => ?_, fun h => ?_⟩
  · rw [decide_eq_false]
    rintro rfl
    omega
  have hl : a.length = b.length := by omega
  refine W_for a.length (fun k s => s = ⟨[ints a, ints b, .any, I k, .any, .any, .any], []⟩ ∧ a.take k = b.take k) ?_ ?_ ?_
  · simp (maxSteps := 2000000) (disch := (first | omega | (simp only [List.length_append, List.length_take, List.length_replicate, List.length_map, List.length_set, List.length_cons, List.length_nil, List.length_zipWith, List.length_drop, List.length_range]; first | done | omega))) only [go_sem, Nat.reduceAdd, Nat.reduceEqDiff, Nat.reduceLeDiff, Nat.reduceSub]
    rfl
  · rintro k s hk ⟨rfl, he⟩
    simp (maxSteps := 2000000) (disch := (first | omega | (simp only [List.length_append, List.length_take, List.length_replicate, List.length_map, List.length_set, List.length_cons, List.length_nil, List.length_zipWith, List.length_drop, List.length_range]; first | done | omega))) only [go_sem, Nat.reduceAdd, Nat.reduceEqDiff, Nat.reduceLeDiff, Nat.reduceSub]
    refine ⟨fun h => ?_, fun h => ⟨rfl, dec_take hk (by omega) he h⟩⟩
    rw [dec_ne hk (by omega) h]
  · rintro s ⟨rfl, he⟩
    simp (maxSteps := 2000000) (disch := (first | omega | (simp only [List.length_append, List.length_take, List.length_replicate, List.length_map, List.length_set, List.length_cons, List.length_nil, List.length_zipWith, List.length_drop, List.length_range]; first | done | omega))) only [go_sem, Nat.reduceAdd, Nat.reduceEqDiff, Nat.reduceLeDiff, Nat.reduceSub]
    rw [List.take_length, take_all (by omega)] at he
    simp [he]
theorem laws_eqTrans_ok (a b : Tr) (ha : smT a) (hb : smT b) : C f_laws_eqTrans [encT a, encT b] [] = some (.bool (decide (a = b)), []) := by
  obtain ⟨a1, a2, a3⟩ := ha
  obtain ⟨b1, b2, b3⟩ := hb
  have e : (a = b) ↔ a.inn = b.inn ∧ a.out = b.out ∧ a.rst = b.rst := by
    cases a; cases b; simp
  simp only [e]
  refine C_laws_eqTrans ?_
  simp (maxSteps := 2000000) (disch := (first | omega | (simp only [List.length_append, List.length_take, List.length_replicate, List.length_map, List.length_set, List.length_cons, List.length_nil, List.length_zipWith, List.length_drop, List.length_range]; first | done | omega))) only [ir_laws_eqTrans, go_sem, Nat.reduceAdd, Nat.reduceEqDiff, Nat.reduceLeDiff, Nat.reduceSub]
  simp (maxSteps := 2000000) (disch := (first | omega | (simp only [List.length_append, List.length_take, List.length_replicate, List.length_map, List.length_set, List.length_cons, List.length_nil, List.length_zipWith, List.length_drop, List.length_range]; first | done | omega))) only [go_sem, Nat.reduceAdd, Nat.reduceEqDiff, Nat.reduceLeDiff, Nat.reduceSub, laws_eqIntS_ok]
  grind
theorem laws_eqTransS_ok (a b : List Tr) (ha : a.length < 2^62) (hb : b.length < 2^62) (ha2 : ∀ t ∈ a, smT t) (hb2 : ∀ t ∈ b, smT t) : C f_laws_eqTransS [trs a, trs b] [] = some (.bool (decide (a = b)), []) := by
  refine C_laws_eqTransS ?_
  simp (maxSteps := 2000000) (disch := (first | omega | (simp only [List.length_append, List.length_take, List.length_replicate, List.length_map, List.length_set, List.length_cons, List.length_nil, List.length_zipWith, List.length_drop, List.length_range]; first | done | omega))) only [ir_laws_eqTransS, go_sem, Nat.reduceAdd, Nat.reduceEqDiff, Nat.reduceLeDiff, Nat.reduceSub]
  refine ⟨fun h => ?_, fun h => ?_⟩
  · rw [decide_eq_false]
    rintro rfl
    omega
  have hl : a.length = b.length := by omega
  refine W_for a.length (fun k s => s = ⟨[trs a, trs b, .any, I k, .any, .any, .any], []⟩ ∧ a.take k = b.take k) ?_ ?_ ?_
  · simp (maxSteps := 2000000) (disch := (first | omega | (simp only [List.length_append, List.length_take, List.length_replicate, List.length_map, List.length_set, List.length_cons, List.length_nil, List.length_zipWith, List.length_drop, List.length_range]; first | done | omega))) only [go_sem, Nat.reduceAdd, Nat.reduceEqDiff, Nat.reduceLeDiff, Nat.reduceSub]
    rfl
  · rintro k s hk ⟨rfl, he⟩
    have hk2 : k < b.length := by omega
    simp (maxSteps := 2000000) (disch := (first | omega | (simp only [List.length_append, List.length_take, List.length_replicate, List.length_map, List.length_set, List.length_cons, List.length_nil, List.length_zipWith, List.length_drop, List.length_range]; first | done | omega))) only [go_sem, Nat.reduceAdd, Nat.reduceEqDiff, Nat.reduceLeDiff, Nat.reduceSub, laws_eqTrans_ok _ _ (ha2 _ (List.getElem_mem hk)) (hb2 _ (List.getElem_mem hk2))]
    refine ⟨fun h => ⟨rfl, dec_take hk (by omega) he h⟩, fun h => ?_⟩
    rw [dec_ne hk (by omega) h]
  · rintro s ⟨rfl, he⟩
    simp (maxSteps := 2000000) (disch := (first | omega | (simp only [List.length_append, List.length_take, List.length_replicate, List.length_map, List.length_set, List.length_cons, List.length_nil, List.length_zipWith, List.length_drop, List.length_range]; first | done | omega))) only [go_sem, Nat.reduceAdd, Nat.reduceEqDiff, Nat.reduceLeDiff, Nat.reduceSub]
    rw [List.take_length, take_all (by omega)] at he
    simp [he]
theorem laws_eqNet_ok (a b : Net) (ha : smN a) (hb : smN b) : C f_laws_eqNet [encN a, encN b] [] = some (.bool (decide (a = b)), []) := by
  obtain ⟨a1, a2⟩ := ha
  obtain ⟨b1, b2⟩ := hb
  have e : (a = b) ↔ a.pl = b.pl ∧ a.tr = b.tr := by
    cases a; cases b; simp
  simp only [e]
  refine C_laws_eqNet ?_
  simp (maxSteps := 2000000) (disch := (first | omega | (simp only [List.length_append, List.length_take, List.length_replicate, List.length_map, List.length_set, List.length_cons, List.length_nil, List.length_zipWith, List.length_drop, List.length_range]; first | done | omega))) only [ir_laws_eqNet, go_sem, Nat.reduceAdd, Nat.reduceEqDiff, Nat.reduceLeDiff, Nat.reduceSub]
  refine ⟨fun h => by simp [h], fun h1 => ?_⟩
  simp (maxSteps := 2000000) (disch := (first | omega | (simp only [List.length_append, List.length_take, List.length_replicate, List.length_map, List.length_set, List.length_cons, List.length_nil, List.length_zipWith, List.length_drop, List.length_range]; first | done | omega))) only [go_sem, Nat.reduceAdd, Nat.reduceEqDiff, Nat.reduceLeDiff, Nat.reduceSub, laws_eqTransS_ok a.tr b.tr (by omega) (by omega) a2 b2]
  grind
theorem laws_eqFlow_ok (a b : Fl) (ha : smN a.net) (hb : smN b.net) : C f_laws_eqFlow [encF a, encF b] [] = some (.bool (decide (a.net = b.net ∧ a.src = b.src ∧ a.dst = b.dst)), []) := by
  refine C_laws_eqFlow ?_
  simp (maxSteps := 2000000) (disch := (first | omega | (simp only [List.length_append, List.length_take, List.length_replicate, List.length_map, List.length_set, List.length_cons, List.length_nil, List.length_zipWith, List.length_drop, List.length_range]; first | done | omega))) only [ir_laws_eqFlow, go_sem, Nat.reduceAdd, Nat.reduceEqDiff, Nat.reduceLeDiff, Nat.reduceSub]
  simp (maxSteps := 2000000) (disch := (first | omega | (simp only [List.length_append, List.length_take, List.length_replicate, List.length_map, List.length_set, List.length_cons, List.length_nil, List.length_zipWith, List.length_drop, List.length_range]; first | done | omega))) only [go_sem, Nat.reduceAdd, Nat.reduceEqDiff, Nat.reduceLeDiff, Nat.reduceSub, laws_eqNet_ok a.net b.net ha hb]
  grind
end Go.Proofs.Ytkkifebmicbbaaa.Pi
