/- The functions that the law reaches: what they answer. Conditions: those that each theorem names. -/
import Derived.Test.YtoimodnlefadhaaDoorIrFnExactTreeText
import Derived.Test.YtoimodnlefadhaaDoorPlBase
import Derived.Test.YtoimodnlefadhaaDoorPlNet
import Derived.Test.YtoimodnlefadhaaDoorPlFire
import Derived.Test.YtoimodnlefadhaaDoorPlTurn
import Derived.Test.YtoimodnlefadhaaDoorPlBack
import Derived.Test.YtoimodnlefadhaaDoorPlFlow
import Derived.Test.YtoimodnlefadhaaDoorPlMask
import Derived.Test.YtoimodnlefadhaaDoorPlSpec
import Derived.Test.YtoimodnlefadhaaDoorPlArg
import Derived.Test.YtoimodnlefadhaaDoorPlTree
import Derived.Test.YtoimodnlefadhaaDoorPlText
namespace Go.Proofs.YtoimodnlefadhaaDoor.Pi
open Go
set_option linter.all false
set_option maxHeartbeats 4000000
set_option maxRecDepth 20000
theorem laws_szBranchS_ok (l : List Br) (left : Int) (h0 : 0 ≤ left) (h1 : left ≤ 1048576) (hl : l.length < 2^63) : C f_laws_szBranchS [brs l, I left] [] = some (I (if left - l.length < 0 then -1 else left - l.length), []) := by
  refine C_laws_szBranchS ?_
  simp (maxSteps := 2000000) (disch := (first | omega | (simp only [List.length_append, List.length_take, List.length_replicate, List.length_map, List.length_set, List.length_cons, List.length_nil, List.length_zipWith, List.length_drop, List.length_range]; first | done | omega))) only [ir_laws_szBranchS, go_sem, Nat.reduceAdd, Nat.reduceEqDiff, Nat.reduceLeDiff, Nat.reduceSub]
  refine ⟨fun h => by rw [if_pos h], fun h => by rw [if_neg (by omega)]⟩
theorem laws_toBranch_ok (b : Br) : C f_laws_toBranch [encB b] [] = some (encB b, []) := by
  refine C_laws_toBranch ?_
  simp (maxSteps := 2000000) (disch := (first | omega | (simp only [List.length_append, List.length_take, List.length_replicate, List.length_map, List.length_set, List.length_cons, List.length_nil, List.length_zipWith, List.length_drop, List.length_range]; first | done | omega))) only [ir_laws_toBranch, go_sem, Nat.reduceAdd, Nat.reduceEqDiff, Nat.reduceLeDiff, Nat.reduceSub]
theorem laws_toBranchS_ok (l : List Br) (hl : l.length ≤ 2^36) : C f_laws_toBranchS [brs l] [] = some (.un t_impl_Branch true 2 (l.map encB), []) := by
  refine C_laws_toBranchS ?_
  simp (maxSteps := 2000000) (disch := (first | omega | (simp only [List.length_append, List.length_take, List.length_replicate, List.length_map, List.length_set, List.length_cons, List.length_nil, List.length_zipWith, List.length_drop, List.length_range]; first | done | omega))) only [ir_laws_toBranchS, go_sem, Nat.reduceAdd, Nat.reduceEqDiff, Nat.reduceLeDiff, Nat.reduceSub]
  refine W_for l.length (fun k st => st = ⟨[brs l, .any, .ref 0 2 0 l.length, I k, .any], [.row t_impl_Branch true 2 ((padB l k).map encB)]⟩) ?_ ?_ ?_
  · simp (maxSteps := 2000000) (disch := (first | omega | (simp only [List.length_append, List.length_take, List.length_replicate, List.length_map, List.length_set, List.length_cons, List.length_nil, List.length_zipWith, List.length_drop, List.length_range]; first | done | omega))) only [go_sem, Nat.reduceAdd, Nat.reduceEqDiff, Nat.reduceLeDiff, Nat.reduceSub]
    rw [padB_zero]
    simp
  · rintro k st hk rfl
    have h1 := padB_len (l := l) (k := k) (by omega)
    have h2 := padB_step hk
    have h3 := padB_at hk
    have h4 := laws_toBranch_ok l[k]
    rw [← h2]
    generalize padB l k = M at *
    have hlk : l[k]? = some l[k] := List.getElem?_eq_getElem hk
    generalize l[k] = m at *
    obtain ⟨mt, mb⟩ := m
    simp (maxSteps := 2000000) (disch := (first | omega | (simp only [List.length_append, List.length_take, List.length_replicate, List.length_map, List.length_set, List.length_cons, List.length_nil, List.length_zipWith, List.length_drop, List.length_range]; first | done | omega))) only [go_sem, Nat.reduceAdd, Nat.reduceEqDiff, Nat.reduceLeDiff, Nat.reduceSub, hlk, h4, h1, h3]
    rw [List.map_set]; rfl
  · rintro st rfl
    have h1 := padB_len (l := l) (k := l.length) (by omega)
    simp (maxSteps := 2000000) (disch := (first | omega | (simp only [List.length_append, List.length_take, List.length_replicate, List.length_map, List.length_set, List.length_cons, List.length_nil, List.length_zipWith, List.length_drop, List.length_range]; first | done | omega))) only [go_sem, Nat.reduceAdd, Nat.reduceEqDiff, Nat.reduceLeDiff, Nat.reduceSub, h1]
    rw [padB_all]
theorem spec_l1In_ok (n lo hi : Int) : C f_spec_l1In [I n, I lo, I hi] [] = some (.bool (inB lo hi n), []) := by
  refine C_spec_l1In ?_
  simp (maxSteps := 2000000) (disch := (first | omega | (simp only [List.length_append, List.length_take, List.length_replicate, List.length_map, List.length_set, List.length_cons, List.length_nil, List.length_zipWith, List.length_drop, List.length_range]; first | done | omega))) only [ir_spec_l1In, go_sem, Nat.reduceAdd, Nat.reduceEqDiff, Nat.reduceLeDiff, Nat.reduceSub]
  unfold inB; grind
theorem spec_l11Good_ok (l : List Br) (hl : l.length < 2^40) : C f_spec_l11Good [brs l] [] = some (.bool (goodTree l), []) := by
  refine C_spec_l11Good ?_
  simp (maxSteps := 2000000) (disch := (first | omega | (simp only [List.length_append, List.length_take, List.length_replicate, List.length_map, List.length_set, List.length_cons, List.length_nil, List.length_zipWith, List.length_drop, List.length_range]; first | done | omega))) only [ir_spec_l11Good, go_sem, Nat.reduceAdd, Nat.reduceEqDiff, Nat.reduceLeDiff, Nat.reduceSub]
  simp (maxSteps := 2000000) (disch := (first | omega | (simp only [List.length_append, List.length_take, List.length_replicate, List.length_map, List.length_set, List.length_cons, List.length_nil, List.length_zipWith, List.length_drop, List.length_range]; first | done | omega))) only [go_sem, Nat.reduceAdd, Nat.reduceEqDiff, Nat.reduceLeDiff, Nat.reduceSub, spec_l1In_ok]
  refine ⟨fun hn => ?_, fun hn => ?_⟩
  rotate_left
  · simp only [inB, Bool.and_eq_false_iff, decide_eq_false_iff_not, Int.not_le] at hn
    rcases hn with hn | hn
    · have : l = [] := by cases l with
        | nil => rfl
        | cons _ _ => simp at hn; omega
      subst this; rfl
    · simp [goodTree]; omega
  refine W_for l.length (fun i st => ∃ p : Nat, st = ⟨[.any, .any, I p, .any, .any, brs l, I l.length, I i, .any, .any, .any], []⟩ ∧ pileB (l.drop i) p = pileB l 0 ∧ p ≤ i) ?_ ?_ ?_
  · simp (maxSteps := 2000000) (disch := (first | omega | (simp only [List.length_append, List.length_take, List.length_replicate, List.length_map, List.length_set, List.length_cons, List.length_nil, List.length_zipWith, List.length_drop, List.length_range]; first | done | omega))) only [go_sem, Nat.reduceAdd, Nat.reduceEqDiff, Nat.reduceLeDiff, Nat.reduceSub]
    exact ⟨0, rfl, by simp, by omega⟩
  · rintro i st hi ⟨p, rfl, hp, hpi⟩
    rw [pileB_step hi] at hp
    have hlk : l[i]? = some l[i] := List.getElem?_eq_getElem hi
    generalize l[i] = b at *
    obtain ⟨bo, bn⟩ := b
    simp (maxSteps := 2000000) (disch := (first | omega | (simp only [List.length_append, List.length_take, List.length_replicate, List.length_map, List.length_set, List.length_cons, List.length_nil, List.length_zipWith, List.length_drop, List.length_range]; first | done | omega))) only [go_sem, Nat.reduceAdd, Nat.reduceEqDiff, Nat.reduceLeDiff, Nat.reduceSub, hlk, spec_l1In_ok]
    simp only at hp
    have fin : pileB l 0 = none → some (PV.bool false, ([] : List Blk)) = some (PV.bool (goodTree l), []) := by
      intro h; simp [goodTree, h]
    simp only [inB, Bool.and_eq_true, Bool.and_eq_false_iff, decide_eq_true_eq, decide_eq_false_iff_not, Int.not_le]
    have leaf : bo = 1 ∧ 1 ≤ bn ∧ bn ≤ 9 → pileB (l.drop (i + 1)) (p + 1) = pileB l 0 := fun h => by rw [if_pos h] at hp; exact hp
    have fork : 2 ≤ bo ∧ bo ≤ 5 ∧ bn = 0 ∧ 2 ≤ p → pileB (l.drop (i + 1)) (p - 1) = pileB l 0 := fun h => by rw [if_neg (by omega), if_pos h] at hp; exact hp
    have none_ : ¬ (bo = 1 ∧ 1 ≤ bn ∧ bn ≤ 9) → ¬ (2 ≤ bo ∧ bo ≤ 5 ∧ bn = 0 ∧ 2 ≤ p) → some (PV.bool false, ([] : List Blk)) = some (PV.bool (goodTree l), []) := fun h1 h2 => fin (by rw [if_neg h1, if_neg h2] at hp; exact hp.symm)
    refine ⟨fun h1 => ⟨fun h2 => ⟨p + 1, by rw [show ((p + 1 : Nat) : Int) = (p : Int) + 1 by omega]; rfl, leaf ⟨h1, h2⟩, by omega⟩, fun h2 => ⟨fun h3 => by omega, fun h3 => none_ (by omega) (by omega)⟩⟩,
      fun h1 => ⟨fun h3 => ⟨fun h4 => ⟨fun h5 => ⟨p - 1, by rw [show ((p - 1 : Nat) : Int) = (p : Int) - 1 by omega]; rfl, fork (by omega), by omega⟩, fun h5 => none_ (by omega) (by omega)⟩, fun h4 => none_ (by omega) (by omega)⟩, fun h3 => none_ (by omega) (by omega)⟩⟩
  · rintro st ⟨p, rfl, hp, hpi⟩
    simp only [List.drop_length, pileB] at hp
    simp (maxSteps := 2000000) (disch := (first | omega | (simp only [List.length_append, List.length_take, List.length_replicate, List.length_map, List.length_set, List.length_cons, List.length_nil, List.length_zipWith, List.length_drop, List.length_range]; first | done | omega))) only [go_sem, Nat.reduceAdd, Nat.reduceEqDiff, Nat.reduceLeDiff, Nat.reduceSub]
    simp only [inB, Bool.and_eq_true, decide_eq_true_eq] at hn
    refine ⟨fun h => ?_, fun h => ?_⟩
    · rw [show p = 1 by omega] at hp
      simp [goodTree, ← hp]; omega
    · simp [goodTree, ← hp]; omega
theorem spec_l1Num_ok (n : Int) (h : 1 ≤ n ∧ n ≤ 9) : C f_spec_l1Num [I n] [] = some (.str (digB n), []) := by
  have hm := map_dig h
  refine C_spec_l1Num ?_
  simp (maxSteps := 2000000) (disch := (first | omega | (simp only [List.length_append, List.length_take, List.length_replicate, List.length_map, List.length_set, List.length_cons, List.length_nil, List.length_zipWith, List.length_drop, List.length_range]; first | done | omega))) only [ir_spec_l1Num, go_sem, Nat.reduceAdd, Nat.reduceEqDiff, Nat.reduceLeDiff, Nat.reduceSub]
  simp (maxSteps := 2000000) (disch := (first | omega | (simp only [List.length_append, List.length_take, List.length_replicate, List.length_map, List.length_set, List.length_cons, List.length_nil, List.length_zipWith, List.length_drop, List.length_range]; first | done | omega))) only [go_sem, Nat.reduceAdd, Nat.reduceEqDiff, Nat.reduceLeDiff, Nat.reduceSub, hm]
  rfl
theorem spec_l11First_ok (pre : List Br) (y : PT) (suf : List Br) (hy : y.wf) (hl : (pre ++ y.post ++ suf).length < 2^40) : C f_spec_l11First [brs (pre ++ y.post ++ suf), I (pre.length + y.post.length)] [] = some (I (pre.length - 1), []) := by
  simp only [List.length_append] at hl
  refine C_spec_l11First ?_
  simp (maxSteps := 2000000) (disch := (first | omega | (simp only [List.length_append, List.length_take, List.length_replicate, List.length_map, List.length_set, List.length_cons, List.length_nil, List.length_zipWith, List.length_drop, List.length_range]; first | done | omega))) only [ir_spec_l11First, go_sem, Nat.reduceAdd, Nat.reduceEqDiff, Nat.reduceLeDiff, Nat.reduceSub]
  refine W_for y.post.length (fun i st => st = ⟨[brs (pre ++ y.post ++ suf), .any, .any, I (needB y.post i), I (pre.length + y.post.length - 1 - i), .any, .any], []⟩) ?_ ?_ ?_
  · simp (maxSteps := 2000000) (disch := (first | omega | (simp only [List.length_append, List.length_take, List.length_replicate, List.length_map, List.length_set, List.length_cons, List.length_nil, List.length_zipWith, List.length_drop, List.length_range]; first | done | omega))) only [go_sem, Nat.reduceAdd, Nat.reduceEqDiff, Nat.reduceLeDiff, Nat.reduceSub, needB_zero]
    simp
  · rintro i st hi rfl
    have h1 := needB_pos hy hi
    have h2 := needB_le y.post i (by omega)
    have h3 := needB_step hi
    have hj : y.post.length - 1 - i < y.post.length := by omega
    have e : (pre ++ y.post ++ suf)[pre.length + (y.post.length - 1 - i)]? = some y.post[y.post.length - 1 - i] := by
      rw [List.append_assoc, List.getElem?_append_right (by omega), Nat.add_sub_cancel_left, List.getElem?_append_left hj, List.getElem?_eq_getElem hj]
    have ei : (pre.length + y.post.length - 1 - i : Int) = ((pre.length + (y.post.length - 1 - i) : Nat) : Int) := by omega
    rw [ei, h3]
    have e2 : (pre.length + y.post.length - 1 - (i + 1 : Nat) : Int) = ((pre.length + (y.post.length - 1 - i) : Nat) : Int) - 1 := by omega
    rw [e2]
    have hL : (pre ++ y.post ++ suf).length = pre.length + y.post.length + suf.length := by simp; omega
    have hX : pre.length + (y.post.length - 1 - i) < pre.length + y.post.length := by omega
    generalize y.post[y.post.length - 1 - i] = b at *
    generalize pre.length + (y.post.length - 1 - i) = X at *
    generalize pre ++ y.post ++ suf = L at *
    generalize needB y.post i = n at *
    obtain ⟨bo, bn⟩ := b
    simp (maxSteps := 2000000) (disch := (first | omega | (simp only [List.length_append, List.length_take, List.length_replicate, List.length_map, List.length_set, List.length_cons, List.length_nil, List.length_zipWith, List.length_drop, List.length_range]; first | done | omega))) only [go_sem, Nat.reduceAdd, Nat.reduceEqDiff, Nat.reduceLeDiff, Nat.reduceSub, hL, e]
    unfold wB
    refine ⟨fun h => ?_, fun h => ?_⟩
    · rw [if_neg h, show n - 1 + 2 = n + 1 by omega]
    · rw [if_pos h, show n + -1 = n - 1 by omega]
  · rintro st rfl
    have h1 := needB_end hy
    simp (maxSteps := 2000000) (disch := (first | omega | (simp only [List.length_append, List.length_take, List.length_replicate, List.length_map, List.length_set, List.length_cons, List.length_nil, List.length_zipWith, List.length_drop, List.length_range]; first | done | omega))) only [go_sem, Nat.reduceAdd, Nat.reduceEqDiff, Nat.reduceLeDiff, Nat.reduceSub, h1]
    congr 3
    omega
theorem spec_l11Text_ok : ∀ (T : PT) (pre suf : List Br), T.wf → (pre ++ T.post ++ suf).length ≤ 15 → C f_spec_l11Text [brs (pre ++ T.post ++ suf), I (pre.length + T.post.length - 1)] [] = some (.str T.text, [])
  | .leaf n, pre, suf, h, hl => by
    simp only [PT.post, List.length_append, List.length_cons, List.length_nil] at hl ⊢
    have e : (pre ++ [(⟨1, n⟩ : Br)] ++ suf)[pre.length]? = some ⟨1, n⟩ := by simp
    have hL : (pre ++ [(⟨1, n⟩ : Br)] ++ suf).length = pre.length + 1 + suf.length := by simp; omega
    generalize pre ++ [(⟨1, n⟩ : Br)] ++ suf = L at *
    rw [show (pre.length + (0 + 1 : Nat) - 1 : Int) = (pre.length : Nat) by omega]
    have e3 : L[pre.length]'(by omega) = ⟨1, n⟩ := by rw [List.getElem?_eq_getElem (by omega)] at e; exact Option.some.inj e
    have hd := spec_l1Num_ok n h
    refine C_spec_l11Text ?_
    simp (maxSteps := 2000000) (disch := (first | omega | (simp only [List.length_append, List.length_take, List.length_replicate, List.length_map, List.length_set, List.length_cons, List.length_nil, List.length_zipWith, List.length_drop, List.length_range]; first | done | omega))) only [ir_spec_l11Text, go_sem, Nat.reduceAdd, Nat.reduceEqDiff, Nat.reduceLeDiff, Nat.reduceSub]
    simp only [e3]
    refine ⟨fun _ => ?_, fun h => absurd trivial h⟩
    simp (maxSteps := 2000000) (disch := (first | omega | (simp only [List.length_append, List.length_take, List.length_replicate, List.length_map, List.length_set, List.length_cons, List.length_nil, List.length_zipWith, List.length_drop, List.length_range]; first | done | omega))) only [go_sem, Nat.reduceAdd, Nat.reduceEqDiff, Nat.reduceLeDiff, Nat.reduceSub, hd]
    rfl
  | .node o a b, pre, suf, h, hl => by
    obtain ⟨ho, ha, hb⟩ := h
    have pb := b.post_pos
    have pa := a.post_pos
    have hlN : pre.length + a.post.length + b.post.length + 1 + suf.length ≤ 15 := by
      simp only [PT.post, List.length_append, List.length_cons, List.length_nil] at hl; omega
    have ih1 := spec_l11Text_ok a pre (b.post ++ [⟨o, 0⟩] ++ suf) ha (by simp; omega)
    have ih2 := spec_l11Text_ok b (pre ++ a.post) ([⟨o, 0⟩] ++ suf) hb (by simp; omega)
    have hf := spec_l11First_ok (pre ++ a.post) b ([⟨o, 0⟩] ++ suf) hb (by simp; omega)
    have e1 : pre ++ a.post ++ (b.post ++ [⟨o, 0⟩] ++ suf) = pre ++ (PT.node o a b).post ++ suf := by simp [PT.post]
    have e2 : pre ++ a.post ++ b.post ++ ([⟨o, 0⟩] ++ suf) = pre ++ (PT.node o a b).post ++ suf := by simp [PT.post]
    rw [e1] at ih1
    rw [e2] at ih2 hf
    have e : (pre ++ (PT.node o a b).post ++ suf)[pre.length + a.post.length + b.post.length]? = some ⟨o, 0⟩ := by
      rw [← e2, List.getElem?_append_right (by simp only [List.length_append]; omega)]
      simp only [List.length_append]
      rw [Nat.sub_self]
      rfl
    have hL : (pre ++ (PT.node o a b).post ++ suf).length = pre.length + a.post.length + b.post.length + 1 + suf.length := by simp [PT.post]; omega
    have hk : (pre.length + (PT.node o a b).post.length - 1 : Int) = ((pre.length + a.post.length + b.post.length : Nat) : Int) := by
      simp only [PT.post, List.length_append, List.length_cons, List.length_nil]; omega
    rw [hk]
    rw [show (((pre ++ a.post).length : Nat) + (b.post.length : Nat) : Int) = ((pre.length + a.post.length + b.post.length : Nat) : Int) by simp] at hf
    rw [show (((pre ++ a.post).length : Nat) - 1 : Int) = (pre.length + a.post.length - 1 : Int) by simp] at hf
    rw [show (((pre ++ a.post).length : Nat) + (b.post.length : Nat) - 1 : Int) = ((pre.length + a.post.length + b.post.length : Nat) : Int) - 1 by simp] at ih2
    obtain ⟨q1, q2, q3, q4⟩ := text_adds (o := o) (a := a) (b := b) (by omega) (by omega)
    have hsg := sub_sgn ho
    generalize PT.text (.node o a b) = TX at *
    generalize pre ++ (PT.node o a b).post ++ suf = L at *
    generalize hK : pre.length + a.post.length + b.post.length = K at *
    generalize hR : (pre.length + a.post.length - 1 : Int) = R at *
    have e3 : L[K]'(by omega) = ⟨o, 0⟩ := by rw [List.getElem?_eq_getElem (by omega)] at e; exact Option.some.inj e
    refine C_spec_l11Text ?_
    simp (maxSteps := 2000000) (disch := (first | omega | (simp only [List.length_append, List.length_take, List.length_replicate, List.length_map, List.length_set, List.length_cons, List.length_nil, List.length_zipWith, List.length_drop, List.length_range]; first | done | omega))) only [ir_spec_l11Text, go_sem, Nat.reduceAdd, Nat.reduceEqDiff, Nat.reduceLeDiff, Nat.reduceSub]
    simp only [e3]
    refine ⟨fun h => by omega, fun _ => ?_⟩
    simp (maxSteps := 2000000) (disch := (first | omega | (simp only [List.length_append, List.length_take, List.length_replicate, List.length_map, List.length_set, List.length_cons, List.length_nil, List.length_zipWith, List.length_drop, List.length_range]; first | done | omega))) only [go_sem, Nat.reduceAdd, Nat.reduceEqDiff, Nat.reduceLeDiff, Nat.reduceSub, hL, hf, ih1, ih2, hsg, q1, q2, q3, q4]
theorem spec_TreeText_ok (l : List Br) (hl : l.length < 2^40) : C f_spec_TreeText [brs l] [] = some (.tup [.str (textT l), .bool (goodTree l)], []) := by
  have hG := spec_l11Good_ok l hl
  refine C_spec_TreeText ?_
  simp (maxSteps := 2000000) (disch := (first | omega | (simp only [List.length_append, List.length_take, List.length_replicate, List.length_map, List.length_set, List.length_cons, List.length_nil, List.length_zipWith, List.length_drop, List.length_range]; first | done | omega))) only [ir_spec_TreeText, go_sem, Nat.reduceAdd, Nat.reduceEqDiff, Nat.reduceLeDiff, Nat.reduceSub]
  cases hg : goodTree l with
  | false =>
    simp (maxSteps := 2000000) (disch := (first | omega | (simp only [List.length_append, List.length_take, List.length_replicate, List.length_map, List.length_set, List.length_cons, List.length_nil, List.length_zipWith, List.length_drop, List.length_range]; first | done | omega))) only [go_sem, Nat.reduceAdd, Nat.reduceEqDiff, Nat.reduceLeDiff, Nat.reduceSub, hG, hg]
    rw [textT_bad hg]
    rfl
  | true =>
    obtain ⟨h15, T, hw, hp, hT⟩ := goodTree_ok hg
    have hS := spec_l11Text_ok T [] [] hw (by simp [hp]; exact h15)
    rw [show ([] : List Br) ++ T.post ++ [] = l by simp [hp], hp] at hS
    rw [show ((([] : List Br).length : Int) + l.length - 1) = (l.length : Int) - 1 by simp] at hS
    have hpos := T.post_pos
    rw [hp] at hpos
    simp (maxSteps := 2000000) (disch := (first | omega | (simp only [List.length_append, List.length_take, List.length_replicate, List.length_map, List.length_set, List.length_cons, List.length_nil, List.length_zipWith, List.length_drop, List.length_range]; first | done | omega))) only [go_sem, Nat.reduceAdd, Nat.reduceEqDiff, Nat.reduceLeDiff, Nat.reduceSub, hG, hg, hS]
    rw [textT_good hg hT]
theorem impl_within_ok (n lo hi : Int) : C f_impl_within [I n, I lo, I hi] [] = some (.bool (inB lo hi n), []) := by
  refine C_impl_within ?_
  simp (maxSteps := 2000000) (disch := (first | omega | (simp only [List.length_append, List.length_take, List.length_replicate, List.length_map, List.length_set, List.length_cons, List.length_nil, List.length_zipWith, List.length_drop, List.length_range]; first | done | omega))) only [ir_impl_within, go_sem, Nat.reduceAdd, Nat.reduceEqDiff, Nat.reduceLeDiff, Nat.reduceSub]
  unfold inB; grind
theorem impl_isTree_ok (l : List Br) (hl : l.length < 2^40) : C f_impl_isTree [brs l] [] = some (.bool (goodTree l), []) := by
  refine C_impl_isTree ?_
  simp (maxSteps := 2000000) (disch := (first | omega | (simp only [List.length_append, List.length_take, List.length_replicate, List.length_map, List.length_set, List.length_cons, List.length_nil, List.length_zipWith, List.length_drop, List.length_range]; first | done | omega))) only [ir_impl_isTree, go_sem, Nat.reduceAdd, Nat.reduceEqDiff, Nat.reduceLeDiff, Nat.reduceSub]
  refine W_for l.length (fun i st => ∃ p : Nat, st = ⟨[brs l, .any, I p, .any, brs l, I l.length, I i, .any, .any, .any], []⟩ ∧ pileB (l.drop i) p = pileB l 0 ∧ p ≤ i) ?_ ?_ ?_
  · simp (maxSteps := 2000000) (disch := (first | omega | (simp only [List.length_append, List.length_take, List.length_replicate, List.length_map, List.length_set, List.length_cons, List.length_nil, List.length_zipWith, List.length_drop, List.length_range]; first | done | omega))) only [go_sem, Nat.reduceAdd, Nat.reduceEqDiff, Nat.reduceLeDiff, Nat.reduceSub]
    exact ⟨0, rfl, by simp, by omega⟩
  · rintro i st hi ⟨p, rfl, hp, hpi⟩
    rw [pileB_step hi] at hp
    have hlk : l[i]? = some l[i] := List.getElem?_eq_getElem hi
    generalize l[i] = b at *
    obtain ⟨bo, bn⟩ := b
    simp (maxSteps := 2000000) (disch := (first | omega | (simp only [List.length_append, List.length_take, List.length_replicate, List.length_map, List.length_set, List.length_cons, List.length_nil, List.length_zipWith, List.length_drop, List.length_range]; first | done | omega))) only [go_sem, Nat.reduceAdd, Nat.reduceEqDiff, Nat.reduceLeDiff, Nat.reduceSub, hlk, impl_within_ok]
    simp only at hp
    have fin : pileB l 0 = none → some (PV.bool false, ([] : List Blk)) = some (PV.bool (goodTree l), []) := by
      intro h; simp [goodTree, h]
    simp only [inB, Bool.and_eq_true, Bool.and_eq_false_iff, decide_eq_true_eq, decide_eq_false_iff_not, Int.not_le]
    have leaf : bo = 1 ∧ 1 ≤ bn ∧ bn ≤ 9 → pileB (l.drop (i + 1)) (p + 1) = pileB l 0 := fun h => by rw [if_pos h] at hp; exact hp
    have fork : 2 ≤ bo ∧ bo ≤ 5 ∧ bn = 0 ∧ 2 ≤ p → pileB (l.drop (i + 1)) (p - 1) = pileB l 0 := fun h => by rw [if_neg (by omega), if_pos h] at hp; exact hp
    have none_ : ¬ (bo = 1 ∧ 1 ≤ bn ∧ bn ≤ 9) → ¬ (2 ≤ bo ∧ bo ≤ 5 ∧ bn = 0 ∧ 2 ≤ p) → some (PV.bool false, ([] : List Blk)) = some (PV.bool (goodTree l), []) := fun h1 h2 => fin (by rw [if_neg h1, if_neg h2] at hp; exact hp.symm)
    refine ⟨fun h1 => ⟨fun h2 => ⟨p + 1, by rw [show ((p + 1 : Nat) : Int) = (p : Int) + 1 by omega]; rfl, leaf ⟨h1, h2⟩, by omega⟩, fun h2 => ⟨fun h3 => by omega, fun h3 => none_ (by omega) (by omega)⟩⟩,
      fun h1 => ⟨fun h3 => ⟨fun h4 => ⟨fun h5 => ⟨p - 1, by rw [show ((p - 1 : Nat) : Int) = (p : Int) - 1 by omega]; rfl, fork (by omega), by omega⟩, fun h5 => none_ (by omega) (by omega)⟩, fun h4 => none_ (by omega) (by omega)⟩, fun h3 => none_ (by omega) (by omega)⟩⟩
  · rintro st ⟨p, rfl, hp, hpi⟩
    simp only [List.drop_length, pileB] at hp
    simp (maxSteps := 2000000) (disch := (first | omega | (simp only [List.length_append, List.length_take, List.length_replicate, List.length_map, List.length_set, List.length_cons, List.length_nil, List.length_zipWith, List.length_drop, List.length_range]; first | done | omega))) only [go_sem, Nat.reduceAdd, Nat.reduceEqDiff, Nat.reduceLeDiff, Nat.reduceSub]
    refine ⟨fun h => ⟨fun h2 => ?_, fun h2 => ?_⟩, fun h => ?_⟩
    · rw [show p = 1 by omega] at hp
      simp [goodTree, ← hp]; omega
    · simp [goodTree]; omega
    · simp [goodTree, ← hp]; omega
theorem appK_in {mem : List Blk} {t : TypeId} {fl : Bool} {sz b len : Nat} {y : PV} {es : List PV} (h1 : len < es.length) : appK mem t fl sz b 0 len [y] (some (.row t fl sz es)) = some (.ref b sz 0 (len + 1), mem.set b (.row t fl sz (es.set len y))) := by
  unfold appK
  have e : splice es (0 + len) [y] = es.set len y := by
    unfold splice
    rw [Nat.zero_add, List.set_eq_take_append_cons_drop, if_pos h1]; simp
  simp only [e, List.length_cons, List.length_nil]
  rw [if_pos ⟨trivial, trivial, trivial⟩, if_neg (by omega), if_pos (by omega)]
theorem impl_parsed_ok (l : List Br) (T : PT) (h15 : l.length ≤ 15) (hT : pT l [] = some [T]) : C f_impl_parsed [brs l] [] = some (.un t_impl_treeNode true 4 ((T.nds 0).map encD), []) := by
  refine C_impl_parsed ?_
  simp (maxSteps := 2000000) (disch := (first | omega | (simp only [List.length_append, List.length_take, List.length_replicate, List.length_map, List.length_set, List.length_cons, List.length_nil, List.length_zipWith, List.length_drop, List.length_range]; first | done | omega))) only [ir_impl_parsed, go_sem, Nat.reduceAdd, Nat.reduceEqDiff, Nat.reduceLeDiff, Nat.reduceSub]
  refine W_for l.length (fun i st => ∃ (Ts : List PT) (E : List Int), st = ⟨[.any, .any, .ref 0 4 0 l.length, .ref 1 1 0 Ts.length, .any, .any, .any, brs l, I l.length, I i, .any, .any], [.row t_impl_treeNode true 4 ((ndT Ts ++ List.replicate (l.length - i) (⟨0, 0, 0, 0⟩ : Nd)).map encD), .row t_int true 1 (E.map I)]⟩ ∧ pT (l.drop i) Ts = some [T] ∧ flatP Ts = l.take i ∧ E.take Ts.length = ixT Ts ∧ Ts.length ≤ E.length ∧ E.length ≤ i) ?_ ?_ ?_
  · simp (maxSteps := 2000000) (disch := (first | omega | (simp only [List.length_append, List.length_take, List.length_replicate, List.length_map, List.length_set, List.length_cons, List.length_nil, List.length_zipWith, List.length_drop, List.length_range]; first | done | omega))) only [go_sem, Nat.reduceAdd, Nat.reduceEqDiff, Nat.reduceLeDiff, Nat.reduceSub]
    exact ⟨[], [], by simp [ndT], by simpa using hT, by simp [flatP], rfl, by simp, by simp⟩
  · rintro i st hi ⟨Ts, E, rfl, h1, h2, h4, h5, h6⟩
    have h7 := flatP_num Ts
    have hnl := ndT_len Ts
    rw [h2, List.length_take] at h7 hnl
    have hnl' : (ndT Ts).length = i := by omega
    have hlk : l[i]? = some l[i] := List.getElem?_eq_getElem hi
    have hrep : List.replicate (l.length - i) (⟨0, 0, 0, 0⟩ : Nd) = ⟨0, 0, 0, 0⟩ :: List.replicate (l.length - (i + 1)) ⟨0, 0, 0, 0⟩ := by
      rw [show l.length - i = (l.length - (i + 1)) + 1 by omega, List.replicate_succ]
    have hNl : (ndT Ts ++ List.replicate (l.length - i) (⟨0, 0, 0, 0⟩ : Nd)).length = l.length := by simp [hnl']; omega
    have hNi : (ndT Ts ++ List.replicate (l.length - i) (⟨0, 0, 0, 0⟩ : Nd))[i]? = some ⟨0, 0, 0, 0⟩ := by
      rw [List.getElem?_append_right (by omega), hrep, hnl', Nat.sub_self]; rfl
    have hset : ∀ d : Nd, (ndT Ts ++ List.replicate (l.length - i) (⟨0, 0, 0, 0⟩ : Nd)).set i d = ndT Ts ++ [d] ++ List.replicate (l.length - (i + 1)) ⟨0, 0, 0, 0⟩ := by
      intro d
      rw [hrep, List.set_append, if_neg (by omega), hnl', Nat.sub_self, List.set_cons_zero]; simp
    generalize ndT Ts ++ List.replicate (l.length - i) (⟨0, 0, 0, 0⟩ : Nd) = N at *
    rcases pT_step hi h1 with ⟨o1, n1, n2, hn⟩ | ⟨o1, o2, n1, x, y, R, rfl, hn⟩
    · have hf : flatP (.leaf l[i].n :: Ts) = l.take (i + 1) := by
        rw [flatP_cons, h2, List.take_succ_eq_append_getElem hi]
        have : l[i] = ⟨1, l[i].n⟩ := by rw [← o1]
        rw [PT.post, ← this]
      have hix := ixT_len Ts
      have hfl : ((flatP Ts).length : Int) = i := by rw [h2, List.length_take]; omega
      generalize l[i] = b at *
      obtain ⟨bo, bn⟩ := b
      simp only at o1 n1 n2 hf hn
      subst o1
      have hs1 := hset ⟨1, bn, 0, 0⟩
      by_cases he : Ts.length = E.length
      · simp (maxSteps := 2000000) (disch := (first | omega | (simp only [List.length_append, List.length_take, List.length_replicate, List.length_map, List.length_set, List.length_cons, List.length_nil, List.length_zipWith, List.length_drop, List.length_range]; first | done | omega))) only [go_sem, Nat.reduceAdd, Nat.reduceEqDiff, Nat.reduceLeDiff, Nat.reduceSub, hlk, hNl, hNi]
        refine ⟨.leaf bn :: Ts, E ++ [(i : Int)], ?_, hn, hf, ?_, by simp; omega, by simp; omega⟩
        · rw [ndT_leaf, ← hs1, List.map_set]
          simp [he]
          try trivial
        · rw [ixT_leaf, hfl, List.length_cons, ← hix]
          exact take_app (by rw [hix]; exact h4) (by omega)
      · simp (maxSteps := 2000000) (disch := (first | omega | (simp only [List.length_append, List.length_take, List.length_replicate, List.length_map, List.length_set, List.length_cons, List.length_nil, List.length_zipWith, List.length_drop, List.length_range]; first | done | omega))) only [go_sem, Nat.reduceAdd, Nat.reduceEqDiff, Nat.reduceLeDiff, Nat.reduceSub, hlk, hNl, hNi, appK_in]
        refine ⟨.leaf bn :: Ts, E.set Ts.length (i : Int), ?_, hn, hf, ?_, by simp; omega, by simp; omega⟩
        · rw [ndT_leaf, ← hs1, List.map_set]
          simp [List.map_set]
          try trivial
        · rw [ixT_leaf, hfl, List.length_cons, ← hix]
          exact take_set (by rw [hix]; exact h4) (by omega)
    · have hbb : l[i] = ⟨l[i].op, 0⟩ := by rw [← n1]
      have hf : flatP (.node l[i].op x y :: R) = l.take (i + 1) := by
        rw [flatP_cons, List.take_succ_eq_append_getElem hi, ← h2, flatP_cons, flatP_cons, PT.post, hbb]; simp
      have hix := ixT_len R
      simp only [List.length_cons] at h5 h7 h4
      rw [ixT_two, ← hix] at h4
      obtain ⟨k1, k2, k3, k4⟩ := take_two h4
      rw [hix] at k1 k2 k3 k4
      have hR : R.length + 2 ≤ 15 := by omega
      have hfl : ((flatP (y :: x :: R)).length : Int) = i := by rw [h2, List.length_take]; omega
      have hfl2 : (flatP R).length + x.post.length + y.post.length = i := by
        have : (flatP (y :: x :: R)).length = i := by omega
        rw [flatP_cons, flatP_cons, List.length_append, List.length_append] at this
        exact this
      generalize l[i] = b at *
      obtain ⟨bo, bn⟩ := b
      simp only at o1 o2 n1 hf hn
      subst n1
      have hs1 := hset ⟨bo, 0, (((flatP R).length + x.post.length : Nat) : Int) - 1, (((flatP R).length + x.post.length + y.post.length : Nat) : Int) - 1⟩
      generalize hsx : (((flatP R).length + x.post.length : Nat) : Int) - 1 = sx at *
      generalize hsy : (((flatP R).length + x.post.length + y.post.length : Nat) : Int) - 1 = sy at *
      have g1 : E[R.length]'(by omega) = sx := by rw [List.getElem?_eq_getElem (by omega)] at k2; exact Option.some.inj k2
      have g2 : E[R.length + 1]'(by omega) = sy := by rw [List.getElem?_eq_getElem (by omega)] at k3; exact Option.some.inj k3
      have hidx : (((R.length + 1 + 1 : Nat) : Int) - 2).toNat = R.length := by omega
      have hidy : (((R.length + 1 + 1 : Nat) : Int) - 1).toNat = R.length + 1 := by omega
      simp (maxSteps := 2000000) (disch := (first | omega | (simp only [List.length_append, List.length_take, List.length_replicate, List.length_map, List.length_set, List.length_cons, List.length_nil, List.length_zipWith, List.length_drop, List.length_range]; first | done | omega))) only [go_sem, Nat.reduceAdd, Nat.reduceEqDiff, Nat.reduceLeDiff, Nat.reduceSub, hlk, hNl, hNi, hidx, hidy, g1, g2, appK_in, List.getElem?_set_self, List.set_set]
      refine ⟨.node bo x y :: R, E.set R.length (i : Int), ?_, hn, hf, ?_, by simp; omega, by simp; omega⟩
      · rw [ndT_node, hsx, hsy, ← hs1, List.map_set]
        simp [List.map_set]
      · rw [ixT_node, hfl, List.length_cons, ← hix]
        exact take_set (by rw [hix]; exact k1) (by omega)
  · rintro st ⟨Ts, E, rfl, h1, h2, h4, h5, h6⟩
    rw [List.drop_length, pT] at h1
    obtain rfl := Option.some.inj h1
    have hnl := ndT_len [T]
    rw [h2, List.take_length] at hnl
    have e : ndT [T] ++ List.replicate (l.length - l.length) (⟨0, 0, 0, 0⟩ : Nd) = T.nds 0 := by simp [ndT, flatP]
    have e2 : (T.nds 0).length = l.length := by rw [← hnl]; simp [ndT, flatP]
    rw [e]
    simp (maxSteps := 2000000) (disch := (first | omega | (simp only [List.length_append, List.length_take, List.length_replicate, List.length_map, List.length_set, List.length_cons, List.length_nil, List.length_zipWith, List.length_drop, List.length_range]; first | done | omega))) only [go_sem, Nat.reduceAdd, Nat.reduceEqDiff, Nat.reduceLeDiff, Nat.reduceSub, e2]
theorem internal_strconv_small_ok (n : Int) (h : 1 ≤ n ∧ n ≤ 9) : C f_internal_strconv_small [I n] [] = some (.str (digB n), []) := by
  have hm := sub_dig h
  refine C_internal_strconv_small ?_
  simp (maxSteps := 2000000) (disch := (first | omega | (simp only [List.length_append, List.length_take, List.length_replicate, List.length_map, List.length_set, List.length_cons, List.length_nil, List.length_zipWith, List.length_drop, List.length_range]; first | done | omega))) only [ir_internal_strconv_small, go_sem, Nat.reduceAdd, Nat.reduceEqDiff, Nat.reduceLeDiff, Nat.reduceSub]
  simp (maxSteps := 2000000) (disch := (first | omega | (simp only [List.length_append, List.length_take, List.length_replicate, List.length_map, List.length_set, List.length_cons, List.length_nil, List.length_zipWith, List.length_drop, List.length_range]; first | done | omega))) only [go_sem, Nat.reduceAdd, Nat.reduceEqDiff, Nat.reduceLeDiff, Nat.reduceSub, hm]
theorem internal_strconv_FormatInt_ok (n : Int) (h : 1 ≤ n ∧ n ≤ 9) : C f_internal_strconv_FormatInt [I n, I 10] [] = some (.str (digB n), []) := by
  have hs := internal_strconv_small_ok n h
  refine C_internal_strconv_FormatInt ?_
  simp (maxSteps := 2000000) (disch := (first | omega | (simp only [List.length_append, List.length_take, List.length_replicate, List.length_map, List.length_set, List.length_cons, List.length_nil, List.length_zipWith, List.length_drop, List.length_range]; first | done | omega))) only [ir_internal_strconv_FormatInt, go_sem, Nat.reduceAdd, Nat.reduceEqDiff, Nat.reduceLeDiff, Nat.reduceSub]
  simp (maxSteps := 2000000) (disch := (first | omega | (simp only [List.length_append, List.length_take, List.length_replicate, List.length_map, List.length_set, List.length_cons, List.length_nil, List.length_zipWith, List.length_drop, List.length_range]; first | done | omega))) only [go_sem, Nat.reduceAdd, Nat.reduceEqDiff, Nat.reduceLeDiff, Nat.reduceSub, hs]
theorem internal_strconv_Itoa_ok (n : Int) (h : 1 ≤ n ∧ n ≤ 9) : C f_internal_strconv_Itoa [I n] [] = some (.str (digB n), []) := by
  have hs := internal_strconv_FormatInt_ok n h
  refine C_internal_strconv_Itoa ?_
  simp (maxSteps := 2000000) (disch := (first | omega | (simp only [List.length_append, List.length_take, List.length_replicate, List.length_map, List.length_set, List.length_cons, List.length_nil, List.length_zipWith, List.length_drop, List.length_range]; first | done | omega))) only [ir_internal_strconv_Itoa, go_sem, Nat.reduceAdd, Nat.reduceEqDiff, Nat.reduceLeDiff, Nat.reduceSub]
  simp (maxSteps := 2000000) (disch := (first | omega | (simp only [List.length_append, List.length_take, List.length_replicate, List.length_map, List.length_set, List.length_cons, List.length_nil, List.length_zipWith, List.length_drop, List.length_range]; first | done | omega))) only [go_sem, Nat.reduceAdd, Nat.reduceEqDiff, Nat.reduceLeDiff, Nat.reduceSub, hs]
theorem strconv_Itoa_ok (n : Int) (h : 1 ≤ n ∧ n ≤ 9) : C f_strconv_Itoa [I n] [] = some (.str (digB n), []) := by
  have hs := internal_strconv_Itoa_ok n h
  refine C_strconv_Itoa ?_
  simp (maxSteps := 2000000) (disch := (first | omega | (simp only [List.length_append, List.length_take, List.length_replicate, List.length_map, List.length_set, List.length_cons, List.length_nil, List.length_zipWith, List.length_drop, List.length_range]; first | done | omega))) only [ir_strconv_Itoa, go_sem, Nat.reduceAdd, Nat.reduceEqDiff, Nat.reduceLeDiff, Nat.reduceSub]
  simp (maxSteps := 2000000) (disch := (first | omega | (simp only [List.length_append, List.length_take, List.length_replicate, List.length_map, List.length_set, List.length_cons, List.length_nil, List.length_zipWith, List.length_drop, List.length_range]; first | done | omega))) only [go_sem, Nat.reduceAdd, Nat.reduceEqDiff, Nat.reduceLeDiff, Nat.reduceSub, hs]
theorem impl_treeText_ok : ∀ (T : PT) (pre suf : List Nd), T.wf → (pre ++ T.nds pre.length ++ suf).length ≤ 15 → C f_impl_treeText [nds (pre ++ T.nds pre.length ++ suf), I (pre.length + T.post.length - 1)] [] = some (.str T.text, [])
  | .leaf n, pre, suf, h, hl => by
    simp only [PT.post, PT.nds, List.length_append, List.length_cons, List.length_nil] at hl ⊢
    have e : (pre ++ [(⟨1, n, 0, 0⟩ : Nd)] ++ suf)[pre.length]? = some ⟨1, n, 0, 0⟩ := by simp
    have hL : (pre ++ [(⟨1, n, 0, 0⟩ : Nd)] ++ suf).length = pre.length + 1 + suf.length := by simp; omega
    generalize pre ++ [(⟨1, n, 0, 0⟩ : Nd)] ++ suf = L at *
    rw [show (pre.length + (0 + 1 : Nat) - 1 : Int) = (pre.length : Nat) by omega]
    have e3 : L[pre.length]'(by omega) = ⟨1, n, 0, 0⟩ := by rw [List.getElem?_eq_getElem (by omega)] at e; exact Option.some.inj e
    have hd := strconv_Itoa_ok n h
    refine C_impl_treeText ?_
    simp (maxSteps := 2000000) (disch := (first | omega | (simp only [List.length_append, List.length_take, List.length_replicate, List.length_map, List.length_set, List.length_cons, List.length_nil, List.length_zipWith, List.length_drop, List.length_range]; first | done | omega))) only [ir_impl_treeText, go_sem, Nat.reduceAdd, Nat.reduceEqDiff, Nat.reduceLeDiff, Nat.reduceSub]
    simp only [e3]
    refine ⟨fun _ => ?_, fun h => absurd trivial h⟩
    simp (maxSteps := 2000000) (disch := (first | omega | (simp only [List.length_append, List.length_take, List.length_replicate, List.length_map, List.length_set, List.length_cons, List.length_nil, List.length_zipWith, List.length_drop, List.length_range]; first | done | omega))) only [go_sem, Nat.reduceAdd, Nat.reduceEqDiff, Nat.reduceLeDiff, Nat.reduceSub, hd]
    rfl
  | .node o a b, pre, suf, h, hl => by
    obtain ⟨ho, ha, hb⟩ := h
    have pb := b.post_pos
    have pa := a.post_pos
    have la := a.nds_len pre.length
    have lb := b.nds_len (pre.length + a.post.length)
    have hlN : pre.length + a.post.length + b.post.length + 1 + suf.length ≤ 15 := by
      simp only [PT.nds, List.length_append, List.length_cons, List.length_nil] at hl; omega
    have hpa : (pre ++ a.nds pre.length).length = pre.length + a.post.length := by simp [la]
    have ih1 := impl_treeText_ok a pre (b.nds (pre.length + a.post.length) ++ [⟨o, 0, ((pre.length + a.post.length : Nat) : Int) - 1, ((pre.length + a.post.length + b.post.length : Nat) : Int) - 1⟩] ++ suf) ha (by simp; omega)
    have ih2 := impl_treeText_ok b (pre ++ a.nds pre.length) ([⟨o, 0, ((pre.length + a.post.length : Nat) : Int) - 1, ((pre.length + a.post.length + b.post.length : Nat) : Int) - 1⟩] ++ suf) hb (by rw [hpa]; simp; omega)
    rw [hpa] at ih2
    have e1 : pre ++ a.nds pre.length ++ (b.nds (pre.length + a.post.length) ++ [⟨o, 0, ((pre.length + a.post.length : Nat) : Int) - 1, ((pre.length + a.post.length + b.post.length : Nat) : Int) - 1⟩] ++ suf) = pre ++ (PT.node o a b).nds pre.length ++ suf := by simp [PT.nds]
    have e2 : pre ++ a.nds pre.length ++ b.nds (pre.length + a.post.length) ++ ([⟨o, 0, ((pre.length + a.post.length : Nat) : Int) - 1, ((pre.length + a.post.length + b.post.length : Nat) : Int) - 1⟩] ++ suf) = pre ++ (PT.node o a b).nds pre.length ++ suf := by simp [PT.nds]
    rw [e1] at ih1
    rw [e2] at ih2
    have e : (pre ++ (PT.node o a b).nds pre.length ++ suf)[pre.length + a.post.length + b.post.length]? = some ⟨o, 0, ((pre.length + a.post.length : Nat) : Int) - 1, ((pre.length + a.post.length + b.post.length : Nat) : Int) - 1⟩ := by
      rw [← e2, List.getElem?_append_right (by simp only [List.length_append, la, lb]; omega)]
      simp only [List.length_append, la, lb]
      rw [Nat.sub_self]
      rfl
    have hL : (pre ++ (PT.node o a b).nds pre.length ++ suf).length = pre.length + a.post.length + b.post.length + 1 + suf.length := by simp [PT.nds, la, lb]; omega
    have hk : (pre.length + (PT.node o a b).post.length - 1 : Int) = ((pre.length + a.post.length + b.post.length : Nat) : Int) := by
      simp only [PT.post, List.length_append, List.length_cons, List.length_nil]; omega
    rw [hk]
    obtain ⟨q1, q2, q3, q4⟩ := text_adds (o := o) (a := a) (b := b) (by omega) (by omega)
    have hsg := sub_sgn2 ho
    rw [show (pre.length + a.post.length - 1 : Int) = ((pre.length + a.post.length : Nat) : Int) - 1 by omega] at ih1
    rw [show (((pre.length + a.post.length : Nat) : Int) + b.post.length - 1 : Int) = ((pre.length + a.post.length + b.post.length : Nat) : Int) - 1 by omega] at ih2
    generalize PT.text (.node o a b) = TX at *
    generalize pre ++ (PT.node o a b).nds pre.length ++ suf = L at *
    generalize hK : pre.length + a.post.length + b.post.length = K at *
    generalize hR : (((pre.length + a.post.length : Nat) : Int) - 1 : Int) = R at *
    have e3 : L[K]'(by omega) = ⟨o, 0, R, (K : Int) - 1⟩ := by rw [List.getElem?_eq_getElem (by omega)] at e; exact Option.some.inj e
    refine C_impl_treeText ?_
    simp (maxSteps := 2000000) (disch := (first | omega | (simp only [List.length_append, List.length_take, List.length_replicate, List.length_map, List.length_set, List.length_cons, List.length_nil, List.length_zipWith, List.length_drop, List.length_range]; first | done | omega))) only [ir_impl_treeText, go_sem, Nat.reduceAdd, Nat.reduceEqDiff, Nat.reduceLeDiff, Nat.reduceSub]
    simp only [e3]
    refine ⟨fun h => by omega, fun _ => ?_⟩
    simp (maxSteps := 2000000) (disch := (first | omega | (simp only [List.length_append, List.length_take, List.length_replicate, List.length_map, List.length_set, List.length_cons, List.length_nil, List.length_zipWith, List.length_drop, List.length_range]; first | done | omega))) only [go_sem, Nat.reduceAdd, Nat.reduceEqDiff, Nat.reduceLeDiff, Nat.reduceSub, hL, ih1, ih2, hsg, q1, q2, q3, q4]
theorem impl_TreeText_ok (l : List Br) (hl : l.length < 2^40) : C f_impl_TreeText [brs l] [] = some (.tup [.str (textT l), .bool (goodTree l)], []) := by
  have hG := impl_isTree_ok l hl
  refine C_impl_TreeText ?_
  simp (maxSteps := 2000000) (disch := (first | omega | (simp only [List.length_append, List.length_take, List.length_replicate, List.length_map, List.length_set, List.length_cons, List.length_nil, List.length_zipWith, List.length_drop, List.length_range]; first | done | omega))) only [ir_impl_TreeText, go_sem, Nat.reduceAdd, Nat.reduceEqDiff, Nat.reduceLeDiff, Nat.reduceSub]
  cases hg : goodTree l with
  | false =>
    simp (maxSteps := 2000000) (disch := (first | omega | (simp only [List.length_append, List.length_take, List.length_replicate, List.length_map, List.length_set, List.length_cons, List.length_nil, List.length_zipWith, List.length_drop, List.length_range]; first | done | omega))) only [go_sem, Nat.reduceAdd, Nat.reduceEqDiff, Nat.reduceLeDiff, Nat.reduceSub, hG, hg]
    rw [textT_bad hg]
    rfl
  | true =>
    obtain ⟨h15, T, hw, hp, hT⟩ := goodTree_ok hg
    have hP := impl_parsed_ok l T h15 hT
    have hnl := T.nds_len 0
    have hS := impl_treeText_ok T [] [] hw (by simp [hnl, hp]; exact h15)
    simp only [List.nil_append, List.append_nil, List.length_nil] at hS
    rw [hp, show (((0 : Nat) : Int) + l.length - 1) = (l.length : Int) - 1 by omega] at hS
    have hpos := T.post_pos
    rw [hp] at hpos hnl
    generalize T.nds 0 = N at *
    simp (maxSteps := 2000000) (disch := (first | omega | (simp only [List.length_append, List.length_take, List.length_replicate, List.length_map, List.length_set, List.length_cons, List.length_nil, List.length_zipWith, List.length_drop, List.length_range]; first | done | omega))) only [go_sem, Nat.reduceAdd, Nat.reduceEqDiff, Nat.reduceLeDiff, Nat.reduceSub, hG, hg, hP, hS, hnl]
    rw [textT_good hg hT]
theorem laws_eqBranch_ok (a b : Br) : C f_laws_eqBranch [encB a, encB b] [] = some (.bool (decide (a = b)), []) := by
  have e : (a = b) ↔ a.op = b.op ∧ a.n = b.n := by cases a; cases b; simp
  simp only [e]
  refine C_laws_eqBranch ?_
  simp (maxSteps := 2000000) (disch := (first | omega | (simp only [List.length_append, List.length_take, List.length_replicate, List.length_map, List.length_set, List.length_cons, List.length_nil, List.length_zipWith, List.length_drop, List.length_range]; first | done | omega))) only [ir_laws_eqBranch, go_sem, Nat.reduceAdd, Nat.reduceEqDiff, Nat.reduceLeDiff, Nat.reduceSub]
  grind
theorem laws_eqBranchS_ok (a b : List Br) (ha : a.length < 2^62) (hb : b.length < 2^62) : C f_laws_eqBranchS [brs a, brs b] [] = some (.bool (decide (a = b)), []) := by
  refine C_laws_eqBranchS ?_
  simp (maxSteps := 2000000) (disch := (first | omega | (simp only [List.length_append, List.length_take, List.length_replicate, List.length_map, List.length_set, List.length_cons, List.length_nil, List.length_zipWith, List.length_drop, List.length_range]; first | done | omega))) only [ir_laws_eqBranchS, go_sem, Nat.reduceAdd, Nat.reduceEqDiff, Nat.reduceLeDiff, Nat.reduceSub]
  refine ⟨fun h => ?_, fun h => ?_⟩
  · rw [decide_eq_false]
    rintro rfl
    omega
  have hl : a.length = b.length := by omega
  refine W_for a.length (fun k s => s = ⟨[brs a, brs b, .any, I k, .any, .any, .any], []⟩ ∧ a.take k = b.take k) ?_ ?_ ?_
  · simp (maxSteps := 2000000) (disch := (first | omega | (simp only [List.length_append, List.length_take, List.length_replicate, List.length_map, List.length_set, List.length_cons, List.length_nil, List.length_zipWith, List.length_drop, List.length_range]; first | done | omega))) only [go_sem, Nat.reduceAdd, Nat.reduceEqDiff, Nat.reduceLeDiff, Nat.reduceSub]
    rfl
  · rintro k s hk ⟨rfl, he⟩
    have hk2 : k < b.length := by omega
    simp (maxSteps := 2000000) (disch := (first | omega | (simp only [List.length_append, List.length_take, List.length_replicate, List.length_map, List.length_set, List.length_cons, List.length_nil, List.length_zipWith, List.length_drop, List.length_range]; first | done | omega))) only [go_sem, Nat.reduceAdd, Nat.reduceEqDiff, Nat.reduceLeDiff, Nat.reduceSub, laws_eqBranch_ok]
    refine ⟨fun h => ⟨rfl, dec_take hk (by omega) he h⟩, fun h => ?_⟩
    rw [dec_ne hk (by omega) h]
  · rintro s ⟨rfl, he⟩
    simp (maxSteps := 2000000) (disch := (first | omega | (simp only [List.length_append, List.length_take, List.length_replicate, List.length_map, List.length_set, List.length_cons, List.length_nil, List.length_zipWith, List.length_drop, List.length_range]; first | done | omega))) only [go_sem, Nat.reduceAdd, Nat.reduceEqDiff, Nat.reduceLeDiff, Nat.reduceSub]
    rw [List.take_length, take_all (by omega)] at he
    simp [he]
theorem laws_FnExactTreeText_ok (l : List Br) (hl : l.length < 2^63) : C f_laws_FnExactTreeText [brs l] [] = some (.bool true, []) := by
  have hsz := laws_szBranchS_ok l 1048576 (by omega) (by omega) hl
  refine C_laws_FnExactTreeText ?_
  simp (maxSteps := 2000000) (disch := (first | omega | (simp only [List.length_append, List.length_take, List.length_replicate, List.length_map, List.length_set, List.length_cons, List.length_nil, List.length_zipWith, List.length_drop, List.length_range]; first | done | omega))) only [ir_laws_FnExactTreeText, go_sem, Nat.reduceAdd, Nat.reduceEqDiff, Nat.reduceLeDiff, Nat.reduceSub]
  by_cases hneg : (1048576 : Int) - l.length < 0
  · rw [if_pos hneg] at hsz
    simp (maxSteps := 2000000) (disch := (first | omega | (simp only [List.length_append, List.length_take, List.length_replicate, List.length_map, List.length_set, List.length_cons, List.length_nil, List.length_zipWith, List.length_drop, List.length_range]; first | done | omega))) only [go_sem, Nat.reduceAdd, Nat.reduceEqDiff, Nat.reduceLeDiff, Nat.reduceSub, hsz]
  rw [if_neg hneg] at hsz
  have hto := laws_toBranchS_ok l (by omega)
  have h1 := spec_TreeText_ok l (by omega)
  have h2 := impl_TreeText_ok l (by omega)
  have h3 := laws_eqBranchS_ok l l (by omega) (by omega)
  generalize textT l = x at *
  generalize goodTree l = b at *
  have hx := bytes_ne x
  cases b with
  | true =>
    simp (maxSteps := 2000000) (disch := (first | omega | (simp only [List.length_append, List.length_take, List.length_replicate, List.length_map, List.length_set, List.length_cons, List.length_nil, List.length_zipWith, List.length_drop, List.length_range]; first | done | omega))) only [go_sem, Nat.reduceAdd, Nat.reduceEqDiff, Nat.reduceLeDiff, Nat.reduceSub, hsz, hto, h1, h2, h3, binS_neq, hx]
  | false =>
    simp (maxSteps := 2000000) (disch := (first | omega | (simp only [List.length_append, List.length_take, List.length_replicate, List.length_map, List.length_set, List.length_cons, List.length_nil, List.length_zipWith, List.length_drop, List.length_range]; first | done | omega))) only [go_sem, Nat.reduceAdd, Nat.reduceEqDiff, Nat.reduceLeDiff, Nat.reduceSub, hsz, hto, h1, h2, h3, binS_neq, hx]
end Go.Proofs.YtoimodnlefadhaaDoor.Pi
