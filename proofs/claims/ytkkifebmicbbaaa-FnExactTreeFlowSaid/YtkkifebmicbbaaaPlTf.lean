/- Flows of trees: what is built, how large it is. Plain Lean. No condition. -/
import Derived.Test.YtkkifebmicbbaaaPlText
namespace Go.Proofs.Ytkkifebmicbbaaa.Pi
open Go
set_option linter.all false

structure TB where
  pl : Int
  tr : List Tr
  lt : List Int
def addB (b : TB) (l : Int) (x y : List Int) : TB := ⟨b.pl, b.tr ++ [⟨x, y, []⟩], b.lt ++ [l]⟩
def upB (b : TB) (n : Int) : TB := ⟨b.pl + n, b.tr, b.lt⟩
def PT.bld : PT → Int → Int → TB → TB
  | .leaf n, x, y, b => addB b n [x] [y]
  | .node o p q, x, y, b =>
    if o = 2 then q.bld b.pl y (p.bld x b.pl (upB b 1))
    else if o = 3 then q.bld x y (p.bld x y b)
    else if o = 4 then q.bld (b.pl + 1) (b.pl + 3) (p.bld b.pl (b.pl + 2) (addB (addB (upB b 4) 0 [x] [b.pl, b.pl + 1]) 0 [b.pl + 2, b.pl + 3] [y]))
    else q.bld (b.pl + 1) b.pl (p.bld b.pl (b.pl + 1) (addB (addB (upB b 2) 0 [x] [b.pl]) 0 [b.pl + 1] [y]))
/-- How much is built. -/
structure TBOk (b b' : TB) (k : Nat) : Prop where
  lo : b.pl ≤ b'.pl
  hi : b'.pl ≤ b.pl + 4 * k
  len : b'.tr.length = b'.lt.length
  more : b.tr.length < b'.tr.length
  most : b'.tr.length ≤ b.tr.length + 3 * k
theorem PT.bld_ok : ∀ (T : PT) (x y : Int) (b : TB), b.tr.length = b.lt.length → TBOk b (T.bld x y b) T.post.length
  | .leaf n, x, y, b, h => by
    constructor <;> simp [PT.bld, addB, PT.post] <;> omega
  | .node o p q, x, y, b, h => by
    have key : ∀ (x1 y1 x2 y2 : Int) (c : TB), c.tr.length = c.lt.length → b.pl ≤ c.pl → c.pl ≤ b.pl + 4 → b.tr.length ≤ c.tr.length → c.tr.length ≤ b.tr.length + 2 → TBOk b (q.bld x2 y2 (p.bld x1 y1 c)) (PT.node o p q).post.length := by
      intro x1 y1 x2 y2 c h1 h2 h3 h4 h5
      have a1 := PT.bld_ok p x1 y1 c h1
      have a2 := PT.bld_ok q x2 y2 _ a1.len
      have b1 := a1.lo; have b2 := a1.hi; have b3 := a1.more; have b4 := a1.most
      have c1 := a2.lo; have c2 := a2.hi; have c3 := a2.more; have c4 := a2.most
      constructor
      · omega
      · simp only [PT.post, List.length_append, List.length_cons, List.length_nil]; omega
      · exact a2.len
      · omega
      · simp only [PT.post, List.length_append, List.length_cons, List.length_nil]; omega
    unfold PT.bld
    split
    · exact key _ _ _ _ _ (by simpa [upB] using h) (by simp [upB] <;> omega) (by simp [upB] <;> omega) (by simp [upB] <;> omega) (by simp [upB] <;> omega)
    · split
      · exact key _ _ _ _ _ h (by omega) (by omega) (by omega) (by omega)
      · split
        · exact key _ _ _ _ _ (by simp [upB, addB] <;> omega) (by simp [upB, addB] <;> omega) (by simp [upB, addB] <;> omega) (by simp [upB, addB] <;> omega) (by simp [upB, addB] <;> omega)
        · exact key _ _ _ _ _ (by simp [upB, addB] <;> omega) (by simp [upB, addB] <;> omega) (by simp [upB, addB] <;> omega) (by simp [upB, addB] <;> omega) (by simp [upB, addB] <;> omega)
theorem PT.bld_small : ∀ (T : PT) (x y : Int) (b : TB), (∀ t ∈ b.tr, t.inn.length ≤ 2 ∧ t.out.length ≤ 2 ∧ t.rst.length ≤ 2) → ∀ t ∈ (T.bld x y b).tr, t.inn.length ≤ 2 ∧ t.out.length ≤ 2 ∧ t.rst.length ≤ 2
  | .leaf n, x, y, b, h, t, ht => by
    simp only [PT.bld, addB, List.mem_append, List.mem_singleton] at ht
    rcases ht with ht | rfl
    · exact h t ht
    · simp
  | .node o p q, x, y, b, h, t, ht => by
    have add : ∀ (c : TB) (l : Int) (x y : List Int), x.length ≤ 2 → y.length ≤ 2 → (∀ t ∈ c.tr, t.inn.length ≤ 2 ∧ t.out.length ≤ 2 ∧ t.rst.length ≤ 2) → ∀ t ∈ (addB c l x y).tr, t.inn.length ≤ 2 ∧ t.out.length ≤ 2 ∧ t.rst.length ≤ 2 := by
      intro c l x y hx hy hc t ht
      simp only [addB, List.mem_append, List.mem_singleton] at ht
      rcases ht with ht | rfl
      · exact hc t ht
      · exact ⟨hx, hy, by simp⟩
    have up : ∀ n, ∀ t ∈ (upB b n).tr, t.inn.length ≤ 2 ∧ t.out.length ≤ 2 ∧ t.rst.length ≤ 2 := fun n => h
    unfold PT.bld at ht
    split at ht
    · exact PT.bld_small q _ _ _ (PT.bld_small p _ _ _ (up 1)) t ht
    · split at ht
      · exact PT.bld_small q _ _ _ (PT.bld_small p _ _ _ h) t ht
      · split at ht
        · exact PT.bld_small q _ _ _ (PT.bld_small p _ _ _ (add _ _ _ _ (by simp) (by simp) (add _ _ _ _ (by simp) (by simp) (up 4)))) t ht
        · exact PT.bld_small q _ _ _ (PT.bld_small p _ _ _ (add _ _ _ _ (by simp) (by simp) (add _ _ _ _ (by simp) (by simp) (up 2)))) t ht
/-- What is built of a good tree. -/
def PT.all (T : PT) : TB := T.bld 0 1 ⟨2, [], []⟩
def PT.flow (T : PT) : Fl := ⟨⟨T.all.pl, T.all.tr⟩, 0, 1⟩
def tfV (l : List Br) : Option (Fl × List Int) := match pT l [] with
  | some [T] => if goodTree l = true ∧ goodFl T.flow = true then some (T.flow, T.all.lt) else none
  | _ => none
theorem tfV_bad {l : List Br} (h : goodTree l = false) : tfV l = none := by
  unfold tfV; split
  · rw [if_neg (by simp [h])]
  · rfl
theorem tfV_good {l : List Br} {T : PT} (h : goodTree l = true) (hT : pT l [] = some [T]) : tfV l = if goodFl T.flow = true then some (T.flow, T.all.lt) else none := by
  unfold tfV; rw [hT]; simp [h]
theorem PT.all_ok (T : PT) : 2 ≤ T.all.pl ∧ T.all.pl ≤ 2 + 4 * T.post.length ∧ T.all.tr.length = T.all.lt.length ∧ 0 < T.all.tr.length ∧ T.all.tr.length ≤ 3 * T.post.length := by
  have h := T.bld_ok 0 1 ⟨2, [], []⟩ rfl
  refine ⟨h.lo, h.hi, h.len, ?_, ?_⟩
  · have := h.more; simp at this; exact this
  · have := h.most; simp at this; exact this
theorem PT.all_small (T : PT) : ∀ t ∈ T.all.tr, t.inn.length ≤ 2 ∧ t.out.length ≤ 2 ∧ t.rst.length ≤ 2 := T.bld_small 0 1 ⟨2, [], []⟩ (by simp)
theorem PT.flow_sm (T : PT) (h : T.post.length ≤ 15) : smN T.flow.net := by
  have h1 := T.all_ok
  have h2 := T.all_small
  refine ⟨?_, fun t ht => ?_⟩
  · show T.all.tr.length < _; omega
  · have := h2 t ht; exact ⟨by omega, by omega, by omega⟩
end Go.Proofs.Ytkkifebmicbbaaa.Pi
