/- Trees in postfix form: their parts, what is read backwards, least words. Plain Lean. No condition. -/
import Derived.Test.YtkkifebmicbbaaaPlArg
namespace Go.Proofs.Ytkkifebmicbbaaa.Pi
open Go
set_option linter.all false

inductive PT where
  | leaf (n : Int)
  | node (o : Int) (a b : PT)
def PT.post : PT → List Br
  | .leaf n => [⟨1, n⟩]
  | .node o a b => a.post ++ b.post ++ [⟨o, 0⟩]
def PT.wf : PT → Prop
  | .leaf n => 1 ≤ n ∧ n ≤ 9
  | .node o a b => (2 ≤ o ∧ o ≤ 5) ∧ a.wf ∧ b.wf
theorem PT.post_pos : ∀ T : PT, 1 ≤ T.post.length
  | .leaf _ => by simp [PT.post]
  | .node _ _ _ => by simp [PT.post]; omega
/-- The piles of trees that branches lay on a pile (the top first). -/
def pT : List Br → List PT → Option (List PT)
  | [], Ts => some Ts
  | b :: t, Ts => if b.op = 1 ∧ 1 ≤ b.n ∧ b.n ≤ 9 then pT t (.leaf b.n :: Ts) else
    if 2 ≤ b.op ∧ b.op ≤ 5 ∧ b.n = 0 then (match Ts with | y :: x :: R => pT t (.node b.op x y :: R) | _ => none) else none
theorem pT_of_pile : ∀ (l : List Br) (p r : Nat) (Ts : List PT), pileB l p = some r → Ts.length = p → ∃ Us, pT l Ts = some Us ∧ Us.length = r
  | [], p, r, Ts, h, hl => by simp [pileB] at h; exact ⟨Ts, rfl, by omega⟩
  | b :: t, p, r, Ts, h, hl => by
    unfold pileB at h
    unfold pT
    split at h
    · rename_i hc
      rw [if_pos hc]
      exact pT_of_pile t (p + 1) r _ h (by simp [hl])
    · rename_i hc
      rw [if_neg hc]
      split at h
      · rename_i hd
        rw [if_pos ⟨hd.1, hd.2.1, hd.2.2.1⟩]
        match Ts, hl with
        | y :: x :: R, hl =>
          exact pT_of_pile t (p - 1) r _ h (by simp at hl ⊢; omega)
        | [_], hl => simp at hl; omega
        | [], hl => simp at hl; omega
      · cases h
def flatP (Ts : List PT) : List Br := Ts.reverse.flatMap PT.post
theorem flatP_cons (T : PT) (Ts : List PT) : flatP (T :: Ts) = flatP Ts ++ T.post := by simp [flatP, List.flatMap_append]
theorem pT_flat : ∀ (l : List Br) (Ts Us : List PT), pT l Ts = some Us → (∀ T ∈ Ts, T.wf) → flatP Us = flatP Ts ++ l ∧ ∀ T ∈ Us, T.wf
  | [], Ts, Us, h, hw => by simp [pT] at h; subst h; exact ⟨by simp, hw⟩
  | b :: t, Ts, Us, h, hw => by
    unfold pT at h
    split at h
    · rename_i hc
      obtain ⟨h1, h2⟩ := pT_flat t _ Us h (by
        intro T hT
        rcases List.mem_cons.1 hT with rfl | hT
        · exact ⟨hc.2.1, hc.2.2⟩
        · exact hw T hT)
      refine ⟨?_, h2⟩
      obtain ⟨o, n⟩ := b
      simp only at hc
      rw [h1, flatP_cons, PT.post, hc.1]; simp
    · split at h
      · rename_i hd
        split at h
        · rename_i y x R
          obtain ⟨h1, h2⟩ := pT_flat t _ Us h (by
            intro T hT
            rcases List.mem_cons.1 hT with rfl | hT
            · exact ⟨⟨hd.1, hd.2.1⟩, hw x (by simp), hw y (by simp)⟩
            · exact hw T (by simp [hT]))
          refine ⟨?_, h2⟩
          obtain ⟨o, n⟩ := b
          simp only at hd
          rw [h1, flatP_cons, flatP_cons, flatP_cons, PT.post, hd.2.2]; simp
        · cases h
      · cases h
/-- A good tree is one. -/
theorem goodTree_ok {l : List Br} (h : goodTree l = true) : l.length ≤ 15 ∧ ∃ T : PT, T.wf ∧ T.post = l ∧ pT l [] = some [T] := by
  simp only [goodTree, Bool.and_eq_true, decide_eq_true_eq, beq_iff_eq] at h
  refine ⟨h.1, ?_⟩
  obtain ⟨Us, h1, h2⟩ := pT_of_pile l 0 1 [] h.2 rfl
  obtain ⟨T, rfl⟩ := List.length_eq_one_iff.1 h2
  obtain ⟨h3, h4⟩ := pT_flat l [] [T] h1 (by simp)
  refine ⟨T, h4 T (by simp), ?_, h1⟩
  simpa [flatP] using h3
/-- One branch more. -/
theorem pT_step {l : List Br} {k : Nat} (hk : k < l.length) {Ts Us : List PT} (h : pT (l.drop k) Ts = some Us) :
    (l[k].op = 1 ∧ 1 ≤ l[k].n ∧ l[k].n ≤ 9 ∧ pT (l.drop (k + 1)) (.leaf l[k].n :: Ts) = some Us) ∨
    (2 ≤ l[k].op ∧ l[k].op ≤ 5 ∧ l[k].n = 0 ∧ ∃ x y R, Ts = y :: x :: R ∧ pT (l.drop (k + 1)) (.node l[k].op x y :: R) = some Us) := by
  rw [List.drop_eq_getElem_cons hk] at h
  unfold pT at h
  split at h
  · rename_i hc; exact .inl ⟨hc.1, hc.2.1, hc.2.2, h⟩
  · split at h
    · rename_i hd
      split at h
      · rename_i y x R; exact .inr ⟨hd.1, hd.2.1, hd.2.2, x, y, R, rfl, h⟩
      · cases h
    · cases h
theorem pileB_step {l : List Br} {k p : Nat} (hk : k < l.length) : pileB (l.drop k) p = if l[k].op = 1 ∧ 1 ≤ l[k].n ∧ l[k].n ≤ 9 then pileB (l.drop (k + 1)) (p + 1) else if 2 ≤ l[k].op ∧ l[k].op ≤ 5 ∧ l[k].n = 0 ∧ 2 ≤ p then pileB (l.drop (k + 1)) (p - 1) else none := by
  rw [List.drop_eq_getElem_cons hk, pileB]

/-! ### The root of the first part, read backwards -/
def wB (b : Br) : Int := if b.op = 1 then -1 else 1
def needB (l : List Br) (j : Nat) : Int := 1 + ((l.reverse.take j).map wB).sum
theorem sum_app (a b : List Int) : (a ++ b).sum = a.sum + b.sum := by induction a with
  | nil => simp
  | cons x a ih => simp [ih]; omega
theorem PT.weight : ∀ (T : PT), T.wf → (T.post.map wB).sum = -1 ∧ ∀ j, j < T.post.length → 0 ≤ ((T.post.reverse.take j).map wB).sum
  | .leaf n, _ => by
    refine ⟨by simp [PT.post, wB], fun j hj => ?_⟩
    simp [PT.post] at hj; subst hj; simp
  | .node o a b, h => by
    obtain ⟨ho, ha, hb⟩ := h
    obtain ⟨a1, a2⟩ := PT.weight a ha
    obtain ⟨b1, b2⟩ := PT.weight b hb
    have ho1 : wB ⟨o, 0⟩ = 1 := by unfold wB; simp only; rw [if_neg (by omega)]
    refine ⟨?_, fun j hj => ?_⟩
    · simp only [PT.post, List.map_append, sum_app, a1, b1, List.map_cons, List.map_nil, ho1]; rfl
    · cases j with
      | zero => simp
      | succ i =>
        simp only [PT.post, List.length_append, List.length_cons, List.length_nil] at hj
        have e : (PT.post (.node o a b)).reverse = ⟨o, 0⟩ :: (b.post.reverse ++ a.post.reverse) := by simp [PT.post]
        rw [e, List.take_succ_cons, List.map_cons, List.sum_cons, ho1, List.take_append, List.map_append, sum_app, List.length_reverse]
        by_cases hi : i < b.post.length
        · have := b2 i hi
          rw [show i - b.post.length = 0 by omega, List.take_zero, List.map_nil, List.sum_nil]
          omega
        · have h1 : (b.post.reverse.take i).map wB = (b.post.map wB).reverse := by
            rw [List.take_of_length_le (by simp; omega), List.map_reverse]
          have h2 := a2 (i - b.post.length) (by omega)
          rw [h1, List.sum_reverse, b1]; omega
theorem needB_pos {T : PT} (h : T.wf) {j : Nat} (hj : j < T.post.length) : 1 ≤ needB T.post j := by
  have := (T.weight h).2 j hj; unfold needB; omega
theorem needB_end {T : PT} (h : T.wf) : needB T.post T.post.length = 0 := by
  have := (T.weight h).1
  unfold needB
  rw [List.take_of_length_le (by simp), List.map_reverse, List.sum_reverse, this]; rfl
theorem needB_zero (l : List Br) : needB l 0 = 1 := by simp [needB]
theorem needB_step {l : List Br} {j : Nat} (hj : j < l.length) : needB l (j + 1) = needB l j + wB (l[l.length - 1 - j]'(by omega)) := by
  unfold needB
  rw [List.take_succ_eq_append_getElem (by simp; exact hj), List.map_append, sum_app, List.getElem_reverse]
  simp; omega
theorem needB_le (l : List Br) : ∀ j, j ≤ l.length → needB l j ≤ 1 + j
  | 0, _ => by simp [needB]
  | j + 1, h => by
    have := needB_le l j (by omega)
    rw [needB_step (by omega)]
    unfold wB; split <;> omega

/-! ### Least words -/
def PT.short : PT → Int
  | .leaf _ => 1
  | .node o a b => if o = 3 then min a.short b.short else if o = 5 then a.short else a.short + b.short
theorem PT.short_le : ∀ T : PT, 1 ≤ T.short ∧ T.short ≤ T.post.length
  | .leaf _ => by simp [PT.short, PT.post]
  | .node o a b => by
    have h1 := PT.short_le a
    have h2 := PT.short_le b
    simp only [PT.short, PT.post, List.length_append, List.length_cons, List.length_nil]
    split
    · omega
    · split <;> omega
theorem flatP_len {Ts : List PT} {T : PT} (h : T ∈ Ts) : T.post.length ≤ (flatP Ts).length := by
  induction Ts with
  | nil => cases h
  | cons x Ts ih =>
    rw [flatP_cons, List.length_append]
    rcases List.mem_cons.1 h with rfl | h
    · omega
    · have := ih h; omega
theorem flatP_num (Ts : List PT) : Ts.length ≤ (flatP Ts).length := by
  induction Ts with
  | nil => simp
  | cons x Ts ih =>
    rw [flatP_cons, List.length_append, List.length_cons]
    have := x.post_pos; omega
/-- The least words' lengths on a pile, as they stand in memory. -/
def shs (Ts : List PT) : List Int := Ts.reverse.map PT.short
theorem shs_cons (T : PT) (Ts : List PT) : shs (T :: Ts) = shs Ts ++ [T.short] := by simp [shs]
theorem shs_len (Ts : List PT) : (shs Ts).length = Ts.length := by simp [shs]
/-- The length of the least word of a good tree. -/
def shortT (l : List Br) : Int := match pT l [] with
  | some [T] => if goodTree l = true then T.short else 0
  | _ => 0
theorem take_two {E A : List Int} {x y : Int} (h : E.take (A.length + 2) = A ++ [x] ++ [y]) : E.take A.length = A ∧ E[A.length]? = some x ∧ E[A.length + 1]? = some y ∧ A.length + 2 ≤ E.length := by
  have hE := List.take_append_drop (A.length + 2) E
  rw [h] at hE
  rw [← hE]
  refine ⟨by simp, by simp, by simp, ?_⟩
  simp only [List.length_append, List.length_cons, List.length_nil]; omega
theorem take_set {E A : List Int} {v : Int} (h : E.take A.length = A) (hl : A.length < E.length) : (E.set A.length v).take (A.length + 1) = A ++ [v] := by
  rw [List.take_succ_eq_append_getElem (by rw [List.length_set]; exact hl), List.getElem_set_self, List.take_set_of_le (Nat.le_refl _), h]
theorem take_app {E A : List Int} {v : Int} (h : E.take A.length = A) (hl : A.length = E.length) : (E ++ [v]).take (A.length + 1) = A ++ [v] := by
  have h2 : E = A := by rw [← h, hl, List.take_length]
  rw [h2, List.take_of_length_le (by simp only [List.length_append, List.length_cons, List.length_nil]; omega)]
theorem shortT_bad {l : List Br} (h : goodTree l = false) : shortT l = 0 := by
  unfold shortT; split <;> simp [h]
theorem shortT_good {l : List Br} {T : PT} (h : goodTree l = true) (hT : pT l [] = some [T]) : shortT l = T.short := by
  unfold shortT; rw [hT]; simp [h]
end Go.Proofs.Ytkkifebmicbbaaa.Pi
