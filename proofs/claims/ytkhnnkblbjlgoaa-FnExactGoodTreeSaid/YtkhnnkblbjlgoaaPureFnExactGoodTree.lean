/- FnExactGoodTree: the program's GoodTree and the reference's answer alike, for every list of branches, and the list stays. No condition. -/
import Derived.Test.YtkhnnkblbjlgoaaPFnExactGoodTreex
namespace Go.Proofs.Ytkhnnkblbjlgoaa.PureFnExactGoodTree
open Go.RowKit Go.Proofs.Ytkhnnkblbjlgoaa.PFnExactGoodTree Go.Proofs.YtkhnnkblbjlgoaaW.PrintWords Go.Proofs.YtkhnnkblbjlgoaaW.PrintLast Go.Proofs.YtkhnnkblbjlgoaaW.PrintMore
abbrev SA := S62
abbrev SB := S60
theorem wrap_small {x : Int} (h0 : -1000000000 ≤ x) (h : x ≤ 1000000000) : wrap64 x = x := by
  unfold wrap64
  omega
theorem sz_eq (l : List SA) (hl : l.length ≤ 9223372036854775807) : laws_szBranchS.f l 1048576 = some (if 1048576 < l.length then -1 else 1048576 - (l.length : Int)) := by
  have h : wrap64 (1048576 - (l.length : Int)) = 1048576 - (l.length : Int) := by unfold wrap64; omega
  simp only [laws_szBranchS.f, h]
  by_cases h1 : 1048576 < l.length
  · rw [if_pos (by omega), if_pos h1]
  · rw [if_neg (by omega), if_neg h1]
def conv (x : SA) : SB := ⟨x.f0, x.f1⟩
theorem to_loop (l : List SA) (hl : l.length ≤ 1048576) (d : Nat) : ∀ (k i : Nat) (r : List SB), i + d = l.length → r.length = l.length → d < k → (∀ j, j < i → r[j]? = (l[j]?).map conv) →
    laws_toBranchS.l0 k l r i = some (l.map conv) := by
  induction d with
  | zero =>
    intro k i r hi hr hk hj
    obtain ⟨k, rfl⟩ : ∃ m, k = m + 1 := ⟨k - 1, by omega⟩
    simp only [laws_toBranchS.l0]
    rw [if_neg (by omega)]
    congr 1
    apply List.ext_getElem?
    intro j
    rw [List.getElem?_map]
    by_cases h : j < i
    · exact hj j h
    · rw [List.getElem?_eq_none (by omega), List.getElem?_eq_none (by omega)]
      rfl
  | succ d ih =>
    intro k i r hi hr hk hj
    obtain ⟨k, rfl⟩ : ∃ m, k = m + 1 := ⟨k - 1, by omega⟩
    simp only [laws_toBranchS.l0, laws_toBranch.f, Option.bind_some]
    rw [if_pos (by omega), if_pos (by omega), if_pos (by omega), wrap_small (by omega) (by omega)]
    refine ih k (i + 1) _ (by omega) (by simp [hr]) (by omega) fun j hj' => ?_
    rw [List.getElem?_set]
    by_cases h : j = i
    · subst h
      simp only [Int.toNat_natCast, if_true]
      rw [if_pos (by omega), List.getElem?_eq_getElem (show j < l.length by omega)]
      simp [conv, rd_T62, List.getElem?_eq_getElem (show j < l.length by omega)]
    · simp only [Int.toNat_natCast]
      rw [if_neg (by omega)]
      exact hj j (by omega)
theorem to_eq (l : List SA) (hl : l.length ≤ 1048576) (k : Nat) (hk : l.length < k) : laws_toBranchS.f k l = some (l.map conv) := by
  simp only [laws_toBranchS.f]
  rw [if_pos (by omega), if_pos (by omega)]
  exact to_loop l hl l.length k 0 _ (by omega) (by simp) hk (fun j hj => by omega)
theorem eq_loop (l : List SB) (hl : l.length ≤ 1048576) (d : Nat) : ∀ (k i : Nat), i + d = l.length → d < k → laws_eqBranchS.l0 k l l i = some true := by
  induction d with
  | zero =>
    intro k i hi hk
    obtain ⟨k, rfl⟩ : ∃ m, k = m + 1 := ⟨k - 1, by omega⟩
    simp only [laws_eqBranchS.l0]
    rw [if_neg (by omega)]
  | succ d ih =>
    intro k i hi hk
    obtain ⟨k, rfl⟩ : ∃ m, k = m + 1 := ⟨k - 1, by omega⟩
    simp only [laws_eqBranchS.l0, laws_eqBranch.f, Option.bind_some, if_true]
    rw [if_pos (by omega), if_pos (by omega), if_pos (by omega), wrap_small (by omega) (by omega)]
    exact ih k (i + 1) (by omega) (by omega)
theorem eq_eq (l : List SB) (hl : l.length ≤ 1048576) (k : Nat) (hk : l.length < k) : laws_eqBranchS.f k l l = some true := by
  simp only [laws_eqBranchS.f, if_true]
  exact eq_loop l hl l.length k 0 (by omega) hk

/-- What both count: how deep the stack is behind the branches from i on; none where a branch fails. -/
def depth : List SB → Int → Option Int
  | [], p => some p
  | b :: t, p => if b.f0 = 1 ∧ 1 ≤ b.f1 ∧ b.f1 ≤ 9 then depth t (p + 1) else if 2 ≤ b.f0 ∧ b.f0 ≤ 5 ∧ b.f1 = 0 ∧ 2 ≤ p then depth t (p - 1) else none
theorem rd_eq (l : List SB) (i : Nat) (h : i < l.length) : rd_T60 l (i : Int) = l[i] := by
  simp [rd_T60, List.getElem?_eq_getElem h]
theorem in_eq (x y z : Int) : spec_l1In.f x y z = some (decide (y ≤ x ∧ x ≤ z)) := by
  unfold spec_l1In.f
  by_cases h : x ≥ y <;> simp [h]
theorem within_eq (x y z : Int) : impl_within.f x y z = some (decide (y ≤ x ∧ x ≤ z)) := in_eq x y z
theorem spec_loop (l : List SB) (hl : l.length ≤ 1048576) (d : Nat) : ∀ (k i : Nat) (p : Int), i + d = l.length → 0 ≤ p → p ≤ i → 2 * d + 1 < k →
    spec_l11Good.l0 k p l (l.length : Int) i = some ((depth (l.drop i) p) == some 1) := by
  induction d with
  | zero =>
    intro k i p hi h0 hp hk
    obtain ⟨k, rfl⟩ : ∃ m, k = m + 1 := ⟨k - 1, by omega⟩
    simp only [spec_l11Good.l0]
    rw [if_neg (by omega), List.drop_eq_nil_of_le (by omega)]
    simp [depth]
  | succ d ih =>
    intro k i p hi h0 hp hk
    obtain ⟨k, rfl⟩ : ∃ m, k = m + 2 := ⟨k - 2, by omega⟩
    have hlt : i < l.length := by omega
    simp only [spec_l11Good.l0]
    rw [if_pos (by omega), if_pos (by omega), if_pos (by omega), rd_eq l i hlt, List.drop_eq_getElem_cons hlt]
    generalize l[i] = b
    obtain ⟨op, n⟩ := b
    have up := ih k (i + 1) (p + 1) (by omega) (by omega) (by omega) (by omega)
    have down := fun h : 2 ≤ p => ih k (i + 1) (p - 1) (by omega) (by omega) (by omega) (by omega)
    have w1 : wrap64 ((i : Int) + 1) = ((i + 1 : Nat) : Int) := by rw [wrap_small (by omega) (by omega)]; omega
    have w2 : wrap64 (p + 1) = p + 1 := wrap_small (by omega) (by omega)
    have w3 : wrap64 (p - 1) = p - 1 := wrap_small (by omega) (by omega)
    simp only [spec_l11Good.j1, in_eq, Option.bind_some, w1, w2, w3, up, depth]
    by_cases h1 : op = 1
    · subst h1
      by_cases h2 : 1 ≤ n ∧ n ≤ 9 <;> simp [h2]
    · by_cases h2 : 2 ≤ op ∧ op ≤ 5
      · by_cases h3 : n = 0
        · by_cases h4 : 2 ≤ p
          · simp [h1, h2, h3, h4]
            simpa using down h4
          · simp [h1, h2, h3, h4]
        · simp [h1, h2, h3]
      · simp [h1, h2]
        intro a b
        exact absurd ⟨a, b⟩ h2
theorem impl_loop (l0 l : List SB) (hl : l.length ≤ 1048576) (d : Nat) : ∀ (k i : Nat) (p : Int), i + d = l.length → 0 ≤ p → p ≤ i → 2 * d + 1 < k →
    impl_isTree.l0 k l0 p l (l.length : Int) i = some ((depth (l.drop i) p) == some 1 && decide (l0.length ≤ 15)) := by
  induction d with
  | zero =>
    intro k i p hi h0 hp hk
    obtain ⟨k, rfl⟩ : ∃ m, k = m + 1 := ⟨k - 1, by omega⟩
    simp only [impl_isTree.l0]
    rw [if_neg (by omega), List.drop_eq_nil_of_le (by omega)]
    by_cases h : p = 1 <;> simp [depth, h]
    omega
  | succ d ih =>
    intro k i p hi h0 hp hk
    obtain ⟨k, rfl⟩ : ∃ m, k = m + 2 := ⟨k - 2, by omega⟩
    have hlt : i < l.length := by omega
    simp only [impl_isTree.l0]
    rw [if_pos (by omega), if_pos (by omega), if_pos (by omega), rd_eq l i hlt, List.drop_eq_getElem_cons hlt]
    generalize l[i] = b
    obtain ⟨op, n⟩ := b
    have up := ih k (i + 1) (p + 1) (by omega) (by omega) (by omega) (by omega)
    have down := fun h : 2 ≤ p => ih k (i + 1) (p - 1) (by omega) (by omega) (by omega) (by omega)
    have w1 : wrap64 ((i : Int) + 1) = ((i + 1 : Nat) : Int) := by rw [wrap_small (by omega) (by omega)]; omega
    have w2 : wrap64 (p + 1) = p + 1 := wrap_small (by omega) (by omega)
    have w3 : wrap64 (p - 1) = p - 1 := wrap_small (by omega) (by omega)
    simp only [impl_isTree.j1, within_eq, Option.bind_some, w1, w2, w3, up, depth]
    by_cases h1 : op = 1
    · subst h1
      by_cases h2 : 1 ≤ n ∧ n ≤ 9 <;> simp [h2]
    · by_cases h2 : 2 ≤ op ∧ op ≤ 5
      · by_cases h3 : n = 0
        · by_cases h4 : 2 ≤ p
          · have h5 : p > 1 := by omega
            simp [h1, h2, h3, h4, h5]
            simpa using down h4
          · have h5 : ¬ p > 1 := by omega
            simp [h1, h2, h3, h4, h5]
        · simp [h1, h2, h3]
      · simp [h1, h2]
        intro a b
        exact absurd ⟨a, b⟩ h2
theorem good_eq (l : List SB) (hl : l.length ≤ 1048576) (k : Nat) (hk : 2 * l.length + 2 < k) : ∃ r, spec_GoodTree.f k l = some r ∧ impl_GoodTree.f k l = some r := by
  refine ⟨(depth l 0) == some 1 && decide (l.length ≤ 15), ?_, ?_⟩
  · have h := spec_loop l hl l.length k 0 0 (by omega) (by omega) (by omega) (by omega)
    simp only [spec_GoodTree.f, spec_l11Good.f, in_eq, Option.bind_some]
    rw [List.drop_zero] at h
    simp only [Int.natCast_zero] at h
    rw [h]
    cases l with
    | nil => simp [depth]
    | cons b t =>
      by_cases h15 : t.length + 1 ≤ 15
      · have : (1 : Int) ≤ ((b :: t).length : Int) ∧ ((b :: t).length : Int) ≤ 15 := by simp; omega
        simp only [this, and_self, decide_true, if_true, Option.bind_some]
        simp [h15]
      · have : ¬ ((1 : Int) ≤ ((b :: t).length : Int) ∧ ((b :: t).length : Int) ≤ 15) := by simp; omega
        simp only [this, decide_false, Bool.false_eq_true, if_false, Option.bind_some]
        simp [h15]
  · have h := impl_loop l l hl l.length k 0 0 (by omega) (by omega) (by omega) (by omega)
    simp only [impl_GoodTree.f, impl_isTree.f]
    rw [List.drop_zero] at h
    simp only [Int.natCast_zero] at h
    rw [h]
    rfl
theorem pure_true (l : List SA) (hl : l.length ≤ 9223372036854775807) : ∃ k, laws_FnExactGoodTree.f k l = some true := by
  by_cases h : 1048576 < l.length
  · exact ⟨0, by simp only [laws_FnExactGoodTree.f, sz_eq l hl, if_pos h, Option.bind_some]; rfl⟩
  · obtain ⟨r, h1, h2⟩ := good_eq (l.map conv) (by simp; omega) (2 * l.length + 3) (by simp)
    refine ⟨2 * l.length + 3, ?_⟩
    simp only [laws_FnExactGoodTree.f, sz_eq l hl, if_neg h, Option.bind_some, to_eq l (by omega) _ (show l.length < 2 * l.length + 3 by omega), h1, h2, eq_eq (l.map conv) (by simp; omega) _ (show (l.map conv).length < 2 * l.length + 3 by simp; omega)]
    rw [if_neg (by omega)]
    simp
theorem walk (A0 : Option Addr) (c0 : Nat) (l0 : List SA) (W : World) (hC : Kd.C k62 W A0 l0.length l0) (hl : l0.length ≤ c0) : Calls Try.prog 5 #[.slice A0 l0.length c0] W fun e W' => e = .returned (.bool true) ∧ Below W.heap.size W W' := by
  obtain ⟨k, h⟩ := pure_true l0 hC.2.1
  exact laws_FnExactGoodTree.calls k A0 c0 l0 true W hC hl h
end Go.Proofs.Ytkhnnkblbjlgoaa.PureFnExactGoodTree
