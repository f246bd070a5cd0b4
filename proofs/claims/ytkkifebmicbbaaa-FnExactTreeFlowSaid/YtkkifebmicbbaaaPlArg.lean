/- Nets and trees as arguments: sizes, copies in part done, equality, marks. Plain Lean. No condition. -/
import Derived.Test.YtkkifebmicbbaaaPlSpec
namespace Go.Proofs.Ytkkifebmicbbaaa.Pi
open Go
set_option linter.all false

instance decTr : DecidableEq Tr := fun a b => decidable_of_iff (a.inn = b.inn ∧ a.out = b.out ∧ a.rst = b.rst) (by cases a; cases b; simp)
instance decNet : DecidableEq Net := fun a b => decidable_of_iff (a.pl = b.pl ∧ a.tr = b.tr) (by cases a; cases b; simp)

/-- A row of transitions of one's own, none before the first. -/
def blkL (t : TypeId) (l : List Tr) : List Blk := if l = [] then [] else [.lin t 3 (l.map encT)]
theorem blkL_nil {t : TypeId} : blkL t [] = [] := rfl
theorem blkL_ne {t : TypeId} {l : List Tr} (h : l ≠ []) : blkL t l = [.lin t 3 (l.map encT)] := by simp [blkL, h]

/-! ### Sizes of nets -/
def lensT (t : Tr) : List Nat := [t.inn.length, t.out.length, t.rst.length]
def szT (t : Tr) (l : Int) : Int := szL (lensT t) l
def szTs (ts : List Tr) (l : Int) : Int := szL (ts.flatMap lensT) l
theorem szTs_step {ts : List Tr} {k : Nat} (hk : k < ts.length) {l : Int} (h : 0 ≤ l) : szTs (ts.take (k + 1)) l = if szTs (ts.take k) l < 0 then -1 else szT ts[k] (szTs (ts.take k) l) := by
  unfold szTs szT
  rw [List.take_succ_eq_append_getElem hk, List.flatMap_append, szL_app _ _ _ h]
  simp
theorem szTs_neg {ts : List Tr} {k : Nat} {l : Int} (h : 0 ≤ l) (hn : szTs (ts.take k) l < 0) : szTs ts l = -1 := by
  unfold szTs at hn ⊢
  conv => lhs; rw [← List.take_append_drop k ts]
  rw [List.flatMap_append, szL_app _ _ _ h, if_pos hn]
def szNt (n : Net) (l : Int) : Int := szL (n.tr.length :: n.tr.flatMap lensT) l
theorem szNt_eq (n : Net) (l : Int) : szNt n l = if l - n.tr.length < 0 then -1 else szTs n.tr (l - n.tr.length) := rfl
theorem szNt_small {n : Net} {l : Int} (h : 0 ≤ szNt n l) (hl : l ≤ 1048576) : n.tr.length ≤ 1048576 ∧ ∀ t ∈ n.tr, t.inn.length ≤ 1048576 ∧ t.out.length ≤ 1048576 ∧ t.rst.length ≤ 1048576 := by
  have := szL_all _ _ h
  refine ⟨by have := this n.tr.length (by simp); omega, fun t ht => ?_⟩
  have h4 : ∀ m ∈ lensT t, (m : Int) ≤ l := fun m hm => this m (List.mem_cons_of_mem _ (List.mem_flatMap.2 ⟨t, ht, hm⟩))
  have a1 := h4 t.inn.length (by simp [lensT])
  have a2 := h4 t.out.length (by simp [lensT])
  have a3 := h4 t.rst.length (by simp [lensT])
  omega
theorem szNt_smN {n : Net} {l : Int} (h : 0 ≤ szNt n l) (hl : l ≤ 1048576) : smN n := by
  obtain ⟨h1, h2⟩ := szNt_small h hl
  refine ⟨by omega, fun t ht => ?_⟩
  obtain ⟨a, b, c⟩ := h2 t ht
  exact ⟨by omega, by omega, by omega⟩

/-! ### Copies, in part done -/
abbrev zeroT : PV := .agg [.nil true 1, .nil true 1, .nil true 1]
def padT (l : List Tr) (k : Nat) : List PV := (l.take k).map encT ++ List.replicate (l.length - k) zeroT
theorem padT_len {l : List Tr} {k : Nat} (h : k ≤ l.length) : (padT l k).length = l.length := by simp [padT]; omega
theorem padT_zero (l : List Tr) : padT l 0 = List.replicate l.length zeroT := by simp [padT]
theorem padT_all (l : List Tr) : padT l l.length = l.map encT := by simp [padT]
theorem padT_at {l : List Tr} {k : Nat} (hk : k < l.length) : (padT l k)[k]? = some zeroT := by
  unfold padT
  have hl : ((l.take k).map encT).length = k := by simp; omega
  rw [List.getElem?_append_right (by omega), hl, Nat.sub_self]
  obtain ⟨d, hd⟩ : ∃ d, l.length - k = d + 1 := ⟨l.length - k - 1, by omega⟩
  rw [hd]; rfl
theorem padT_step {l : List Tr} {k : Nat} (hk : k < l.length) : (padT l k).set k (encT l[k]) = padT l (k + 1) := by
  unfold padT
  rw [set_pad hk (by simp; omega), List.take_succ_eq_append_getElem hk, List.map_append]
  rfl

/-! ### A net's fields, marked -/
def mtLen (t : Tr) : Nat := t.inn.length + t.out.length + t.rst.length
def mtTr (k : Int) (t : Tr) : Tr := ⟨markL k t.inn.length, markL (k + t.inn.length) t.out.length, markL (k + t.inn.length + t.out.length) t.rst.length⟩
def mtN (l : List Tr) (i : Nat) : Nat := ((l.take i).map mtLen).sum
def mtP (k : Int) (l : List Tr) : Nat → List Tr
  | 0 => l
  | i + 1 => match l[i]? with
    | some t => (mtP k l i).set i (mtTr (k + mtN l i) t)
    | none => mtP k l i
theorem mtP_len (k : Int) (l : List Tr) : ∀ i, (mtP k l i).length = l.length
  | 0 => rfl
  | i + 1 => by unfold mtP; split <;> simp [mtP_len k l i]
theorem mtP_get (k : Int) (l : List Tr) : ∀ i j, i ≤ j → (mtP k l i)[j]? = l[j]?
  | 0, _, _ => rfl
  | i + 1, j, h => by
    unfold mtP
    split
    · rw [List.getElem?_set_ne (by omega), mtP_get k l i j (by omega)]
    · exact mtP_get k l i j (by omega)
theorem mtP_step {k : Int} {l : List Tr} {i : Nat} (h : i < l.length) : mtP k l (i + 1) = (mtP k l i).set i (mtTr (k + mtN l i) l[i]) := by
  simp [mtP, h]
theorem mtN_step {l : List Tr} {i : Nat} (h : i < l.length) : mtN l (i + 1) = mtN l i + mtLen l[i] := by
  unfold mtN; rw [List.take_succ_eq_append_getElem h, List.map_append, List.sum_append]; simp only [List.map_cons, List.map_nil, List.sum_cons, List.sum_nil, Nat.add_zero]
theorem mtN_le {l : List Tr} (hb : ∀ t ∈ l, mtLen t ≤ 2^30) : ∀ i, i ≤ l.length → mtN l i ≤ i * 2^30
  | 0, _ => by simp [mtN]
  | i + 1, h => by
    have := mtN_le hb i (by omega)
    have h2 := hb _ (List.getElem_mem (show i < l.length by omega))
    rw [mtN_step (by omega)]; omega
theorem mtP_got (k : Int) (l : List Tr) : ∀ (i j : Nat) (_ : j < i) (hj : j < l.length), (mtP k l i)[j]? = some (mtTr (k + mtN l j) l[j])
  | 0, _, h, _ => by omega
  | i + 1, j, h, hj => by
    by_cases hi : i < l.length
    · rw [mtP_step hi]
      by_cases e : j = i
      · subst e
        rw [List.getElem?_set_self (by rw [mtP_len]; exact hj)]
      · rw [List.getElem?_set_ne (by omega), mtP_got k l i j (by omega) hj]
    · have e : mtP k l (i + 1) = mtP k l i := by simp [mtP, show l[i]? = none from List.getElem?_eq_none (by omega)]
      rw [e]
      exact mtP_got k l i j (by omega) hj
theorem mtLen_eq (t : Tr) : mtLen t = t.inn.length + t.out.length + t.rst.length := rfl
theorem mtTr_len (k : Int) (t : Tr) : (mtTr k t).inn.length = t.inn.length ∧ (mtTr k t).out.length = t.out.length ∧ (mtTr k t).rst.length = t.rst.length := by simp [mtTr, markL_len]

/-! ### Trees -/
structure Br where
  op : Int
  n : Int
  deriving DecidableEq
abbrev encB (b : Br) : PV := .agg [I b.op, I b.n]
abbrev brs (l : List Br) : PV := .sl true 2 (l.map encB)
def padB (l : List Br) (k : Nat) : List Br := l.take k ++ List.replicate (l.length - k) ⟨0, 0⟩
theorem padB_len {l : List Br} {k : Nat} (h : k ≤ l.length) : (padB l k).length = l.length := by simp [padB]; omega
theorem padB_zero (l : List Br) : padB l 0 = List.replicate l.length ⟨0, 0⟩ := by simp [padB]
theorem padB_all (l : List Br) : padB l l.length = l := by simp [padB]
theorem padB_at {l : List Br} {k : Nat} (hk : k < l.length) : (padB l k)[k]? = some ⟨0, 0⟩ := by
  unfold padB
  rw [List.getElem?_append_right (by simp; omega), List.getElem?_replicate]
  rw [if_pos (by simp; omega)]
theorem padB_step {l : List Br} {k : Nat} (hk : k < l.length) : (padB l k).set k l[k] = padB l (k + 1) := by
  unfold padB
  rw [set_pad hk (by simp; omega), List.take_succ_eq_append_getElem hk]
def mkBr (k : Int) (i : Nat) : Br := ⟨k + 2 * (i : Int), k + 2 * (i : Int) + 1⟩
def mkBrs (k : Int) (n : Nat) : List Br := (List.range n).map (mkBr k)
def mkBrP (k : Int) (l : List Br) (i : Nat) : List Br := mkBrs k i ++ l.drop i
theorem mkBrs_len (k : Int) (n : Nat) : (mkBrs k n).length = n := by simp [mkBrs]
theorem mkBrP_len {k : Int} {l : List Br} {i : Nat} (h : i ≤ l.length) : (mkBrP k l i).length = l.length := by simp [mkBrP, mkBrs_len]; omega
theorem mkBrP_zero (k : Int) (l : List Br) : mkBrP k l 0 = l := by simp [mkBrP, mkBrs]
theorem mkBrP_all (k : Int) (l : List Br) : mkBrP k l l.length = mkBrs k l.length := by simp [mkBrP]
theorem mkBrP_get {k : Int} {l : List Br} {i : Nat} (h : i < l.length) : (mkBrP k l i)[i]? = some l[i] := by
  unfold mkBrP
  rw [List.getElem?_append_right (by rw [mkBrs_len]; omega), mkBrs_len, Nat.sub_self, List.getElem?_drop]
  simp
theorem mkBrP_step {k : Int} {l : List Br} {i : Nat} (h : i < l.length) : (mkBrP k l i).set i (mkBr k i) = mkBrP k l (i + 1) := by
  unfold mkBrP
  rw [List.drop_eq_getElem_cons h, List.set_append, mkBrs_len, if_neg (by omega), Nat.sub_self, List.set_cons_zero]
  simp [mkBrs, List.range_succ]
/-- How deep the pile is behind branches, if none fails. -/
def pileB : List Br → Nat → Option Nat
  | [], p => some p
  | b :: t, p => if b.op = 1 ∧ 1 ≤ b.n ∧ b.n ≤ 9 then pileB t (p + 1) else if 2 ≤ b.op ∧ b.op ≤ 5 ∧ b.n = 0 ∧ 2 ≤ p then pileB t (p - 1) else none
def goodTree (l : List Br) : Bool := decide (l.length ≤ 15) && (pileB l 0 == some 1)

/-! ### Letters and words -/
def goodLt (n : Net) (l : List Int) : Bool := goodN n && decide (l.length = n.tr.length) && l.all (inB 0 9)
def wordP (l q : List Int) : List Int := (q.map (at_ l)).filter fun x => decide (0 < x)
def wordV (n : Net) (l q : List Int) : List Int := if (goodLt n l && areTr n q) = true then wordP l q else []
theorem wordP_step {l q : List Int} {k : Nat} (h : k < q.length) : wordP l (q.take (k + 1)) = if 0 < at_ l q[k] then wordP l (q.take k) ++ [at_ l q[k]] else wordP l (q.take k) := by
  unfold wordP
  rw [List.take_succ_eq_append_getElem h, List.map_append, List.filter_append]
  split
  · rename_i h; simp [h]
  · rename_i h; simp [h]
theorem wordP_len (l q : List Int) : (wordP l q).length ≤ q.length := by
  unfold wordP
  exact Nat.le_trans (List.length_filter_le _ _) (by simp)
end Go.Proofs.Ytkkifebmicbbaaa.Pi
