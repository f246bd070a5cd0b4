/- Leaving a place out of a flow. Plain Lean. No condition. -/
import Derived.Test.YtkkifebmicbbaaaPlArg
namespace Go.Proofs.Ytkkifebmicbbaaa.Pi
open Go
set_option linter.all false
def lessP (q p : Int) : Int := if q < p then p - 1 else p
def dropL (q : Int) (l : List Int) : List Int := (l.filter fun p => !(p == q)).map (lessP q)
def dropT (q : Int) (t : Tr) : Tr := ⟨dropL q t.inn, dropL q t.out, dropL q t.rst⟩
def dropF (f : Fl) (q : Int) : Fl := ⟨⟨f.net.pl - 1, f.net.tr.map (dropT q)⟩, lessP q f.src, lessP q f.dst⟩
theorem dropL_nil (q : Int) : dropL q [] = [] := rfl
theorem dropL_len (q : Int) (l : List Int) : (dropL q l).length ≤ l.length := by
  unfold dropL; rw [List.length_map]; exact List.length_filter_le _ _
theorem dropL_step {q : Int} {l : List Int} {k : Nat} (h : k < l.length) : dropL q (l.take (k + 1)) = if l[k] = q then dropL q (l.take k) else dropL q (l.take k) ++ [lessP q l[k]] := by
  unfold dropL
  rw [List.take_succ_eq_append_getElem h, List.filter_append, List.map_append]
  split
  · rename_i h; simp [h]
  · rename_i h; simp [h]
theorem goodT_places {p : Int} {t : Tr} (h : goodT p t = true) : (∀ x ∈ t.inn, 0 ≤ x ∧ x < p) ∧ (∀ x ∈ t.out, 0 ≤ x ∧ x < p) ∧ (∀ x ∈ t.rst, 0 ≤ x ∧ x < p) := by
  by_cases hp : 0 ≤ p
  · have := goodT_lt h (m := List.replicate p.toNat 0) (by simp; omega)
    simp only [List.length_replicate] at this
    exact ⟨fun x hx => by have := this.1 x hx; omega, fun x hx => by have := this.2.1 x hx; omega, fun x hx => by have := this.2.2 x hx; omega⟩
  · obtain ⟨h0, h1, -, -⟩ := goodT_parts h
    cases hi : t.inn with
    | nil => exact absurd hi h0
    | cons a l =>
      rw [hi] at h1
      simp [places, inB] at h1
      omega
theorem goodFl_ne {f : Fl} (h : goodFl f = true) : f.net.tr ≠ [] := by
  intro h0
  obtain ⟨hg, hs, hd, hne, -, hw, -⟩ := goodFl_parts h
  have e : ∀ (bk : Bool) (p : Int), (reachC f.net bk p).pl = (List.replicate f.net.pl.toNat false).set p.toNat true := by
    intro bk p
    simp [reachC, clRun, clRound, clK, h0]
  have h1 : wayP f.net f.src f.dst = [] := by
    unfold wayP bothL bothK
    rw [e, e, List.map_eq_nil_iff, List.filter_eq_nil_iff]
    intro i hi
    simp only [List.getD_eq_getElem?_getD, List.getElem?_set, List.length_replicate, List.getElem?_replicate]
    rw [List.mem_range] at hi
    simp only [List.length_set, List.length_replicate] at hi
    by_cases a : f.src.toNat = i
    · have : ¬ f.dst.toNat = i := by omega
      simp [a, this, hi]
    · simp [a, hi]
  rw [h1] at hw
  simp at hw; omega
/-- A row that is nil as long as it is empty. -/
def cellI (b : Nat) (l : List Int) : PV := if l = [] then .nil true 1 else .ref b 1 0 l.length
def blkI (t : TypeId) (l : List Int) : List Blk := if l = [] then [] else [.row t true 1 (l.map I)]
theorem cellI_nil {b : Nat} : cellI b [] = .nil true 1 := rfl
theorem blkI_nil {t : TypeId} : blkI t [] = [] := rfl
theorem cellI_ne {b : Nat} {l : List Int} (h : l ≠ []) : cellI b l = .ref b 1 0 l.length := by simp [cellI, h]
theorem blkI_ne {t : TypeId} {l : List Int} (h : l ≠ []) : blkI t l = [.row t true 1 (l.map I)] := by simp [blkI, h]

/-! ### The new numbers of places -/
def atV (q p : Int) : Int := if p = q then -1 else lessP q p
def atP (q : Int) (n k : Nat) : List Int := (List.range k).map (fun (i : Nat) => atV q i) ++ List.replicate (n - k) 0
theorem atP_len {q : Int} {n k : Nat} (h : k ≤ n) : (atP q n k).length = n := by simp [atP]; omega
theorem atP_zero (q : Int) (n : Nat) : atP q n 0 = List.replicate n 0 := by simp [atP]
theorem atP_step {q : Int} {n k : Nat} (hk : k < n) : (atP q n k).set k (atV q k) = atP q n (k + 1) := by
  unfold atP
  rw [set_pad hk (by simp), List.range_succ, List.map_append]
  rfl
theorem atP_get {q p : Int} {n : Nat} (h0 : 0 ≤ p) (h : p < n) : (atP q n n)[p.toNat]? = some (atV q p) := by
  unfold atP
  have hp : p.toNat < n := by omega
  rw [List.getElem?_append_left (by simpa using hp), List.getElem?_map, List.getElem?_range hp]
  simp [show ((p.toNat : Nat) : Int) = p by omega]
theorem atP_bound {q : Int} {n : Nat} (hq : 0 ≤ q) : ∀ x ∈ atP q n n, -1 ≤ x ∧ x < n := by
  intro x hx
  unfold atP at hx
  simp only [Nat.sub_self, List.replicate_zero, List.append_nil, List.mem_map, List.mem_range] at hx
  obtain ⟨i, hi, rfl⟩ := hx
  unfold atV lessP
  split
  · omega
  · split <;> omega
def cntQ (q : Int) (k : Nat) : Int := if q < k then k - 1 else k
theorem atV_ne {q : Int} {k : Nat} (h : ¬ (k : Int) = q) : atV q k = cntQ q k := by unfold atV lessP cntQ; rw [if_neg h]
theorem cntQ_step {q : Int} {k : Nat} : cntQ q (k + 1) = if (k : Int) = q then cntQ q k else cntQ q k + 1 := by
  unfold cntQ
  split <;> split <;> (try split) <;> omega

/-! ### Which place is left out -/
def innerP (f : Fl) (p : Int) : Bool := !(p == f.src) && !(p == f.dst)
def takI (n : Net) (p : Int) : List Int := idxL (fun t => hasB t.inn p) n
def givI (n : Net) (p : Int) : List Int := idxL (fun t => hasB t.out p) n
def sameP (f : Fl) (q p : Nat) : Bool := innerP f p && innerP f q && (decide (givI f.net p = givI f.net q) && decide (takI f.net p = takI f.net q))
def resQ (f : Fl) : Option Nat := (List.range f.net.pl.toNat).find? fun q => (List.range q).any (sameP f q)
theorem resQ_none {f : Fl} (h : ∀ q, q < f.net.pl.toNat → ∀ p, p < q → sameP f q p = false) : resQ f = none := by
  unfold resQ
  rw [List.find?_eq_none]
  intro q hq
  rw [List.mem_range] at hq
  simp only [List.any_eq_true, List.mem_range, not_exists, not_and]
  intro p hp
  rw [h q hq p hp]; simp
theorem resQ_some {f : Fl} {q p : Nat} (hq : q < f.net.pl.toNat) (hp : p < q) (h0 : ∀ q', q' < q → ∀ p', p' < q' → sameP f q' p' = false) (h : sameP f q p = true) : resQ f = some q := by
  unfold resQ
  rw [List.find?_eq_some_iff_getElem]
  refine ⟨?_, q, by simpa using hq, by simp, ?_⟩
  · simp only [List.any_eq_true, List.mem_range]
    exact ⟨p, hp, h⟩
  · intro j hj
    simp only [List.getElem_range]
    have : (List.range j).any (sameP f j) = false := by
      rw [List.any_eq_false]
      intro p' hp'
      rw [List.mem_range] at hp'
      rw [h0 j hj p' hp']; simp
    rw [this]; rfl
def okRed (f : Fl) : Bool := goodFl f && !hasR f.net
def dropV (f : Fl) : Option Fl := if okRed f = true then (resQ f).map fun (q : Nat) => dropF f (q : Int) else none
end Go.Proofs.Ytkkifebmicbbaaa.Pi
