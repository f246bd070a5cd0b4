/- Moves, one behind the other. Plain Lean. No condition. -/
import Derived.Test.YtoimodnlefadhaaGreatPlCase
namespace Go.Proofs.YtoimodnlefadhaaGreat.Pi
open Go
set_option linter.all false

def playS (s : Spc) (x : Cs × List Bool) (m : Mv) : Cs × List Bool := if stepB s x.1 m = true then (stepC s x.1 m, x.2 ++ [true]) else (x.1, x.2 ++ [false])
def playK (s : Spc) (c : Cs) (l : List Mv) (k : Nat) : Cs × List Bool := (l.take k).foldl (playS s) (c, [])
theorem playK_zero (s : Spc) (c : Cs) (l : List Mv) : playK s c l 0 = (c, []) := by simp [playK]
theorem playK_succ {s : Spc} {c : Cs} {l : List Mv} {k : Nat} (h : k < l.length) : playK s c l (k + 1) = playS s (playK s c l k) l[k] := by
  unfold playK; rw [List.take_succ_eq_append_getElem h, List.foldl_append]; rfl
theorem playS_len (s : Spc) (x : Cs × List Bool) (m : Mv) : (playS s x m).2.length = x.2.length + 1 := by unfold playS; split <;> simp
theorem playK_len (s : Spc) (c : Cs) (l : List Mv) : ∀ k, k ≤ l.length → (playK s c l k).2.length = k
  | 0, _ => by simp [playK]
  | k + 1, h => by rw [playK_succ (by omega), playS_len, playK_len s c l k (by omega)]
theorem stepC_good {s : Spc} {c : Cs} {m : Mv} (hc : goodC s c = true) (h : stepB s c m = true) : goodC s (stepC s c m) = true := by
  have hm := goodC_mark hc
  have hl := goodM_len hm
  have hfl : (firedM (trM s m) c.mark).length = c.mark.length := firedM_len (trM s m) c.mark
  have hall : (firedM (trM s m) c.mark).all (inB 0 50) = true := by unfold stepB at h; simp only [Bool.and_eq_true] at h; exact h.2
  have hM : goodM (s.conds + s.tasks.length) (firedM (trM s m) c.mark) = true := by
    have h1 : inB 1 16 (s.conds + s.tasks.length) = true := by simp [inB]; omega
    have h2 : (((firedM (trM s m) c.mark).length : Int) == s.conds + s.tasks.length) = true := by simp [hfl]; omega
    simp only [goodM, h1, h2, hall, Bool.true_and]
  have hnn : 0 ≤ at_ (firedM (trM s m) c.mark) 1 := by
    by_cases h1 : 1 < (firedM (trM s m) c.mark).length
    · have e := at_eq (m := firedM (trM s m) c.mark) (p := 1) h1
      rw [← e]
      exact ((goodM_len hM).2.2.2.2 _ (List.getElem_mem h1)).1
    · simp [at_]; rw [List.getElem?_eq_none (by omega)]; simp
  unfold goodC stepC
  simp only [hM, Bool.true_and]
  by_cases hp : 0 < at_ (firedM (trM s m) c.mark) 1
  · simp [hp]
  · simp [hp]; omega
theorem playK_good {s : Spc} {c : Cs} {l : List Mv} (hc : goodC s c = true) : ∀ k, k ≤ l.length → goodC s (playK s c l k).1 = true
  | 0, _ => by simpa [playK] using hc
  | k + 1, h => by
    rw [playK_succ (by omega)]
    unfold playS
    split
    · rename_i hb; exact stepC_good (playK_good hc k (by omega)) hb
    · exact playK_good hc k (by omega)
def firstC (s : Spc) : Cs := ⟨1, oneM (s.conds + s.tasks.length).toNat 0⟩
theorem firstC_good {s : Spc} (h : okTasks s = true) : goodC s (firstC s) = true := by
  obtain ⟨hc, hn, -⟩ := okTasks_parts h
  obtain ⟨n, hN⟩ : ∃ n : Nat, s.conds + (s.tasks.length : Int) = n := ⟨(s.conds + s.tasks.length).toNat, by omega⟩
  unfold goodC firstC
  simp only [hN, Int.toNat_natCast]
  have h1 : inB 1 16 (n : Int) = true := by simp [inB]; omega
  have h2 : (((oneM n 0).length : Int) == (n : Int)) = true := by simp [oneM]
  have h3 : (oneM n 0).all (inB 0 50) = true := by
    rw [List.all_eq_true]
    intro x hx
    rcases List.mem_or_eq_of_mem_set hx with hx | rfl
    · obtain rfl := List.eq_of_mem_replicate hx; decide
    · decide
  have h4 : at_ (oneM n 0) 1 = 0 := by
    simp only [at_, oneM, List.getD_eq_getElem?_getD]
    rw [List.getElem?_set_ne (by decide), List.getElem?_replicate]
    split <;> rfl
  simp [goodM, h1, h2, h3, h4]
theorem firstC_len {s : Spc} (h : okTasks s = true) : (firstC s).mark.length ≤ 16 := by
  obtain ⟨hc, hn, -⟩ := okTasks_parts h
  simp [firstC, oneM]; omega
def padM (l : List Mv) (k : Nat) : List Mv := l.take k ++ List.replicate (l.length - k) ⟨0, false, 0⟩
theorem padM_len {l : List Mv} {k : Nat} (h : k ≤ l.length) : (padM l k).length = l.length := by simp [padM]; omega
theorem padM_zero (l : List Mv) : padM l 0 = List.replicate l.length ⟨0, false, 0⟩ := by simp [padM]
theorem padM_all (l : List Mv) : padM l l.length = l := by simp [padM]
theorem padM_at {l : List Mv} {k : Nat} (hk : k < l.length) : (padM l k)[k]? = some ⟨0, false, 0⟩ := by
  unfold padM
  have hl : (l.take k).length = k := by simp; omega
  rw [List.getElem?_append_right (by omega), hl, Nat.sub_self]
  obtain ⟨d, hd⟩ : ∃ d, l.length - k = d + 1 := ⟨l.length - k - 1, by omega⟩
  rw [hd]; rfl
theorem padM_step {l : List Mv} {k : Nat} (hk : k < l.length) : (padM l k).set k l[k] = padM l (k + 1) := by
  unfold padM
  rw [set_pad hk (by simp; omega), List.take_succ_eq_append_getElem hk]
def mkB (k : Int) (i : Nat) : Bool := (k + (i : Int)).tmod 3 == 0
def mkBs (k : Int) (n : Nat) : List Bool := (List.range n).map (mkB k)
def mkBP (k : Int) (l : List Bool) (i : Nat) : List Bool := mkBs k i ++ l.drop i
theorem mkBs_len (k : Int) (n : Nat) : (mkBs k n).length = n := by simp [mkBs]
theorem mkBP_len {k : Int} {l : List Bool} {i : Nat} (h : i ≤ l.length) : (mkBP k l i).length = l.length := by simp [mkBP, mkBs_len]; omega
theorem mkBP_zero (k : Int) (l : List Bool) : mkBP k l 0 = l := by simp [mkBP, mkBs]
theorem mkBP_all (k : Int) (l : List Bool) : mkBP k l l.length = mkBs k l.length := by simp [mkBP]
theorem mkBP_step {k : Int} {l : List Bool} {i : Nat} (h : i < l.length) : (mkBP k l i).set i (mkB k i) = mkBP k l (i + 1) := by
  unfold mkBP
  rw [List.drop_eq_getElem_cons h, List.set_append, mkBs_len, if_neg (by omega), Nat.sub_self, List.set_cons_zero]
  simp [mkBs, List.range_succ]
end Go.Proofs.YtoimodnlefadhaaGreat.Pi
