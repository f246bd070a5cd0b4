/- Plain laws of steps back. -/
import Derived.Test.YtkkifebmicbbaaaPlTurn
namespace Go.Proofs.Ytkkifebmicbbaaa.Pi
open Go
set_option linter.all false

def one (b : Bool) : Int := if b then 1 else 0
def backX (t : Tr) (m : List Int) (i : Nat) : Int := max 0 (at_ m i - one (hasB t.out i)) + one (hasB t.inn i)
def backK (t : Tr) (m : List Int) (k : Nat) : List Int := (List.range k).map (backX t m)
def backM (t : Tr) (m : List Int) : List Int := backK t m m.length
def stuckX (t : Tr) (m : List Int) (i : Nat) : Bool := hasB t.rst i && decide (0 < at_ m i - one (hasB t.out i))
def okB (t : Tr) (m : List Int) : Bool := (List.range m.length).all fun i => !stuckX t m i
theorem backK_len (t : Tr) (m : List Int) (k : Nat) : (backK t m k).length = k := by simp [backK]
theorem backM_len (t : Tr) (m : List Int) : (backM t m).length = m.length := backK_len ..
theorem backK_succ (t : Tr) (m : List Int) (k : Nat) : backK t m (k + 1) = backK t m k ++ [backX t m k] := by simp [backK, List.range_succ]
theorem okB_not {t : Tr} {m : List Int} {k : Nat} (hk : k < m.length) (h : stuckX t m k = true) : okB t m = false := by
  unfold okB
  rw [List.all_eq_false]
  exact ⟨k, by simpa using hk, by simp [h]⟩
theorem okB_of {t : Tr} {m : List Int} (h : ∀ k, k < m.length → stuckX t m k = false) : okB t m = true := by
  unfold okB
  rw [List.all_eq_true]
  intro k hk
  simp [h k (by simpa using hk)]
theorem okB_at {t : Tr} {m : List Int} (h : okB t m = true) {k : Nat} (hk : k < m.length) : stuckX t m k = false := by
  unfold okB at h
  rw [List.all_eq_true] at h
  simpa using h k (by simpa using hk)
theorem at_backM {t : Tr} {m : List Int} {p : Int} (hp : 0 ≤ p) (hl : p.toNat < m.length) : at_ (backM t m) p = max 0 (at_ m p - one (hasB t.out p)) + one (hasB t.inn p) := by
  rw [← at_eq (by simpa [backM_len] using hl)]
  simp only [backM, backK, List.getElem_map, List.getElem_range, backX, Int.toNat_of_nonneg hp]
def okStep (n : Net) (t : Int) (m : List Int) : Bool := marked n m && inB 0 (n.tr.length - 1) t && okB (trAt n t) m && (backM (trAt n t) m).all (inB 0 50)
theorem coversB_at {a b : List Int} (hl : a.length = b.length) : coversB a b = true ↔ ∀ p : Int, 0 ≤ p → p.toNat < a.length → at_ b p ≤ at_ a p := by
  unfold coversB
  rw [List.all_eq_true]
  constructor
  · intro h p hp hpl
    have h1 := h (a[p.toNat], b[p.toNat]'(by omega)) (by
      rw [List.mem_iff_getElem]
      exact ⟨p.toNat, by simp; omega, by simp⟩)
    simp only [decide_eq_true_eq] at h1
    rwa [at_eq, at_eq] at h1
  · intro h x hx
    obtain ⟨i, hi, rfl⟩ := List.mem_iff_getElem.1 hx
    simp only [List.length_zip] at hi
    have := h i (by omega) (by simp; omega)
    rw [← at_eq (by simp; omega), ← at_eq (by simp; omega)] at this
    simpa using this
theorem hasB_if (l : List Int) (p : Int) : one (hasB l p) = if p ∈ l then 1 else 0 := by
  unfold hasB one
  by_cases h : p ∈ l <;> simp [h]
theorem okStep_parts {n : Net} {t : Int} {m : List Int} (h : okStep n t m = true) : goodN n = true ∧ goodM n.pl m = true ∧ 0 ≤ t ∧ t.toNat < n.tr.length ∧ goodT n.pl (trAt n t) = true ∧ okB (trAt n t) m = true ∧ (backM (trAt n t) m).all (inB 0 50) = true := by
  simp only [okStep, Bool.and_eq_true] at h
  obtain ⟨⟨⟨h1, h2⟩, h3⟩, h4⟩ := h
  obtain ⟨g1, g2⟩ := marked_parts h1
  have h5 : 0 ≤ t ∧ t.toNat < n.tr.length := by simp [inB] at h2; omega
  have := (goodN_parts g1).2.2.2 _ (List.getElem_mem h5.2)
  rw [trAt_eq h5.2] at this
  exact ⟨g1, g2, h5.1, h5.2, this, h3, h4⟩
/-- A step back fires to what covers. -/
theorem step_covers {n : Net} {t : Int} {m : List Int} (h : okStep n t m = true) : coversB (firedM (trAt n t) (backM (trAt n t) m)) m = true := by
  obtain ⟨h1, h2, h3, h4, h5, h6, h7⟩ := okStep_parts h
  have hm := goodM_len h2
  rw [coversB_at (by rw [firedM_len, backM_len])]
  intro p hp hl
  rw [firedM_len, backM_len] at hl
  rw [at_firedG h5 (by rw [backM_len]; exact hm.2.2.1) hp, at_backM hp hl, hasB_if, hasB_if]
  have hs := okB_at h6 hl
  simp only [stuckX, hasB_if, Int.toNat_of_nonneg hp] at hs
  by_cases hr : p ∈ (trAt n t).rst
  · simp only [hasB, hr, decide_true, Bool.true_and, decide_eq_false_iff_not] at hs
    simp only [hr, if_true]; omega
  · simp only [hr, if_false]; omega
/-- What fires to what covers covers the step back. -/
theorem step_least {n : Net} {t : Int} {m d : List Int} (hm : marked n m = true) (hf : okFire n d t = true) (hc : coversB (firedM (trAt n t) d) m = true) : okStep n t m = true ∧ coversB d (backM (trAt n t) m) = true := by
  obtain ⟨g1, g2⟩ := marked_parts hm
  obtain ⟨h1, h2⟩ := Bool.and_eq_true .. ▸ hf
  obtain ⟨h3, h4, h5, h6, h7, h8⟩ := canN_parts h1
  have lm := goodM_len g2
  have ld := goodM_len h4
  rw [coversB_at (by rw [firedM_len]; omega)] at hc
  have key : ∀ p : Int, 0 ≤ p → p.toNat < m.length → stuckX (trAt n t) m p.toNat = false ∧ 0 ≤ at_ (backM (trAt n t) m) p ∧ at_ (backM (trAt n t) m) p ≤ at_ d p ∧ at_ d p ≤ 50 := by
    intro p hp hl
    have c := hc p hp (by rw [firedM_len]; omega)
    rw [at_firedG h8 ld.2.2.1 hp] at c
    have b := at_bound (p := p) ld.2.2.2.2 (by omega)
    have e : p ∈ (trAt n t).inn → at_ d p ≠ 0 := fun hi => canT_at h7 hi
    rw [at_backM hp hl]
    simp only [stuckX, hasB_if, Int.toNat_of_nonneg hp]
    by_cases hr : p ∈ (trAt n t).rst
    · simp only [hr, if_true] at c
      simp only [hasB, hr, decide_true, Bool.true_and, decide_eq_false_iff_not]
      by_cases hi : p ∈ (trAt n t).inn
      · have := e hi; simp only [hi, if_true]; omega
      · simp only [hi, if_false]; omega
    · simp only [hr, if_false] at c
      simp only [hasB, hr, decide_false, Bool.false_and, true_and]
      by_cases hi : p ∈ (trAt n t).inn
      · have := e hi; simp only [hi, if_true] at c ⊢; omega
      · simp only [hi, if_false] at c ⊢; omega
  have hok : okB (trAt n t) m = true := okB_of fun k hk => by
    have := (key k (by omega) (by simpa using hk)).1
    simpa using this
  have hb : (backM (trAt n t) m).all (inB 0 50) = true := by
    rw [List.all_eq_true]
    intro x hx
    obtain ⟨i, hi, rfl⟩ := List.mem_iff_getElem.1 hx
    have := key i (by omega) (by rw [backM_len] at hi; simpa using hi)
    rw [← at_eq (by simpa using hi)] at this
    simp only [inB, Bool.and_eq_true, decide_eq_true_eq]
    simp only [Int.toNat_natCast] at this
    omega
  have hi : inB 0 (n.tr.length - 1) t = true := by simp [inB]; omega
  refine ⟨by simp only [okStep, hm, hi, hok, hb, Bool.and_self], ?_⟩
  rw [coversB_at (by rw [backM_len]; omega)]
  intro p hp hl
  exact (key p hp (by omega)).2.2.1
end Go.Proofs.Ytkkifebmicbbaaa.Pi
