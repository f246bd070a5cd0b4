/- Plain laws of lists and numbers. -/
import Derived.Test.YtkkifebmicbbaaaPiRy
namespace Go.Proofs.Ytkkifebmicbbaaa.Pi
open Go
set_option linter.all false

/-- Bytes. -/
abbrev bys (l : List Int) : PV := .sl true 1 (l.map (PV.int .u8))
/-- Rows of rows of ints. -/
abbrev rows (l : List (List Int)) : PV := .sl false 1 (l.map ints)

theorem take_snoc {α : Type} {l : List α} {k : Nat} (hk : k < l.length) : l.take (k + 1) = l.take k ++ [l[k]] := List.take_succ_eq_append_getElem hk
theorem fill_step {α : Type} (xs : List α) (z : α) (k : Nat) (hk : k < xs.length) :
    (xs.take k ++ List.replicate (xs.length - k) z).set k xs[k] = xs.take (k + 1) ++ List.replicate (xs.length - (k + 1)) z := by
  have h1 : (xs.take k).length = k := by simp; omega
  rw [List.set_append_right _ _ (by omega), h1, Nat.sub_self]
  rw [show xs.length - k = (xs.length - (k + 1)) + 1 by omega, List.replicate_succ, List.set_cons_zero, take_snoc hk, List.append_assoc]
  rfl

theorem fill_next {α : Type} (xs : List α) (z : α) (n k : Nat) (hn : xs.length = n) (hk : k < n) (y : α) (hy : xs[k]? = some y) :
    (xs.take k ++ List.replicate (n - k) z).set k y = xs.take (k + 1) ++ List.replicate (n - (k + 1)) z := by
  subst hn
  rw [List.getElem?_eq_getElem hk] at hy
  cases hy
  exact fill_step xs z k hk
theorem all_take {α : Type} {l : List α} {p : α → Bool} {k : Nat} (hk : k < l.length) (h : (l.take k).all p = true) (hp : p l[k] = true) : (l.take (k + 1)).all p = true := by
  rw [take_snoc hk, List.all_append, h, List.all_cons, hp]; rfl
theorem all_false {α : Type} {l : List α} {p : α → Bool} {k : Nat} (hk : k < l.length) (hp : p l[k] = false) : l.all p = false := by
  rw [List.all_eq_false]; exact ⟨l[k], List.getElem_mem hk, by simp [hp]⟩
theorem any_take {α : Type} {l : List α} {p : α → Bool} {k : Nat} (hk : k < l.length) (h : (l.take k).any p = false) (hp : p l[k] = false) : (l.take (k + 1)).any p = false := by
  rw [take_snoc hk, List.any_append, h, List.any_cons, hp]; rfl
theorem any_true {α : Type} {l : List α} {p : α → Bool} {k : Nat} (hk : k < l.length) (hp : p l[k] = true) : l.any p = true := by
  rw [List.any_eq_true]; exact ⟨l[k], List.getElem_mem hk, hp⟩

/-- Is a number within bounds? -/
def inB (lo hi n : Int) : Bool := decide (lo ≤ n) && decide (n ≤ hi)
/-- Is a marking good? -/
def goodM (p : Int) (m : List Int) : Bool := inB 1 16 p && (m.length : Int) == p && m.all (inB 0 50)
theorem goodM_len {p : Int} {m : List Int} (h : goodM p m = true) : 1 ≤ p ∧ p ≤ 16 ∧ (m.length : Int) = p ∧ m.length ≤ 16 ∧ ∀ x ∈ m, 0 ≤ x ∧ x ≤ 50 := by
  simp [goodM, inB] at h
  refine ⟨h.1.1.1, h.1.1.2, h.1.2, by omega, fun x hx => h.2 x hx⟩

def sumI (l : List Int) : Int := l.foldl (· + ·) 0
theorem sumI_nil : sumI [] = 0 := rfl
theorem sumI_snoc (l : List Int) (x : Int) : sumI (l ++ [x]) = sumI l + x := by simp [sumI]
theorem sumI_take {l : List Int} {k : Nat} (hk : k < l.length) : sumI (l.take (k + 1)) = sumI (l.take k) + l[k] := by
  rw [take_snoc hk, sumI_snoc]
theorem sumI_bound {l : List Int} {b : Int} (h : ∀ x ∈ l, 0 ≤ x ∧ x ≤ b) : ∀ k, k ≤ l.length → 0 ≤ sumI (l.take k) ∧ sumI (l.take k) ≤ b * k
  | 0, _ => by simp [sumI]
  | k + 1, hk => by
    obtain ⟨h1, h2⟩ := sumI_bound h k (by omega)
    have := h l[k] (List.getElem_mem (by omega))
    rw [sumI_take (by omega)]
    refine ⟨by omega, ?_⟩
    have : b * (↑(k + 1) : Int) = b * k + b := by rw [Int.natCast_add, Int.mul_add]; simp
    omega
/-- Two markings, place by place. -/
def coversB (a b : List Int) : Bool := (a.zip b).all fun p => decide (p.2 ≤ p.1)

/-- The first place where something holds, or -1. -/
def idxI {α : Type} (l : List α) (p : α → Bool) : Int := match l.findIdx? p with
  | some k => k
  | none => -1
theorem idxI_some {α : Type} {l : List α} {p : α → Bool} {k : Nat} (hk : k < l.length) (h : (l.take k).any p = false) (hp : p l[k] = true) : idxI l p = k := by
  have : l.findIdx? p = some k := by
    rw [List.findIdx?_eq_some_iff_getElem]
    refine ⟨hk, hp, fun j hj => ?_⟩
    rw [List.any_eq_false] at h
    have hjl : j < l.length := by omega
    have := h l[j] (by rw [List.mem_iff_getElem]; exact ⟨j, by simp; omega, by simp⟩)
    simpa using this
  simp [idxI, this]
theorem idxI_none {α : Type} {l : List α} {p : α → Bool} (h : l.any p = false) : idxI l p = -1 := by
  have : l.findIdx? p = none := by
    rw [List.findIdx?_eq_none_iff]
    rw [List.any_eq_false] at h
    intro x hx; simpa using h x hx
  simp [idxI, this]
theorem idxI_any {α : Type} (l : List α) (p : α → Bool) : l.any p = decide (0 ≤ idxI l p) := by
  unfold idxI
  cases h : l.findIdx? p with
  | none =>
    rw [List.findIdx?_eq_none_iff] at h
    simp only [List.any_eq_false.2 (fun x hx => by simpa using h x hx)]
    rfl
  | some k =>
    rw [List.findIdx?_eq_some_iff_getElem] at h
    obtain ⟨h1, h2, _⟩ := h
    rw [List.any_eq_true.2 ⟨l[k], List.getElem_mem h1, h2⟩]
    simp
theorem idxI_lt {α : Type} (l : List α) (p : α → Bool) : -1 ≤ idxI l p ∧ idxI l p < l.length := by
  unfold idxI
  cases h : l.findIdx? p with
  | none => simp; omega
  | some k =>
    rw [List.findIdx?_eq_some_iff_getElem] at h
    obtain ⟨h1, h2, _⟩ := h
    simp; omega

theorem goodM_two {p : Int} {a b : List Int} (h : (goodM p a && goodM p b) = true) : a.length = b.length ∧ a.length ≤ 16 := by
  simp only [Bool.and_eq_true] at h
  have h1 := goodM_len h.1
  have h2 := goodM_len h.2
  omega

def addM (a b : List Int) : List Int := List.zipWith (· + ·) a b
def subM (a b : List Int) : List Int := List.zipWith (· - ·) a b
def okAdd (p : Int) (a b : List Int) : Bool := goodM p a && goodM p b && (addM a b).all (inB 0 50)
def okTake (p : Int) (a b : List Int) : Bool := goodM p a && goodM p b && (subM a b).all (inB 0 50)

theorem goodM_zip {f : Int → Int → Int} {p : Int} {a b : List Int} (h : (goodM p a && goodM p b) = true) : goodM p (List.zipWith f a b) = (List.zipWith f a b).all (inB 0 50) := by
  obtain ⟨h1, h2⟩ := goodM_two h
  simp only [Bool.and_eq_true] at h
  have h3 := goodM_len h.1
  have h4 : inB 1 16 p = true := by simp [inB]; omega
  have h5 : ((List.zipWith f a b).length : Int) == p := by simp; omega
  simp only [goodM, h4, h5, Bool.true_and]
theorem goodM_add {p : Int} {a b : List Int} (h : (goodM p a && goodM p b) = true) : goodM p (addM a b) = okAdd p a b := by
  unfold okAdd
  rw [h, Bool.true_and]; exact goodM_zip h
theorem goodM_sub {p : Int} {a b : List Int} (h : (goodM p a && goodM p b) = true) : goodM p (subM a b) = okTake p a b := by
  unfold okTake
  rw [h, Bool.true_and]; exact goodM_zip h
theorem okTake_covers {p : Int} {a b : List Int} (h : (goodM p a && goodM p b) = true) : okTake p a b = coversB a b := by
  unfold okTake
  rw [h, Bool.true_and]
  simp only [Bool.and_eq_true] at h
  have h3 := (goodM_len h.1).2.2.2.2
  have h4 := (goodM_len h.2).2.2.2.2
  unfold subM coversB
  clear h
  induction a generalizing b with
  | nil => simp
  | cons x a ih =>
    cases b with
    | nil => simp
    | cons y b =>
      have hx := h3 x (by simp)
      have hy := h4 y (by simp)
      simp only [List.zipWith_cons_cons, List.all_cons, List.zip_cons_cons]
      rw [ih (fun z hz => h3 z (by simp [hz])) (fun z hz => h4 z (by simp [hz]))]
      congr 1
      simp only [inB]
      have : decide (x - y ≤ 50) = true := by simp; omega
      rw [this, Bool.and_true]
      congr 1
      simp only [eq_iff_iff]
      omega

theorem subM_addM {a b : List Int} (h : a.length = b.length) : subM (addM a b) b = a := by
  unfold subM addM
  induction a generalizing b with
  | nil => simp
  | cons x a ih =>
    cases b with
    | nil => simp at h
    | cons y b => simp only [List.zipWith_cons_cons]; rw [ih (by simpa using h)]; congr 1; omega
theorem sumI_add (l : List Int) (x : Int) : l.foldl (· + ·) x = x + sumI l := by
  induction l generalizing x with
  | nil => simp [sumI]
  | cons y l ih =>
    have h1 : sumI (y :: l) = (0 + y) + sumI l := ih (0 + y)
    rw [List.foldl_cons, ih, h1]; omega
theorem sumI_cons (x : Int) (l : List Int) : sumI (x :: l) = x + sumI l := by
  show (x :: l).foldl (· + ·) 0 = _
  rw [List.foldl_cons, sumI_add]; omega
theorem sumI_addM {a b : List Int} (h : a.length = b.length) : sumI (addM a b) = sumI a + sumI b := by
  unfold addM
  induction a generalizing b with
  | nil => cases b with
    | nil => rfl
    | cons => simp at h
  | cons x a ih =>
    cases b with
    | nil => simp at h
    | cons y b => simp only [List.zipWith_cons_cons, sumI_cons]; rw [ih (by simpa using h)]; omega
theorem coversB_add {a b : List Int} (hb : ∀ y ∈ b, 0 ≤ y) (h : a.length = b.length) : coversB (addM a b) a = true := by
  unfold coversB addM
  induction a generalizing b with
  | nil => simp
  | cons x a ih =>
    cases b with
    | nil => simp at h
    | cons y b =>
      have := hb y (by simp)
      simp only [List.zipWith_cons_cons, List.zip_cons_cons, List.all_cons]
      rw [ih (fun z hz => hb z (by simp [hz])) (by simpa using h)]
      simp; omega
theorem goodM_total {p : Int} {m : List Int} (h : goodM p m = true) : 0 ≤ sumI m ∧ sumI m ≤ 800 := by
  obtain ⟨_, _, _, h1, h2⟩ := goodM_len h
  have := sumI_bound h2 m.length (Nat.le_refl _)
  rw [List.take_length] at this
  omega
attribute [go_sem] Bool.false_and Bool.and_false bne_self_eq_false

/-- A number put to its place in a rising list, once. -/
def putI : List Int → Int → List Int
  | [], x => [x]
  | y :: l, x => if y < x then y :: putI l x else if y = x then y :: l else x :: y :: l
theorem putI_eq : ∀ {l : List Int} {x : Int} {k : Nat} (hk : k < l.length), (l.take k).all (fun y => decide (y < x)) = true → l[k] = x → putI l x = l
  | y :: l, x, 0, hk, h, hx => by
    simp only [List.getElem_cons_zero] at hx
    simp [putI, hx]
  | y :: l, x, k + 1, hk, h, hx => by
    simp only [List.take_succ_cons, List.all_cons, Bool.and_eq_true, decide_eq_true_eq] at h
    simp only [putI, h.1, if_true]
    rw [putI_eq (k := k) (by simpa using hk) h.2 (by simpa using hx)]
theorem putI_gt : ∀ {l : List Int} {x : Int} {k : Nat}, (l.take k).all (fun y => decide (y < x)) = true → (∀ h : k < l.length, x < l[k]) → k ≤ l.length → putI l x = l.take k ++ x :: l.drop k
  | [], x, k, h, hx, hk => by have : k = 0 := by simpa using hk
                              subst this; rfl
  | y :: l, x, 0, h, hx, hk => by
    have := hx (by simp)
    simp only [List.getElem_cons_zero] at this
    have h1 : ¬ y < x := by omega
    have h2 : ¬ y = x := by omega
    simp [putI, h1, h2]
  | y :: l, x, k + 1, h, hx, hk => by
    simp only [List.take_succ_cons, List.all_cons, Bool.and_eq_true, decide_eq_true_eq] at h
    simp only [putI, h.1, if_true, List.take_succ_cons, List.drop_succ_cons, List.cons_append]
    rw [putI_gt (k := k) h.2 (fun hh => by have := hx (by simpa using hh); simpa using this) (by simpa using hk)]
theorem putI_len : ∀ (l : List Int) (x : Int), l.length ≤ (putI l x).length ∧ (putI l x).length ≤ l.length + 1
  | [], x => by simp [putI]
  | y :: l, x => by
    have := putI_len l x
    simp only [putI]
    split
    · simp; omega
    · split <;> simp
theorem putI_mem {l : List Int} {x y : Int} (h : y ∈ putI l x) : y ∈ l ∨ y = x := by
  induction l with
  | nil => simp [putI] at h; exact .inr h
  | cons z l ih =>
    simp only [putI] at h
    split at h
    · rcases List.mem_cons.1 h with h | h
      · exact .inl (by simp [h])
      · rcases ih h with h | h
        · exact .inl (by simp [h])
        · exact .inr h
    · split at h
      · exact .inl h
      · rcases List.mem_cons.1 h with h | h
        · exact .inr h
        · exact .inl h
end Go.Proofs.Ytkkifebmicbbaaa.Pi
