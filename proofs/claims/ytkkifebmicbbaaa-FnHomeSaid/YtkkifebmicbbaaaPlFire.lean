/- Plain laws of firings one behind the other. -/
import Derived.Test.YtkkifebmicbbaaaPlNet
namespace Go.Proofs.Ytkkifebmicbbaaa.Pi
open Go
set_option linter.all false

/-- The marking behind some firings. -/
def fsq (n : Net) (m l : List Int) : List Int := l.foldl (fun a t => firedM (trAt n t) a) m
theorem fsq_nil (n : Net) (m : List Int) : fsq n m [] = m := rfl
theorem fsq_take {n : Net} {m l : List Int} {k : Nat} (hk : k < l.length) : fsq n m (l.take (k + 1)) = firedM (trAt n l[k]) (fsq n m (l.take k)) := by
  unfold fsq; rw [foldl_snoc _ _ hk]
theorem fsq_len (n : Net) (m l : List Int) : (fsq n m l).length = m.length := by
  unfold fsq
  induction l generalizing m with
  | nil => rfl
  | cons x l ih => rw [List.foldl_cons, ih, firedM_len]
/-- How many of some transitions fire. -/
def many (n : Net) : List Int → List Int → Nat
  | _, [] => 0
  | m, t :: ts => if okFire n m t then many n (firedM (trAt n t) m) ts + 1 else 0
theorem many_le (n : Net) (m l : List Int) : many n m l ≤ l.length := by
  induction l generalizing m with
  | nil => simp [many]
  | cons t ts ih =>
    simp only [many, List.length_cons]
    split
    · have := ih (firedM (trAt n t) m); omega
    · omega
theorem many_ok {n : Net} {m l : List Int} {k : Nat} (hk : k < many n m l) (hl : k < l.length) : okFire n (fsq n m (l.take k)) l[k] = true := by
  induction l generalizing m k with
  | nil => simp at hl
  | cons t ts ih =>
    simp only [many] at hk
    split at hk
    · rename_i h
      cases k with
      | zero => simpa [fsq] using h
      | succ k =>
        have := ih (m := firedM (trAt n t) m) (k := k) (by omega) (by simpa using hl)
        simpa [fsq] using this
    · omega
theorem many_eq {n : Net} {m l : List Int} {k : Nat} (hk : k ≤ l.length) (h1 : ∀ j, (hj : j < k) → okFire n (fsq n m (l.take j)) (l[j]'(by omega)) = true) (h2 : ∀ h : k < l.length, okFire n (fsq n m (l.take k)) l[k] = false) : many n m l = k := by
  induction l generalizing m k with
  | nil => have : k = 0 := by simpa using hk
           subst this; rfl
  | cons t ts ih =>
    cases k with
    | zero =>
      have := h2 (by simp)
      have h : okFire n m t = false := by simpa [fsq] using this
      simp [many, h]
    | succ k =>
      have h : okFire n m t = true := by simpa [fsq] using h1 0 (by omega)
      simp only [many, h, if_true]
      rw [ih (m := firedM (trAt n t) m) (k := k) (by simpa using hk) (fun j hj => ?_) (fun hh => ?_)]
      · have := h1 (j + 1) (by omega)
        simpa [fsq] using this
      · have := h2 (by simpa using hh)
        simpa [fsq] using this
/-- Firing keeps a marking good. -/
theorem okFire_marked {n : Net} {m : List Int} {t : Int} (h : okFire n m t = true) : marked n (firedM (trAt n t) m) = true := by
  obtain ⟨h1, h2⟩ := Bool.and_eq_true .. ▸ h
  obtain ⟨h3, h4, _⟩ := canN_parts h1
  have h5 := goodM_len h4
  simp only [marked, h3, Bool.true_and, goodM, firedM_len, h2, Bool.and_true]
  simp [inB]; omega
theorem fsq_marked {n : Net} {m l : List Int} {k : Nat} (hm : marked n m = true) (hl : k ≤ l.length) (h1 : ∀ j, (hj : j < k) → okFire n (fsq n m (l.take j)) (l[j]'(by omega)) = true) : marked n (fsq n m (l.take k)) = true := by
  cases k with
  | zero => simpa [fsq] using hm
  | succ k =>
    rw [fsq_take (by omega)]
    exact okFire_marked (h1 k (by omega))
theorem okFire_marked' {n : Net} {m : List Int} {t : Int} (h : okFire n m t = true) : marked n m = true := by
  obtain ⟨h1, _⟩ := Bool.and_eq_true .. ▸ h
  obtain ⟨h3, h4, _⟩ := canN_parts h1
  simp [marked, h3, h4]
theorem okFire_enab {n : Net} {m : List Int} {t : Int} (h : okFire n m t = true) : t ∈ enabL n m := by
  obtain ⟨h1, h2⟩ := Bool.and_eq_true .. ▸ h
  obtain ⟨h3, h4, h5, h6, h7, h8⟩ := canN_parts h1
  exact enabL_mem.2 ⟨h5, h6, h7⟩
/-- Untouched places keep their tokens. -/
theorem foldl_set_ne {m l : List Int} {f : List Int → Int → Int} {p : Nat} (h : ∀ q ∈ l, q.toNat ≠ p) : (l.foldl (fun a q => a.set q.toNat (f a q)) m)[p]? = m[p]? := by
  induction l generalizing m with
  | nil => rfl
  | cons q l ih =>
    rw [List.foldl_cons, ih (fun r hr => h r (by simp [hr])), List.getElem?_set_ne (h q (by simp))]
theorem firedM_same {t : Tr} {m : List Int} {p : Nat} (h1 : ∀ q ∈ t.inn, q.toNat ≠ p) (h2 : ∀ q ∈ t.out, q.toNat ≠ p) (h3 : ∀ q ∈ t.rst, q.toNat ≠ p) : (firedM t m)[p]? = m[p]? := by
  have e1 : ∀ m' : List Int, (decL m' t.inn)[p]? = m'[p]? := fun m' => foldl_set_ne (f := fun a q => at_ a q - 1) h1
  have e2 : ∀ m' : List Int, (zerL m' t.rst)[p]? = m'[p]? := fun m' => foldl_set_ne (f := fun _ _ => 0) h3
  have e3 : ∀ m' : List Int, (incL m' t.out)[p]? = m'[p]? := fun m' => foldl_set_ne (f := fun a q => at_ a q + 1) h2
  unfold firedM
  rw [e3, e2, e1]
/-- The transitions of a row are those of a net. -/
def areTr (n : Net) (l : List Int) : Bool := decide (l.length ≤ 60) && l.all (inB 0 (n.tr.length - 1))
def okSeq (n : Net) (m l : List Int) : Bool := marked n m && areTr n l
end Go.Proofs.Ytkkifebmicbbaaa.Pi
