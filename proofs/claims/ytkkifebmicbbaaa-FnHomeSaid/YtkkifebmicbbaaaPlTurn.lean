/- Plain laws: places counted, nets turned, transitions of a property, free choice. -/
import Derived.Test.YtkkifebmicbbaaaPlFire
namespace Go.Proofs.Ytkkifebmicbbaaa.Pi
open Go
set_option linter.all false

/-! Tokens place by place. -/
theorem at_set {m : List Int} {p q x : Int} (hp : 0 ≤ p ∧ p.toNat < m.length) (hq : 0 ≤ q) : at_ (m.set p.toNat x) q = if q = p then x else at_ m q := by
  unfold at_
  rw [List.getD_eq_getElem?_getD, List.getD_eq_getElem?_getD, List.getElem?_set]
  by_cases h : q = p
  · subst h; simp [hp.2]
  · have : p.toNat ≠ q.toNat := by omega
    simp [h, this]
theorem at_ext {a b : List Int} (hl : a.length = b.length) (h : ∀ p : Int, 0 ≤ p → p.toNat < a.length → at_ a p = at_ b p) : a = b := by
  apply List.ext_getElem hl
  intro i h1 h2
  have := h i (by omega) (by simpa using h1)
  rw [← at_eq (by simpa using h1), ← at_eq (by simpa using h2)] at this
  simpa using this
/-- Places that lie in a marking. -/
def inside (m l : List Int) : Prop := ∀ q ∈ l, 0 ≤ q ∧ q.toNat < m.length
theorem at_decL {l : List Int} : ∀ {m : List Int} {p : Int}, inside m l → 0 ≤ p → at_ (decL m l) p = at_ m p - (l.count p : Nat) := by
  unfold decL
  induction l with
  | nil => intros; simp
  | cons q l ih =>
    intro m p hm hp
    rw [List.foldl_cons, ih (fun r hr => by simp [decS]; exact hm r (by simp [hr])) hp]
    unfold decS
    rw [at_set (hm q (by simp)) hp, List.count_cons]
    by_cases h : p = q
    · subst h; simp; omega
    · have : (q == p) = false := by simp; omega
      simp [h, this]
theorem at_incL {l : List Int} : ∀ {m : List Int} {p : Int}, inside m l → 0 ≤ p → at_ (incL m l) p = at_ m p + (l.count p : Nat) := by
  unfold incL
  induction l with
  | nil => intros; simp
  | cons q l ih =>
    intro m p hm hp
    rw [List.foldl_cons, ih (fun r hr => by simp [incS]; exact hm r (by simp [hr])) hp]
    unfold incS
    rw [at_set (hm q (by simp)) hp, List.count_cons]
    by_cases h : p = q
    · subst h; simp; omega
    · have : (q == p) = false := by simp; omega
      simp [h, this]
theorem at_zerL {l : List Int} : ∀ {m : List Int} {p : Int}, inside m l → 0 ≤ p → at_ (zerL m l) p = if p ∈ l then 0 else at_ m p := by
  unfold zerL
  induction l with
  | nil => intros; simp
  | cons q l ih =>
    intro m p hm hp
    rw [List.foldl_cons, ih (fun r hr => by simp [zerS]; exact hm r (by simp [hr])) hp]
    unfold zerS
    rw [at_set (hm q (by simp)) hp]
    by_cases h : p = q
    · subst h; simp
    · simp [h]
theorem incr_count {l : List Int} (h : incr l = true) (p : Int) : l.count p = if p ∈ l then 1 else 0 := by
  have h1 : l.Pairwise (· < ·) := by simpa [incr] using h
  clear h
  induction l with
  | nil => simp
  | cons q l ih =>
    rw [List.pairwise_cons] at h1
    rw [List.count_cons, ih h1.2]
    by_cases hq : p = q
    · subst hq
      have : p ∉ l := fun hp => by have := h1.1 p hp; omega
      simp [this]
    · have : (q == p) = false := by simp; omega
      simp [hq, this]
theorem places_incr {p : Int} {l : List Int} (h : places p l = true) : incr l = true := by
  simp only [places, Bool.and_eq_true] at h; exact h.1
theorem inside_mono {m m' l : List Int} (h : inside m l) (hl : m'.length = m.length) : inside m' l := fun q hq => by rw [hl]; exact h q hq
/-- A firing, place by place. -/
theorem at_fired {t : Tr} {m : List Int} {p : Int} (h1 : inside m t.inn) (h2 : inside m t.out) (h3 : inside m t.rst) (hp : 0 ≤ p) :
    at_ (firedM t m) p = (if p ∈ t.rst then 0 else at_ m p - (t.inn.count p : Nat)) + (t.out.count p : Nat) := by
  unfold firedM
  rw [at_incL (inside_mono h2 (by rw [zerL_len, decL_len])) hp, at_zerL (inside_mono h3 (by rw [decL_len])) hp, at_decL h1 hp]
theorem goodT_inside {p : Int} {t : Tr} {m : List Int} (h : goodT p t = true) (hm : (m.length : Int) = p) : inside m t.inn ∧ inside m t.out ∧ inside m t.rst := goodT_lt h hm
theorem at_firedG {p0 : Int} {t : Tr} {m : List Int} {p : Int} (h : goodT p0 t = true) (hm : (m.length : Int) = p0) (hp : 0 ≤ p) :
    at_ (firedM t m) p = (if p ∈ t.rst then 0 else at_ m p - (if p ∈ t.inn then 1 else 0)) + (if p ∈ t.out then 1 else 0) := by
  obtain ⟨h1, h2, h3⟩ := goodT_inside h hm
  obtain ⟨_, g1, g2, g3⟩ := goodT_parts h
  rw [at_fired h1 h2 h3 hp, incr_count (places_incr g1), incr_count (places_incr g2)]
  have e1 : (((if p ∈ t.inn then 1 else 0 : Nat)) : Int) = if p ∈ t.inn then 1 else 0 := by split <;> rfl
  have e2 : (((if p ∈ t.out then 1 else 0 : Nat)) : Int) = if p ∈ t.out then 1 else 0 := by split <;> rfl
  rw [e1, e2]

/-! Nets turned. -/
def turnT (t : Tr) : Tr := ⟨t.out, t.inn, t.rst⟩
def turnN (n : Net) : Net := ⟨n.pl, n.tr.map turnT⟩
theorem turnN_turnN (n : Net) : turnN (turnN n) = n := by
  cases n with
  | mk p l => simp only [turnN, List.map_map]; congr 1; induction l with
    | nil => rfl
    | cons t l ih => rw [List.map_cons, ih]; rfl
def okTurn (n : Net) : Bool := goodN n && !hasR n && goodN (turnN n)
theorem hasR_turn (n : Net) : hasR (turnN n) = hasR n := by
  simp only [hasR, turnN, List.any_map]; rfl
theorem turnN_sm {n : Net} (h : smN n) : smN (turnN n) := ⟨by simpa [turnN] using h.1, fun t ht => by
  simp only [turnN, List.mem_map] at ht
  obtain ⟨u, hu, rfl⟩ := ht
  have := h.2 u hu
  exact ⟨this.2.1, this.1, this.2.2⟩⟩
theorem okTurn_turn {n : Net} (h : okTurn n = true) : okTurn (turnN n) = true := by
  simp only [okTurn, turnN_turnN, hasR_turn, Bool.and_eq_true] at h ⊢
  exact ⟨⟨h.2, h.1.2⟩, h.1.1⟩
theorem trAt_turn {n : Net} {t : Int} (h : t.toNat < n.tr.length) : trAt (turnN n) t = turnT (trAt n t) := by
  rw [← trAt_eq h, ← trAt_eq (by simpa [turnN] using h)]
  simp [turnN]
theorem canT_at {t : Tr} {m : List Int} (h : canT t m = true) {p : Int} (hp : p ∈ t.inn) : at_ m p ≠ 0 := by
  simp only [canT, List.all_eq_true] at h
  simpa using h p hp
theorem canT_of {t : Tr} {m : List Int} (h : ∀ p ∈ t.inn, at_ m p ≠ 0) : canT t m = true := by
  simp only [canT, List.all_eq_true]
  intro p hp; simpa using h p hp
theorem okFire_turn {n : Net} {m : List Int} {t : Int} (ho : okTurn n = true) (hf : okFire n m t = true) : okFire (turnN n) (firedM (trAt n t) m) t = true ∧ firedM (trAt (turnN n) t) (firedM (trAt n t) m) = m := by
  simp only [okTurn, Bool.and_eq_true] at ho
  obtain ⟨⟨hg, hr⟩, hg2⟩ := ho
  obtain ⟨h1, h2⟩ := Bool.and_eq_true .. ▸ hf
  obtain ⟨h3, h4, h5, h6, h7, h8⟩ := canN_parts h1
  have hm := goodM_len h4
  have hrs : (trAt n t).rst = [] := by rw [← trAt_eq h6]; exact hasR_no (by simpa using hr) _
  have e := trAt_turn h6
  have hg3 : goodT n.pl (turnT (trAt n t)) = true := by
    have := (goodN_parts hg2).2.2.2 (trAt (turnN n) t) (by rw [← trAt_eq (by simpa [turnN] using h6)]; exact List.getElem_mem _)
    rwa [e] at this
  have hback : firedM (turnT (trAt n t)) (firedM (trAt n t) m) = m := by
    refine at_ext (by rw [firedM_len, firedM_len]) (fun p hp hl => ?_)
    rw [at_firedG hg3 (by rw [firedM_len]; exact hm.2.2.1) hp, at_firedG h8 hm.2.2.1 hp]
    simp only [turnT, hrs, List.not_mem_nil, if_false]
    omega
  have hmk : marked (turnN n) (firedM (trAt n t) m) = true := by
    have := okFire_marked hf
    simp only [marked, Bool.and_eq_true] at this ⊢
    exact ⟨hg2, this.2⟩
  refine ⟨?_, by rw [e]; exact hback⟩
  have hi : inB 0 ((turnN n).tr.length - 1) t = true := by simp [inB, turnN]; omega
  have hall : m.all (inB 0 50) = true := by
    simp only [goodM, Bool.and_eq_true] at h4; exact h4.2
  simp only [okFire, canN, hmk, hi, e, hback, hall, Bool.true_and, Bool.and_true]
  refine canT_of (fun p hp => ?_)
  have hpo : p ∈ (trAt n t).out := hp
  obtain ⟨i1, i2, i3⟩ := goodT_inside h8 hm.2.2.1
  have hp0 := i2 p hpo
  rw [at_firedG h8 hm.2.2.1 hp0.1]
  have hb := at_bound hm.2.2.2.2 hp0.2
  simp only [hrs, List.not_mem_nil, if_false, hpo, if_true]
  by_cases hin : p ∈ (trAt n t).inn
  · have := canT_at h7 hin; simp only [hin, if_true]; omega
  · simp only [hin, if_false]; omega

/-! Transitions with a property. -/
def idxK (f : Tr → Bool) (n : Net) (k : Nat) : List Int := ((List.range k).filter fun i => f (n.tr.getD i ⟨[], [], []⟩)).map Int.ofNat
def idxL (f : Tr → Bool) (n : Net) : List Int := idxK f n n.tr.length
theorem idxK_len (f : Tr → Bool) (n : Net) (k : Nat) : (idxK f n k).length ≤ k := by
  have := List.length_filter_le (fun i => f (n.tr.getD i ⟨[], [], []⟩)) (List.range k)
  simp only [idxK, List.length_map]; simp at this ⊢; omega
theorem idxK_t {f : Tr → Bool} {n : Net} {k : Nat} (hk : k < n.tr.length) (h : f n.tr[k] = true) : idxK f n (k + 1) = idxK f n k ++ [(k : Int)] := by
  have e : n.tr[k]?.getD ⟨[], [], []⟩ = n.tr[k] := by rw [List.getElem?_eq_getElem hk]; rfl
  simp [idxK, List.range_succ, List.filter_append, e, h]
theorem idxK_f {f : Tr → Bool} {n : Net} {k : Nat} (hk : k < n.tr.length) (h : f n.tr[k] = false) : idxK f n (k + 1) = idxK f n k := by
  have e : n.tr[k]?.getD ⟨[], [], []⟩ = n.tr[k] := by rw [List.getElem?_eq_getElem hk]; rfl
  simp [idxK, List.range_succ, List.filter_append, e, h]
def hasB (l : List Int) (p : Int) : Bool := decide (p ∈ l)
theorem hasB_any (l : List Int) (p : Int) : hasB l p = l.any (fun x => x == p) := by
  unfold hasB
  rw [Bool.eq_iff_iff, List.any_eq_true]
  simp only [decide_eq_true_eq, beq_iff_eq]
  exact ⟨fun h => ⟨p, h, rfl⟩, fun ⟨x, h, e⟩ => e ▸ h⟩
theorem hasB_no {l : List Int} {p : Int} (h : l.any (fun x => x == p) = false) : hasB l p = false := by rw [hasB_any, h]
theorem hasB_yes {l : List Int} {p : Int} {k : Nat} (hk : k < l.length) (h : l[k] = p) : hasB l p = true := by
  subst h; simp [hasB]

/-! Free choice. -/
def meetB (a b : List Int) : Bool := a.any (hasB b)
theorem meetB_comm (a b : List Int) : meetB a b = meetB b a := by
  unfold meetB
  rw [Bool.eq_iff_iff, List.any_eq_true, List.any_eq_true]
  simp only [hasB, decide_eq_true_eq]
  exact ⟨fun ⟨x, h1, h2⟩ => ⟨x, h2, h1⟩, fun ⟨x, h1, h2⟩ => ⟨x, h2, h1⟩⟩
/-- Two transitions whose choice is not free. -/
def badC (t u : Tr) : Bool := meetB t.inn u.inn && !decide (t.inn = u.inn)
theorem badC_comm (t u : Tr) : badC t u = badC u t := by
  unfold badC
  rw [meetB_comm]
  congr 2
  rw [decide_eq_decide]
  exact ⟨Eq.symm, Eq.symm⟩
theorem badC_self (t : Tr) : badC t t = false := by simp [badC]
def freeL (l : List Tr) : Bool := l.all fun a => l.all fun b => !badC a b
theorem freeL_half {l : List Tr} (h : ∀ i, (hi : i < l.length) → ∀ j, (hj : j < i) → badC l[i] (l[j]'(by omega)) = false) : freeL l = true := by
  unfold freeL
  simp only [List.all_eq_true]
  intro a ha b hb
  obtain ⟨i, hi, rfl⟩ := List.mem_iff_getElem.1 ha
  obtain ⟨j, hj, rfl⟩ := List.mem_iff_getElem.1 hb
  rcases Nat.lt_trichotomy i j with h1 | h1 | h1
  · rw [badC_comm, h j hj i h1]; rfl
  · subst h1; rw [badC_self]; rfl
  · rw [h i hi j h1]; rfl
theorem freeL_not {l : List Tr} {i j : Nat} (hi : i < l.length) (hj : j < l.length) (h : badC l[i] l[j] = true) : freeL l = false := by
  unfold freeL
  rw [List.all_eq_false]
  refine ⟨l[i], List.getElem_mem hi, ?_⟩
  rw [Bool.not_eq_true, List.all_eq_false]
  exact ⟨l[j], List.getElem_mem hj, by simp [h]⟩
end Go.Proofs.Ytkkifebmicbbaaa.Pi
