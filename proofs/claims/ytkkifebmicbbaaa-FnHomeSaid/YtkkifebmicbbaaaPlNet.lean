/- Plain laws of nets. -/
import Derived.Test.YtkkifebmicbbaaaPlBase
namespace Go.Proofs.Ytkkifebmicbbaaa.Pi
open Go
set_option linter.all false

/-- A transition, a net. -/
structure Tr where
  inn : List Int
  out : List Int
  rst : List Int
structure Net where
  pl : Int
  tr : List Tr
abbrev encT (t : Tr) : PV := .agg [ints t.inn, ints t.out, ints t.rst]
abbrev trs (l : List Tr) : PV := .sl false 3 (l.map encT)
abbrev encN (n : Net) : PV := .agg [I n.pl, trs n.tr]
def smT (t : Tr) : Prop := t.inn.length < 2^40 ∧ t.out.length < 2^40 ∧ t.rst.length < 2^40
def smN (n : Net) : Prop := n.tr.length < 2^40 ∧ ∀ t ∈ n.tr, smT t

/-- A net as it is drawn: small. -/
def smNet (n : Net) : Prop := (0 < n.tr.length ∧ n.tr.length ≤ 30) ∧ n.pl ≤ 20 ∧ ∀ t ∈ n.tr, t.inn.length ≤ 20 ∧ t.out.length ≤ 20 ∧ t.rst.length ≤ 20
theorem smNet.smN {n : Net} (h : smNet n) : smN n := ⟨by have := h.1; omega, fun t ht => by have := h.2.2 t ht; exact ⟨by omega, by omega, by omega⟩⟩
/-- Is a list rising? -/
def incr (l : List Int) : Bool := decide (l.Pairwise (· < ·))
theorem incr_one {l : List Int} : (l.take 1).Pairwise (· < ·) := by cases l <;> simp
theorem incr_zero {l : List Int} : (l.take 0).Pairwise (· < ·) := by simp
theorem pair_snoc {l : List Int} {x y : Int} (h : (l ++ [x]).Pairwise (· < ·)) (hxy : x < y) : (l ++ [x] ++ [y]).Pairwise (· < ·) := by
  rw [List.pairwise_append]
  refine ⟨h, by simp, ?_⟩
  intro a ha b hb
  simp only [List.mem_singleton] at hb
  subst hb
  rcases List.mem_append.1 ha with ha | ha
  · have := (List.pairwise_append.1 h).2.2 a ha x (by simp); omega
  · simp only [List.mem_singleton] at ha; omega
theorem incr_step {l : List Int} {k : Nat} (hk : k + 1 < l.length) (h : (l.take (k + 1)).Pairwise (· < ·)) (hx : l[k]'(by omega) < l[k + 1]) : (l.take (k + 2)).Pairwise (· < ·) := by
  rw [take_snoc (show k < l.length by omega)] at h
  rw [take_snoc hk, take_snoc (show k < l.length by omega)]
  exact pair_snoc h hx
theorem incr_not {l : List Int} {k : Nat} (hk : k + 1 < l.length) (hx : ¬ l[k]'(by omega) < l[k + 1]) : incr l = false := by
  unfold incr
  rw [decide_eq_false_iff_not]
  intro h
  exact hx (List.pairwise_iff_getElem.1 h k (k + 1) (by omega) hk (by omega))
def places (p : Int) (l : List Int) : Bool := incr l && l.all (inB 0 (p - 1))
theorem places_eq (p : Int) (l : List Int) : (incr l && l.all (inB 0 (p - 1))) = places p l := rfl
def goodT (p : Int) (t : Tr) : Bool := !t.inn.isEmpty && places p t.inn && places p t.out && places p t.rst
def goodN (n : Net) : Bool := inB 1 16 n.pl && decide (n.tr.length ≤ 24) && n.tr.all (goodT n.pl)

theorem goodN_not {n : Net} {k : Nat} (hk : k < n.tr.length) (h : goodT n.pl n.tr[k] = false) : goodN n = false := by
  unfold goodN; rw [all_false hk h]; simp
theorem goodT_nil {p : Int} {t : Tr} (h : t.inn.length = 0) : goodT p t = false := by
  have : t.inn = [] := List.eq_nil_of_length_eq_zero h
  simp [goodT, this]
theorem goodT_all {p : Int} {t : Tr} (h : t.inn.length ≠ 0) (h1 : places p t.inn = true) (h2 : places p t.out = true) (h3 : places p t.rst = true) : goodT p t = true := by
  have : t.inn.isEmpty = false := by cases e : t.inn with
    | nil => simp [e] at h
    | cons => rfl
  simp [goodT, this, h1, h2, h3]
/-- A place's tokens. -/
def at_ (m : List Int) (p : Int) : Int := m.getD p.toNat 0
theorem at_eq {m : List Int} {p : Int} (h : p.toNat < m.length) : m[p.toNat] = at_ m p := by
  unfold at_; rw [List.getD_eq_getElem?_getD, List.getElem?_eq_getElem h]; rfl
def canT (t : Tr) (m : List Int) : Bool := t.inn.all fun p => !(at_ m p == 0)
def decS (m : List Int) (p : Int) : List Int := m.set p.toNat (at_ m p - 1)
def zerS (m : List Int) (p : Int) : List Int := m.set p.toNat 0
def incS (m : List Int) (p : Int) : List Int := m.set p.toNat (at_ m p + 1)
def decL (m l : List Int) : List Int := l.foldl decS m
def zerL (m l : List Int) : List Int := l.foldl zerS m
def incL (m l : List Int) : List Int := l.foldl incS m
def firedM (t : Tr) (m : List Int) : List Int := incL (zerL (decL m t.inn) t.rst) t.out
theorem foldl_snoc {α β : Type} (f : β → α → β) (b : β) {l : List α} {k : Nat} (hk : k < l.length) : (l.take (k + 1)).foldl f b = f ((l.take k).foldl f b) l[k] := by
  rw [take_snoc hk, List.foldl_append]; rfl
theorem decL_len (m l : List Int) : (decL m l).length = m.length := by
  unfold decL
  induction l generalizing m with
  | nil => rfl
  | cons x l ih => rw [List.foldl_cons, ih]; simp [decS]
theorem zerL_len (m l : List Int) : (zerL m l).length = m.length := by
  unfold zerL
  induction l generalizing m with
  | nil => rfl
  | cons x l ih => rw [List.foldl_cons, ih]; simp [zerS]
theorem incL_len (m l : List Int) : (incL m l).length = m.length := by
  unfold incL
  induction l generalizing m with
  | nil => rfl
  | cons x l ih => rw [List.foldl_cons, ih]; simp [incS]
theorem firedM_len (t : Tr) (m : List Int) : (firedM t m).length = m.length := by
  unfold firedM; rw [incL_len, zerL_len, decL_len]
theorem at_bound {m : List Int} {p lo hi : Int} (h : ∀ x ∈ m, lo ≤ x ∧ x ≤ hi) (hp : p.toNat < m.length) : lo ≤ at_ m p ∧ at_ m p ≤ hi := by
  rw [← at_eq hp]; exact h _ (List.getElem_mem hp)
theorem mem_set' {m : List Int} {i : Nat} {v x : Int} (h : x ∈ m.set i v) : x ∈ m ∨ x = v := List.mem_or_eq_of_mem_set h
theorem decL_bound {m l : List Int} {lo hi : Int} (h : ∀ x ∈ m, lo ≤ x ∧ x ≤ hi) (hl : ∀ p ∈ l, p.toNat < m.length) : ∀ x ∈ decL m l, lo - l.length ≤ x ∧ x ≤ hi := by
  unfold decL
  induction l generalizing m lo with
  | nil => intro x hx; have := h x hx; simp; omega
  | cons p l ih =>
    rw [List.foldl_cons]
    have hp := at_bound h (hl p (by simp))
    intro x hx
    have h2 := ih (m := decS m p) (lo := lo - 1) (by
      intro y hy
      rcases mem_set' hy with hy | hy
      · have := h y hy; omega
      · omega) (by intro q hq; simp [decS]; exact hl q (by simp [hq])) x hx
    simp only [List.length_cons]; omega
theorem zerL_bound {m l : List Int} {lo hi : Int} (h : ∀ x ∈ m, lo ≤ x ∧ x ≤ hi) (h0 : lo ≤ 0 ∧ 0 ≤ hi) : ∀ x ∈ zerL m l, lo ≤ x ∧ x ≤ hi := by
  unfold zerL
  induction l generalizing m with
  | nil => exact h
  | cons p l ih =>
    rw [List.foldl_cons]
    refine ih ?_
    intro y hy
    rcases mem_set' hy with hy | hy
    · exact h y hy
    · omega
theorem incL_bound {m l : List Int} {lo hi : Int} (h : ∀ x ∈ m, lo ≤ x ∧ x ≤ hi) (hl : ∀ p ∈ l, p.toNat < m.length) : ∀ x ∈ incL m l, lo ≤ x ∧ x ≤ hi + l.length := by
  unfold incL
  induction l generalizing m hi with
  | nil => intro x hx; have := h x hx; simp; omega
  | cons p l ih =>
    rw [List.foldl_cons]
    have hp := at_bound h (hl p (by simp))
    intro x hx
    have h2 := ih (m := incS m p) (hi := hi + 1) (by
      intro y hy
      rcases mem_set' hy with hy | hy
      · have := h y hy; omega
      · omega) (by intro q hq; simp [incS]; exact hl q (by simp [hq])) x hx
    simp only [List.length_cons]; omega
theorem decL_take {m l : List Int} {k : Nat} (hk : k < l.length) : decL m (l.take (k + 1)) = (decL m (l.take k)).set (l[k].toNat) (at_ (decL m (l.take k)) l[k] - 1) := by
  unfold decL; rw [foldl_snoc _ _ hk]; rfl
theorem zerL_take {m l : List Int} {k : Nat} (hk : k < l.length) : zerL m (l.take (k + 1)) = (zerL m (l.take k)).set (l[k].toNat) 0 := by
  unfold zerL; rw [foldl_snoc _ _ hk]; rfl
theorem incL_take {m l : List Int} {k : Nat} (hk : k < l.length) : incL m (l.take (k + 1)) = (incL m (l.take k)).set (l[k].toNat) (at_ (incL m (l.take k)) l[k] + 1) := by
  unfold incL; rw [foldl_snoc _ _ hk]; rfl

theorem places_in {p : Int} {l : List Int} (h : places p l = true) : ∀ x ∈ l, 0 ≤ x ∧ x < p := by
  simp only [places, Bool.and_eq_true, List.all_eq_true] at h
  intro x hx
  have := h.2 x hx
  simp [inB] at this; omega
theorem incr_len : ∀ {l : List Int} {lo hi : Int}, l.Pairwise (· < ·) → (∀ x ∈ l, lo ≤ x ∧ x < hi) → lo ≤ hi → (l.length : Int) ≤ hi - lo
  | [], _, _, _, _, h => by simp; omega
  | a :: l, lo, hi, hp, hb, h => by
    rw [List.pairwise_cons] at hp
    have ha := hb a (by simp)
    have := incr_len (l := l) (lo := a + 1) (hi := hi) hp.2 (fun x hx => ⟨by have := hp.1 x hx; omega, (hb x (by simp [hx])).2⟩) (by omega)
    simp only [List.length_cons]; omega
theorem places_len {p : Int} {l : List Int} (h : places p l = true) (h0 : 0 ≤ p) : (l.length : Int) ≤ p := by
  have h1 : l.Pairwise (· < ·) := by simp [places, incr] at h; exact h.1
  have := incr_len h1 (places_in h) h0; omega
theorem goodT_parts {p : Int} {t : Tr} (h : goodT p t = true) : t.inn ≠ [] ∧ places p t.inn = true ∧ places p t.out = true ∧ places p t.rst = true := by
  simp [goodT] at h
  exact ⟨h.1.1.1, h.1.1.2, h.1.2, h.2⟩
theorem goodN_parts {n : Net} (h : goodN n = true) : 1 ≤ n.pl ∧ n.pl ≤ 16 ∧ n.tr.length ≤ 24 ∧ ∀ t ∈ n.tr, goodT n.pl t = true := by
  simp [goodN, inB] at h
  exact ⟨h.1.1.1, h.1.1.2, h.1.2, h.2⟩
/-- A transition of a good net and a marking: its places lie in the marking. -/
theorem goodT_lt {p : Int} {t : Tr} {m : List Int} (h : goodT p t = true) (hm : (m.length : Int) = p) : (∀ q ∈ t.inn, 0 ≤ q ∧ q.toNat < m.length) ∧ (∀ q ∈ t.out, 0 ≤ q ∧ q.toNat < m.length) ∧ (∀ q ∈ t.rst, 0 ≤ q ∧ q.toNat < m.length) := by
  obtain ⟨_, h1, h2, h3⟩ := goodT_parts h
  refine ⟨fun q hq => ?_, fun q hq => ?_, fun q hq => ?_⟩
  · have := places_in h1 q hq; omega
  · have := places_in h2 q hq; omega
  · have := places_in h3 q hq; omega
theorem goodT_lens {p : Int} {t : Tr} (h : goodT p t = true) (hp : 0 ≤ p ∧ p ≤ 16) : t.inn.length ≤ 16 ∧ t.out.length ≤ 16 ∧ t.rst.length ≤ 16 := by
  obtain ⟨_, h1, h2, h3⟩ := goodT_parts h
  have := places_len h1 hp.1
  have := places_len h2 hp.1
  have := places_len h3 hp.1
  omega

/-- Does a transition fire, and to what? -/
def marked (n : Net) (m : List Int) : Bool := goodN n && goodM n.pl m
def trAt (n : Net) (t : Int) : Tr := n.tr.getD t.toNat ⟨[], [], []⟩
theorem trAt_eq {n : Net} {t : Int} (h : t.toNat < n.tr.length) : n.tr[t.toNat] = trAt n t := by
  unfold trAt; rw [List.getD_eq_getElem?_getD, List.getElem?_eq_getElem h]; rfl
def canN (n : Net) (m : List Int) (t : Int) : Bool := marked n m && inB 0 (n.tr.length - 1) t && canT (trAt n t) m
def okFire (n : Net) (m : List Int) (t : Int) : Bool := canN n m t && (firedM (trAt n t) m).all (inB 0 50)
theorem marked_parts {n : Net} {m : List Int} (h : marked n m = true) : goodN n = true ∧ goodM n.pl m = true := by simpa [marked] using h
theorem canN_parts {n : Net} {m : List Int} {t : Int} (h : canN n m t = true) : goodN n = true ∧ goodM n.pl m = true ∧ 0 ≤ t ∧ t.toNat < n.tr.length ∧ canT (trAt n t) m = true ∧ goodT n.pl (trAt n t) = true := by
  simp only [canN, Bool.and_eq_true, inB, decide_eq_true_eq] at h
  obtain ⟨⟨h1, h2⟩, h3⟩ := h
  obtain ⟨h4, h5⟩ := marked_parts h1
  have h6 : t.toNat < n.tr.length := by omega
  refine ⟨h4, h5, h2.1, h6, h3, ?_⟩
  have := (goodN_parts h4).2.2.2 n.tr[t.toNat] (List.getElem_mem h6)
  rwa [trAt_eq h6] at this
/-- The transitions that are enabled. -/
def enabK (n : Net) (m : List Int) (k : Nat) : List Int := ((List.range k).filter fun i => canT (n.tr.getD i ⟨[], [], []⟩) m).map Int.ofNat
def enabL (n : Net) (m : List Int) : List Int := enabK n m n.tr.length
theorem enabK_len (n : Net) (m : List Int) (k : Nat) : (enabK n m k).length ≤ k := by
  have := List.length_filter_le (fun i => canT (n.tr.getD i ⟨[], [], []⟩) m) (List.range k)
  simp only [enabK, List.length_map]; simp at this ⊢; omega
theorem enabK_t {n : Net} {m : List Int} {k : Nat} (hk : k < n.tr.length) (h : canT n.tr[k] m = true) : enabK n m (k + 1) = enabK n m k ++ [(k : Int)] := by
  have e : n.tr[k]?.getD ⟨[], [], []⟩ = n.tr[k] := by rw [List.getElem?_eq_getElem hk]; rfl
  simp [enabK, List.range_succ, List.filter_append, e, h]
theorem enabK_f {n : Net} {m : List Int} {k : Nat} (hk : k < n.tr.length) (h : canT n.tr[k] m = false) : enabK n m (k + 1) = enabK n m k := by
  have e : n.tr[k]?.getD ⟨[], [], []⟩ = n.tr[k] := by rw [List.getElem?_eq_getElem hk]; rfl
  simp [enabK, List.range_succ, List.filter_append, e, h]
theorem enabL_mem {n : Net} {m : List Int} {t : Int} : t ∈ enabL n m ↔ 0 ≤ t ∧ t.toNat < n.tr.length ∧ canT (trAt n t) m = true := by
  simp only [enabL, enabK, List.mem_map, List.mem_filter, List.mem_range, trAt]
  constructor
  · rintro ⟨i, ⟨h1, h2⟩, rfl⟩
    exact ⟨by simp, by simpa using h1, by simpa using h2⟩
  · rintro ⟨h1, h2, h3⟩
    exact ⟨t.toNat, ⟨h2, h3⟩, by simp; omega⟩
/-- A net with nothing to be reset. -/
def hasR (n : Net) : Bool := n.tr.any fun t => decide (0 < t.rst.length)

/-! Firing is monotone. -/
theorem addM_set {m d : List Int} {i : Nat} {x : Int} (h : m.length = d.length) (hi : i < m.length) : (addM m d).set i (x + d.getD i 0) = addM (m.set i x) d := by
  apply List.ext_getElem?
  intro j
  have hd : i < d.length := by omega
  by_cases hj : i = j
  · subst hj
    rw [List.getElem?_set]
    simp [addM, List.getElem?_zipWith, hi, hd, List.getD_eq_getElem?_getD]
    omega
  · rw [List.getElem?_set_ne hj]
    simp only [addM, List.getElem?_zipWith]
    rw [List.getElem?_set_ne hj]
theorem at_addM {m d : List Int} {p : Int} (h : m.length = d.length) (hp : p.toNat < m.length) : at_ (addM m d) p = at_ m p + d.getD p.toNat 0 := by
  have hd : p.toNat < d.length := by omega
  simp [at_, addM, List.getD_eq_getElem?_getD, List.getElem?_zipWith, hp, hd]
theorem decL_addM {d l : List Int} : ∀ {m : List Int}, m.length = d.length → (∀ p ∈ l, p.toNat < m.length) → decL (addM m d) l = addM (decL m l) d := by
  unfold decL
  induction l with
  | nil => intros; rfl
  | cons p l ih =>
    intro m h hl
    have hp := hl p (by simp)
    rw [List.foldl_cons, List.foldl_cons]
    have : decS (addM m d) p = addM (decS m p) d := by
      unfold decS
      rw [at_addM h hp, ← addM_set h hp]
      congr 1; omega
    rw [this]
    exact ih (by simp [decS, h]) (fun q hq => by simp [decS]; exact hl q (by simp [hq]))
theorem incL_addM {d l : List Int} : ∀ {m : List Int}, m.length = d.length → (∀ p ∈ l, p.toNat < m.length) → incL (addM m d) l = addM (incL m l) d := by
  unfold incL
  induction l with
  | nil => intros; rfl
  | cons p l ih =>
    intro m h hl
    have hp := hl p (by simp)
    rw [List.foldl_cons, List.foldl_cons]
    have : incS (addM m d) p = addM (incS m p) d := by
      unfold incS
      rw [at_addM h hp, ← addM_set h hp]
      congr 1; omega
    rw [this]
    exact ih (by simp [incS, h]) (fun q hq => by simp [incS]; exact hl q (by simp [hq]))
theorem firedM_addM {t : Tr} {m d : List Int} (h : m.length = d.length) (hr : t.rst = []) (h1 : ∀ q ∈ t.inn, 0 ≤ q ∧ q.toNat < m.length) (h2 : ∀ q ∈ t.out, 0 ≤ q ∧ q.toNat < m.length) : firedM t (addM m d) = addM (firedM t m) d := by
  unfold firedM
  rw [hr, decL_addM h (fun p hp => (h1 p hp).2)]
  show incL (addM (decL m t.inn) d) t.out = addM (incL (decL m t.inn) t.out) d
  exact incL_addM (by rw [decL_len]; exact h) (fun p hp => by rw [decL_len]; exact (h2 p hp).2)
theorem hasR_no {n : Net} {k : Nat} (h : hasR n = false) (hk : k < n.tr.length) : n.tr[k].rst = [] := by
  simp only [hasR, List.any_eq_false, decide_eq_true_eq] at h
  have := h _ (List.getElem_mem hk)
  exact List.eq_nil_of_length_eq_zero (by omega)
theorem okFire_addM {n : Net} {m d : List Int} {t : Int} (hf : okFire n m t = true) (hr : hasR n = false) (hA : okAdd n.pl m d = true) (hB : okAdd n.pl (firedM (trAt n t) m) d = true) : okFire n (addM m d) t = true := by
  obtain ⟨h1, h2⟩ := Bool.and_eq_true .. ▸ hf
  obtain ⟨h3, h4, h5, h6, h7, h8⟩ := canN_parts h1
  have hgl := goodT_lt h8 (goodM_len h4).2.2.1
  have hrs : (trAt n t).rst = [] := by rw [← trAt_eq h6]; exact hasR_no hr _
  have hA' := hA
  simp only [okAdd, Bool.and_eq_true] at hA hB
  obtain ⟨hl1, hl2⟩ := goodM_two (show (goodM n.pl m && goodM n.pl d) = true by simp [hA.1.1, hA.1.2])
  have key : firedM (trAt n t) (addM m d) = addM (firedM (trAt n t) m) d := firedM_addM hl1 hrs hgl.1 hgl.2.1
  have hg : goodM n.pl (addM m d) = true := by rw [goodM_add (by simp [hA.1.1, hA.1.2])]; exact hA'
  have hc : canT (trAt n t) (addM m d) = true := by
    simp only [canT, List.all_eq_true] at h7 ⊢
    intro p hp
    have hpm := (hgl.1 p hp).2
    have q1 := h7 p hp
    have q2 := at_bound (goodM_len h4).2.2.2.2 hpm
    have q3 := at_bound (p := p) (goodM_len hA.1.2).2.2.2.2 (by omega)
    rw [at_addM hl1 hpm]
    simp [at_] at q1 q2 q3 ⊢
    omega
  have hi : inB 0 (n.tr.length - 1) t = true := by simp [inB]; omega
  simp only [okFire, canN, marked, h3, hg, hi, hc, key, hB.2, Bool.and_self]
end Go.Proofs.Ytkkifebmicbbaaa.Pi
