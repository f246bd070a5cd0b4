/- The plain laws. -/
import Derived.Test.YtkkifebmicbbaaaGreatPiRy
import Derived.Laws.BitsLemmas
namespace Go.Proofs.YtkkifebmicbbaaaGreat.Pi
open Go
set_option linter.all false

abbrev bys (l : List Int) : PV := .sl true 1 (l.map (PV.int .u8))
abbrev rows (l : List (List Int)) : PV := .sl false 1 (l.map ints)

theorem z18h {α : Type} {l : List α} {k : Nat} (hk : k < l.length) : l.take (k + 1) = l.take k ++ [l[k]] := List.take_succ_eq_append_getElem hk
theorem zdn {α : Type} (xs : List α) (z : α) (k : Nat) (hk : k < xs.length) :
    (xs.take k ++ List.replicate (xs.length - k) z).set k xs[k] = xs.take (k + 1) ++ List.replicate (xs.length - (k + 1)) z := by
  have h1 : (xs.take k).length = k := by simp; omega
  rw [List.set_append_right _ _ (by omega), h1, Nat.sub_self]
  rw [show xs.length - k = (xs.length - (k + 1)) + 1 by omega, List.replicate_succ, List.set_cons_zero, z18h hk, List.append_assoc]
  rfl

theorem zdj {α : Type} (xs : List α) (z : α) (n k : Nat) (hn : xs.length = n) (hk : k < n) (y : α) (hy : xs[k]? = some y) :
    (xs.take k ++ List.replicate (n - k) z).set k y = xs.take (k + 1) ++ List.replicate (n - (k + 1)) z := by
  subst hn
  rw [List.getElem?_eq_getElem hk] at hy
  cases hy
  exact zdn xs z k hk
theorem z2s {α : Type} {l : List α} {p : α → Bool} {k : Nat} (hk : k < l.length) (h : (l.take k).all p = true) (hp : p l[k] = true) : (l.take (k + 1)).all p = true := by
  rw [z18h hk, List.all_append, h, List.all_cons, hp]; rfl
theorem z2r {α : Type} {l : List α} {p : α → Bool} {k : Nat} (hk : k < l.length) (hp : p l[k] = false) : l.all p = false := by
  rw [List.all_eq_false]; exact ⟨l[k], List.getElem_mem hk, by simp [hp]⟩
theorem z36 {α : Type} {l : List α} {p : α → Bool} {k : Nat} (hk : k < l.length) (h : (l.take k).any p = false) (hp : p l[k] = false) : (l.take (k + 1)).any p = false := by
  rw [z18h hk, List.any_append, h, List.any_cons, hp]; rfl
theorem z37 {α : Type} {l : List α} {p : α → Bool} {k : Nat} (hk : k < l.length) (hp : p l[k] = true) : l.any p = true := by
  rw [List.any_eq_true]; exact ⟨l[k], List.getElem_mem hk, hp⟩

def inB (lo hi n : Int) : Bool := decide (lo ≤ n) && decide (n ≤ hi)
def goodM (p : Int) (m : List Int) : Bool := inB 1 16 p && (m.length : Int) == p && m.all (inB 0 50)
theorem zge {p : Int} {m : List Int} (h : goodM p m = true) : 1 ≤ p ∧ p ≤ 16 ∧ (m.length : Int) = p ∧ m.length ≤ 16 ∧ ∀ x ∈ m, 0 ≤ x ∧ x ≤ 50 := by
  simp [goodM, inB] at h
  refine ⟨h.1.1.1, h.1.1.2, h.1.2, by omega, fun x hx => h.2 x hx⟩

def sumI (l : List Int) : Int := l.foldl (· + ·) 0
theorem z17v : sumI [] = 0 := rfl
theorem z17w (l : List Int) (x : Int) : sumI (l ++ [x]) = sumI l + x := by simp [sumI]
theorem z17x {l : List Int} {k : Nat} (hk : k < l.length) : sumI (l.take (k + 1)) = sumI (l.take k) + l[k] := by
  rw [z18h hk, z17w]
theorem z17t {l : List Int} {b : Int} (h : ∀ x ∈ l, 0 ≤ x ∧ x ≤ b) : ∀ k, k ≤ l.length → 0 ≤ sumI (l.take k) ∧ sumI (l.take k) ≤ b * k
  | 0, _ => by simp [sumI]
  | k + 1, hk => by
    obtain ⟨h1, h2⟩ := z17t h k (by omega)
    have := h l[k] (List.getElem_mem (by omega))
    rw [z17x (by omega)]
    refine ⟨by omega, ?_⟩
    have : b * (↑(k + 1) : Int) = b * k + b := by rw [Int.natCast_add, Int.mul_add]; simp
    omega
def zaa (a b : List Int) : Bool := (a.zip b).all fun p => decide (p.2 ≤ p.1)

def idxI {α : Type} (l : List α) (p : α → Bool) : Int := match l.findIdx? p with
  | some k => k
  | none => -1
theorem zho {α : Type} {l : List α} {p : α → Bool} {k : Nat} (hk : k < l.length) (h : (l.take k).any p = false) (hp : p l[k] = true) : idxI l p = k := by
  have : l.findIdx? p = some k := by
    rw [List.findIdx?_eq_some_iff_getElem]
    refine ⟨hk, hp, fun j hj => ?_⟩
    rw [List.any_eq_false] at h
    have hjl : j < l.length := by omega
    have := h l[j] (by rw [List.mem_iff_getElem]; exact ⟨j, by simp; omega, by simp⟩)
    simpa using this
  simp [idxI, this]
theorem zhn {α : Type} {l : List α} {p : α → Bool} (h : l.any p = false) : idxI l p = -1 := by
  have : l.findIdx? p = none := by
    rw [List.findIdx?_eq_none_iff]
    rw [List.any_eq_false] at h
    intro x hx; simpa using h x hx
  simp [idxI, this]
theorem zhl {α : Type} (l : List α) (p : α → Bool) : l.any p = decide (0 ≤ idxI l p) := by
  unfold idxI
  cases h : l.findIdx? p with
  | none =>
    rw [List.findIdx?_eq_none_iff] at h
    simp only [List.any_eq_false.2 (fun x hx => by simpa using h x hx)]
    rfl
  | some k =>
    rw [List.findIdx?_eq_some_iff_getElem] at h
    obtain ⟨h1, h2, _⟩ := h
    rw [List.any_eq_true.2 ⟨l[k], List.getElem_mem h1, h2⟩]
    simp
theorem zhm {α : Type} (l : List α) (p : α → Bool) : -1 ≤ idxI l p ∧ idxI l p < l.length := by
  unfold idxI
  cases h : l.findIdx? p with
  | none => simp; omega
  | some k =>
    rw [List.findIdx?_eq_some_iff_getElem] at h
    obtain ⟨h1, h2, _⟩ := h
    simp; omega

theorem zgh {p : Int} {a b : List Int} (h : (goodM p a && goodM p b) = true) : a.length = b.length ∧ a.length ≤ 16 := by
  simp only [Bool.and_eq_true] at h
  have h1 := zge h.1
  have h2 := zge h.2
  omega

def addM (a b : List Int) : List Int := List.zipWith (· + ·) a b
def subM (a b : List Int) : List Int := List.zipWith (· - ·) a b
def okAdd (p : Int) (a b : List Int) : Bool := goodM p a && goodM p b && (addM a b).all (inB 0 50)
def zst (p : Int) (a b : List Int) : Bool := goodM p a && goodM p b && (subM a b).all (inB 0 50)

theorem zgi {f : Int → Int → Int} {p : Int} {a b : List Int} (h : (goodM p a && goodM p b) = true) : goodM p (List.zipWith f a b) = (List.zipWith f a b).all (inB 0 50) := by
  obtain ⟨h1, h2⟩ := zgh h
  simp only [Bool.and_eq_true] at h
  have h3 := zge h.1
  have h4 : inB 1 16 p = true := by simp [inB]; omega
  have h5 : ((List.zipWith f a b).length : Int) == p := by simp; omega
  simp only [goodM, h4, h5, Bool.true_and]
theorem zgd {p : Int} {a b : List Int} (h : (goodM p a && goodM p b) = true) : goodM p (addM a b) = okAdd p a b := by
  unfold okAdd
  rw [h, Bool.true_and]; exact zgi h
theorem zgf {p : Int} {a b : List Int} (h : (goodM p a && goodM p b) = true) : goodM p (subM a b) = zst p a b := by
  unfold zst
  rw [h, Bool.true_and]; exact zgi h
theorem zsu {p : Int} {a b : List Int} (h : (goodM p a && goodM p b) = true) : zst p a b = zaa a b := by
  unfold zst
  rw [h, Bool.true_and]
  simp only [Bool.and_eq_true] at h
  have h3 := (zge h.1).2.2.2.2
  have h4 := (zge h.2).2.2.2.2
  unfold subM zaa
  clear h
  induction a generalizing b with
  | nil => simp
  | cons x a ih =>
    cases b with
    | nil => simp
    | cons y b =>
      have hx := h3 x (by simp)
      have hy := h4 y (by simp)
      simp only [List.zipWith_cons_cons, List.all_cons, List.zip_cons_cons]
      rw [ih (fun z hz => h3 z (by simp [hz])) (fun z hz => h4 z (by simp [hz]))]
      congr 1
      simp only [inB]
      have : decide (x - y ≤ 50) = true := by simp; omega
      rw [this, Bool.and_true]
      congr 1
      simp only [eq_iff_iff]
      omega

theorem z17d {a b : List Int} (h : a.length = b.length) : subM (addM a b) b = a := by
  unfold subM addM
  induction a generalizing b with
  | nil => simp
  | cons x a ih =>
    cases b with
    | nil => simp at h
    | cons y b => simp only [List.zipWith_cons_cons]; rw [ih (by simpa using h)]; congr 1; omega
theorem z17r (l : List Int) (x : Int) : l.foldl (· + ·) x = x + sumI l := by
  induction l generalizing x with
  | nil => simp [sumI]
  | cons y l ih =>
    have h1 : sumI (y :: l) = (0 + y) + sumI l := ih (0 + y)
    rw [List.foldl_cons, ih, h1]; omega
theorem z17u (x : Int) (l : List Int) : sumI (x :: l) = x + sumI l := by
  show (x :: l).foldl (· + ·) 0 = _
  rw [List.foldl_cons, z17r]; omega
theorem z17s {a b : List Int} (h : a.length = b.length) : sumI (addM a b) = sumI a + sumI b := by
  unfold addM
  induction a generalizing b with
  | nil => cases b with
    | nil => rfl
    | cons => simp at h
  | cons x a ih =>
    cases b with
    | nil => simp at h
    | cons y b => simp only [List.zipWith_cons_cons, z17u]; rw [ih (by simpa using h)]; omega
theorem zab {a b : List Int} (hb : ∀ y ∈ b, 0 ≤ y) (h : a.length = b.length) : zaa (addM a b) a = true := by
  unfold zaa addM
  induction a generalizing b with
  | nil => simp
  | cons x a ih =>
    cases b with
    | nil => simp at h
    | cons y b =>
      have := hb y (by simp)
      simp only [List.zipWith_cons_cons, List.zip_cons_cons, List.all_cons]
      rw [ih (fun z hz => hb z (by simp [hz])) (by simpa using h)]
      simp; omega
theorem zgg {p : Int} {m : List Int} (h : goodM p m = true) : 0 ≤ sumI m ∧ sumI m ≤ 800 := by
  obtain ⟨_, _, _, h1, h2⟩ := zge h
  have := z17t h2 m.length (Nat.le_refl _)
  rw [List.take_length] at this
  omega
attribute [go_sem] Bool.false_and Bool.and_false bne_self_eq_false

def putI : List Int → Int → List Int
  | [], x => [x]
  | y :: l, x => if y < x then y :: putI l x else if y = x then y :: l else x :: y :: l
theorem zya : ∀ {l : List Int} {x : Int} {k : Nat} (hk : k < l.length), (l.take k).all (fun y => decide (y < x)) = true → l[k] = x → putI l x = l
  | y :: l, x, 0, hk, h, hx => by
    simp only [List.getElem_cons_zero] at hx
    simp [putI, hx]
  | y :: l, x, k + 1, hk, h, hx => by
    simp only [List.take_succ_cons, List.all_cons, Bool.and_eq_true, decide_eq_true_eq] at h
    simp only [putI, h.1, if_true]
    rw [zya (k := k) (by simpa using hk) h.2 (by simpa using hx)]
theorem zyb : ∀ {l : List Int} {x : Int} {k : Nat}, (l.take k).all (fun y => decide (y < x)) = true → (∀ h : k < l.length, x < l[k]) → k ≤ l.length → putI l x = l.take k ++ x :: l.drop k
  | [], x, k, h, hx, hk => by have : k = 0 := by simpa using hk
                              subst this; rfl
  | y :: l, x, 0, h, hx, hk => by
    have := hx (by simp)
    simp only [List.getElem_cons_zero] at this
    have h1 : ¬ y < x := by omega
    have h2 : ¬ y = x := by omega
    simp [putI, h1, h2]
  | y :: l, x, k + 1, h, hx, hk => by
    simp only [List.take_succ_cons, List.all_cons, Bool.and_eq_true, decide_eq_true_eq] at h
    simp only [putI, h.1, if_true, List.take_succ_cons, List.drop_succ_cons, List.cons_append]
    rw [zyb (k := k) h.2 (fun hh => by have := hx (by simpa using hh); simpa using this) (by simpa using hk)]
theorem zyc : ∀ (l : List Int) (x : Int), l.length ≤ (putI l x).length ∧ (putI l x).length ≤ l.length + 1
  | [], x => by simp [putI]
  | y :: l, x => by
    have := zyc l x
    simp only [putI]
    split
    · simp; omega
    · split <;> simp
theorem zyd {l : List Int} {x y : Int} (h : y ∈ putI l x) : y ∈ l ∨ y = x := by
  induction l with
  | nil => simp [putI] at h; exact .inr h
  | cons z l ih =>
    simp only [putI] at h
    split at h
    · rcases List.mem_cons.1 h with h | h
      · exact .inl (by simp [h])
      · rcases ih h with h | h
        · exact .inl (by simp [h])
        · exact .inr h
    · split at h
      · exact .inl h
      · rcases List.mem_cons.1 h with h | h
        · exact .inr h
        · exact .inl h
end Go.Proofs.YtkkifebmicbbaaaGreat.Pi
namespace Go.Proofs.YtkkifebmicbbaaaGreat.Pi
open Go
set_option linter.all false

structure Tr where
  inn : List Int
  out : List Int
  rst : List Int
structure Net where
  pl : Int
  tr : List Tr
abbrev encT (t : Tr) : PV := .agg [ints t.inn, ints t.out, ints t.rst]
abbrev trs (l : List Tr) : PV := .sl false 3 (l.map encT)
abbrev encN (n : Net) : PV := .agg [I n.pl, trs n.tr]
def smT (t : Tr) : Prop := t.inn.length < 2^40 ∧ t.out.length < 2^40 ∧ t.rst.length < 2^40
def smN (n : Net) : Prop := n.tr.length < 2^40 ∧ ∀ t ∈ n.tr, smT t

def smNet (n : Net) : Prop := (0 < n.tr.length ∧ n.tr.length ≤ 30) ∧ n.pl ≤ 20 ∧ ∀ t ∈ n.tr, t.inn.length ≤ 20 ∧ t.out.length ≤ 20 ∧ t.rst.length ≤ 20
theorem smNet.smN {n : Net} (h : smNet n) : smN n := ⟨by have := h.1; omega, fun t ht => by have := h.2.2 t ht; exact ⟨by omega, by omega, by omega⟩⟩
def incr (l : List Int) : Bool := decide (l.Pairwise (· < ·))
theorem zjt {l : List Int} : (l.take 1).Pairwise (· < ·) := by cases l <;> simp
theorem zjw {l : List Int} : (l.take 0).Pairwise (· < ·) := by simp
theorem zwp {l : List Int} {x y : Int} (h : (l ++ [x]).Pairwise (· < ·)) (hxy : x < y) : (l ++ [x] ++ [y]).Pairwise (· < ·) := by
  rw [List.pairwise_append]
  refine ⟨h, by simp, ?_⟩
  intro a ha b hb
  simp only [List.mem_singleton] at hb
  subst hb
  rcases List.mem_append.1 ha with ha | ha
  · have := (List.pairwise_append.1 h).2.2 a ha x (by simp); omega
  · simp only [List.mem_singleton] at ha; omega
theorem zjv {l : List Int} {k : Nat} (hk : k + 1 < l.length) (h : (l.take (k + 1)).Pairwise (· < ·)) (hx : l[k]'(by omega) < l[k + 1]) : (l.take (k + 2)).Pairwise (· < ·) := by
  rw [z18h (show k < l.length by omega)] at h
  rw [z18h hk, z18h (show k < l.length by omega)]
  exact zwp h hx
theorem zjs {l : List Int} {k : Nat} (hk : k + 1 < l.length) (hx : ¬ l[k]'(by omega) < l[k + 1]) : incr l = false := by
  unfold incr
  rw [decide_eq_false_iff_not]
  intro h
  exact hx (List.pairwise_iff_getElem.1 h k (k + 1) (by omega) hk (by omega))
def zx2 (p : Int) (l : List Int) : Bool := incr l && l.all (inB 0 (p - 1))
theorem zx3 (p : Int) (l : List Int) : (incr l && l.all (inB 0 (p - 1))) = zx2 p l := rfl
def goodT (p : Int) (t : Tr) : Bool := !t.inn.isEmpty && zx2 p t.inn && zx2 p t.out && zx2 p t.rst
def goodN (n : Net) : Bool := inB 1 16 n.pl && decide (n.tr.length ≤ 24) && n.tr.all (goodT n.pl)

theorem zgk {n : Net} {k : Nat} (hk : k < n.tr.length) (h : goodT n.pl n.tr[k] = false) : goodN n = false := by
  unfold goodN; rw [z2r hk h]; simp
theorem zgu {p : Int} {t : Tr} (h : t.inn.length = 0) : goodT p t = false := by
  have : t.inn = [] := List.eq_nil_of_length_eq_zero h
  simp [goodT, this]
theorem zgp {p : Int} {t : Tr} (h : t.inn.length ≠ 0) (h1 : zx2 p t.inn = true) (h2 : zx2 p t.out = true) (h3 : zx2 p t.rst = true) : goodT p t = true := by
  have : t.inn.isEmpty = false := by cases e : t.inn with
    | nil => simp [e] at h
    | cons => rfl
  simp [goodT, this, h1, h2, h3]
def at_ (m : List Int) (p : Int) : Int := m.getD p.toNat 0
theorem at_eq {m : List Int} {p : Int} (h : p.toNat < m.length) : m[p.toNat] = at_ m p := by
  unfold at_; rw [List.getD_eq_getElem?_getD, List.getElem?_eq_getElem h]; rfl
def canT (t : Tr) (m : List Int) : Bool := t.inn.all fun p => !(at_ m p == 0)
def decS (m : List Int) (p : Int) : List Int := m.set p.toNat (at_ m p - 1)
def zerS (m : List Int) (p : Int) : List Int := m.set p.toNat 0
def incS (m : List Int) (p : Int) : List Int := m.set p.toNat (at_ m p + 1)
def decL (m l : List Int) : List Int := l.foldl decS m
def zerL (m l : List Int) : List Int := l.foldl zerS m
def incL (m l : List Int) : List Int := l.foldl incS m
def ze0 (t : Tr) (m : List Int) : List Int := incL (zerL (decL m t.inn) t.rst) t.out
theorem zek {α β : Type} (f : β → α → β) (b : β) {l : List α} {k : Nat} (hk : k < l.length) : (l.take (k + 1)).foldl f b = f ((l.take k).foldl f b) l[k] := by
  rw [z18h hk, List.foldl_append]; rfl
theorem zai (m l : List Int) : (decL m l).length = m.length := by
  unfold decL
  induction l generalizing m with
  | nil => rfl
  | cons x l ih => rw [List.foldl_cons, ih]; simp [decS]
theorem z1av (m l : List Int) : (zerL m l).length = m.length := by
  unfold zerL
  induction l generalizing m with
  | nil => rfl
  | cons x l ih => rw [List.foldl_cons, ih]; simp [zerS]
theorem zjn (m l : List Int) : (incL m l).length = m.length := by
  unfold incL
  induction l generalizing m with
  | nil => rfl
  | cons x l ih => rw [List.foldl_cons, ih]; simp [incS]
theorem ze2 (t : Tr) (m : List Int) : (ze0 t m).length = m.length := by
  unfold ze0; rw [zjn, z1av, zai]
theorem z45 {m : List Int} {p lo hi : Int} (h : ∀ x ∈ m, lo ≤ x ∧ x ≤ hi) (hp : p.toNat < m.length) : lo ≤ at_ m p ∧ at_ m p ≤ hi := by
  rw [← at_eq hp]; exact h _ (List.getElem_mem hp)
theorem zpc {m : List Int} {i : Nat} {v x : Int} (h : x ∈ m.set i v) : x ∈ m ∨ x = v := List.mem_or_eq_of_mem_set h
theorem zah {m l : List Int} {lo hi : Int} (h : ∀ x ∈ m, lo ≤ x ∧ x ≤ hi) (hl : ∀ p ∈ l, p.toNat < m.length) : ∀ x ∈ decL m l, lo - l.length ≤ x ∧ x ≤ hi := by
  unfold decL
  induction l generalizing m lo with
  | nil => intro x hx; have := h x hx; simp; omega
  | cons p l ih =>
    rw [List.foldl_cons]
    have hp := z45 h (hl p (by simp))
    intro x hx
    have h2 := ih (m := decS m p) (lo := lo - 1) (by
      intro y hy
      rcases zpc hy with hy | hy
      · have := h y hy; omega
      · omega) (by intro q hq; simp [decS]; exact hl q (by simp [hq])) x hx
    simp only [List.length_cons]; omega
theorem z1au {m l : List Int} {lo hi : Int} (h : ∀ x ∈ m, lo ≤ x ∧ x ≤ hi) (h0 : lo ≤ 0 ∧ 0 ≤ hi) : ∀ x ∈ zerL m l, lo ≤ x ∧ x ≤ hi := by
  unfold zerL
  induction l generalizing m with
  | nil => exact h
  | cons p l ih =>
    rw [List.foldl_cons]
    refine ih ?_
    intro y hy
    rcases zpc hy with hy | hy
    · exact h y hy
    · omega
theorem zjm {m l : List Int} {lo hi : Int} (h : ∀ x ∈ m, lo ≤ x ∧ x ≤ hi) (hl : ∀ p ∈ l, p.toNat < m.length) : ∀ x ∈ incL m l, lo ≤ x ∧ x ≤ hi + l.length := by
  unfold incL
  induction l generalizing m hi with
  | nil => intro x hx; have := h x hx; simp; omega
  | cons p l ih =>
    rw [List.foldl_cons]
    have hp := z45 h (hl p (by simp))
    intro x hx
    have h2 := ih (m := incS m p) (hi := hi + 1) (by
      intro y hy
      rcases zpc hy with hy | hy
      · have := h y hy; omega
      · omega) (by intro q hq; simp [incS]; exact hl q (by simp [hq])) x hx
    simp only [List.length_cons]; omega
theorem zaj {m l : List Int} {k : Nat} (hk : k < l.length) : decL m (l.take (k + 1)) = (decL m (l.take k)).set (l[k].toNat) (at_ (decL m (l.take k)) l[k] - 1) := by
  unfold decL; rw [zek _ _ hk]; rfl
theorem z1aw {m l : List Int} {k : Nat} (hk : k < l.length) : zerL m (l.take (k + 1)) = (zerL m (l.take k)).set (l[k].toNat) 0 := by
  unfold zerL; rw [zek _ _ hk]; rfl
theorem zjo {m l : List Int} {k : Nat} (hk : k < l.length) : incL m (l.take (k + 1)) = (incL m (l.take k)).set (l[k].toNat) (at_ (incL m (l.take k)) l[k] + 1) := by
  unfold incL; rw [zek _ _ hk]; rfl

theorem zx4 {p : Int} {l : List Int} (h : zx2 p l = true) : ∀ x ∈ l, 0 ≤ x ∧ x < p := by
  simp only [zx2, Bool.and_eq_true, List.all_eq_true] at h
  intro x hx
  have := h.2 x hx
  simp [inB] at this; omega
theorem zjr : ∀ {l : List Int} {lo hi : Int}, l.Pairwise (· < ·) → (∀ x ∈ l, lo ≤ x ∧ x < hi) → lo ≤ hi → (l.length : Int) ≤ hi - lo
  | [], _, _, _, _, h => by simp; omega
  | a :: l, lo, hi, hp, hb, h => by
    rw [List.pairwise_cons] at hp
    have ha := hb a (by simp)
    have := zjr (l := l) (lo := a + 1) (hi := hi) hp.2 (fun x hx => ⟨by have := hp.1 x hx; omega, (hb x (by simp [hx])).2⟩) (by omega)
    simp only [List.length_cons]; omega
theorem zx6 {p : Int} {l : List Int} (h : zx2 p l = true) (h0 : 0 ≤ p) : (l.length : Int) ≤ p := by
  have h1 : l.Pairwise (· < ·) := by simp [zx2, incr] at h; exact h.1
  have := zjr h1 (zx4 h) h0; omega
theorem zgv {p : Int} {t : Tr} (h : goodT p t = true) : t.inn ≠ [] ∧ zx2 p t.inn = true ∧ zx2 p t.out = true ∧ zx2 p t.rst = true := by
  simp [goodT] at h
  exact ⟨h.1.1.1, h.1.1.2, h.1.2, h.2⟩
theorem zgm {n : Net} (h : goodN n = true) : 1 ≤ n.pl ∧ n.pl ≤ 16 ∧ n.tr.length ≤ 24 ∧ ∀ t ∈ n.tr, goodT n.pl t = true := by
  simp [goodN, inB] at h
  exact ⟨h.1.1.1, h.1.1.2, h.1.2, h.2⟩
theorem zgs {p : Int} {t : Tr} {m : List Int} (h : goodT p t = true) (hm : (m.length : Int) = p) : (∀ q ∈ t.inn, 0 ≤ q ∧ q.toNat < m.length) ∧ (∀ q ∈ t.out, 0 ≤ q ∧ q.toNat < m.length) ∧ (∀ q ∈ t.rst, 0 ≤ q ∧ q.toNat < m.length) := by
  obtain ⟨_, h1, h2, h3⟩ := zgv h
  refine ⟨fun q hq => ?_, fun q hq => ?_, fun q hq => ?_⟩
  · have := zx4 h1 q hq; omega
  · have := zx4 h2 q hq; omega
  · have := zx4 h3 q hq; omega
theorem zgr {p : Int} {t : Tr} (h : goodT p t = true) (hp : 0 ≤ p ∧ p ≤ 16) : t.inn.length ≤ 16 ∧ t.out.length ≤ 16 ∧ t.rst.length ≤ 16 := by
  obtain ⟨_, h1, h2, h3⟩ := zgv h
  have := zx6 h1 hp.1
  have := zx6 h2 hp.1
  have := zx6 h3 hp.1
  omega

def zou (n : Net) (m : List Int) : Bool := goodN n && goodM n.pl m
def trAt (n : Net) (t : Int) : Tr := n.tr.getD t.toNat ⟨[], [], []⟩
theorem z18t {n : Net} {t : Int} (h : t.toNat < n.tr.length) : n.tr[t.toNat] = trAt n t := by
  unfold trAt; rw [List.getD_eq_getElem?_getD, List.getElem?_eq_getElem h]; rfl
def canN (n : Net) (m : List Int) (t : Int) : Bool := zou n m && inB 0 (n.tr.length - 1) t && canT (trAt n t) m
def zse (n : Net) (m : List Int) (t : Int) : Bool := canN n m t && (ze0 (trAt n t) m).all (inB 0 50)
theorem zov {n : Net} {m : List Int} (h : zou n m = true) : goodN n = true ∧ goodM n.pl m = true := by simpa [zou] using h
theorem z7n {n : Net} {m : List Int} {t : Int} (h : canN n m t = true) : goodN n = true ∧ goodM n.pl m = true ∧ 0 ≤ t ∧ t.toNat < n.tr.length ∧ canT (trAt n t) m = true ∧ goodT n.pl (trAt n t) = true := by
  simp only [canN, Bool.and_eq_true, inB, decide_eq_true_eq] at h
  obtain ⟨⟨h1, h2⟩, h3⟩ := h
  obtain ⟨h4, h5⟩ := zov h1
  have h6 : t.toNat < n.tr.length := by omega
  refine ⟨h4, h5, h2.1, h6, h3, ?_⟩
  have := (zgm h4).2.2.2 n.tr[t.toNat] (List.getElem_mem h6)
  rwa [z18t h6] at this
def enabK (n : Net) (m : List Int) (k : Nat) : List Int := ((List.range k).filter fun i => canT (n.tr.getD i ⟨[], [], []⟩) m).map Int.ofNat
def enabL (n : Net) (m : List Int) : List Int := enabK n m n.tr.length
theorem zb6 (n : Net) (m : List Int) (k : Nat) : (enabK n m k).length ≤ k := by
  have := List.length_filter_le (fun i => canT (n.tr.getD i ⟨[], [], []⟩) m) (List.range k)
  simp only [enabK, List.length_map]; simp at this ⊢; omega
theorem zb7 {n : Net} {m : List Int} {k : Nat} (hk : k < n.tr.length) (h : canT n.tr[k] m = true) : enabK n m (k + 1) = enabK n m k ++ [(k : Int)] := by
  have e : n.tr[k]?.getD ⟨[], [], []⟩ = n.tr[k] := by rw [List.getElem?_eq_getElem hk]; rfl
  simp [enabK, List.range_succ, List.filter_append, e, h]
theorem zb5 {n : Net} {m : List Int} {k : Nat} (hk : k < n.tr.length) (h : canT n.tr[k] m = false) : enabK n m (k + 1) = enabK n m k := by
  have e : n.tr[k]?.getD ⟨[], [], []⟩ = n.tr[k] := by rw [List.getElem?_eq_getElem hk]; rfl
  simp [enabK, List.range_succ, List.filter_append, e, h]
theorem zb8 {n : Net} {m : List Int} {t : Int} : t ∈ enabL n m ↔ 0 ≤ t ∧ t.toNat < n.tr.length ∧ canT (trAt n t) m = true := by
  simp only [enabL, enabK, List.mem_map, List.mem_filter, List.mem_range, trAt]
  constructor
  · rintro ⟨i, ⟨h1, h2⟩, rfl⟩
    exact ⟨by simp, by simpa using h1, by simpa using h2⟩
  · rintro ⟨h1, h2, h3⟩
    exact ⟨t.toNat, ⟨h2, h3⟩, by simp; omega⟩
def hasR (n : Net) : Bool := n.tr.any fun t => decide (0 < t.rst.length)

/-! Firing is monotone. -/
theorem z1y {m d : List Int} {i : Nat} {x : Int} (h : m.length = d.length) (hi : i < m.length) : (addM m d).set i (x + d.getD i 0) = addM (m.set i x) d := by
  apply List.ext_getElem?
  intro j
  have hd : i < d.length := by omega
  by_cases hj : i = j
  · subst hj
    rw [List.getElem?_set]
    simp [addM, List.getElem?_zipWith, hi, hd, List.getD_eq_getElem?_getD]
    omega
  · rw [List.getElem?_set_ne hj]
    simp only [addM, List.getElem?_zipWith]
    rw [List.getElem?_set_ne hj]
theorem z43 {m d : List Int} {p : Int} (h : m.length = d.length) (hp : p.toNat < m.length) : at_ (addM m d) p = at_ m p + d.getD p.toNat 0 := by
  have hd : p.toNat < d.length := by omega
  simp [at_, addM, List.getD_eq_getElem?_getD, List.getElem?_zipWith, hp, hd]
theorem zag {d l : List Int} : ∀ {m : List Int}, m.length = d.length → (∀ p ∈ l, p.toNat < m.length) → decL (addM m d) l = addM (decL m l) d := by
  unfold decL
  induction l with
  | nil => intros; rfl
  | cons p l ih =>
    intro m h hl
    have hp := hl p (by simp)
    rw [List.foldl_cons, List.foldl_cons]
    have : decS (addM m d) p = addM (decS m p) d := by
      unfold decS
      rw [z43 h hp, ← z1y h hp]
      congr 1; omega
    rw [this]
    exact ih (by simp [decS, h]) (fun q hq => by simp [decS]; exact hl q (by simp [hq]))
theorem zjl {d l : List Int} : ∀ {m : List Int}, m.length = d.length → (∀ p ∈ l, p.toNat < m.length) → incL (addM m d) l = addM (incL m l) d := by
  unfold incL
  induction l with
  | nil => intros; rfl
  | cons p l ih =>
    intro m h hl
    have hp := hl p (by simp)
    rw [List.foldl_cons, List.foldl_cons]
    have : incS (addM m d) p = addM (incS m p) d := by
      unfold incS
      rw [z43 h hp, ← z1y h hp]
      congr 1; omega
    rw [this]
    exact ih (by simp [incS, h]) (fun q hq => by simp [incS]; exact hl q (by simp [hq]))
theorem ze1 {t : Tr} {m d : List Int} (h : m.length = d.length) (hr : t.rst = []) (h1 : ∀ q ∈ t.inn, 0 ≤ q ∧ q.toNat < m.length) (h2 : ∀ q ∈ t.out, 0 ≤ q ∧ q.toNat < m.length) : ze0 t (addM m d) = addM (ze0 t m) d := by
  unfold ze0
  rw [hr, zag h (fun p hp => (h1 p hp).2)]
  show incL (addM (decL m t.inn) d) t.out = addM (incL (decL m t.inn) t.out) d
  exact zjl (by rw [zai]; exact h) (fun p hp => by rw [zai]; exact (h2 p hp).2)
theorem zhd {n : Net} {k : Nat} (h : hasR n = false) (hk : k < n.tr.length) : n.tr[k].rst = [] := by
  simp only [hasR, List.any_eq_false, decide_eq_true_eq] at h
  have := h _ (List.getElem_mem hk)
  exact List.eq_nil_of_length_eq_zero (by omega)
theorem zsf {n : Net} {m d : List Int} {t : Int} (hf : zse n m t = true) (hr : hasR n = false) (hA : okAdd n.pl m d = true) (hB : okAdd n.pl (ze0 (trAt n t) m) d = true) : zse n (addM m d) t = true := by
  obtain ⟨h1, h2⟩ := Bool.and_eq_true .. ▸ hf
  obtain ⟨h3, h4, h5, h6, h7, h8⟩ := z7n h1
  have hgl := zgs h8 (zge h4).2.2.1
  have hrs : (trAt n t).rst = [] := by rw [← z18t h6]; exact zhd hr _
  have hA' := hA
  simp only [okAdd, Bool.and_eq_true] at hA hB
  obtain ⟨hl1, hl2⟩ := zgh (show (goodM n.pl m && goodM n.pl d) = true by simp [hA.1.1, hA.1.2])
  have key : ze0 (trAt n t) (addM m d) = addM (ze0 (trAt n t) m) d := ze1 hl1 hrs hgl.1 hgl.2.1
  have hg : goodM n.pl (addM m d) = true := by rw [zgd (by simp [hA.1.1, hA.1.2])]; exact hA'
  have hc : canT (trAt n t) (addM m d) = true := by
    simp only [canT, List.all_eq_true] at h7 ⊢
    intro p hp
    have hpm := (hgl.1 p hp).2
    have q1 := h7 p hp
    have q2 := z45 (zge h4).2.2.2.2 hpm
    have q3 := z45 (p := p) (zge hA.1.2).2.2.2.2 (by omega)
    rw [z43 hl1 hpm]
    simp [at_] at q1 q2 q3 ⊢
    omega
  have hi : inB 0 (n.tr.length - 1) t = true := by simp [inB]; omega
  simp only [zse, canN, zou, h3, hg, hi, hc, key, hB.2, Bool.and_self]
end Go.Proofs.YtkkifebmicbbaaaGreat.Pi
namespace Go.Proofs.YtkkifebmicbbaaaGreat.Pi
open Go
set_option linter.all false

def fsq (n : Net) (m l : List Int) : List Int := l.foldl (fun a t => ze0 (trAt n t) a) m
theorem zfe (n : Net) (m : List Int) : fsq n m [] = m := rfl
theorem zff {n : Net} {m l : List Int} {k : Nat} (hk : k < l.length) : fsq n m (l.take (k + 1)) = ze0 (trAt n l[k]) (fsq n m (l.take k)) := by
  unfold fsq; rw [zek _ _ hk]
theorem zfc (n : Net) (m l : List Int) : (fsq n m l).length = m.length := by
  unfold fsq
  induction l generalizing m with
  | nil => rfl
  | cons x l ih => rw [List.foldl_cons, ih, ze2]
def many (n : Net) : List Int → List Int → Nat
  | _, [] => 0
  | m, t :: ts => if zse n m t then many n (ze0 (trAt n t) m) ts + 1 else 0
theorem zob (n : Net) (m l : List Int) : many n m l ≤ l.length := by
  induction l generalizing m with
  | nil => simp [many]
  | cons t ts ih =>
    simp only [many, List.length_cons]
    split
    · have := ih (ze0 (trAt n t) m); omega
    · omega
theorem zoc {n : Net} {m l : List Int} {k : Nat} (hk : k < many n m l) (hl : k < l.length) : zse n (fsq n m (l.take k)) l[k] = true := by
  induction l generalizing m k with
  | nil => simp at hl
  | cons t ts ih =>
    simp only [many] at hk
    split at hk
    · rename_i h
      cases k with
      | zero => simpa [fsq] using h
      | succ k =>
        have := ih (m := ze0 (trAt n t) m) (k := k) (by omega) (by simpa using hl)
        simpa [fsq] using this
    · omega
theorem zoa {n : Net} {m l : List Int} {k : Nat} (hk : k ≤ l.length) (h1 : ∀ j, (hj : j < k) → zse n (fsq n m (l.take j)) (l[j]'(by omega)) = true) (h2 : ∀ h : k < l.length, zse n (fsq n m (l.take k)) l[k] = false) : many n m l = k := by
  induction l generalizing m k with
  | nil => have : k = 0 := by simpa using hk
           subst this; rfl
  | cons t ts ih =>
    cases k with
    | zero =>
      have := h2 (by simp)
      have h : zse n m t = false := by simpa [fsq] using this
      simp [many, h]
    | succ k =>
      have h : zse n m t = true := by simpa [fsq] using h1 0 (by omega)
      simp only [many, h, if_true]
      rw [ih (m := ze0 (trAt n t) m) (k := k) (by simpa using hk) (fun j hj => ?_) (fun hh => ?_)]
      · have := h1 (j + 1) (by omega)
        simpa [fsq] using this
      · have := h2 (by simpa using hh)
        simpa [fsq] using this
theorem zsh {n : Net} {m : List Int} {t : Int} (h : zse n m t = true) : zou n (ze0 (trAt n t) m) = true := by
  obtain ⟨h1, h2⟩ := Bool.and_eq_true .. ▸ h
  obtain ⟨h3, h4, _⟩ := z7n h1
  have h5 := zge h4
  simp only [zou, h3, Bool.true_and, goodM, ze2, h2, Bool.and_true]
  simp [inB]; omega
theorem zfd {n : Net} {m l : List Int} {k : Nat} (hm : zou n m = true) (hl : k ≤ l.length) (h1 : ∀ j, (hj : j < k) → zse n (fsq n m (l.take j)) (l[j]'(by omega)) = true) : zou n (fsq n m (l.take k)) = true := by
  cases k with
  | zero => simpa [fsq] using hm
  | succ k =>
    rw [zff (by omega)]
    exact zsh (h1 k (by omega))
theorem zsi {n : Net} {m : List Int} {t : Int} (h : zse n m t = true) : zou n m = true := by
  obtain ⟨h1, _⟩ := Bool.and_eq_true .. ▸ h
  obtain ⟨h3, h4, _⟩ := z7n h1
  simp [zou, h3, h4]
theorem zsg {n : Net} {m : List Int} {t : Int} (h : zse n m t = true) : t ∈ enabL n m := by
  obtain ⟨h1, h2⟩ := Bool.and_eq_true .. ▸ h
  obtain ⟨h3, h4, h5, h6, h7, h8⟩ := z7n h1
  exact zb8.2 ⟨h5, h6, h7⟩
theorem zej {m l : List Int} {f : List Int → Int → Int} {p : Nat} (h : ∀ q ∈ l, q.toNat ≠ p) : (l.foldl (fun a q => a.set q.toNat (f a q)) m)[p]? = m[p]? := by
  induction l generalizing m with
  | nil => rfl
  | cons q l ih =>
    rw [List.foldl_cons, ih (fun r hr => h r (by simp [hr])), List.getElem?_set_ne (h q (by simp))]
theorem ze3 {t : Tr} {m : List Int} {p : Nat} (h1 : ∀ q ∈ t.inn, q.toNat ≠ p) (h2 : ∀ q ∈ t.out, q.toNat ≠ p) (h3 : ∀ q ∈ t.rst, q.toNat ≠ p) : (ze0 t m)[p]? = m[p]? := by
  have e1 : ∀ m' : List Int, (decL m' t.inn)[p]? = m'[p]? := fun m' => zej (f := fun a q => at_ a q - 1) h1
  have e2 : ∀ m' : List Int, (zerL m' t.rst)[p]? = m'[p]? := fun m' => zej (f := fun _ _ => 0) h3
  have e3 : ∀ m' : List Int, (incL m' t.out)[p]? = m'[p]? := fun m' => zej (f := fun a q => at_ a q + 1) h2
  unfold ze0
  rw [e3, e2, e1]
def areTr (n : Net) (l : List Int) : Bool := decide (l.length ≤ 60) && l.all (inB 0 (n.tr.length - 1))
def okSeq (n : Net) (m l : List Int) : Bool := zou n m && areTr n l
end Go.Proofs.YtkkifebmicbbaaaGreat.Pi
namespace Go.Proofs.YtkkifebmicbbaaaGreat.Pi
open Go
set_option linter.all false

/-! Tokens place by place. -/
theorem z4k {m : List Int} {p q x : Int} (hp : 0 ≤ p ∧ p.toNat < m.length) (hq : 0 ≤ q) : at_ (m.set p.toNat x) q = if q = p then x else at_ m q := by
  unfold at_
  rw [List.getD_eq_getElem?_getD, List.getD_eq_getElem?_getD, List.getElem?_set]
  by_cases h : q = p
  · subst h; simp [hp.2]
  · have : p.toNat ≠ q.toNat := by omega
    simp [h, this]
theorem z4b {a b : List Int} (hl : a.length = b.length) (h : ∀ p : Int, 0 ≤ p → p.toNat < a.length → at_ a p = at_ b p) : a = b := by
  apply List.ext_getElem hl
  intro i h1 h2
  have := h i (by omega) (by simpa using h1)
  rw [← at_eq (by simpa using h1), ← at_eq (by simpa using h2)] at this
  simpa using this
def zk2 (m l : List Int) : Prop := ∀ q ∈ l, 0 ≤ q ∧ q.toNat < m.length
theorem z4a {l : List Int} : ∀ {m : List Int} {p : Int}, zk2 m l → 0 ≤ p → at_ (decL m l) p = at_ m p - (l.count p : Nat) := by
  unfold decL
  induction l with
  | nil => intros; simp
  | cons q l ih =>
    intro m p hm hp
    rw [List.foldl_cons, ih (fun r hr => by simp [decS]; exact hm r (by simp [hr])) hp]
    unfold decS
    rw [z4k (hm q (by simp)) hp, List.count_cons]
    by_cases h : p = q
    · subst h; simp; omega
    · have : (q == p) = false := by simp; omega
      simp [h, this]
theorem z4g {l : List Int} : ∀ {m : List Int} {p : Int}, zk2 m l → 0 ≤ p → at_ (incL m l) p = at_ m p + (l.count p : Nat) := by
  unfold incL
  induction l with
  | nil => intros; simp
  | cons q l ih =>
    intro m p hm hp
    rw [List.foldl_cons, ih (fun r hr => by simp [incS]; exact hm r (by simp [hr])) hp]
    unfold incS
    rw [z4k (hm q (by simp)) hp, List.count_cons]
    by_cases h : p = q
    · subst h; simp; omega
    · have : (q == p) = false := by simp; omega
      simp [h, this]
theorem z4l {l : List Int} : ∀ {m : List Int} {p : Int}, zk2 m l → 0 ≤ p → at_ (zerL m l) p = if p ∈ l then 0 else at_ m p := by
  unfold zerL
  induction l with
  | nil => intros; simp
  | cons q l ih =>
    intro m p hm hp
    rw [List.foldl_cons, ih (fun r hr => by simp [zerS]; exact hm r (by simp [hr])) hp]
    unfold zerS
    rw [z4k (hm q (by simp)) hp]
    by_cases h : p = q
    · subst h; simp
    · simp [h]
theorem zjp {l : List Int} (h : incr l = true) (p : Int) : l.count p = if p ∈ l then 1 else 0 := by
  have h1 : l.Pairwise (· < ·) := by simpa [incr] using h
  clear h
  induction l with
  | nil => simp
  | cons q l ih =>
    rw [List.pairwise_cons] at h1
    rw [List.count_cons, ih h1.2]
    by_cases hq : p = q
    · subst hq
      have : p ∉ l := fun hp => by have := h1.1 p hp; omega
      simp [this]
    · have : (q == p) = false := by simp; omega
      simp [hq, this]
theorem zx5 {p : Int} {l : List Int} (h : zx2 p l = true) : incr l = true := by
  simp only [zx2, Bool.and_eq_true] at h; exact h.1
theorem zk3 {m m' l : List Int} (h : zk2 m l) (hl : m'.length = m.length) : zk2 m' l := fun q hq => by rw [hl]; exact h q hq
theorem z4d {t : Tr} {m : List Int} {p : Int} (h1 : zk2 m t.inn) (h2 : zk2 m t.out) (h3 : zk2 m t.rst) (hp : 0 ≤ p) :
    at_ (ze0 t m) p = (if p ∈ t.rst then 0 else at_ m p - (t.inn.count p : Nat)) + (t.out.count p : Nat) := by
  unfold ze0
  rw [z4g (zk3 h2 (by rw [z1av, zai])) hp, z4l (zk3 h3 (by rw [zai])) hp, z4a h1 hp]
theorem zgq {p : Int} {t : Tr} {m : List Int} (h : goodT p t = true) (hm : (m.length : Int) = p) : zk2 m t.inn ∧ zk2 m t.out ∧ zk2 m t.rst := zgs h hm
theorem z4e {p0 : Int} {t : Tr} {m : List Int} {p : Int} (h : goodT p0 t = true) (hm : (m.length : Int) = p0) (hp : 0 ≤ p) :
    at_ (ze0 t m) p = (if p ∈ t.rst then 0 else at_ m p - (if p ∈ t.inn then 1 else 0)) + (if p ∈ t.out then 1 else 0) := by
  obtain ⟨h1, h2, h3⟩ := zgq h hm
  obtain ⟨_, g1, g2, g3⟩ := zgv h
  rw [z4d h1 h2 h3 hp, zjp (zx5 g1), zjp (zx5 g2)]
  have e1 : (((if p ∈ t.inn then 1 else 0 : Nat)) : Int) = if p ∈ t.inn then 1 else 0 := by split <;> rfl
  have e2 : (((if p ∈ t.out then 1 else 0 : Nat)) : Int) = if p ∈ t.out then 1 else 0 := by split <;> rfl
  rw [e1, e2]

/-! Nets turned. -/
def turnT (t : Tr) : Tr := ⟨t.out, t.inn, t.rst⟩
def turnN (n : Net) : Net := ⟨n.pl, n.tr.map turnT⟩
theorem z19d (n : Net) : turnN (turnN n) = n := by
  cases n with
  | mk p l => simp only [turnN, List.map_map]; congr 1; induction l with
    | nil => rfl
    | cons t l ih => rw [List.map_cons, ih]; rfl
def zsy (n : Net) : Bool := goodN n && !hasR n && goodN (turnN n)
theorem zhe (n : Net) : hasR (turnN n) = hasR n := by
  simp only [hasR, turnN, List.any_map]; rfl
theorem z19c {n : Net} (h : smN n) : smN (turnN n) := ⟨by simpa [turnN] using h.1, fun t ht => by
  simp only [turnN, List.mem_map] at ht
  obtain ⟨u, hu, rfl⟩ := ht
  have := h.2 u hu
  exact ⟨this.2.1, this.1, this.2.2⟩⟩
theorem zsz {n : Net} (h : zsy n = true) : zsy (turnN n) = true := by
  simp only [zsy, z19d, zhe, Bool.and_eq_true] at h ⊢
  exact ⟨⟨h.2, h.1.2⟩, h.1.1⟩
theorem z18v {n : Net} {t : Int} (h : t.toNat < n.tr.length) : trAt (turnN n) t = turnT (trAt n t) := by
  rw [← z18t h, ← z18t (by simpa [turnN] using h)]
  simp [turnN]
theorem z7o {t : Tr} {m : List Int} (h : canT t m = true) {p : Int} (hp : p ∈ t.inn) : at_ m p ≠ 0 := by
  simp only [canT, List.all_eq_true] at h
  simpa using h p hp
theorem z7p {t : Tr} {m : List Int} (h : ∀ p ∈ t.inn, at_ m p ≠ 0) : canT t m = true := by
  simp only [canT, List.all_eq_true]
  intro p hp; simpa using h p hp
theorem zsk {n : Net} {m : List Int} {t : Int} (ho : zsy n = true) (hf : zse n m t = true) : zse (turnN n) (ze0 (trAt n t) m) t = true ∧ ze0 (trAt (turnN n) t) (ze0 (trAt n t) m) = m := by
  simp only [zsy, Bool.and_eq_true] at ho
  obtain ⟨⟨hg, hr⟩, hg2⟩ := ho
  obtain ⟨h1, h2⟩ := Bool.and_eq_true .. ▸ hf
  obtain ⟨h3, h4, h5, h6, h7, h8⟩ := z7n h1
  have hm := zge h4
  have hrs : (trAt n t).rst = [] := by rw [← z18t h6]; exact zhd (by simpa using hr) _
  have e := z18v h6
  have hg3 : goodT n.pl (turnT (trAt n t)) = true := by
    have := (zgm hg2).2.2.2 (trAt (turnN n) t) (by rw [← z18t (by simpa [turnN] using h6)]; exact List.getElem_mem _)
    rwa [e] at this
  have hback : ze0 (turnT (trAt n t)) (ze0 (trAt n t) m) = m := by
    refine z4b (by rw [ze2, ze2]) (fun p hp hl => ?_)
    rw [z4e hg3 (by rw [ze2]; exact hm.2.2.1) hp, z4e h8 hm.2.2.1 hp]
    simp only [turnT, hrs, List.not_mem_nil, if_false]
    omega
  have hmk : zou (turnN n) (ze0 (trAt n t) m) = true := by
    have := zsh hf
    simp only [zou, Bool.and_eq_true] at this ⊢
    exact ⟨hg2, this.2⟩
  refine ⟨?_, by rw [e]; exact hback⟩
  have hi : inB 0 ((turnN n).tr.length - 1) t = true := by simp [inB, turnN]; omega
  have hall : m.all (inB 0 50) = true := by
    simp only [goodM, Bool.and_eq_true] at h4; exact h4.2
  simp only [zse, canN, hmk, hi, e, hback, hall, Bool.true_and, Bool.and_true]
  refine z7p (fun p hp => ?_)
  have hpo : p ∈ (trAt n t).out := hp
  obtain ⟨i1, i2, i3⟩ := zgq h8 hm.2.2.1
  have hp0 := i2 p hpo
  rw [z4e h8 hm.2.2.1 hp0.1]
  have hb := z45 hm.2.2.2.2 hp0.2
  simp only [hrs, List.not_mem_nil, if_false, hpo, if_true]
  by_cases hin : p ∈ (trAt n t).inn
  · have := z7o h7 hin; simp only [hin, if_true]; omega
  · simp only [hin, if_false]; omega

/-! Transitions with a property. -/
def idxK (f : Tr → Bool) (n : Net) (k : Nat) : List Int := ((List.range k).filter fun i => f (n.tr.getD i ⟨[], [], []⟩)).map Int.ofNat
def idxL (f : Tr → Bool) (n : Net) : List Int := idxK f n n.tr.length
theorem zhq (f : Tr → Bool) (n : Net) (k : Nat) : (idxK f n k).length ≤ k := by
  have := List.length_filter_le (fun i => f (n.tr.getD i ⟨[], [], []⟩)) (List.range k)
  simp only [idxK, List.length_map]; simp at this ⊢; omega
theorem zhr {f : Tr → Bool} {n : Net} {k : Nat} (hk : k < n.tr.length) (h : f n.tr[k] = true) : idxK f n (k + 1) = idxK f n k ++ [(k : Int)] := by
  have e : n.tr[k]?.getD ⟨[], [], []⟩ = n.tr[k] := by rw [List.getElem?_eq_getElem hk]; rfl
  simp [idxK, List.range_succ, List.filter_append, e, h]
theorem zhp {f : Tr → Bool} {n : Net} {k : Nat} (hk : k < n.tr.length) (h : f n.tr[k] = false) : idxK f n (k + 1) = idxK f n k := by
  have e : n.tr[k]?.getD ⟨[], [], []⟩ = n.tr[k] := by rw [List.getElem?_eq_getElem hk]; rfl
  simp [idxK, List.range_succ, List.filter_append, e, h]
def hasB (l : List Int) (p : Int) : Bool := decide (p ∈ l)
theorem zh9 (l : List Int) (p : Int) : hasB l p = l.any (fun x => x == p) := by
  unfold hasB
  rw [Bool.eq_iff_iff, List.any_eq_true]
  simp only [decide_eq_true_eq, beq_iff_eq]
  exact ⟨fun h => ⟨p, h, rfl⟩, fun ⟨x, h, e⟩ => e ▸ h⟩
theorem zhb {l : List Int} {p : Int} (h : l.any (fun x => x == p) = false) : hasB l p = false := by rw [zh9, h]
theorem zhc {l : List Int} {p : Int} {k : Nat} (hk : k < l.length) (h : l[k] = p) : hasB l p = true := by
  subst h; simp [hasB]

/-! Free choice. -/
def meetB (a b : List Int) : Bool := a.any (hasB b)
theorem zp8 (a b : List Int) : meetB a b = meetB b a := by
  unfold meetB
  rw [Bool.eq_iff_iff, List.any_eq_true, List.any_eq_true]
  simp only [hasB, decide_eq_true_eq]
  exact ⟨fun ⟨x, h1, h2⟩ => ⟨x, h2, h1⟩, fun ⟨x, h1, h2⟩ => ⟨x, h2, h1⟩⟩
def badC (t u : Tr) : Bool := meetB t.inn u.inn && !decide (t.inn = u.inn)
theorem z4p (t u : Tr) : badC t u = badC u t := by
  unfold badC
  rw [zp8]
  congr 2
  rw [decide_eq_decide]
  exact ⟨Eq.symm, Eq.symm⟩
theorem z4q (t : Tr) : badC t t = false := by simp [badC]
def freeL (l : List Tr) : Bool := l.all fun a => l.all fun b => !badC a b
theorem zeu {l : List Tr} (h : ∀ i, (hi : i < l.length) → ∀ j, (hj : j < i) → badC l[i] (l[j]'(by omega)) = false) : freeL l = true := by
  unfold freeL
  simp only [List.all_eq_true]
  intro a ha b hb
  obtain ⟨i, hi, rfl⟩ := List.mem_iff_getElem.1 ha
  obtain ⟨j, hj, rfl⟩ := List.mem_iff_getElem.1 hb
  rcases Nat.lt_trichotomy i j with h1 | h1 | h1
  · rw [z4p, h j hj i h1]; rfl
  · subst h1; rw [z4q]; rfl
  · rw [h i hi j h1]; rfl
theorem zev {l : List Tr} {i j : Nat} (hi : i < l.length) (hj : j < l.length) (h : badC l[i] l[j] = true) : freeL l = false := by
  unfold freeL
  rw [List.all_eq_false]
  refine ⟨l[i], List.getElem_mem hi, ?_⟩
  rw [Bool.not_eq_true, List.all_eq_false]
  exact ⟨l[j], List.getElem_mem hj, by simp [h]⟩
end Go.Proofs.YtkkifebmicbbaaaGreat.Pi
namespace Go.Proofs.YtkkifebmicbbaaaGreat.Pi
open Go
set_option linter.all false

def one (b : Bool) : Int := if b then 1 else 0
def backX (t : Tr) (m : List Int) (i : Nat) : Int := max 0 (at_ m i - one (hasB t.out i)) + one (hasB t.inn i)
def backK (t : Tr) (m : List Int) (k : Nat) : List Int := (List.range k).map (backX t m)
def backM (t : Tr) (m : List Int) : List Int := backK t m m.length
def z17c (t : Tr) (m : List Int) (i : Nat) : Bool := hasB t.rst i && decide (0 < at_ m i - one (hasB t.out i))
def okB (t : Tr) (m : List Int) : Bool := (List.range m.length).all fun i => !z17c t m i
theorem z4m (t : Tr) (m : List Int) (k : Nat) : (backK t m k).length = k := by simp [backK]
theorem z4o (t : Tr) (m : List Int) : (backM t m).length = m.length := z4m ..
theorem z4n (t : Tr) (m : List Int) (k : Nat) : backK t m (k + 1) = backK t m k ++ [backX t m k] := by simp [backK, List.range_succ]
theorem zrp {t : Tr} {m : List Int} {k : Nat} (hk : k < m.length) (h : z17c t m k = true) : okB t m = false := by
  unfold okB
  rw [List.all_eq_false]
  exact ⟨k, by simpa using hk, by simp [h]⟩
theorem zrq {t : Tr} {m : List Int} (h : ∀ k, k < m.length → z17c t m k = false) : okB t m = true := by
  unfold okB
  rw [List.all_eq_true]
  intro k hk
  simp [h k (by simpa using hk)]
theorem zro {t : Tr} {m : List Int} (h : okB t m = true) {k : Nat} (hk : k < m.length) : z17c t m k = false := by
  unfold okB at h
  rw [List.all_eq_true] at h
  simpa using h k (by simpa using hk)
theorem z44 {t : Tr} {m : List Int} {p : Int} (hp : 0 ≤ p) (hl : p.toNat < m.length) : at_ (backM t m) p = max 0 (at_ m p - one (hasB t.out p)) + one (hasB t.inn p) := by
  rw [← at_eq (by simpa [z4o] using hl)]
  simp only [backM, backK, List.getElem_map, List.getElem_range, backX, Int.toNat_of_nonneg hp]
def zsr (n : Net) (t : Int) (m : List Int) : Bool := zou n m && inB 0 (n.tr.length - 1) t && okB (trAt n t) m && (backM (trAt n t) m).all (inB 0 50)
theorem zac {a b : List Int} (hl : a.length = b.length) : zaa a b = true ↔ ∀ p : Int, 0 ≤ p → p.toNat < a.length → at_ b p ≤ at_ a p := by
  unfold zaa
  rw [List.all_eq_true]
  constructor
  · intro h p hp hpl
    have h1 := h (a[p.toNat], b[p.toNat]'(by omega)) (by
      rw [List.mem_iff_getElem]
      exact ⟨p.toNat, by simp; omega, by simp⟩)
    simp only [decide_eq_true_eq] at h1
    rwa [at_eq, at_eq] at h1
  · intro h x hx
    obtain ⟨i, hi, rfl⟩ := List.mem_iff_getElem.1 hx
    simp only [List.length_zip] at hi
    have := h i (by omega) (by simp; omega)
    rw [← at_eq (by simp; omega), ← at_eq (by simp; omega)] at this
    simpa using this
theorem zha (l : List Int) (p : Int) : one (hasB l p) = if p ∈ l then 1 else 0 := by
  unfold hasB one
  by_cases h : p ∈ l <;> simp [h]
theorem zss {n : Net} {t : Int} {m : List Int} (h : zsr n t m = true) : goodN n = true ∧ goodM n.pl m = true ∧ 0 ≤ t ∧ t.toNat < n.tr.length ∧ goodT n.pl (trAt n t) = true ∧ okB (trAt n t) m = true ∧ (backM (trAt n t) m).all (inB 0 50) = true := by
  simp only [zsr, Bool.and_eq_true] at h
  obtain ⟨⟨⟨h1, h2⟩, h3⟩, h4⟩ := h
  obtain ⟨g1, g2⟩ := zov h1
  have h5 : 0 ≤ t ∧ t.toNat < n.tr.length := by simp [inB] at h2; omega
  have := (zgm g1).2.2.2 _ (List.getElem_mem h5.2)
  rw [z18t h5.2] at this
  exact ⟨g1, g2, h5.1, h5.2, this, h3, h4⟩
theorem z169 {n : Net} {t : Int} {m : List Int} (h : zsr n t m = true) : zaa (ze0 (trAt n t) (backM (trAt n t) m)) m = true := by
  obtain ⟨h1, h2, h3, h4, h5, h6, h7⟩ := zss h
  have hm := zge h2
  rw [zac (by rw [ze2, z4o])]
  intro p hp hl
  rw [ze2, z4o] at hl
  rw [z4e h5 (by rw [z4o]; exact hm.2.2.1) hp, z44 hp hl, zha, zha]
  have hs := zro h6 hl
  simp only [z17c, zha, Int.toNat_of_nonneg hp] at hs
  by_cases hr : p ∈ (trAt n t).rst
  · simp only [hasB, hr, decide_true, Bool.true_and, decide_eq_false_iff_not] at hs
    simp only [hr, if_true]; omega
  · simp only [hr, if_false]; omega
theorem z16a {n : Net} {t : Int} {m d : List Int} (hm : zou n m = true) (hf : zse n d t = true) (hc : zaa (ze0 (trAt n t) d) m = true) : zsr n t m = true ∧ zaa d (backM (trAt n t) m) = true := by
  obtain ⟨g1, g2⟩ := zov hm
  obtain ⟨h1, h2⟩ := Bool.and_eq_true .. ▸ hf
  obtain ⟨h3, h4, h5, h6, h7, h8⟩ := z7n h1
  have lm := zge g2
  have ld := zge h4
  rw [zac (by rw [ze2]; omega)] at hc
  have key : ∀ p : Int, 0 ≤ p → p.toNat < m.length → z17c (trAt n t) m p.toNat = false ∧ 0 ≤ at_ (backM (trAt n t) m) p ∧ at_ (backM (trAt n t) m) p ≤ at_ d p ∧ at_ d p ≤ 50 := by
    intro p hp hl
    have c := hc p hp (by rw [ze2]; omega)
    rw [z4e h8 ld.2.2.1 hp] at c
    have b := z45 (p := p) ld.2.2.2.2 (by omega)
    have e : p ∈ (trAt n t).inn → at_ d p ≠ 0 := fun hi => z7o h7 hi
    rw [z44 hp hl]
    simp only [z17c, zha, Int.toNat_of_nonneg hp]
    by_cases hr : p ∈ (trAt n t).rst
    · simp only [hr, if_true] at c
      simp only [hasB, hr, decide_true, Bool.true_and, decide_eq_false_iff_not]
      by_cases hi : p ∈ (trAt n t).inn
      · have := e hi; simp only [hi, if_true]; omega
      · simp only [hi, if_false]; omega
    · simp only [hr, if_false] at c
      simp only [hasB, hr, decide_false, Bool.false_and, true_and]
      by_cases hi : p ∈ (trAt n t).inn
      · have := e hi; simp only [hi, if_true] at c ⊢; omega
      · simp only [hi, if_false] at c ⊢; omega
  have hok : okB (trAt n t) m = true := zrq fun k hk => by
    have := (key k (by omega) (by simpa using hk)).1
    simpa using this
  have hb : (backM (trAt n t) m).all (inB 0 50) = true := by
    rw [List.all_eq_true]
    intro x hx
    obtain ⟨i, hi, rfl⟩ := List.mem_iff_getElem.1 hx
    have := key i (by omega) (by rw [z4o] at hi; simpa using hi)
    rw [← at_eq (by simpa using hi)] at this
    simp only [inB, Bool.and_eq_true, decide_eq_true_eq]
    simp only [Int.toNat_natCast] at this
    omega
  have hi : inB 0 (n.tr.length - 1) t = true := by simp [inB]; omega
  refine ⟨by simp only [zsr, hm, hi, hok, hb, Bool.and_self], ?_⟩
  rw [zac (by rw [z4o]; omega)]
  intro p hp hl
  exact (key p hp (by omega)).2.2.1
end Go.Proofs.YtkkifebmicbbaaaGreat.Pi
namespace Go.Proofs.YtkkifebmicbbaaaGreat.Pi
open Go
set_option linter.all false

theorem z1a {orc : Orc} {m : Nat} {st : St} {Q : Out → Prop} {keep : List Bool} {b : ICode} (Inv : Nat → St → Prop) (n : Nat) (h0 : Inv n (gc m ⟨clean keep st.fr, st.mem⟩))
    (step : ∀ k s, Inv k s → W orc m b s (fun o => match o with | .next s' => ∃ j, j < k ∧ Inv j (gc m ⟨clean keep s'.fr, s'.mem⟩) | o => Q o)) : W orc m (.loop keep b) st Q := by
  have key : ∀ (d k : Nat) (st : St), k < d → Inv k (gc m ⟨clean keep st.fr, st.mem⟩) → W orc m (.loop keep b) st Q := by
    intro d
    induction d with
    | zero => intro k st hk; omega
    | succ d ih =>
      intro k st hk hI
      obtain ⟨o, h1, h2⟩ := step k _ hI
      cases o with
      | next s' =>
        obtain ⟨j, hj, h5⟩ := h2
        obtain ⟨o', h3, h4⟩ := ih j s' (by omega) h5
        simp only [run] at h3
        exact ⟨o', by simp only [run]; rw [zke, h1]; exact h3, h4⟩
      | ret s' => exact ⟨_, by simp only [run]; rw [zke, h1], h2⟩
      | exit i s' => exact ⟨_, by simp only [run]; rw [zke, h1], h2⟩
  exact key (n + 1) n st (by omega) h0
theorem z33 {α : Type} {l : List α} {p : α → Bool} {k : Nat} (hk : k < l.length) (h : (l.take k).any p = true) : (l.take (k + 1)).any p = true := by
  rw [z18h hk, List.any_append, h]; rfl
theorem z31 {α : Type} {l : List α} {p : α → Bool} {k : Nat} (hk : k < l.length) (h : p l[k] = true) : (l.take (k + 1)).any p = true := by
  rw [z18h hk, List.any_append]; simp [h]
@[go_sem] theorem z14v {mem : List Blk} {sz sz' : Nat} {fl : Bool} {lo hi : Option PV} : z14u mem sz (.nil fl sz') lo hi = if sz' = sz then (bound 0 lo).bind fun l => (bound 0 hi).bind fun h => if l = 0 ∧ h = 0 then some (.nil fl sz) else none else none := rfl
attribute [go_sem] List.getElem?_nil
abbrev bls (l : List Bool) : PV := .sl true 1 (l.map PV.bool)

/-! What can be come to: zx2 and transitions are zou round by round. -/
structure Cl where
  pl : List Bool
  tr : List Bool
  ch : Bool
def hitB (P : List Bool) (l : List Int) : Bool := l.any fun p => P.getD p.toNat false
def markB (P : List Bool) (l : List Int) : List Bool := l.foldl (fun a p => a.set p.toNat true) P
theorem zon (P : List Bool) (l : List Int) : (markB P l).length = P.length := by
  unfold markB
  induction l generalizing P with
  | nil => rfl
  | cons p l ih => rw [List.foldl_cons, ih]; simp
theorem zoo {P : List Bool} {l : List Int} {k : Nat} (hk : k < l.length) : markB P (l.take (k + 1)) = (markB P (l.take k)).set (l[k].toNat) true := by
  unfold markB; rw [zek _ _ hk]
def sideI (bk : Bool) (t : Tr) : List Int := if bk then t.out else t.inn
def sideO (bk : Bool) (t : Tr) : List Int := if bk then t.inn else t.out
def trN (n : Net) (k : Nat) : Tr := n.tr.getD k ⟨[], [], []⟩
theorem z18z {n : Net} {k : Nat} (hk : k < n.tr.length) : trN n k = n.tr[k] := by
  unfold trN; rw [List.getD_eq_getElem?_getD, List.getElem?_eq_getElem hk]; rfl
def z8w (n : Net) (bk : Bool) (s : Cl) (k : Nat) : Cl := if s.tr.getD k false || !hitB s.pl (sideI bk (trN n k)) then s else ⟨markB s.pl (sideO bk (trN n k)), s.tr.set k true, true⟩
def clK (n : Net) (bk : Bool) (s : Cl) (k : Nat) : Cl := (List.range k).foldl (z8w n bk) ⟨s.pl, s.tr, false⟩
def z8r (n : Net) (bk : Bool) (s : Cl) : Cl := clK n bk s n.tr.length
def clRun (n : Net) (bk : Bool) : Nat → Cl → Cl
  | 0, s => s
  | f + 1, s => if (z8r n bk s).ch then clRun n bk f (z8r n bk s) else z8r n bk s
theorem z8q (n : Net) (bk : Bool) (s : Cl) (k : Nat) : clK n bk s (k + 1) = z8w n bk (clK n bk s k) k := by
  simp [clK, List.range_succ, List.foldl_append]
theorem z8z {n : Net} {bk : Bool} {s : Cl} {k : Nat} (h : s.tr.getD k false = true ∨ hitB s.pl (sideI bk (trN n k)) = false) : z8w n bk s k = s := by
  unfold z8w
  rcases h with h | h
  · rw [h]; rfl
  · rw [h]; simp
theorem z90 {n : Net} {bk : Bool} {s : Cl} {k : Nat} (h : s.tr.getD k false = false) (h2 : hitB s.pl (sideI bk (trN n k)) = true) : z8w n bk s k = ⟨markB s.pl (sideO bk (trN n k)), s.tr.set k true, true⟩ := by
  unfold z8w
  rw [h, h2]; rfl
theorem z8y (n : Net) (bk : Bool) (s : Cl) (k : Nat) : (z8w n bk s k).pl.length = s.pl.length ∧ (z8w n bk s k).tr.length = s.tr.length := by
  unfold z8w
  split
  · exact ⟨rfl, rfl⟩
  · exact ⟨zon .., by simp⟩
theorem z8p (n : Net) (bk : Bool) (s : Cl) (k : Nat) : (clK n bk s k).pl.length = s.pl.length ∧ (clK n bk s k).tr.length = s.tr.length := by
  induction k with
  | zero => exact ⟨rfl, rfl⟩
  | succ k ih =>
    rw [z8q]
    have := z8y n bk (clK n bk s k) k
    omega
theorem z8u (n : Net) (bk : Bool) (f : Nat) : ∀ (s : Cl), (clRun n bk f s).pl.length = s.pl.length ∧ (clRun n bk f s).tr.length = s.tr.length := by
  induction f with
  | zero => intro s; exact ⟨rfl, rfl⟩
  | succ f ih =>
    intro s
    have h := z8p n bk s n.tr.length
    have h2 := ih (z8r n bk s)
    unfold clRun
    unfold z8r at h2 ⊢
    split <;> omega
def cntF (l : List Bool) : Nat := l.countP (!·)
theorem z9k {l : List Bool} {k : Nat} (hk : k < l.length) (h : l.getD k false = false) : cntF (l.set k true) < cntF l := by
  induction l generalizing k with
  | nil => simp at hk
  | cons x l ih =>
    cases k with
    | zero => simp at h; subst h; simp [cntF]
    | succ k =>
      have := ih (k := k) (by simpa using hk) (by simpa using h)
      simp only [cntF, List.set_cons_succ, List.countP_cons] at this ⊢
      omega
theorem z8x {n : Net} {bk : Bool} {s : Cl} {k : Nat} (hk : k < s.tr.length) : cntF (z8w n bk s k).tr ≤ cntF s.tr ∧ ((z8w n bk s k).ch = true → s.ch = true ∨ cntF (z8w n bk s k).tr < cntF s.tr) := by
  unfold z8w
  split
  · exact ⟨Nat.le_refl _, fun h => .inl h⟩
  · rename_i h
    have h1 : s.tr.getD k false = false := by
      cases e : s.tr.getD k false
      · rfl
      · rw [e] at h; simp at h
    have := z9k hk h1
    exact ⟨by simp only; omega, fun _ => .inr this⟩
theorem z8o {n : Net} {bk : Bool} {s : Cl} {k : Nat} (hk : k ≤ s.tr.length) : cntF (clK n bk s k).tr ≤ cntF s.tr ∧ ((clK n bk s k).ch = true → cntF (clK n bk s k).tr < cntF s.tr) := by
  induction k with
  | zero => exact ⟨Nat.le_refl _, fun h => by simp [clK] at h⟩
  | succ k ih =>
    have h1 := ih (by omega)
    rw [z8q]
    have h2 := z8x (n := n) (bk := bk) (s := clK n bk s k) (k := k) (by rw [(z8p ..).2]; omega)
    refine ⟨by omega, fun h => ?_⟩
    rcases h2.2 h with h3 | h3
    · have := h1.2 h3; omega
    · omega
theorem z9i (l : List Bool) : cntF l ≤ l.length := List.countP_le_length
theorem z8s {n : Net} {bk : Bool} : ∀ {f : Nat} {s : Cl}, s.tr.length = n.tr.length → cntF s.tr < f → clRun n bk f s = clRun n bk (f + 1) s
  | 0, _, _, h => by omega
  | f + 1, s, hl, h => by
    show (if (z8r n bk s).ch then clRun n bk f (z8r n bk s) else z8r n bk s) = (if (z8r n bk s).ch then clRun n bk (f + 1) (z8r n bk s) else z8r n bk s)
    cases e : (z8r n bk s).ch with
    | false => rfl
    | true =>
      simp only [if_true]
      have h1 := (z8o (n := n) (bk := bk) (s := s) (k := n.tr.length) (by omega)).2 e
      exact z8s (by rw [z8r, (z8p ..).2, hl]) (by unfold z8r; omega)
theorem z8t {n : Net} {bk : Bool} {s : Cl} (hl : s.tr.length = n.tr.length) : ∀ {d f : Nat}, cntF s.tr < f → clRun n bk f s = clRun n bk (f + d) s
  | 0, _, _ => rfl
  | d + 1, f, h => by rw [z8t (d := d) hl h, z8s hl (by omega)]; rfl
theorem z8v {n : Net} {bk : Bool} {s : Cl} (hl : s.tr.length = n.tr.length) : clRun n bk (cntF s.tr + 1) s = if (z8r n bk s).ch then clRun n bk (cntF (z8r n bk s).tr + 1) (z8r n bk s) else z8r n bk s := by
  show (if (z8r n bk s).ch then clRun n bk (cntF s.tr) (z8r n bk s) else z8r n bk s) = _
  cases e : (z8r n bk s).ch with
  | false => rfl
  | true =>
    simp only [if_true]
    have h1 := (z8o (n := n) (bk := bk) (s := s) (k := n.tr.length) (by omega)).2 e
    have h2 : (z8r n bk s).tr.length = n.tr.length := by rw [z8r, (z8p ..).2, hl]
    have h3 := z8t (n := n) (bk := bk) h2 (d := cntF s.tr - (cntF (z8r n bk s).tr + 1)) (f := cntF (z8r n bk s).tr + 1) (by omega)
    rw [h3]
    congr 1
    unfold z8r; omega
theorem z9j (k : Nat) : cntF (List.replicate k false) = k := by
  unfold cntF; rw [List.countP_replicate]; simp
def zyv (n : Net) (bk : Bool) (p : Int) : Cl := clRun n bk (n.tr.length + 1) ⟨(List.replicate n.pl.toNat false).set p.toNat true, List.replicate n.tr.length false, true⟩
theorem zyx (n : Net) (bk : Bool) (p : Int) : (zyv n bk p).pl.length = n.pl.toNat ∧ (zyv n bk p).tr.length = n.tr.length := by
  have := z8u n bk (n.tr.length + 1) ⟨(List.replicate n.pl.toNat false).set p.toNat true, List.replicate n.tr.length false, true⟩
  simpa [zyv] using this
theorem zyw (n : Net) (bk : Bool) (p : Int) : zyv n bk p = clRun n bk (cntF (List.replicate n.tr.length false) + 1) ⟨(List.replicate n.pl.toNat false).set p.toNat true, List.replicate n.tr.length false, true⟩ := by
  rw [z9j]; rfl
theorem zfv {l : List Bool} {k : Nat} (hk : k < l.length) : l[k] = l.getD k false := by
  rw [List.getD_eq_getElem?_getD, List.getElem?_eq_getElem hk]; rfl
def bothK (a b : List Bool) (k : Nat) : List Int := ((List.range k).filter fun i => a.getD i false && b.getD i false).map Int.ofNat
def bothL (a b : List Bool) : List Int := bothK a b a.length
theorem z6j (a b : List Bool) (k : Nat) : (bothK a b k).length ≤ k := by
  have := List.length_filter_le (fun i => a.getD i false && b.getD i false) (List.range k)
  simp only [bothK, List.length_map]; simp at this ⊢; omega
theorem z6k {a b : List Bool} {k : Nat} (h : a.getD k false = true) (h2 : b.getD k false = true) : bothK a b (k + 1) = bothK a b k ++ [(k : Int)] := by
  simp only [bothK, List.range_succ, List.filter_append, List.filter_cons, h, h2, Bool.and_self, if_true, List.filter_nil, List.map_append]; rfl
theorem z6i {a b : List Bool} {k : Nat} (h : (a.getD k false && b.getD k false) = false) : bothK a b (k + 1) = bothK a b k := by
  simp only [bothK, List.range_succ, List.filter_append, List.filter_cons, h, Bool.false_eq_true, if_false, List.filter_nil, List.append_nil]
def wayP (n : Net) (a b : Int) : List Int := bothL (zyv n false a).pl (zyv n true b).pl
def wayT (n : Net) (a b : Int) : List Int := bothL (zyv n false a).tr (zyv n true b).tr
def okWay (n : Net) (a b : Int) : Bool := goodN n && inB 0 (n.pl - 1) a && inB 0 (n.pl - 1) b

/-! Flows. -/
structure Fl where
  net : Net
  src : Int
  dst : Int
abbrev encF (f : Fl) : PV := .agg [I f.net.pl, trs f.net.tr, I f.src, I f.dst]
def z15y (f : Fl) (t : Tr) : Bool := hasB t.out f.src || hasB t.inn f.dst || hasB t.rst f.src || hasB t.rst f.dst
def zg7 (f : Fl) : Bool := okWay f.net f.src f.dst && !decide (f.src = f.dst) && f.net.tr.all (fun t => !z15y f t) && decide (((wayP f.net f.src f.dst).length : Int) = f.net.pl) && decide ((wayT f.net f.src f.dst).length = f.net.tr.length)
theorem zga {f : Fl} (h : zg7 f = true) : goodN f.net = true ∧ (0 ≤ f.src ∧ f.src < f.net.pl) ∧ (0 ≤ f.dst ∧ f.dst < f.net.pl) ∧ f.src ≠ f.dst ∧ (∀ t ∈ f.net.tr, z15y f t = false) ∧ ((wayP f.net f.src f.dst).length : Int) = f.net.pl ∧ (wayT f.net f.src f.dst).length = f.net.tr.length := by
  simp only [zg7, okWay, inB, Bool.and_eq_true, decide_eq_true_eq, Bool.not_eq_true', decide_eq_false_iff_not, List.all_eq_true] at h
  obtain ⟨⟨⟨⟨⟨⟨h1, h2⟩, h3⟩, h4⟩, h5⟩, h6⟩, h7⟩ := h
  exact ⟨h1, by omega, by omega, h4, h5, h6, h7⟩
/-! Drawn flows: how much grows. -/
def growT : Nat → Nat
  | 0 => 1
  | d + 1 => 2 + 2 * growT d
def growC : Nat → Nat
  | 0 => 0
  | d + 1 => 2 + 2 * growC d
theorem zh1 (d : Nat) : d < growT d := by
  induction d with
  | zero => decide
  | succ d ih => have : growT (d + 1) = 2 + 2 * growT d := rfl; omega
theorem zh2 {d : Nat} (h : d ≤ 3) : growT d ≤ 22 ∧ growC d ≤ 14 := by
  rcases d with _ | _ | _ | _ | d <;> first | omega | decide
def smq (q : Nat) (tr : List Tr) : Prop := ∀ t ∈ tr, t.inn.length ≤ q ∧ t.out.length ≤ q ∧ t.rst.length ≤ q
theorem z15q {q q' : Nat} {tr : List Tr} (hq : q ≤ q') (h : smq q tr) : smq q' tr := fun t ht => by have := h t ht; omega
theorem z15t {q : Nat} {tr : List Tr} {t : Tr} (h : smq q tr) (ht : t.inn.length ≤ q ∧ t.out.length ≤ q ∧ t.rst.length ≤ q) : smq q (tr ++ [t]) := by
  intro u hu
  rcases List.mem_append.1 hu with hu | hu
  · exact h u hu
  · simp only [List.mem_singleton] at hu; subst hu; exact ht
theorem z15s {q : Nat} {tr : List Tr} {t : Tr} {k : Nat} (h : smq q tr) (ht : t.inn.length ≤ q ∧ t.out.length ≤ q ∧ t.rst.length ≤ q) : smq q (tr.set k t) := by
  intro u hu
  rcases List.mem_or_eq_of_mem_set hu with hu | rfl
  · exact h u hu
  · exact ht
theorem z15r {q : Nat} : smq q [] := fun t ht => by simp at ht
def oneM (n : Nat) (p : Int) : List Int := (List.replicate n 0).set p.toNat 1
def z14b (f : Fl) : Net := ⟨f.net.pl, f.net.tr ++ [⟨[f.dst], [f.src], []⟩]⟩
def smFl (f : Fl) : Prop := smN f.net
theorem zt1 {n : Net} {p : Int} (hg : goodN n = true) (hp : 0 ≤ p ∧ p < n.pl) : goodM n.pl (oneM n.pl.toNat p) = true := by
  have := zgm hg
  have h1 : inB 1 16 n.pl = true := by simp [inB]; omega
  have h2 : (((oneM n.pl.toNat p).length : Int) == n.pl) = true := by simp only [oneM, List.length_set, List.length_replicate, beq_iff_eq]; omega
  have h3 : (oneM n.pl.toNat p).all (inB 0 50) = true := by
    rw [List.all_eq_true]
    intro x hx
    rcases zpc hx with hx | hx
    · have := (List.mem_replicate.1 hx).2; subst this; rfl
    · subst hx; rfl
  simp [goodM, h1, h2, h3]
theorem z4i {n : Nat} {p q : Int} (hp : 0 ≤ p ∧ p.toNat < n) (hq : 0 ≤ q) : at_ (oneM n p) q = if q = p then 1 else 0 := by
  unfold oneM
  rw [z4k (by simpa using hp) hq]
  split
  · rfl
  · unfold at_
    rw [List.getD_eq_getElem?_getD, List.getElem?_replicate]
    split <;> rfl
theorem z14f {f : Fl} (h : zg7 f = true) (hs : goodN (z14b f) = true) : zse (z14b f) (oneM f.net.pl.toNat f.dst) f.net.tr.length = true ∧ ze0 (trAt (z14b f) f.net.tr.length) (oneM f.net.pl.toNat f.dst) = oneM f.net.pl.toNat f.src := by
  obtain ⟨g1, g2, g3, g4, _⟩ := zga h
  have e : trAt (z14b f) f.net.tr.length = ⟨[f.dst], [f.src], []⟩ := by
    rw [← z18t (by simp [z14b])]
    simp [z14b]
  have hT : goodT f.net.pl (trAt (z14b f) f.net.tr.length) = true := by
    have := (zgm hs).2.2.2 (trAt (z14b f) f.net.tr.length) (by rw [← z18t (by simp [z14b])]; exact List.getElem_mem _)
    exact this
  have hM := zt1 g1 g3
  have hl : ((oneM f.net.pl.toNat f.dst).length : Int) = f.net.pl := (zge hM).2.2.1
  have hk : ze0 (trAt (z14b f) f.net.tr.length) (oneM f.net.pl.toNat f.dst) = oneM f.net.pl.toNat f.src := by
    refine z4b (by rw [ze2]; simp [oneM]) (fun p hp hlp => ?_)
    rw [z4e hT hl hp, z4i (by omega) hp, z4i (by omega) hp, e]
    simp only [List.mem_singleton, List.not_mem_nil, if_false]
    by_cases h1 : p = f.dst
    · subst h1
      simp only [if_true]
      split <;> omega
    · simp only [h1, if_false]; split <;> omega
  refine ⟨?_, hk⟩
  have h1 : inB 0 ((z14b f).tr.length - 1) f.net.tr.length = true := by simp [inB, z14b]
  have h2 : zou (z14b f) (oneM f.net.pl.toNat f.dst) = true := by
    simp only [zou, hs, Bool.true_and]; exact hM
  have h3 : (oneM f.net.pl.toNat f.src).all (inB 0 50) = true := by
    have := zt1 g1 g2
    simp only [goodM, Bool.and_eq_true] at this; exact this.2
  have h4 : canT (trAt (z14b f) f.net.tr.length) (oneM f.net.pl.toNat f.dst) = true := by
    refine z7p (fun p hp => ?_)
    rw [e] at hp
    simp only [List.mem_singleton] at hp
    subst hp
    rw [z4i (by omega) (by omega)]
    simp
  simp only [zse, canN, h1, h2, h4, hk, h3, Bool.and_self]
end Go.Proofs.YtkkifebmicbbaaaGreat.Pi
namespace Go.Proofs.YtkkifebmicbbaaaGreat.Pi
open Go
set_option linter.all false

@[go_sem] theorem z5s {bl : Bool} {k : IntKind} {x y : Int} : binV bl .andNot (.int k x) (.int k y) = some (.int k (bits .andNot k x y)) := by simp [binV, binI]

def maskN (l : List Int) : Nat := l.foldl (fun a p => a ||| 2 ^ p.toNat) 0
theorem zp1 {l : List Int} {k : Nat} (hk : k < l.length) : maskN (l.take (k + 1)) = maskN (l.take k) ||| 2 ^ l[k].toNat := by
  unfold maskN; rw [zek _ _ hk]
theorem zow {l : List Int} (h : ∀ p ∈ l, 0 ≤ p) (i : Nat) : ∀ a : Nat, (l.foldl (fun a p => a ||| 2 ^ p.toNat) a).testBit i = (a.testBit i || hasB l i) := by
  induction l with
  | nil => intro a; simp [hasB]
  | cons p l ih =>
    intro a
    rw [List.foldl_cons, ih (fun q hq => h q (by simp [hq])), Nat.testBit_or, Nat.testBit_two_pow]
    have hp := h p (by simp)
    have e : decide (p.toNat = i) = decide ((i : Int) = p) := by rw [decide_eq_decide]; omega
    rw [e]
    simp only [hasB, List.mem_cons]
    by_cases h1 : (i : Int) = p <;> simp [h1]
theorem zox {l : List Int} (h : ∀ p ∈ l, 0 ≤ p) (i : Nat) : (maskN l).testBit i = hasB l i := by
  unfold maskN; rw [zow h]; simp
theorem zoz {l : List Int} {q : Nat} (h : ∀ p ∈ l, 0 ≤ p ∧ p < q) : maskN l < 2 ^ q := by
  apply Nat.lt_pow_two_of_testBit
  intro i hi
  rw [zox (fun p hp => (h p hp).1)]
  unfold hasB
  rw [decide_eq_false_iff_not]
  intro hm
  have := (h _ hm).2; omega
theorem zjq : ∀ {a b : List Int}, a.Pairwise (· < ·) → b.Pairwise (· < ·) → (∀ x, x ∈ a ↔ x ∈ b) → a = b
  | [], [], _, _, _ => rfl
  | [], y :: b, _, _, h => by have := (h y).2 (by simp); simp at this
  | x :: a, [], _, _, h => by have := (h x).1 (by simp); simp at this
  | x :: a, y :: b, ha, hb, h => by
    rw [List.pairwise_cons] at ha hb
    have hxy : x = y := by
      have h1 := (h x).1 (by simp)
      have h2 := (h y).2 (by simp)
      rcases List.mem_cons.1 h1 with h1 | h1
      · exact h1
      · rcases List.mem_cons.1 h2 with h2 | h2
        · exact h2.symm
        · have := hb.1 x h1; have := ha.1 y h2; omega
    subst hxy
    congr 1
    refine zjq ha.2 hb.2 (fun z => ?_)
    constructor
    · intro hz
      rcases List.mem_cons.1 ((h z).1 (by simp [hz])) with h1 | h1
      · have := ha.1 z hz; omega
      · exact h1
    · intro hz
      rcases List.mem_cons.1 ((h z).2 (by simp [hz])) with h1 | h1
      · have := hb.1 z hz; omega
      · exact h1
theorem zoy {a b : List Int} (ha : incr a = true) (hb : incr b = true) (ha0 : ∀ p ∈ a, 0 ≤ p) (hb0 : ∀ p ∈ b, 0 ≤ p) (h : maskN a = maskN b) : a = b := by
  refine zjq (by simpa [incr] using ha) (by simpa [incr] using hb) (fun x => ?_)
  have key : ∀ i : Nat, hasB a i = hasB b i := fun i => by rw [← zox ha0, ← zox hb0, h]
  constructor
  · intro hx
    have := key x.toNat
    rw [show ((x.toNat : Nat) : Int) = x by have := ha0 x hx; omega] at this
    have h2 : hasB a x = true := by simp [hasB, hx]
    rw [h2] at this
    simpa [hasB] using this.symm
  · intro hx
    have := key x.toNat
    rw [show ((x.toNat : Nat) : Int) = x by have := hb0 x hx; omega] at this
    have h2 : hasB b x = true := by simp [hasB, hx]
    rw [h2] at this
    simpa [hasB] using this
theorem zp2 {a b : List Int} (ha : ∀ p ∈ a, 0 ≤ p) (hb : ∀ p ∈ b, 0 ≤ p) : meetB a b = decide ((maskN a &&& maskN b) ≠ 0) := by
  rw [Bool.eq_iff_iff]
  simp only [decide_eq_true_eq, meetB, List.any_eq_true]
  constructor
  · rintro ⟨x, hx, hy⟩ h0
    have h1 : (maskN a &&& maskN b).testBit x.toNat = true := by
      rw [Nat.testBit_and, zox ha, zox hb, show ((x.toNat : Nat) : Int) = x by have := ha x hx; omega, hy]
      simp [hasB, hx]
    rw [h0] at h1; simp at h1
  · intro h0
    obtain ⟨i, hi⟩ := Nat.exists_testBit_of_ne_zero h0
    rw [Nat.testBit_and, zox ha, zox hb, Bool.and_eq_true] at hi
    exact ⟨i, by simpa [hasB] using hi.1, hi.2⟩
theorem z1an (n : Int) (h0 : 0 ≤ n) (h1 : n < 2 ^ 62) : IntKind.i64.wrap n = n := by rw [IntKind.wrap_i64]; omega
theorem z2x {a b : Nat} (ha : a < 2 ^ 62) (hb : b < 2 ^ 62) : bits .and .i64 (a : Int) (b : Int) = ((a &&& b : Nat) : Int) := (bits_nat .i64 62 (by decide) z1an a b ha hb).1
theorem zvo {a b : Nat} (ha : a < 2 ^ 62) (hb : b < 2 ^ 62) : bits .or .i64 (a : Int) (b : Int) = ((a ||| b : Nat) : Int) := (bits_nat .i64 62 (by decide) z1an a b ha hb).2
theorem z2v {a b : Nat} (ha : a < 2 ^ 62) (hb : b < 2 ^ 62) : bits .andNot .i64 (a : Int) (b : Int) = ((a &&& (2 ^ 64 - (b + 1)) : Nat) : Int) := by
  have hx : a &&& (2 ^ 64 - (b + 1)) ≤ a := Nat.and_le_left
  show IntKind.i64.wrap ((BitVec.ofInt 64 (a : Int) &&& ~~~BitVec.ofInt 64 (b : Int)).toNat : Int) = _
  rw [BitVec.toNat_and, BitVec.toNat_not, BitVec.ofInt_natCast, BitVec.ofInt_natCast, BitVec.toNat_ofNat, BitVec.toNat_ofNat, Nat.mod_eq_of_lt (by omega : a < 2 ^ 64), Nat.mod_eq_of_lt (by omega : b < 2 ^ 64), show 2 ^ 64 - 1 - b = 2 ^ 64 - (b + 1) by omega]
  exact z1an _ (by omega) (by omega)
def wout (set l : List Int) : List Int := set.filter fun p => !hasB l p
theorem z1al {set l : List Int} : ∀ p ∈ wout set l, p ∈ set := fun p hp => (List.mem_filter.1 hp).1
theorem z1ai {set l : List Int} (h : incr set = true) : incr (wout set l) = true := by
  simp only [incr, decide_eq_true_eq] at h ⊢
  exact h.filter _
theorem z1ak {set l : List Int} (hs : ∀ p ∈ set, 0 ≤ p ∧ p < 62) (hl : ∀ p ∈ l, 0 ≤ p ∧ p < 62) : maskN set &&& (2 ^ 64 - (maskN l + 1)) = maskN (wout set l) := by
  apply Nat.eq_of_testBit_eq
  intro i
  have hlt : maskN l < 2 ^ 64 := Nat.lt_of_lt_of_le (zoz (q := 62) hl) (by decide)
  rw [Nat.testBit_and, Nat.testBit_two_pow_sub_succ hlt, zox (fun p hp => (hs p hp).1), zox (fun p hp => (hl p hp).1), zox (fun p hp => (hs p (z1al p hp)).1)]
  simp only [hasB, wout, List.mem_filter]
  by_cases h1 : (i : Int) ∈ set
  · have := (hs _ h1).2
    have h2 : i < 64 := by omega
    by_cases h3 : (i : Int) ∈ l <;> simp [h1, h2, h3]
  · simp [h1]
theorem z1aj {set l : List Int} (h : meetB l set = true) : (wout set l).length < set.length := by
  have h1 : (wout set l).length ≤ set.length := List.length_filter_le _ _
  rcases Nat.lt_or_ge (wout set l).length set.length with h2 | h2
  · exact h2
  · exfalso
    have h3 := List.length_filter_eq_length_iff.1 (show (set.filter fun p => !hasB l p).length = set.length from Nat.le_antisymm h1 h2)
    simp only [meetB, List.any_eq_true] at h
    obtain ⟨x, hx, hy⟩ := h
    have h4 := h3 x (by simpa [hasB] using hy)
    simp [hasB, hx] at h4
def below (l : List Int) (k : Nat) : List Int := l.filter fun p => decide (p < k)
theorem z59 {l : List Int} (h : ∀ p ∈ l, 0 ≤ p) : below l 0 = [] := by
  unfold below
  rw [List.filter_eq_nil_iff]
  intro p hp
  have := h p hp
  simp; omega
theorem z58 : ∀ {l : List Int} {k : Nat}, l.Pairwise (· < ·) → below l (k + 1) = below l k ++ (if (k : Int) ∈ l then [(k : Int)] else [])
  | [], k, _ => by simp [below]
  | x :: l, k, h => by
    rw [List.pairwise_cons] at h
    have ih := z58 (l := l) (k := k) h.2
    unfold below at ih ⊢
    rcases Int.lt_trichotomy x k with h1 | h1 | h1
    · have a1 : decide (x < ((k + 1 : Nat) : Int)) = true := by simp; omega
      have a2 : decide (x < (k : Int)) = true := by simp; omega
      have a3 : (k : Int) ∈ x :: l ↔ (k : Int) ∈ l := by simp; omega
      simp only [List.filter_cons, a1, a2, if_true, ih, a3, List.cons_append]
    · have a1 : decide (x < ((k + 1 : Nat) : Int)) = true := by simp; omega
      have a2 : decide (x < (k : Int)) = false := by simp; omega
      have a4 : l.filter (fun p => decide (p < (k : Int))) = [] := by
        rw [List.filter_eq_nil_iff]; intro p hp; have := h.1 p hp; simp; omega
      have a5 : (k : Int) ∉ l := fun hk => by have := h.1 _ hk; omega
      simp only [List.filter_cons, a1, a2, if_true, ih, Bool.false_eq_true, if_false, a4, a5]
      simp [h1]
    · have a1 : decide (x < ((k + 1 : Nat) : Int)) = false := by simp; omega
      have a2 : decide (x < (k : Int)) = false := by simp; omega
      have a3 : (k : Int) ∈ x :: l ↔ (k : Int) ∈ l := by simp; omega
      simp only [List.filter_cons, a1, a2, Bool.false_eq_true, if_false, ih, a3]
theorem z56 {l : List Int} {k : Nat} (h : ∀ p ∈ l, p < k) : below l k = l := by
  unfold below
  rw [List.filter_eq_self]
  intro p hp
  have := h p hp
  simp; omega
theorem z57 (l : List Int) (k : Nat) : (below l k).length ≤ l.length := List.length_filter_le _ _
theorem zp4 {l : List Int} (h : ∀ p ∈ l, 0 ≤ p) (k : Nat) (h0 : maskN l / 2 ^ k = 0) : ∀ p ∈ l, p < k := by
  intro p hp
  have h1 : maskN l < 2 ^ k := Nat.lt_of_div_eq_zero (Nat.two_pow_pos k) h0
  rcases Int.lt_or_le p k with h2 | h2
  · exact h2
  · exfalso
    have h3 := zox h p.toNat
    rw [show ((p.toNat : Nat) : Int) = p by have := h p hp; omega, Nat.testBit_lt_two_pow (Nat.lt_of_lt_of_le h1 (Nat.pow_le_pow_right (by decide) (by omega)))] at h3
    simp [hasB, hp] at h3
theorem zp3 {l : List Int} (h : ∀ p ∈ l, 0 ≤ p) (k : Nat) : hasB l k = decide (maskN l / 2 ^ k % 2 = 1) := by
  rw [← zox h, Nat.testBit_eq_decide_div_mod_eq]
end Go.Proofs.YtkkifebmicbbaaaGreat.Pi
namespace Go.Proofs.YtkkifebmicbbaaaGreat.Pi
open Go
set_option linter.all false

structure Tk where
  join : Int
  split : Int
  inn : List Int
  out : List Int
  cut : List Int
  stop : List Int
  role : Int
  deriving DecidableEq
structure Spc where
  conds : Int
  tasks : List Tk
  deriving DecidableEq
abbrev encK (t : Tk) : PV := .agg [I t.join, I t.split, ints t.inn, ints t.out, ints t.cut, ints t.stop, I t.role]
abbrev tks (l : List Tk) : PV := .sl false 7 (l.map encK)
abbrev encS (s : Spc) : PV := .agg [I s.conds, tks s.tasks]
def smTk (t : Tk) : Prop := t.inn.length < 2^40 ∧ t.out.length < 2^40 ∧ t.cut.length < 2^40 ∧ t.stop.length < 2^40
def smSpc (s : Spc) : Prop := s.tasks.length < 2^40 ∧ ∀ t ∈ s.tasks, smTk t

theorem share {orc : Orc} {m : Nat} {G : Prop} (S0 : St) (k : List Bool) (b : ICode) (Q : Out → Prop) (h : (∀ st0 : St, gc m ⟨clean k st0.fr, st0.mem⟩ = S0 → W orc m (.loop k b) st0 Q) → G)
    (h2 : ∀ st0 : St, gc m ⟨clean k st0.fr, st0.mem⟩ = S0 → W orc m (.loop k b) st0 Q) : G := h h2

/-! ### Sizes -/
def szL : List Nat → Int → Int
  | [], l => l
  | n :: ns, l => if l - n < 0 then -1 else szL ns (l - n)
theorem z184 : ∀ (ns : List Nat) (l : Int), -1 ≤ l → -1 ≤ szL ns l ∧ szL ns l ≤ l
  | [], l, h => ⟨h, Int.le_refl _⟩
  | n :: ns, l, h => by
    unfold szL
    split
    · omega
    · have := z184 ns (l - n) (by omega); omega
theorem z183 : ∀ (a b : List Nat) (l : Int), 0 ≤ l → szL (a ++ b) l = if szL a l < 0 then -1 else szL b (szL a l)
  | [], b, l, h => by simp [szL, show ¬ l < 0 by omega]
  | n :: a, b, l, h => by
    simp only [List.cons_append, szL]
    split
    · simp
    · exact z183 a b (l - n) (by omega)
theorem z182 : ∀ (ns : List Nat) (l : Int), 0 ≤ szL ns l → ∀ n ∈ ns, (n : Int) ≤ l
  | [], _, _, n, hn => by cases hn
  | m :: ns, l, h, n, hn => by
    unfold szL at h
    split at h
    · omega
    · rcases List.mem_cons.1 hn with rfl | hn
      · omega
      · have := z182 ns (l - m) h n hn; omega
def lensK (t : Tk) : List Nat := [t.inn.length, t.out.length, t.cut.length, t.stop.length]
def szK (t : Tk) (l : Int) : Int := szL (lensK t) l
def szKs (ts : List Tk) (l : Int) : Int := szL (ts.flatMap lensK) l
theorem z181 {ts : List Tk} {k : Nat} (hk : k < ts.length) {l : Int} (h : 0 ≤ l) : szKs (ts.take (k + 1)) l = if szKs (ts.take k) l < 0 then -1 else szK ts[k] (szKs (ts.take k) l) := by
  unfold szKs szK
  rw [List.take_succ_eq_append_getElem hk, List.flatMap_append, z183 _ _ _ h]
  simp
theorem z180 {ts : List Tk} {k : Nat} {l : Int} (h : 0 ≤ l) (hn : szKs (ts.take k) l < 0) : szKs ts l = -1 := by
  unfold szKs at hn ⊢
  conv => lhs; rw [← List.take_append_drop k ts]
  rw [List.flatMap_append, z183 _ _ _ h, if_pos hn]
def szS (s : Spc) (l : Int) : Int := szL (s.tasks.length :: s.tasks.flatMap lensK) l
theorem z188 (s : Spc) (l : Int) : szS s l = if l - s.tasks.length < 0 then -1 else szKs s.tasks (l - s.tasks.length) := rfl
theorem z18a {s : Spc} {l : Int} (h : 0 ≤ szS s l) (hl : l ≤ 1048576) : s.tasks.length ≤ 1048576 ∧ ∀ t ∈ s.tasks, t.inn.length ≤ 1048576 ∧ t.out.length ≤ 1048576 ∧ t.cut.length ≤ 1048576 ∧ t.stop.length ≤ 1048576 := by
  have := z182 _ _ h
  refine ⟨by have := this s.tasks.length (by simp); omega, fun t ht => ?_⟩
  have h4 : ∀ n ∈ lensK t, (n : Int) ≤ l := fun n hn => this n (List.mem_cons_of_mem _ (List.mem_flatMap.2 ⟨t, ht, hn⟩))
  have a1 := h4 t.inn.length (by simp [lensK])
  have a2 := h4 t.out.length (by simp [lensK])
  have a3 := h4 t.cut.length (by simp [lensK])
  have a4 := h4 t.stop.length (by simp [lensK])
  omega
theorem z189 {s : Spc} {l : Int} (h : 0 ≤ szS s l) (hl : l ≤ 1048576) : smSpc s := by
  obtain ⟨h1, h2⟩ := z18a h hl
  refine ⟨by omega, fun t ht => ?_⟩
  obtain ⟨a, b, c, d⟩ := h2 t ht
  exact ⟨by omega, by omega, by omega, by omega⟩

/-! ### Copies, in part done -/
def padI (l : List Int) (k : Nat) : List Int := l.take k ++ List.replicate (l.length - k) 0
theorem zw4 {l : List Int} {k : Nat} (h : k ≤ l.length) : (padI l k).length = l.length := by simp [padI]; omega
theorem zw6 (l : List Int) : padI l 0 = List.replicate l.length 0 := by simp [padI]
theorem zw3 (l : List Int) : padI l l.length = l := by simp [padI]
theorem z13z {α : Type} {l : List α} {z x : α} {k n : Nat} (hk : k < n) (hl : l.length = k) : (l ++ List.replicate (n - k) z).set k x = l ++ [x] ++ List.replicate (n - (k + 1)) z := by
  obtain ⟨d, hd⟩ : ∃ d, n - k = d + 1 := ⟨n - k - 1, by omega⟩
  rw [hd, show n - (k + 1) = d by omega, List.replicate_succ]
  simp [List.set_append, hl]
theorem zw5 {l : List Int} {k : Nat} (hk : k < l.length) : (padI l k).set k l[k] = padI l (k + 1) := by
  unfold padI
  rw [z13z hk (by simp; omega), List.take_succ_eq_append_getElem hk]
abbrev zeroK : PV := .agg [I 0, I 0, .nil true 1, .nil true 1, .nil true 1, .nil true 1, I 0]
def padK (l : List Tk) (k : Nat) : List PV := (l.take k).map encK ++ List.replicate (l.length - k) zeroK
theorem zw9 {l : List Tk} {k : Nat} (h : k ≤ l.length) : (padK l k).length = l.length := by simp [padK]; omega
theorem zwb (l : List Tk) : padK l 0 = List.replicate l.length zeroK := by simp [padK]
theorem zw7 (l : List Tk) : padK l l.length = l.map encK := by simp [padK]
theorem zw8 {l : List Tk} {k : Nat} (hk : k < l.length) : (padK l k)[k]? = some zeroK := by
  unfold padK
  have hl : ((l.take k).map encK).length = k := by simp; omega
  rw [List.getElem?_append_right (by omega), hl, Nat.sub_self]
  obtain ⟨d, hd⟩ : ∃ d, l.length - k = d + 1 := ⟨l.length - k - 1, by omega⟩
  rw [hd]; rfl
theorem zwa {l : List Tk} {k : Nat} (hk : k < l.length) : (padK l k).set k (encK l[k]) = padK l (k + 1) := by
  unfold padK
  rw [z13z hk (by simp; omega), List.take_succ_eq_append_getElem hk, List.map_append]
  rfl

/-! ### Equality, by steps -/
theorem zat {α : Type} [DecidableEq α] {a b : List α} {k : Nat} (ha : k < a.length) (hb : k < b.length) (h : a.take k = b.take k) (he : a[k] = b[k]) : a.take (k + 1) = b.take (k + 1) := by
  rw [List.take_succ_eq_append_getElem ha, List.take_succ_eq_append_getElem hb, h, he]
theorem zas {α : Type} [DecidableEq α] {a b : List α} {k : Nat} (ha : k < a.length) (hb : k < b.length) (he : ¬ a[k] = b[k]) : decide (a = b) = false := by
  rw [decide_eq_false_iff_not]
  rintro rfl
  exact he rfl

/-! ### Marks -/
def markL (k : Int) (n : Nat) : List Int := (List.range n).map fun (i : Nat) => k + (i : Int)
theorem zop (k : Int) (n : Nat) : (markL k n).length = n := by simp [markL]
def markP (k : Int) (l : List Int) (i : Nat) : List Int := markL k i ++ l.drop i
theorem zor {k : Int} {l : List Int} {i : Nat} (h : i ≤ l.length) : (markP k l i).length = l.length := by simp [markP, zop]; omega
theorem zot (k : Int) (l : List Int) : markP k l 0 = l := by simp [markP, markL]
theorem zoq (k : Int) (l : List Int) : markP k l l.length = markL k l.length := by simp [markP]
theorem zos {k : Int} {l : List Int} {i : Nat} (h : i < l.length) : (markP k l i).set i (k + i) = markP k l (i + 1) := by
  unfold markP
  rw [List.drop_eq_getElem_cons h, List.set_append, zop, if_neg (by omega), Nat.sub_self, List.set_cons_zero]
  simp [markL, List.range_succ]

/-! ### What a specification lays out -/
structure Mv where
  task : Int
  begin_ : Bool
  pick : Int
  deriving DecidableEq
abbrev encM (m : Mv) : PV := .agg [I m.task, .bool m.begin_, I m.pick]
theorem zqx (x y : Mv) : (x == y) = (x.task == y.task && (x.begin_ == y.begin_ && x.pick == y.pick)) := by
  cases x; cases y
  rw [Bool.eq_iff_iff]
  simp
def goodK (s : Spc) (k : Nat) (t : Tk) : Bool :=
  inB 1 2 t.join && inB 1 3 t.split && inB 0 3 t.role && inB 1 3 t.inn.length && inB 1 3 t.out.length &&
  (incr t.inn && t.inn.all (inB 0 (s.conds - 1))) && (incr t.out && t.out.all (inB 0 (s.conds - 1))) && (incr t.cut && t.cut.all (inB 2 (s.conds - 1))) &&
  (incr t.stop && t.stop.all (inB 0 ((s.tasks.length : Int) - 1))) && !hasB t.stop k
def regL (s : Spc) (t : Tk) : List Int := t.cut ++ t.stop.map (s.conds + ·)
theorem zzx {s : Spc} {t : Tk} {k : Nat} (hk : k < t.stop.length) : t.cut ++ (t.stop.take (k + 1)).map (s.conds + ·) = t.cut ++ (t.stop.take k).map (s.conds + ·) ++ [s.conds + t.stop[k]] := by
  rw [List.take_succ_eq_append_getElem hk, List.map_append]; simp only [List.map_cons, List.map_nil, List.append_assoc]
def setB (n : Nat) : List Int := ((List.range 3).filter fun i => n.testBit i).map Int.ofNat
theorem z13p : ∀ n, n < 8 → maskN (setB n) = n ∧ incr (setB n) = true ∧ (∀ p ∈ setB n, 0 ≤ p ∧ p < 3) ∧ (setB n).length ≤ 3 ∧ ∀ q : Nat, 1 ≤ q → q ≤ 3 → n < 2 ^ q → ∀ p ∈ setB n, p < (q : Int) := by
  intro n hn
  have h : n = 0 ∨ n = 1 ∨ n = 2 ∨ n = 3 ∨ n = 4 ∨ n = 5 ∨ n = 6 ∨ n = 7 := by omega
  have hq : ∀ q : Nat, 1 ≤ q → q ≤ 3 → q = 1 ∨ q = 2 ∨ q = 3 := by omega
  rcases h with rfl | rfl | rfl | rfl | rfl | rfl | rfl | rfl <;> refine ⟨by decide, by decide, by decide, by decide, fun q h1 h2 => ?_⟩ <;> rcases hq q h1 h2 with rfl | rfl | rfl <;> decide
def someL (l : List Int) (n : Nat) : List Int := (setB n).map fun i => at_ l i
def z4y (t : Tk) : List (List Int) := if t.join = 2 then t.inn.map fun p => [p] else [t.inn]
def endL (t : Tk) : List (List Int) := if t.split = 2 then t.out.map fun p => [p] else if t.split = 3 then (List.range (2 ^ t.out.length - 1)).map fun i => someL t.out (i + 1) else [t.out]
def endF (t : Tk) : Int := if t.split = 2 then 0 else if t.split = 3 then 1 else 0
def mvB (k n : Nat) : List Mv := (List.range n).map fun (i : Nat) => ⟨(k : Int), true, (i : Int)⟩
def mvE (k : Nat) (f : Int) (n : Nat) : List Mv := (List.range n).map fun (i : Nat) => ⟨(k : Int), false, f + (i : Int)⟩
def tkN (s : Spc) (k : Nat) : Tk := s.tasks.getD k ⟨0, 0, [], [], [], [], 0⟩
theorem z18o {s : Spc} {k : Nat} (h : k < s.tasks.length) : tkN s k = s.tasks[k] := by simp [tkN, h]
def mvK (s : Spc) (k : Nat) : List Mv := mvB k (z4y (tkN s k)).length ++ mvE k (endF (tkN s k)) (endL (tkN s k)).length
def trB (s : Spc) (k : Nat) (l : List (List Int)) : List Tr := l.map fun x => ⟨x, [s.conds + k], []⟩
def trE (s : Spc) (k : Nat) (l : List (List Int)) : List Tr := l.map fun x => ⟨[s.conds + k], x, regL s (tkN s k)⟩
def trK (s : Spc) (k : Nat) : List Tr := trB s k (z4y (tkN s k)) ++ trE s k (endL (tkN s k))
def mvU (s : Spc) (k : Nat) : List Mv := (List.range k).flatMap (mvK s)
def trU (s : Spc) (k : Nat) : List Tr := (List.range k).flatMap (trK s)
def mvS (s : Spc) : List Mv := mvU s s.tasks.length
def trS (s : Spc) : List Tr := trU s s.tasks.length
def flS (s : Spc) : Fl := ⟨⟨s.conds + s.tasks.length, trS s⟩, 0, 1⟩
def zsv (s : Spc) : Bool := inB 2 8 s.conds && inB 1 6 s.tasks.length && (List.range s.tasks.length).all fun k => goodK s k (tkN s k)
def goodS (s : Spc) : Bool := zsv s && zg7 (flS s)
theorem zgo {s : Spc} (h : goodS s = true) : zsv s = true := by simp only [goodS, Bool.and_eq_true] at h; exact h.1
def zqa (s : Spc) (m : Mv) : Int × Bool := if goodS s = true ∧ 0 ≤ idxI (mvS s) (fun y => y == m) then (idxI (mvS s) (fun y => y == m), true) else (0, false)
theorem zqv (s : Spc) (k : Nat) : mvU s (k + 1) = mvU s k ++ mvK s k := by simp [mvU, List.range_succ]
theorem z198 (s : Spc) (k : Nat) : trU s (k + 1) = trU s k ++ trK s k := by simp [trU, List.range_succ]
theorem zql (k n : Nat) : mvB k (n + 1) = mvB k n ++ [⟨(k : Int), true, (n : Int)⟩] := by simp [mvB, List.range_succ]
theorem zqn (k : Nat) (f : Int) (n : Nat) : mvE k f (n + 1) = mvE k f n ++ [⟨(k : Int), false, f + (n : Int)⟩] := by simp [mvE, List.range_succ]
theorem zqk (k n : Nat) : (mvB k n).length = n := by simp [mvB]
theorem zqm (k : Nat) (f : Int) (n : Nat) : (mvE k f n).length = n := by simp [mvE]
theorem zgb {s : Spc} {k : Nat} {t : Tk} (h : goodK s k t = true) : (t.join = 1 ∨ t.join = 2) ∧ (t.split = 1 ∨ t.split = 2 ∨ t.split = 3) ∧ (1 ≤ t.inn.length ∧ t.inn.length ≤ 3) ∧ (1 ≤ t.out.length ∧ t.out.length ≤ 3) ∧
    (∀ x ∈ t.inn, 0 ≤ x ∧ x < s.conds) ∧ (∀ x ∈ t.out, 0 ≤ x ∧ x < s.conds) ∧ (∀ x ∈ t.cut, 2 ≤ x ∧ x < s.conds) ∧ (∀ x ∈ t.stop, 0 ≤ x ∧ x < s.tasks.length) ∧ incr t.cut = true ∧ incr t.stop = true := by
  simp only [goodK, Bool.and_eq_true, List.all_eq_true, inB, decide_eq_true_eq] at h
  obtain ⟨⟨⟨⟨⟨⟨⟨⟨⟨h1, h2⟩, h3⟩, h4⟩, h5⟩, h6⟩, h7⟩, h8⟩, h9⟩, h10⟩ := h
  refine ⟨by omega, by omega, by omega, by omega, fun x hx => ?_, fun x hx => ?_, fun x hx => ?_, fun x hx => ?_, h8.1, h9.1⟩
  · have := h6.2 x hx; omega
  · have := h7.2 x hx; omega
  · have := h8.2 x hx; omega
  · have := h9.2 x hx; omega
theorem z50 {s : Spc} {k : Nat} {t : Tk} (h : goodK s k t = true) : 1 ≤ (z4y t).length ∧ (z4y t).length ≤ 3 := by
  have := zgb h
  unfold z4y
  split
  · simp; omega
  · simp
theorem zxi {n : Nat} (h1 : 1 ≤ n) (h : n ≤ 3) : 2 ≤ 2 ^ n ∧ 2 ^ n ≤ 8 := by
  have : n = 1 ∨ n = 2 ∨ n = 3 := by omega
  rcases this with rfl | rfl | rfl <;> decide
theorem zbe {s : Spc} {k : Nat} {t : Tk} (h : goodK s k t = true) : 1 ≤ (endL t).length ∧ (endL t).length ≤ 7 := by
  have := zgb h
  have hp := zxi this.2.2.2.1.1 this.2.2.2.1.2
  unfold endL
  split
  · simp; omega
  · split
    · simp; omega
    · simp
theorem zsw {s : Spc} (h : zsv s = true) : (2 ≤ s.conds ∧ s.conds ≤ 8) ∧ (1 ≤ s.tasks.length ∧ s.tasks.length ≤ 6) ∧ ∀ k, k < s.tasks.length → goodK s k (tkN s k) = true := by
  simp only [zsv, Bool.and_eq_true, List.all_eq_true, inB, decide_eq_true_eq, List.mem_range] at h
  exact ⟨by omega, by omega, h.2⟩
theorem zqo {s : Spc} (h : zsv s = true) {k : Nat} (hk : k < s.tasks.length) : 2 ≤ (mvK s k).length ∧ (mvK s k).length ≤ 10 := by
  have hg := (zsw h).2.2 k hk
  have h1 := z50 hg
  have h2 := zbe hg
  simp [mvK, zqk, zqm]; omega
theorem zqt {s : Spc} (h : zsv s = true) : ∀ k, k ≤ s.tasks.length → 2 * k ≤ (mvU s k).length ∧ (mvU s k).length ≤ 10 * k
  | 0, _ => by simp [mvU]
  | k + 1, hk => by
    have h1 := zqt h k (by omega)
    have h2 := zqo h (k := k) (by omega)
    rw [zqv, List.length_append]; omega
theorem z197 (s : Spc) : ∀ k, (trU s k).length = (mvU s k).length
  | 0 => rfl
  | k + 1 => by rw [z198, zqv, List.length_append, List.length_append, z197 s k]; simp [trK, mvK, trB, trE, zqk, zqm]
def trM (s : Spc) (m : Mv) : Tr := let t := tkN s m.task.toNat
  if m.begin_ then (if t.join = 2 then ⟨[at_ t.inn m.pick], [s.conds + m.task], []⟩ else ⟨t.inn, [s.conds + m.task], []⟩)
  else ⟨[s.conds + m.task], (if t.split = 2 then [at_ t.out m.pick] else if t.split = 3 then someL t.out m.pick.toNat else t.out), regL s t⟩
theorem zyr {α β : Type} (l : List α) (d : α) (f : α → β) : ((List.range l.length).map fun i => f (l.getD i d)) = l.map f := by
  apply List.ext_getElem?
  intro i
  simp only [List.getElem?_map, List.getElem?_range']
  by_cases h : i < l.length
  · simp [h]
  · simp [h]
theorem trM_K (s : Spc) (k : Nat) : (mvK s k).map (trM s) = trK s k := by
  unfold mvK trK
  rw [List.map_append]
  congr 1
  · unfold mvB trB z4y
    rw [List.map_map]
    by_cases hj : (tkN s k).join = 2
    · simp only [hj, if_true, List.length_map, List.map_map]
      rw [← zyr (tkN s k).inn 0]
      apply List.map_congr_left
      intro i hi
      simp [trM, hj, at_]
    · simp [hj, trM]
  · unfold mvE trE endL endF
    rw [List.map_map]
    by_cases h2 : (tkN s k).split = 2
    · simp only [h2, if_true, List.length_map, List.map_map]
      rw [← zyr (tkN s k).out 0]
      apply List.map_congr_left
      intro i hi
      simp [trM, h2, at_]
    · by_cases h3 : (tkN s k).split = 3
      · simp only [h3, if_neg (show ¬ ((3 : Int) = 2) by omega), if_true, List.length_map, List.length_range, List.map_map]
        apply List.map_congr_left
        intro i hi
        simp only [Function.comp, trM, h3]
        have : ((1 : Int) + (i : Int)).toNat = i + 1 := by omega
        simp [this, h3]
      · simp [h2, h3, trM]
theorem trM_U (s : Spc) : ∀ k, (mvU s k).map (trM s) = trU s k
  | 0 => rfl
  | k + 1 => by rw [zqv, z198, List.map_append, trM_U s k, trM_K]
def isMv (s : Spc) (m : Mv) : Prop := ∃ k : Nat, k < s.tasks.length ∧ m.task = k ∧ (m.begin_ = true → 0 ≤ m.pick ∧ m.pick.toNat < (z4y (tkN s k)).length) ∧ (m.begin_ = false → endF (tkN s k) ≤ m.pick ∧ m.pick < endF (tkN s k) + (endL (tkN s k)).length)
theorem zqr {s : Spc} {m : Mv} (h : m ∈ mvS s) : isMv s m := by
  simp only [mvS, mvU, List.mem_flatMap, List.mem_range, mvK, List.mem_append, mvB, mvE, List.mem_map] at h
  obtain ⟨k, hk, ⟨i, hi, rfl⟩ | ⟨i, hi, rfl⟩⟩ := h
  · exact ⟨k, hk, rfl, fun _ => ⟨by simp, by simpa using hi⟩, fun h => (by cases h)⟩
  · exact ⟨k, hk, rfl, fun h => (by cases h), fun _ => ⟨show endF (tkN s k) ≤ endF (tkN s k) + (i : Int) by omega, show endF (tkN s k) + (i : Int) < _ by omega⟩⟩
def cellT (b : Nat) (l : List Tr) : PV := if l = [] then .nil false 3 else .ref b 3 0 l.length
def blkT (t : TypeId) (l : List Tr) : List Blk := if l = [] then [] else [.row t false 3 (l.map encT)]
theorem z7t {b : Nat} : cellT b [] = .nil false 3 := rfl
theorem z6e {t : TypeId} : blkT t [] = [] := rfl
theorem z7s {b : Nat} {l : List Tr} (h : l ≠ []) : cellT b l = .ref b 3 0 l.length := by simp [cellT, h]
theorem z6d {t : TypeId} {l : List Tr} (h : l ≠ []) : blkT t l = [.row t false 3 (l.map encT)] := by simp [blkT, h]
theorem z16r {s : Spc} {k : Nat} {t : Tk} (h : goodK s k t = true) : (t.stop.length : Int) ≤ s.tasks.length ∧ (t.cut.length : Int) ≤ s.conds - 2 ∨ s.conds < 2 := by
  obtain ⟨-, -, -, -, -, -, h7, h8, h9, h10⟩ := zgb h
  by_cases hc : s.conds < 2
  · exact .inr hc
  · have a := zjr (by simpa [incr] using h10) h8 (by omega)
    have b := zjr (by simpa [incr] using h9) h7 (by omega)
    exact .inl (by omega)
theorem zsx {s : Spc} (h : zsv s = true) {k : Nat} (hk : k < s.tasks.length) : smTk s.tasks[k] ∧ s.tasks[k].cut.length ≤ 16 ∧ s.tasks[k].stop.length ≤ 16 ∧ ∀ x ∈ s.tasks[k].stop, 0 ≤ x ∧ x < 16 := by
  obtain ⟨hc, hn, hg⟩ := zsw h
  have hK := hg k hk
  rw [z18o hk] at hK
  obtain ⟨-, -, h3, h4, -, -, -, h8, -, -⟩ := zgb hK
  have := (z16r hK).resolve_right (by omega)
  exact ⟨⟨by omega, by omega, by omega, by omega⟩, by omega, by omega, fun x hx => by have := h8 x hx; omega⟩
theorem z195 {s : Spc} (h : zsv s = true) : ∀ t ∈ trS s, t.inn.length ≤ 3 ∧ t.out.length ≤ 3 ∧ t.rst.length ≤ 32 := by
  intro t ht
  obtain ⟨hc, hn, hg⟩ := zsw h
  rw [show trS s = (mvS s).map (trM s) from (trM_U s s.tasks.length).symm, List.mem_map] at ht
  obtain ⟨m, hm, rfl⟩ := ht
  obtain ⟨k, hk, e1, hb, he⟩ := zqr hm
  have hK := hg k hk
  obtain ⟨-, h1, h2, h3⟩ := zsx h hk
  rw [← z18o hk] at h1 h2
  obtain ⟨-, -, h4, h5, -, -, -, -, -, -⟩ := zgb hK
  obtain ⟨mt, mb, mp⟩ := m
  simp only at e1 hb he
  subst e1
  have eT : tkN s ((k : Int)).toNat = tkN s k := by simp
  have hE : (endL (tkN s k)).length = if (tkN s k).split = 2 then (tkN s k).out.length else if (tkN s k).split = 3 then 2 ^ (tkN s k).out.length - 1 else 1 := by unfold endL; (repeat' split) <;> simp
  have hF : endF (tkN s k) = if (tkN s k).split = 2 then 0 else if (tkN s k).split = 3 then 1 else 0 := rfl
  simp only [trM, eT]
  cases mb with
  | true =>
    simp only [if_true]
    split <;> simp <;> omega
  | false =>
    simp only [Bool.false_eq_true, if_false]
    refine ⟨by simp, ?_, by simp [regL]; omega⟩
    split
    · simp
    · split
      · rename_i hs2 hs3
        obtain ⟨hp0, hp1⟩ := he rfl
        simp [hs3] at hE hF
        have hpp := zxi h5.1 h5.2
        have := (z13p mp.toNat (by omega)).2.2.2.1
        simpa [someL] using this
      · omega
theorem ze7 {s : Spc} (h : zsv s = true) : smN (flS s).net := by
  have h2 := zqt h s.tasks.length (by omega)
  have hn := (zsw h).2.1
  have e : (trS s).length = (mvS s).length := z197 s s.tasks.length
  refine ⟨?_, fun t ht => ?_⟩
  · show (trS s).length < 2 ^ 40
    unfold mvS at e
    omega
  · have := z195 h t ht
    exact ⟨by omega, by omega, by omega⟩
def layB (b : Int) (l : List (List Int)) : List Tr := l.map fun x => ⟨x, [b], []⟩
def layE (b : Int) (R : List Int) (l : List (List Int)) : List Tr := l.map fun x => ⟨[b], x, R⟩
theorem zlo {b : Int} {l : List (List Int)} {i : Nat} (h : i < l.length) : layB b (l.take (i + 1)) = layB b (l.take i) ++ [⟨l[i], [b], []⟩] := by
  unfold layB; rw [List.take_succ_eq_append_getElem h, List.map_append]; rfl
theorem zlq {b : Int} {R : List Int} {l : List (List Int)} {i : Nat} (h : i < l.length) : layE b R (l.take (i + 1)) = layE b R (l.take i) ++ [⟨[b], l[i], R⟩] := by
  unfold layE; rw [List.take_succ_eq_append_getElem h, List.map_append]; rfl
theorem zln {b : Int} {l : List (List Int)} {i : Nat} (h : i ≤ l.length) : (layB b (l.take i)).length = i := by simp [layB]; omega
theorem zlp {b : Int} {R : List Int} {l : List (List Int)} {i : Nat} (h : i ≤ l.length) : (layE b R (l.take i)).length = i := by simp [layE]; omega
theorem z196 (s : Spc) (k : Nat) : trU s (k + 1) = trU s k ++ layB (s.conds + k) (z4y (tkN s k)) ++ layE (s.conds + k) (regL s (tkN s k)) (endL (tkN s k)) := by
  rw [z198, List.append_assoc]; rfl
theorem zqs (s : Spc) (k : Nat) : mvU s (k + 1) = mvU s k ++ mvB k (z4y (tkN s k)).length ++ mvE k (endF (tkN s k)) (endL (tkN s k)).length := by
  rw [zqv, List.append_assoc]; rfl
theorem zzw {s : Spc} {k : Nat} (h : zsv s = true) (hk : k < s.tasks.length) : (regL s (tkN s k)).length ≤ 32 := by
  obtain ⟨-, h1, h2, -⟩ := zsx h hk
  rw [z18o hk]
  simp [regL]; omega
theorem z4z {s : Spc} {k : Nat} {t : Tk} (h : goodK s k t = true) : ∀ x ∈ z4y t, x.length ≤ 3 := by
  have := zgb h
  intro x hx
  unfold z4y at hx
  split at hx
  · simp at hx; obtain ⟨a, _, rfl⟩ := hx; simp
  · simp at hx; subst hx; omega
theorem zbd {s : Spc} {k : Nat} {t : Tk} (h : goodK s k t = true) : ∀ x ∈ endL t, x.length ≤ 3 := by
  have := zgb h
  have hpp := zxi this.2.2.2.1.1 this.2.2.2.1.2
  intro x hx
  unfold endL at hx
  split at hx
  · simp at hx; obtain ⟨a, _, rfl⟩ := hx; simp
  · split at hx
    · simp only [List.mem_map, List.mem_range] at hx
      obtain ⟨i, hi, rfl⟩ := hx
      simpa [someL] using (z13p (i + 1) (by omega)).2.2.2.1
    · simp at hx; subst hx; omega
/-! ### A specification's fields, zou -/
def mkLen (t : Tk) : Nat := 3 + t.inn.length + t.out.length + t.cut.length + t.stop.length
def mkTk (k : Int) (t : Tk) : Tk := ⟨k, k + 1, markL (k + 1 + 1) t.inn.length, markL (k + 1 + 1 + t.inn.length) t.out.length, markL (k + 1 + 1 + t.inn.length + t.out.length) t.cut.length, markL (k + 1 + 1 + t.inn.length + t.out.length + t.cut.length) t.stop.length, k + 1 + 1 + t.inn.length + t.out.length + t.cut.length + t.stop.length⟩
def mkN (l : List Tk) (i : Nat) : Nat := ((l.take i).map mkLen).sum
def mkP (k : Int) (l : List Tk) : Nat → List Tk
  | 0 => l
  | i + 1 => match l[i]? with
    | some t => (mkP k l i).set i (mkTk (k + mkN l i) t)
    | none => mkP k l i
theorem zq5 (k : Int) (l : List Tk) : ∀ i, (mkP k l i).length = l.length
  | 0 => rfl
  | i + 1 => by unfold mkP; split <;> simp [zq5 k l i]
theorem zq4 (k : Int) (l : List Tk) : ∀ i j, i ≤ j → (mkP k l i)[j]? = l[j]?
  | 0, _, _ => rfl
  | i + 1, j, h => by
    unfold mkP
    split
    · rw [List.getElem?_set_ne (by omega), zq4 k l i j (by omega)]
    · exact zq4 k l i j (by omega)
theorem zq6 {k : Int} {l : List Tk} {i : Nat} (h : i < l.length) : mkP k l (i + 1) = (mkP k l i).set i (mkTk (k + mkN l i) l[i]) := by
  simp [mkP, h]
theorem zq3 {l : List Tk} {i : Nat} (h : i < l.length) : mkN l (i + 1) = mkN l i + mkLen l[i] := by
  unfold mkN; rw [List.take_succ_eq_append_getElem h, List.map_append, List.sum_append]; simp only [List.map_cons, List.map_nil, List.sum_cons, List.sum_nil, Nat.add_zero]
theorem zq2 {l : List Tk} (hb : ∀ t ∈ l, mkLen t ≤ 2^30) : ∀ i, i ≤ l.length → mkN l i ≤ i * 2^30
  | 0, _ => by simp [mkN]
  | i + 1, h => by
    have := zq2 hb i (by omega)
    have h2 := hb _ (List.getElem_mem (show i < l.length by omega))
    rw [zq3 (by omega)]; omega
def regV (s : Spc) (k : Int) : List Int × Bool := if goodS s = true ∧ inB 0 ((s.tasks.length : Int) - 1) k = true then (regL s (tkN s k.toNat), true) else ([], false)
theorem zzy (s : Spc) (k : Int) : (regV s k).1.length ≤ 32 := by
  unfold regV
  split
  · rename_i h
    have hk : 0 ≤ k ∧ k < s.tasks.length := by have := h.2; simp [inB] at this; omega
    exact zzw (zgo h.1) (by omega)
  · simp
/-! ### Cases -/
structure Cs where
  state : Int
  mark : List Int
  deriving DecidableEq
abbrev encC (c : Cs) : PV := .agg [I c.state, ints c.mark]
def goodC (s : Spc) (c : Cs) : Bool := goodM (s.conds + s.tasks.length) c.mark && (if c.state = 1 then decide (at_ c.mark 1 = 0) else if c.state = 2 then decide (0 < at_ c.mark 1) else decide (c.state = 3))
theorem zg5 {s : Spc} {c : Cs} (h : goodM (s.conds + s.tasks.length) c.mark = true) (hc : 2 ≤ s.conds) : (c.mark.length : Int) = s.conds + s.tasks.length ∧ 1 < c.mark.length := by
  simp only [goodM, Bool.and_eq_true, beq_iff_eq] at h
  have := h.1.2
  omega
end Go.Proofs.YtkkifebmicbbaaaGreat.Pi
namespace Go.Proofs.YtkkifebmicbbaaaGreat.Pi
open Go
set_option linter.all false

structure Arc3 where
  src : Int
  by_ : Int
  dst : Int
structure Sp where
  ms : List (List Int)
  ar : List Arc3
structure Ex where
  sp : Sp
  code : Int
def findM (l : List (List Int)) (m : List Int) : Int := idxI l (fun x => decide (x = m))
def zc2 (n : Net) (b : Int) (k : Nat) (s : Ex) (t : Int) : Ex :=
  if s.code ≠ 0 then s else
  let m := ze0 (trAt n t) (s.sp.ms.getD k [])
  if m.all (inB 0 50) = false then ⟨s.sp, 3⟩
  else if 0 ≤ findM s.sp.ms m then ⟨⟨s.sp.ms, s.sp.ar ++ [⟨k, t, findM s.sp.ms m⟩]⟩, 0⟩
  else if b ≤ s.sp.ms.length then ⟨s.sp, 2⟩
  else ⟨⟨s.sp.ms ++ [m], s.sp.ar ++ [⟨k, t, s.sp.ms.length⟩]⟩, 0⟩
def exL (n : Net) (b : Int) (k : Nat) (s : Ex) (l : List Int) : Ex := l.foldl (zc2 n b k) s
def exRun (n : Net) (b : Int) : Nat → Nat → Ex → Ex
  | 0, _, s => s
  | f + 1, k, s => if s.code ≠ 0 then s else if k < s.sp.ms.length then exRun n b f (k + 1) (exL n b k s (enabL n (s.sp.ms.getD k []))) else s
def exAll (n : Net) (start : List Int) (b : Int) : Ex := exRun n b (b.toNat + 2) 0 ⟨⟨[start], []⟩, 0⟩
theorem zcc {n : Net} {b : Int} {k : Nat} {s : Ex} {t : Int} (h : s.code ≠ 0) : zc2 n b k s t = s := by
  unfold zc2; rw [if_pos h]
theorem zbw {n : Net} {b : Int} {k : Nat} {l : List Int} {s : Ex} (h : s.code ≠ 0) : exL n b k s l = s := by
  unfold exL
  induction l with
  | nil => rfl
  | cons t l ih => rw [List.foldl_cons, zcc h]; exact ih
theorem zc1 {n : Net} {b : Int} {f k : Nat} {s : Ex} (h : s.code ≠ 0) : exRun n b f k s = s := by
  cases f with
  | zero => rfl
  | succ f => show (if s.code ≠ 0 then s else _) = s; rw [if_pos h]
theorem zbu {n : Net} {b : Int} {k : Nat} {s : Ex} {l : List Int} {j : Nat} (hj : j < l.length) : exL n b k s (l.drop j) = exL n b k (zc2 n b k s l[j]) (l.drop (j + 1)) := by
  rw [List.drop_eq_getElem_cons hj]; rfl
theorem zcd {n : Net} {b : Int} {k : Nat} {s : Ex} {t : Int} (h0 : s.code = 0) (h : (ze0 (trAt n t) (s.sp.ms.getD k [])).all (inB 0 50) = false) : zc2 n b k s t = ⟨s.sp, 3⟩ := by
  unfold zc2; rw [if_neg (by omega)]; simp only [h, if_true]
theorem zca {n : Net} {b : Int} {k : Nat} {s : Ex} {t : Int} (h0 : s.code = 0) (h : (ze0 (trAt n t) (s.sp.ms.getD k [])).all (inB 0 50) = true) (h2 : 0 ≤ findM s.sp.ms (ze0 (trAt n t) (s.sp.ms.getD k []))) : zc2 n b k s t = ⟨⟨s.sp.ms, s.sp.ar ++ [⟨k, t, findM s.sp.ms (ze0 (trAt n t) (s.sp.ms.getD k []))⟩]⟩, 0⟩ := by
  unfold zc2; rw [if_neg (by omega)]; simp only [h]; rw [if_neg (by simp), if_pos h2]
theorem zc6 {n : Net} {b : Int} {k : Nat} {s : Ex} {t : Int} (h0 : s.code = 0) (h : (ze0 (trAt n t) (s.sp.ms.getD k [])).all (inB 0 50) = true) (h2 : ¬ 0 ≤ findM s.sp.ms (ze0 (trAt n t) (s.sp.ms.getD k []))) (h3 : b ≤ s.sp.ms.length) : zc2 n b k s t = ⟨s.sp, 2⟩ := by
  unfold zc2; rw [if_neg (by omega)]; simp only [h]; rw [if_neg (by simp), if_neg h2, if_pos h3]
theorem zc8 {n : Net} {b : Int} {k : Nat} {s : Ex} {t : Int} (h0 : s.code = 0) (h : (ze0 (trAt n t) (s.sp.ms.getD k [])).all (inB 0 50) = true) (h2 : ¬ 0 ≤ findM s.sp.ms (ze0 (trAt n t) (s.sp.ms.getD k []))) (h3 : ¬ b ≤ s.sp.ms.length) : zc2 n b k s t = ⟨⟨s.sp.ms ++ [ze0 (trAt n t) (s.sp.ms.getD k [])], s.sp.ar ++ [⟨k, t, s.sp.ms.length⟩]⟩, 0⟩ := by
  unfold zc2; rw [if_neg (by omega)]; simp only [h]; rw [if_neg (by simp), if_neg h2, if_neg h3]
theorem zdr {l : List (List Int)} {m : List Int} : 0 ≤ findM l m ↔ m ∈ l := by
  have := zhl l (fun x => decide (x = m))
  unfold findM
  constructor
  · intro h
    rw [decide_eq_true h] at this
    rw [List.any_eq_true] at this
    obtain ⟨x, hx, hy⟩ := this
    have : x = m := by simpa using hy
    exact this ▸ hx
  · intro h
    have h2 : (l.any fun x => decide (x = m)) = true := by rw [List.any_eq_true]; exact ⟨m, h, by simp⟩
    rw [h2] at this
    exact of_decide_eq_true this.symm
theorem zdq {l : List (List Int)} {m : List Int} (h : 0 ≤ findM l m) : (findM l m).toNat < l.length ∧ l[(findM l m).toNat]? = some m := by
  unfold findM idxI at h ⊢
  cases e : l.findIdx? (fun x => decide (x = m)) with
  | none => rw [e] at h; simp at h
  | some k =>
    rw [List.findIdx?_eq_some_iff_getElem] at e
    obtain ⟨h1, h2, _⟩ := e
    refine ⟨by simpa using h1, ?_⟩
    have : l[k] = m := by simpa using h2
    simp [List.getElem?_eq_getElem h1, this]
structure ExOk (n : Net) (start : List Int) (b : Int) (s : Ex) : Prop where
  first : s.sp.ms[0]? = some start
  good : ∀ m ∈ s.sp.ms, zou n m = true
  lenb : s.sp.ms.length ≤ b.toNat
  nodup : s.sp.ms.Nodup
  arcs : ∀ a ∈ s.sp.ar, 0 ≤ a.src ∧ a.src.toNat < s.sp.ms.length ∧ 0 ≤ a.dst ∧ a.dst.toNat < s.sp.ms.length ∧ zse n (s.sp.ms.getD a.src.toNat []) a.by_ = true ∧ s.sp.ms.getD a.dst.toNat [] = ze0 (trAt n a.by_) (s.sp.ms.getD a.src.toNat [])
  back : ∀ j : Nat, 0 < j → j < s.sp.ms.length → ∃ i, ∃ h : i < s.sp.ar.length, s.sp.ar[i].dst = j ∧ s.sp.ar[i].src < j ∧ ∀ i', (h' : i' < i) → (s.sp.ar[i']'(by omega)).dst ≠ j
theorem ExOk.sp {n : Net} {start : List Int} {b : Int} {s : Ex} (h : ExOk n start b s) (c : Int) : ExOk n start b ⟨s.sp, c⟩ := ⟨h.first, h.good, h.lenb, h.nodup, h.arcs, h.back⟩
theorem zfy {l : List (List Int)} {k : Nat} (hk : k < l.length) : l.getD k [] ∈ l := by
  rw [List.getD_eq_getElem?_getD, List.getElem?_eq_getElem hk]; exact List.getElem_mem hk
theorem zfz {l : List (List Int)} {k : Nat} (hk : k < l.length) : l[k] = l.getD k [] := by
  rw [List.getD_eq_getElem?_getD, List.getElem?_eq_getElem hk]; rfl
theorem zfu {l : List (List Int)} {m : List Int} {k : Nat} (hk : k < l.length) : (l ++ [m]).getD k [] = l.getD k [] := by
  rw [List.getD_eq_getElem?_getD, List.getD_eq_getElem?_getD, List.getElem?_append_left hk]
theorem zfx {l : List (List Int)} {m : List Int} : (l ++ [m]).getD l.length [] = m := by
  rw [List.getD_eq_getElem?_getD, List.getElem?_append_right (Nat.le_refl _)]; simp
theorem zba {n : Net} {m : List Int} {t : Int} (hm : zou n m = true) (ht : t ∈ enabL n m) (ha : (ze0 (trAt n t) m).all (inB 0 50) = true) : zse n m t = true := by
  obtain ⟨h1, h2, h3⟩ := zb8.1 ht
  have h4 : inB 0 (n.tr.length - 1) t = true := by simp [inB]; omega
  simp only [zse, canN, hm, h3, h4, ha, Bool.and_self]
theorem zc9 {n : Net} {start : List Int} {b : Int} {k : Nat} {s : Ex} {t : Int} (h : ExOk n start b s) (hk : k < s.sp.ms.length) (ht : t ∈ enabL n (s.sp.ms.getD k [])) : ExOk n start b (zc2 n b k s t) := by
  by_cases h0 : s.code = 0
  case neg => rw [zcc h0]; exact h
  cases ha : (ze0 (trAt n t) (s.sp.ms.getD k [])).all (inB 0 50) with
  | false => rw [zcd h0 ha]; exact h.sp 3
  | true =>
    have hf := zba (h.good _ (zfy hk)) ht ha
    by_cases h2 : 0 ≤ findM s.sp.ms (ze0 (trAt n t) (s.sp.ms.getD k []))
    · rw [zca h0 ha h2]
      obtain ⟨g1, g2⟩ := zdq h2
      refine ⟨h.first, h.good, h.lenb, h.nodup, fun a hm => ?_, fun j hj hl => ?_⟩
      · rcases List.mem_append.1 hm with hm | hm
        · exact h.arcs a hm
        · simp only [List.mem_singleton] at hm
          subst hm
          refine ⟨by simp, by simpa using hk, h2, g1, by simpa using hf, ?_⟩
          simp only [Int.toNat_natCast]
          rw [List.getD_eq_getElem?_getD, g2]; rfl
      · obtain ⟨i, hi, e1, e2, e3⟩ := h.back j hj hl
        refine ⟨i, by simp; omega, by simp only; rw [List.getElem_append_left hi]; exact e1, by simp only; rw [List.getElem_append_left hi]; exact e2, fun i' h' => ?_⟩
        simp only
        rw [List.getElem_append_left (by omega)]; exact e3 i' h'
    · by_cases h3 : b ≤ s.sp.ms.length
      · rw [zc6 h0 ha h2 h3]; exact h.sp 2
      · rw [zc8 h0 ha h2 h3]
        have hnm : ze0 (trAt n t) (s.sp.ms.getD k []) ∉ s.sp.ms := fun hm => h2 (zdr.2 hm)
        generalize hM : ze0 (trAt n t) (s.sp.ms.getD k []) = M at *
        refine ⟨?_, fun m hm => ?_, by simp; omega, ?_, fun a hm => ?_, fun j hj hl => ?_⟩
        · simp only
          rw [List.getElem?_append_left (by omega)]; exact h.first
        · rcases List.mem_append.1 hm with hm | hm
          · exact h.good m hm
          · simp only [List.mem_singleton] at hm
            subst hm; rw [← hM]; exact zsh hf
        · simp only
          rw [List.nodup_append]
          refine ⟨h.nodup, by simp, fun x hx y hy => ?_⟩
          simp only [List.mem_singleton] at hy
          subst hy
          intro e; subst e; exact hnm hx
        · rcases List.mem_append.1 hm with hm | hm
          · obtain ⟨a1, a2, a3, a4, a5, a6⟩ := h.arcs a hm
            refine ⟨a1, by simp; omega, a3, by simp; omega, ?_, ?_⟩
            · simp only; rw [zfu a2]; exact a5
            · simp only; rw [zfu a2, zfu a4]; exact a6
          · simp only [List.mem_singleton] at hm
            subst hm
            refine ⟨by simp, by simp; omega, by simp, by simp, ?_, ?_⟩
            · simp only [Int.toNat_natCast]; rw [zfu hk]; exact hf
            · simp only [Int.toNat_natCast]; rw [zfu hk, zfx]; exact hM.symm
        · simp only [List.length_append, List.length_cons, List.length_nil] at hl
          by_cases hj2 : j < s.sp.ms.length
          · obtain ⟨i, hi, e1, e2, e3⟩ := h.back j hj hj2
            refine ⟨i, by simp; omega, by simp only; rw [List.getElem_append_left hi]; exact e1, by simp only; rw [List.getElem_append_left hi]; exact e2, fun i' h' => ?_⟩
            simp only
            rw [List.getElem_append_left (by omega)]; exact e3 i' h'
          · have : j = s.sp.ms.length := by omega
            subst this
            refine ⟨s.sp.ar.length, by simp, by simp, by simp; omega, fun i' h' => ?_⟩
            simp only
            rw [List.getElem_append_left h']
            have := h.arcs _ (List.getElem_mem h')
            omega
theorem zcb {n : Net} {b : Int} {k : Nat} {s : Ex} {t : Int} : ∃ l, (zc2 n b k s t).sp.ms = s.sp.ms ++ l := by
  by_cases h0 : s.code = 0
  case neg => rw [zcc h0]; exact ⟨[], by simp⟩
  cases ha : (ze0 (trAt n t) (s.sp.ms.getD k [])).all (inB 0 50) with
  | false => rw [zcd h0 ha]; exact ⟨[], by simp⟩
  | true =>
    by_cases h2 : 0 ≤ findM s.sp.ms (ze0 (trAt n t) (s.sp.ms.getD k []))
    · rw [zca h0 ha h2]; exact ⟨[], by simp⟩
    · by_cases h3 : b ≤ s.sp.ms.length
      · rw [zc6 h0 ha h2 h3]; exact ⟨[], by simp⟩
      · rw [zc8 h0 ha h2 h3]; exact ⟨_, rfl⟩
theorem zc7 {n : Net} {b : Int} {k : Nat} {s : Ex} {t : Int} (h0 : s.code = 0) (h : (zc2 n b k s t).code = 0) : (ze0 (trAt n t) (s.sp.ms.getD k [])).all (inB 0 50) = true ∧ ze0 (trAt n t) (s.sp.ms.getD k []) ∈ (zc2 n b k s t).sp.ms := by
  cases ha : (ze0 (trAt n t) (s.sp.ms.getD k [])).all (inB 0 50) with
  | false => rw [zcd h0 ha] at h; simp at h
  | true =>
    refine ⟨rfl, ?_⟩
    by_cases h2 : 0 ≤ findM s.sp.ms (ze0 (trAt n t) (s.sp.ms.getD k []))
    · rw [zca h0 ha h2]; exact zdr.1 h2
    · by_cases h3 : b ≤ s.sp.ms.length
      · rw [zc6 h0 ha h2 h3] at h; simp at h
      · rw [zc8 h0 ha h2 h3]; simp
theorem zg1 {l l' : List (List Int)} {k : Nat} (hk : k < l.length) : (l ++ l').getD k [] = l.getD k [] := by
  rw [List.getD_eq_getElem?_getD, List.getD_eq_getElem?_getD, List.getElem?_append_left hk]
theorem zbv {n : Net} {start : List Int} {b : Int} {k : Nat} : ∀ (l : List Int) (s : Ex), ExOk n start b s → k < s.sp.ms.length → (∀ t ∈ l, t ∈ enabL n (s.sp.ms.getD k [])) →
    ExOk n start b (exL n b k s l) ∧ (∃ l', (exL n b k s l).sp.ms = s.sp.ms ++ l') ∧ ((exL n b k s l).code = 0 → s.code = 0 ∧ ∀ t ∈ l, (ze0 (trAt n t) (s.sp.ms.getD k [])).all (inB 0 50) = true ∧ ze0 (trAt n t) (s.sp.ms.getD k []) ∈ (exL n b k s l).sp.ms)
  | [], s, h, hk, _ => ⟨h, ⟨[], by simp [exL]⟩, fun hc => ⟨hc, by simp⟩⟩
  | t :: l, s, h, hk, hl => by
    have h1 := zc9 h hk (hl t (by simp))
    obtain ⟨p, hp⟩ := zcb (n := n) (b := b) (k := k) (s := s) (t := t)
    have e : (zc2 n b k s t).sp.ms.getD k [] = s.sp.ms.getD k [] := by rw [hp, zg1 hk]
    obtain ⟨f1, ⟨p2, f2⟩, f3⟩ := zbv (k := k) l (zc2 n b k s t) h1 (by rw [hp]; simp; omega) (fun u hu => by rw [e]; exact hl u (by simp [hu]))
    refine ⟨f1, ⟨p ++ p2, by show (exL n b k (zc2 n b k s t) l).sp.ms = _; rw [f2, hp, List.append_assoc]⟩, fun hc => ?_⟩
    obtain ⟨c1, c2⟩ := f3 hc
    have h0 : s.code = 0 := by
      by_cases h0 : s.code = 0
      · exact h0
      · rw [zcc h0] at c1; exact c1
    refine ⟨h0, fun u hu => ?_⟩
    rcases List.mem_cons.1 hu with rfl | hu
    · obtain ⟨d1, d2⟩ := zc7 h0 c1
      refine ⟨d1, ?_⟩
      show _ ∈ (exL n b k (zc2 n b k s u) l).sp.ms
      rw [f2]; exact List.mem_append_left _ d2
    · have := c2 u hu
      rw [e] at this; exact this
def z97 (n : Net) (s : Ex) (k : Nat) : Prop := ∀ i, i < k → i < s.sp.ms.length → ∀ t ∈ enabL n (s.sp.ms.getD i []), (ze0 (trAt n t) (s.sp.ms.getD i [])).all (inB 0 50) = true ∧ ze0 (trAt n t) (s.sp.ms.getD i []) ∈ s.sp.ms
theorem zc0 {n : Net} {start : List Int} {b : Int} : ∀ (f k : Nat) (s : Ex), ExOk n start b s → z97 n s k → b.toNat < k + f → k ≤ s.sp.ms.length →
    ExOk n start b (exRun n b f k s) ∧ ((exRun n b f k s).code = 0 → z97 n (exRun n b f k s) (exRun n b f k s).sp.ms.length)
  | 0, k, s, h, hc, hb, hk => by have := h.lenb; omega
  | f + 1, k, s, h, hc, hb, hk => by
    by_cases h0 : s.code ≠ 0
    · rw [zc1 h0]; exact ⟨h, fun e => absurd e h0⟩
    · show ExOk n start b (if s.code ≠ 0 then s else if k < s.sp.ms.length then exRun n b f (k + 1) (exL n b k s (enabL n (s.sp.ms.getD k []))) else s) ∧ _
      have er : exRun n b (f + 1) k s = if s.code ≠ 0 then s else if k < s.sp.ms.length then exRun n b f (k + 1) (exL n b k s (enabL n (s.sp.ms.getD k []))) else s := rfl
      rw [er, if_neg h0]
      by_cases hl : k < s.sp.ms.length
      · rw [if_pos hl]
        obtain ⟨f1, ⟨p, f2⟩, f3⟩ := zbv (start := start) (k := k) (enabL n (s.sp.ms.getD k [])) s h hl (fun t ht => ht)
        by_cases hc0 : (exL n b k s (enabL n (s.sp.ms.getD k []))).code = 0
        · refine zc0 f (k + 1) (exL n b k s (enabL n (s.sp.ms.getD k []))) f1 (fun i hi hl2 t ht => ?_) (by omega) (by rw [f2, List.length_append]; omega)
          by_cases hik : i < k
          · have e : (exL n b k s (enabL n (s.sp.ms.getD k []))).sp.ms.getD i [] = s.sp.ms.getD i [] := by rw [f2, zg1 (l := s.sp.ms) (by omega)]
            rw [e] at ht ⊢
            obtain ⟨d1, d2⟩ := hc i hik (by omega) t ht
            exact ⟨d1, by rw [f2]; exact List.mem_append_left _ d2⟩
          · have : i = k := by omega
            subst this
            have e : (exL n b i s (enabL n (s.sp.ms.getD i []))).sp.ms.getD i [] = s.sp.ms.getD i [] := by rw [f2, zg1 hl]
            rw [e] at ht ⊢
            exact (f3 hc0).2 t ht
        · rw [zc1 hc0]; exact ⟨f1, fun e => absurd e hc0⟩
      · rw [if_neg hl]
        refine ⟨h, fun _ i hi hl2 t ht => hc i (by omega) hl2 t ht⟩
theorem zbq {n : Net} {start : List Int} {b : Int} (hm : zou n start = true) (hb : 1 ≤ b) : ExOk n start b (exAll n start b) ∧ ((exAll n start b).code = 0 → z97 n (exAll n start b) (exAll n start b).sp.ms.length) := by
  unfold exAll
  refine zc0 _ 0 _ ⟨rfl, fun m hm2 => ?_, by simp; omega, by simp, fun a ha => by simp at ha, fun j hj hl => ?_⟩ (fun i hi => by omega) (by omega) (by omega)
  · simp only [List.mem_singleton] at hm2; subst hm2; exact hm
  · simp only [List.length_cons, List.length_nil] at hl; omega
end Go.Proofs.YtkkifebmicbbaaaGreat.Pi
namespace Go.Proofs.YtkkifebmicbbaaaGreat.Pi
open Go
set_option linter.all false

def okEx (n : Net) (start : List Int) (b : Int) : Bool := zou n start && inB 1 400 b
theorem zs5 {n : Net} {start : List Int} {b : Int} (h : okEx n start b = true) : zou n start = true ∧ 1 ≤ b ∧ b ≤ 400 := by
  simp only [okEx, inB, Bool.and_eq_true, decide_eq_true_eq] at h
  exact ⟨h.1, by omega, by omega⟩
def zwy (n : Net) (m l m' : List Int) : Prop := many n m l = l.length ∧ fsq n m l = m'
theorem zx0 (n : Net) (m : List Int) : zwy n m [] m := ⟨rfl, rfl⟩
theorem zwz {n : Net} {m l m' : List Int} {t : Int} (hf : zse n m t = true) (h : zwy n (ze0 (trAt n t) m) l m') : zwy n m (t :: l) m' := by
  refine ⟨?_, h.2⟩
  simp only [many, hf, if_true, List.length_cons, h.1]
theorem zsj {n : Net} {m : List Int} {t : Int} (h : zse n m t = true) : inB 0 (n.tr.length - 1) t = true := by
  obtain ⟨h1, _⟩ := Bool.and_eq_true .. ▸ h
  simp only [canN, Bool.and_eq_true] at h1
  exact h1.1.2
def arcTo (ar : List Arc3) (p : Int) : Int := idxI ar (fun a => decide (a.dst = p))
theorem z3t {n : Net} {start : List Int} {b : Int} {s : Ex} (h : ExOk n start b s) {j : Nat} (h0 : 0 < j) (hj : j < s.sp.ms.length) : ∃ i : Nat, ∃ hi : i < s.sp.ar.length, arcTo s.sp.ar j = i ∧ 0 ≤ s.sp.ar[i].src ∧ s.sp.ar[i].src < j ∧ zse n (s.sp.ms.getD s.sp.ar[i].src.toNat []) s.sp.ar[i].by_ = true ∧ s.sp.ms.getD j [] = ze0 (trAt n s.sp.ar[i].by_) (s.sp.ms.getD s.sp.ar[i].src.toNat []) := by
  obtain ⟨i, hi, e1, e2, e3⟩ := h.back j h0 hj
  obtain ⟨a1, a2, a3, a4, a5, a6⟩ := h.arcs _ (List.getElem_mem hi)
  refine ⟨i, hi, ?_, a1, e2, a5, ?_⟩
  · unfold arcTo
    refine zho hi ?_ (decide_eq_true e1)
    rw [List.any_eq_false]
    intro x hx
    obtain ⟨i', h1, rfl⟩ := List.mem_iff_getElem.1 hx
    have h2 : i' < i := by simp at h1; omega
    have := e3 i' h2
    simpa using this
  · rw [e1] at a6; simpa using a6
theorem zdp {l : List (List Int)} (hn : l.Nodup) {k : Nat} (hk : k < l.length) : findM l (l.getD k []) = k := by
  unfold findM
  refine zho hk ?_ (by rw [zfz hk]; simp)
  rw [List.any_eq_false]
  intro x hx
  obtain ⟨i, h1, rfl⟩ := List.mem_iff_getElem.1 hx
  have h2 : i < k := by simp at h1; omega
  have h3 := List.pairwise_iff_getElem.1 hn i k (by omega) hk h2
  rw [List.getElem_take, ← zfz hk]
  simpa using h3
theorem zc3 (n : Net) (b : Int) (k : Nat) (s : Ex) (t : Int) : (zc2 n b k s t).sp.ar.length ≤ s.sp.ar.length + 1 := by
  by_cases h0 : s.code = 0
  case neg => rw [zcc h0]; omega
  cases ha : (ze0 (trAt n t) (s.sp.ms.getD k [])).all (inB 0 50) with
  | false => rw [zcd h0 ha]; simp only; omega
  | true =>
    by_cases h2 : 0 ≤ findM s.sp.ms (ze0 (trAt n t) (s.sp.ms.getD k []))
    · rw [zca h0 ha h2]; simp
    · by_cases h3 : b ≤ s.sp.ms.length
      · rw [zc6 h0 ha h2 h3]; simp only; omega
      · rw [zc8 h0 ha h2 h3]; simp
theorem zbr (n : Net) (b : Int) (k : Nat) : ∀ (l : List Int) (s : Ex), (exL n b k s l).sp.ar.length ≤ s.sp.ar.length + l.length
  | [], s => by simp [exL]
  | t :: l, s => by
    have h1 := zc3 n b k s t
    have h2 := zbr n b k l (zc2 n b k s t)
    show (exL n b k (zc2 n b k s t) l).sp.ar.length ≤ _
    simp only [List.length_cons]; omega
theorem zbx {n : Net} {b : Int} (hn : n.tr.length ≤ 24) : ∀ (f k : Nat) (s : Ex), (exRun n b f k s).sp.ar.length ≤ s.sp.ar.length + 24 * f
  | 0, k, s => by simp [exRun]
  | f + 1, k, s => by
    show (if s.code ≠ 0 then s else if k < s.sp.ms.length then exRun n b f (k + 1) (exL n b k s (enabL n (s.sp.ms.getD k []))) else s).sp.ar.length ≤ _
    split
    · omega
    · split
      · have h1 := zbr n b k (enabL n (s.sp.ms.getD k [])) s
        have h2 : (enabL n (s.sp.ms.getD k [])).length ≤ n.tr.length := zb6 ..
        have h3 := zbx (b := b) hn f (k + 1) (exL n b k s (enabL n (s.sp.ms.getD k [])))
        omega
      · omega
theorem zbn {n : Net} {start : List Int} {b : Int} (hn : n.tr.length ≤ 24) (hb : b ≤ 400) : (exAll n start b).sp.ar.length ≤ 20000 := by
  have := zbx (b := b) hn (b.toNat + 2) 0 ⟨⟨[start], []⟩, 0⟩
  unfold exAll
  simp only [List.length_nil] at this
  omega
theorem zc5 (n : Net) (b : Int) (k : Nat) (s : Ex) (t : Int) (h : s.code = 0 ∨ s.code = 2 ∨ s.code = 3) : (zc2 n b k s t).code = 0 ∨ (zc2 n b k s t).code = 2 ∨ (zc2 n b k s t).code = 3 := by
  by_cases h0 : s.code = 0
  case neg => rw [zcc h0]; exact h
  cases ha : (ze0 (trAt n t) (s.sp.ms.getD k [])).all (inB 0 50) with
  | false => rw [zcd h0 ha]; simp
  | true =>
    by_cases h2 : 0 ≤ findM s.sp.ms (ze0 (trAt n t) (s.sp.ms.getD k []))
    · rw [zca h0 ha h2]; simp
    · by_cases h3 : b ≤ s.sp.ms.length
      · rw [zc6 h0 ha h2 h3]; simp
      · rw [zc8 h0 ha h2 h3]; simp
theorem zbt (n : Net) (b : Int) (k : Nat) : ∀ (l : List Int) (s : Ex), (s.code = 0 ∨ s.code = 2 ∨ s.code = 3) → (exL n b k s l).code = 0 ∨ (exL n b k s l).code = 2 ∨ (exL n b k s l).code = 3
  | [], s, h => h
  | t :: l, s, h => zbt n b k l (zc2 n b k s t) (zc5 n b k s t h)
theorem zbz {n : Net} {b : Int} : ∀ (f k : Nat) (s : Ex), (s.code = 0 ∨ s.code = 2 ∨ s.code = 3) → (exRun n b f k s).code = 0 ∨ (exRun n b f k s).code = 2 ∨ (exRun n b f k s).code = 3
  | 0, k, s, h => h
  | f + 1, k, s, h => by
    have er : exRun n b (f + 1) k s = if s.code ≠ 0 then s else if k < s.sp.ms.length then exRun n b f (k + 1) (exL n b k s (enabL n (s.sp.ms.getD k []))) else s := rfl
    rw [er]
    split
    · exact h
    · split
      · exact zbz f (k + 1) _ (zbt n b k _ s h)
      · exact h
theorem zbp (n : Net) (start : List Int) (b : Int) : (exAll n start b).code = 0 ∨ (exAll n start b).code = 2 ∨ (exAll n start b).code = 3 := zbz _ _ _ (.inl rfl)
def revI (l c : List Int) (i : Nat) : Prop := ∃ h : c.length = l.length, ∀ p, (hp : p < l.length) → c[p]'(by omega) = if p < i ∨ l.length ≤ p + i then l[l.length - 1 - p]'(by omega) else l[p]
theorem z11s (l : List Int) : revI l l 0 := ⟨rfl, fun p hp => by rw [if_neg (by omega)]⟩
theorem z11r {l c : List Int} {i : Nat} (h : revI l c i) (hi : 2 * i + 1 < l.length) : revI l ((c.set i (c[l.length - 1 - i]'(by have := h.1; omega))).set (l.length - 1 - i) (c[i]'(by have := h.1; omega))) (i + 1) := by
  obtain ⟨h1, h2⟩ := h
  refine ⟨by simp [h1], fun p hp => ?_⟩
  have hi1 := h2 i (by omega)
  have hi2 := h2 (l.length - 1 - i) (by omega)
  rw [if_neg (by omega)] at hi1 hi2
  rw [List.getElem_set]
  by_cases e1 : l.length - 1 - i = p
  · rw [if_pos e1, if_pos (by omega), hi1]
    congr 1; omega
  · rw [if_neg e1, List.getElem_set]
    by_cases e2 : i = p
    · rw [if_pos e2, if_pos (by omega), hi2]
      congr 1; omega
    · rw [if_neg e2, h2 p hp]
      by_cases e3 : p < i ∨ l.length ≤ p + i
      · rw [if_pos e3, if_pos (by omega)]
      · rw [if_neg e3, if_neg (by omega)]
theorem z11q {l c : List Int} {i : Nat} (h : revI l c i) (hi : l.length ≤ 2 * i + 1) : c = l.reverse := by
  obtain ⟨h1, h2⟩ := h
  refine List.ext_getElem (by simp [h1]) (fun p hp hp2 => ?_)
  rw [h2 p (by omega), List.getElem_reverse]
  split
  · rfl
  · congr 1; omega
end Go.Proofs.YtkkifebmicbbaaaGreat.Pi
namespace Go.Proofs.YtkkifebmicbbaaaGreat.Pi
open Go
set_option linter.all false

inductive Rk (ar : List Arc3) (S : List Int) : Int → Prop
  | base {k : Int} (h : k ∈ S) : Rk ar S k
  | step {a : Arc3} (h : a ∈ ar) (r : Rk ar S a.dst) : Rk ar S a.src
def z3u (ar : List Arc3) (n : Nat) : Prop := ∀ a ∈ ar, 0 ≤ a.src ∧ a.src < n ∧ 0 ≤ a.dst ∧ a.dst < n
open Classical in
noncomputable def toL (ar : List Arc3) (n : Nat) (S : List Int) : List Bool := (List.range n).map fun (k : Nat) => decide (Rk ar S (k : Int))
theorem z18q (ar : List Arc3) (n : Nat) (S : List Int) : (toL ar n S).length = n := by simp [toL]
theorem z18p {ar : List Arc3} {n : Nat} {S : List Int} {k : Nat} (hk : k < n) : (toL ar n S)[k]'(by rw [z18q]; exact hk) = true ↔ Rk ar S k := by simp [toL]
def sndB (ar : List Arc3) (S : List Int) (c : List Bool) : Prop := ∀ k : Nat, c[k]? = some true → Rk ar S k
def hasS (S : List Int) (c : List Bool) : Prop := ∀ k ∈ S, c[k.toNat]? = some true
def clsB (ar : List Arc3) (c : List Bool) : Prop := ∀ a ∈ ar, c[a.dst.toNat]? = some true → c[a.src.toNat]? = some true
theorem z18r {ar : List Arc3} {n : Nat} {S : List Int} {c : List Bool} (hl : c.length = n) (hS : ∀ k ∈ S, 0 ≤ k ∧ k < n) (hs : sndB ar S c) (hb : hasS S c) (hc : clsB ar c) : c = toL ar n S := by
  have h : ∀ k, Rk ar S k → c[k.toNat]? = some true := by
    intro k hk
    induction hk with
    | base h => exact hb _ h
    | step h _ ih => exact hc _ h ih
  apply List.ext_getElem?
  intro k
  by_cases hk : k < n
  · rw [List.getElem?_eq_getElem (by omega), List.getElem?_eq_getElem (by rw [z18q]; exact hk)]
    congr 1
    cases e : c[k]'(by omega) with
    | true => exact ((z18p hk).2 (hs k (by rw [List.getElem?_eq_getElem (by omega), e]))).symm
    | false =>
      cases e2 : (toL ar n S)[k]'(by rw [z18q]; exact hk) with
      | false => rfl
      | true =>
        have := h _ ((z18p hk).1 e2)
        rw [Int.toNat_natCast, List.getElem?_eq_getElem (by omega), e] at this
        cases this
  · rw [List.getElem?_eq_none (by omega), List.getElem?_eq_none (by rw [z18q]; omega)]
theorem z15u {ar : List Arc3} {S : List Int} {c : List Bool} {k : Int} (h : sndB ar S c) (h0 : 0 ≤ k) (hk : Rk ar S k) : sndB ar S (c.set k.toNat true) := by
  intro j hj
  rw [List.getElem?_set] at hj
  split at hj
  · rename_i e
    rw [← e, Int.toNat_of_nonneg h0]; exact hk
  · exact h j hj
theorem z141 {c : List Bool} {k j : Nat} (h : c[j]? = some true) : (c.set k true)[j]? = some true := by
  rw [List.getElem?_set]
  split
  · rename_i e; subst e
    rw [if_pos (List.getElem?_eq_some_iff.1 h).1]
  · exact h
theorem zhf {S : List Int} {c : List Bool} {k : Nat} (h : hasS S c) : hasS S (c.set k true) := fun x hx => z141 (h x hx)
def putS (c : List Bool) (S : List Int) : List Bool := S.foldl (fun c k => c.set k.toNat true) c
theorem zyl : ∀ {S : List Int} {c : List Bool}, (putS c S).length = c.length
  | [], c => rfl
  | k :: S, c => by unfold putS; rw [List.foldl_cons]; have := zyl (S := S) (c := c.set k.toNat true); unfold putS at this; rw [this, List.length_set]
theorem zyn {c : List Bool} {S : List Int} {k : Nat} (h : k < S.length) : putS c (S.take (k + 1)) = (putS c (S.take k)).set S[k].toNat true := by
  unfold putS; rw [List.take_succ_eq_append_getElem h, List.foldl_append]; rfl
theorem zyo : ∀ {S : List Int} {c : List Bool} {j : Nat}, c[j]? = some true → (putS c S)[j]? = some true
  | [], c, j, h => h
  | k :: S, c, j, h => by unfold putS; rw [List.foldl_cons]; exact zyo (S := S) (z141 h)
theorem zyk : ∀ {S : List Int} {c : List Bool}, (∀ k ∈ S, 0 ≤ k ∧ k.toNat < c.length) → hasS S (putS c S)
  | [], c, _ => by intro k hk; cases hk
  | k :: S, c, h => by
    have h1 := h k (by simp)
    have key : (c.set k.toNat true)[k.toNat]? = some true := by rw [List.getElem?_set_self h1.2]
    intro j hj
    unfold putS
    rw [List.foldl_cons]
    rcases List.mem_cons.1 hj with rfl | hj
    · exact zyo (S := S) key
    · exact zyk (S := S) (c := c.set k.toNat true) (fun x hx => by have := h x (by simp [hx]); simpa using this) j hj
theorem zym {ar : List Arc3} {S0 : List Int} : ∀ {S : List Int} {c : List Bool}, (∀ k ∈ S, 0 ≤ k ∧ k ∈ S0) → sndB ar S0 c → sndB ar S0 (putS c S)
  | [], c, _, h => h
  | k :: S, c, hS, h => by
    unfold putS; rw [List.foldl_cons]
    exact zym (S := S) (fun x hx => hS x (by simp [hx])) (z15u h (hS k (by simp)).1 (.base (hS k (by simp)).2))
theorem z15v {ar : List Arc3} {S : List Int} {n : Nat} : sndB ar S (List.replicate n false) := by
  intro k hk
  rw [List.getElem?_replicate] at hk
  split at hk <;> cases hk
def passK (ar : List Arc3) (c : List Bool) : Nat → List Bool × Bool
  | 0 => (c, false)
  | k + 1 => let p := passK ar c k
    match ar[k]? with
    | some a => if p.1[a.dst.toNat]? = some true ∧ p.1[a.src.toNat]? = some false then (p.1.set a.src.toNat true, true) else p
    | none => p
theorem zwu {ar : List Arc3} {c : List Bool} : ∀ k, (passK ar c k).1.length = c.length
  | 0 => rfl
  | k + 1 => by
    unfold passK
    simp only
    split
    · split
      · simp [zwu k]
      · exact zwu k
    · exact zwu k
theorem zwx {ar : List Arc3} {c : List Bool} {k : Nat} (hk : k < ar.length) (h1 : (passK ar c k).1[ar[k].dst.toNat]? = some true) (h2 : (passK ar c k).1[ar[k].src.toNat]? = some false) : passK ar c (k + 1) = ((passK ar c k).1.set ar[k].src.toNat true, true) := by
  rw [passK]; simp only [List.getElem?_eq_getElem hk, h1, h2]; simp
theorem zwv {ar : List Arc3} {c : List Bool} {k : Nat} (hk : k < ar.length) (h : ¬ ((passK ar c k).1[ar[k].dst.toNat]? = some true ∧ (passK ar c k).1[ar[k].src.toNat]? = some false)) : passK ar c (k + 1) = passK ar c k := by
  rw [passK]; simp only [List.getElem?_eq_getElem hk, h]; simp
theorem zws {ar : List Arc3} {c : List Bool} {k : Nat} (hk : ar.length ≤ k) : passK ar c (k + 1) = passK ar c k := by
  rw [passK]; simp only [List.getElem?_eq_none hk]
theorem zww {ar : List Arc3} {S : List Int} {c : List Bool} {n : Nat} (ha : z3u ar n) (h : sndB ar S c) : ∀ k, sndB ar S (passK ar c k).1
  | 0 => h
  | k + 1 => by
    have ih := zww ha h k
    by_cases hk : k < ar.length
    · by_cases hc : (passK ar c k).1[ar[k].dst.toNat]? = some true ∧ (passK ar c k).1[ar[k].src.toNat]? = some false
      · rw [zwx hk hc.1 hc.2]
        have hm := List.getElem_mem hk
        have hr := ih _ hc.1
        rw [Int.toNat_of_nonneg (ha _ hm).2.2.1] at hr
        exact z15u ih (ha _ hm).1 (.step hm hr)
      · rw [zwv hk hc]; exact ih
    · rw [zws (by omega)]; exact ih
theorem zwt {ar : List Arc3} {S : List Int} {c : List Bool} (h : hasS S c) : ∀ k, hasS S (passK ar c k).1
  | 0 => h
  | k + 1 => by
    have ih := zwt (ar := ar) h k
    unfold passK
    simp only
    split
    · split
      · exact zhf ih
      · exact ih
    · exact ih
theorem zwr {ar : List Arc3} {c : List Bool} : ∀ k, (cntF (passK ar c k).1 ≤ cntF c) ∧ ((passK ar c k).2 = true → cntF (passK ar c k).1 < cntF c) ∧ ((passK ar c k).2 = false → (passK ar c k).1 = c)
  | 0 => ⟨Nat.le_refl _, fun h => (by cases h), fun _ => rfl⟩
  | k + 1 => by
    have ih := zwr (ar := ar) (c := c) k
    by_cases hk : k < ar.length
    · by_cases hc : (passK ar c k).1[ar[k].dst.toNat]? = some true ∧ (passK ar c k).1[ar[k].src.toNat]? = some false
      · rw [zwx hk hc.1 hc.2]
        have hl := (List.getElem?_eq_some_iff.1 hc.2).1
        have := z9k hl (by rw [List.getD_eq_getElem?_getD, hc.2]; rfl)
        refine ⟨by simp only; omega, fun _ => by simp only; omega, fun h => by cases h⟩
      · rw [zwv hk hc]; exact ih
    · rw [zws (by omega)]; exact ih
theorem zwq {ar : List Arc3} {c : List Bool} {n : Nat} (hl : c.length = n) (ha : z3u ar n) (h : (passK ar c ar.length).2 = false) : clsB ar c := by
  have key : ∀ k, k ≤ ar.length → (passK ar c k).2 = false → ∀ i, (hi : i < k) → ∀ hi2 : i < ar.length, c[ar[i].dst.toNat]? = some true → c[ar[i].src.toNat]? = some true := by
    intro k
    induction k with
    | zero => intro _ _ i hi; omega
    | succ k ih =>
      intro hk h2 i hi hi2 hd
      have hkl : k < ar.length := by omega
      by_cases hc : (passK ar c k).1[ar[k].dst.toNat]? = some true ∧ (passK ar c k).1[ar[k].src.toNat]? = some false
      · rw [zwx hkl hc.1 hc.2] at h2; cases h2
      · rw [zwv hkl hc] at h2
        have he := (zwr k).2.2 h2
        by_cases e : i = k
        · subst e
          rw [he] at hc
          have hm := ha _ (List.getElem_mem hi2)
          cases e2 : c[ar[i].src.toNat]? with
          | none => rw [List.getElem?_eq_none_iff] at e2; omega
          | some b =>
            cases b with
            | true => rfl
            | false => exact (hc ⟨hd, e2⟩).elim
        · exact ih (by omega) h2 i (by omega) hi2 hd
  intro a hm hd
  obtain ⟨i, hi, rfl⟩ := List.mem_iff_getElem.1 hm
  exact key ar.length (Nat.le_refl _) h i hi hi hd

/-! ### From where arcs come to a marking -/
def befs (ar : List Arc3) (j : Int) : List Int := (ar.filter fun a => decide (a.dst = j)).map (·.src)
def pvB (l : List Int) : PV := if l = [] then .nil true 1 else ints l
def befP (ar : List Arc3) (n : Nat) : List PV := (List.range n).map fun (j : Nat) => pvB (befs ar j)
theorem z4s (ar : List Arc3) (n : Nat) : (befP ar n).length = n := by simp [befP]
theorem z4r {ar : List Arc3} {n : Nat} {j : Int} (h0 : 0 ≤ j) (h : j < n) : (befP ar n)[j.toNat]? = some (pvB (befs ar j)) := by
  simp only [befP, List.getElem?_map]
  rw [List.getElem?_range (by omega)]
  simp [Int.toNat_of_nonneg h0]
theorem z4u (n : Nat) : befP [] n = List.replicate n (.nil true 1) := by
  apply List.ext_getElem
  · simp [befP]
  · intro i h1 h2
    simp [befP, befs, pvB]
theorem z4x {ar : List Arc3} {k : Nat} {j : Int} (hk : k < ar.length) : befs (ar.take (k + 1)) j = if ar[k].dst = j then befs (ar.take k) j ++ [ar[k].src] else befs (ar.take k) j := by
  unfold befs
  rw [List.take_succ_eq_append_getElem hk, List.filter_append, List.map_append]
  split
  · rename_i h; simp [h]
  · rename_i h; simp [h]
theorem z4t {ar : List Arc3} {n k : Nat} (hk : k < ar.length) (h0 : 0 ≤ ar[k].dst) : befP (ar.take (k + 1)) n = (befP (ar.take k) n).set ar[k].dst.toNat (ints (befs (ar.take k) ar[k].dst ++ [ar[k].src])) := by
  apply List.ext_getElem?
  intro j
  rw [List.getElem?_set, z4s]
  by_cases hj : j < n
  · simp only [befP, List.getElem?_map, List.getElem?_range hj, Option.map_some]
    rw [z4x hk]
    by_cases e : ar[k].dst = (j : Int)
    · rw [if_pos e, if_pos (by omega), if_pos (by omega), e]
      simp [pvB]
    · rw [if_neg e, if_neg (by omega)]
  · simp only [befP, List.getElem?_map]
    rw [List.getElem?_eq_none (by simp; omega)]
    split
    · rw [if_neg (by omega)]; rfl
    · rfl
theorem z4w {ar : List Arc3} {j x : Int} : x ∈ befs ar j ↔ ∃ a ∈ ar, a.dst = j ∧ a.src = x := by
  simp only [befs, List.mem_map, List.mem_filter, decide_eq_true_eq]
  constructor
  · rintro ⟨a, ⟨h1, h2⟩, h3⟩; exact ⟨a, h1, h2, h3⟩
  · rintro ⟨a, h1, h2, h3⟩; exact ⟨a, ⟨h1, h2⟩, h3⟩
theorem z4v (ar : List Arc3) (j : Int) : (befs ar j).length ≤ ar.length := by unfold befs; rw [List.length_map]; exact List.length_filter_le _ _
structure BF (ar : List Arc3) (n : Nat) (S : List Int) (c : List Bool) (q : List Int) (i : Nat) : Prop where
  len : c.length = n
  snd : sndB ar S c
  has : hasS S c
  inn : ∀ x ∈ q, 0 ≤ x ∧ x < n
  mkd : ∀ x ∈ q, c[x.toNat]? = some true
  all : ∀ k : Nat, c[k]? = some true → (k : Int) ∈ q
  cnt : q.length + cntF c ≤ n
  le : i ≤ q.length
  done : ∀ j, (hj : j < i) → ∀ a ∈ ar, a.dst = q[j]'(by omega) → c[a.src.toNat]? = some true
theorem BF.end_ {ar : List Arc3} {n : Nat} {S : List Int} {c : List Bool} {q : List Int} (h : BF ar n S c q q.length) (ha : z3u ar n) (hS : ∀ k ∈ S, 0 ≤ k ∧ k < n) : c = toL ar n S := by
  refine z18r h.len hS h.snd h.has fun a hm hd => ?_
  have := h.all _ hd
  rw [Int.toNat_of_nonneg (ha a hm).2.2.1] at this
  obtain ⟨j, hj, e⟩ := List.mem_iff_getElem.1 this
  exact h.done j hj a hm e.symm
structure BG (ar : List Arc3) (n : Nat) (S : List Int) (i : Nat) (L : List Int) (m : Nat) (x : Int) (c : List Bool) (q : List Int) : Prop extends BF ar n S c q i where
  lt : i < q.length
  at_ : q[i]? = some x
  up : ∀ j, j < m → ∀ y, L[j]? = some y → c[y.toNat]? = some true
theorem BG.next {ar : List Arc3} {n : Nat} {S : List Int} {i : Nat} {x : Int} {c : List Bool} {q : List Int} (h : BG ar n S i (befs ar x) (befs ar x).length x c q) : BF ar n S c q (i + 1) := by
  refine ⟨h.len, h.snd, h.has, h.inn, h.mkd, h.all, h.cnt, h.lt, fun j hj a hm e => ?_⟩
  by_cases hji : j = i
  · subst hji
    have hx := h.at_
    rw [List.getElem?_eq_getElem h.lt] at hx
    rw [Option.some.inj hx] at e
    obtain ⟨k, hk, he⟩ := List.mem_iff_getElem.1 (z4w.2 ⟨a, hm, e, rfl⟩)
    exact h.up k hk _ (by rw [List.getElem?_eq_getElem hk, he])
  · exact h.done j (by omega) a hm e
theorem BG.old {ar : List Arc3} {n : Nat} {S : List Int} {i : Nat} {L : List Int} {m : Nat} {x : Int} {c : List Bool} {q : List Int} (h : BG ar n S i L m x c q) (hm : m < L.length) (hc : c[L[m].toNat]? = some true) : BG ar n S i L (m + 1) x c q := by
  refine ⟨h.toBF, h.lt, h.at_, fun j hj y hy => ?_⟩
  by_cases e : j = m
  · subst e
    rw [List.getElem?_eq_getElem hm] at hy
    cases hy; exact hc
  · exact h.up j (by omega) y hy
theorem BG.new {ar : List Arc3} {n : Nat} {S : List Int} {i : Nat} {m : Nat} {x : Int} {c : List Bool} {q : List Int} (h : BG ar n S i (befs ar x) m x c q) (ha : z3u ar n) (hm : m < (befs ar x).length) (hc : c[(befs ar x)[m].toNat]? = some false) :
    BG ar n S i (befs ar x) (m + 1) x (c.set (befs ar x)[m].toNat true) (q ++ [(befs ar x)[m]]) := by
  obtain ⟨a, h1, h2, h3⟩ := z4w.1 (List.getElem_mem hm)
  obtain ⟨a1, a2, a3, a4⟩ := ha a h1
  have hl := h.len
  have hx := h.at_
  have hi := h.lt
  rw [List.getElem?_eq_getElem hi] at hx
  have hq : x ∈ q := by rw [← Option.some.inj hx]; exact List.getElem_mem hi
  generalize hy : (befs ar x)[m] = y at *
  subst h3
  have hcy : a.src.toNat < c.length := by omega
  have hRk : Rk ar S a.src := by
    refine .step h1 ?_
    have hr := h.snd _ (h.mkd x hq)
    rw [Int.toNat_of_nonneg (h.inn x hq).1] at hr
    rw [h2]; exact hr
  have hcnt := z9k hcy (by rw [List.getD_eq_getElem?_getD, hc]; rfl)
  have hcn := h.cnt
  refine ⟨⟨by simpa using hl, z15u h.snd a1 hRk, zhf h.has, fun z hz => ?_, fun z hz => ?_, fun k hk => ?_, by rw [List.length_append]; simp only [List.length_cons, List.length_nil]; omega, by rw [List.length_append]; have := h.le; omega, fun j hj a' hm' e => ?_⟩, by rw [List.length_append]; omega, ?_, fun j hj z hz => ?_⟩
  · rcases List.mem_append.1 hz with hz | hz
    · exact h.inn z hz
    · rw [List.mem_singleton] at hz; subst hz; exact ⟨a1, a2⟩
  · rcases List.mem_append.1 hz with hz | hz
    · exact z141 (h.mkd z hz)
    · rw [List.mem_singleton] at hz; subst hz; rw [List.getElem?_set_self hcy]
  · rw [List.getElem?_set] at hk
    split at hk
    · rename_i e
      refine List.mem_append.2 (.inr ?_)
      rw [List.mem_singleton]; omega
    · exact List.mem_append.2 (.inl (h.all k hk))
  · have hjq : j < q.length := by omega
    rw [List.getElem_append_left hjq] at e
    exact z141 (h.done j hj a' hm' e)
  · rw [List.getElem?_append_left hi, List.getElem?_eq_getElem hi]; exact hx
  · by_cases e : j = m
    · subst e
      rw [List.getElem?_eq_getElem hm, hy] at hz
      cases hz
      rw [List.getElem?_set_self hcy]
    · exact z141 (h.up j (by omega) z hz)
theorem BF.look {ar : List Arc3} {n : Nat} {S : List Int} {c : List Bool} {q : List Int} {i : Nat} (h : BF ar n S c q i) (hi : i < q.length) : BG ar n S i (befs ar q[i]) 0 q[i] c q := ⟨h, hi, List.getElem?_eq_getElem hi, fun j hj => by omega⟩
theorem BF.start {ar : List Arc3} {n : Nat} {p : Int} (h0 : 0 ≤ p) (h : p < n) : BF ar n [p] ((List.replicate n false).set p.toNat true) [p] 0 := by
  have hp : p.toNat < (List.replicate n false).length := by simp; omega
  have hc := z9k (l := List.replicate n false) (k := p.toNat) hp (by rw [List.getD_eq_getElem?_getD, List.getElem?_replicate]; split <;> rfl)
  have hl := z9i (List.replicate n false)
  rw [List.length_replicate] at hl
  refine ⟨by simp, z15u z15v h0 (.base (by simp)), fun k hk => ?_, fun x hx => ?_, fun x hx => ?_, fun k hk => ?_, by simp only [List.length_cons, List.length_nil]; omega, Nat.zero_le _, fun j hj => by omega⟩
  · rw [List.mem_singleton] at hk; subst hk; rw [List.getElem?_set_self hp]
  · rw [List.mem_singleton] at hx; subst hx; exact ⟨h0, h⟩
  · rw [List.mem_singleton] at hx; subst hx; rw [List.getElem?_set_self hp]
  · rw [List.getElem?_set] at hk
    split at hk
    · rename_i e; rw [List.mem_singleton]; omega
    · rw [List.getElem?_replicate] at hk; split at hk <;> cases hk
end Go.Proofs.YtkkifebmicbbaaaGreat.Pi
namespace Go.Proofs.YtkkifebmicbbaaaGreat.Pi
open Go
set_option linter.all false

/-! ### How a space is laid out -/
structure Bfs (ar : List Arc3) (n : Nat) : Prop where
  inn : z3u ar n
  srt : ∀ i j, i ≤ j → ∀ (hi : i < ar.length) (hj : j < ar.length), ar[i].src ≤ ar[j].src
  pre : ∀ i, (hi : i < ar.length) → ∀ q : Nat, 1 ≤ q → (q : Int) < ar[i].dst → ∃ j, ∃ hj : j < i, (ar[j]'(by omega)).dst = q
  back : ∀ q : Nat, 0 < q → q < n → ∃ i, ∃ h : i < ar.length, ar[i].dst = q ∧ ar[i].src < q ∧ ∀ i', (h' : i' < i) → (ar[i']'(by omega)).dst ≠ q
structure ExB (s : Ex) (k : Nat) : Prop where
  le : ∀ a ∈ s.sp.ar, a.src ≤ k
  srt : ∀ i j, i ≤ j → ∀ (hi : i < s.sp.ar.length) (hj : j < s.sp.ar.length), s.sp.ar[i].src ≤ s.sp.ar[j].src
  pre : ∀ i, (hi : i < s.sp.ar.length) → ∀ q : Nat, 1 ≤ q → (q : Int) < s.sp.ar[i].dst → ∃ j, ∃ hj : j < i, (s.sp.ar[j]'(by omega)).dst = q
theorem ExB.add {s : Ex} {k : Nat} {ms : List (List Int)} {t d c : Int} (h : ExB s k) (hd : ∀ q : Nat, 1 ≤ q → (q : Int) < d → ∃ j, ∃ hj : j < s.sp.ar.length, s.sp.ar[j].dst = q) : ExB ⟨⟨ms, s.sp.ar ++ [⟨k, t, d⟩]⟩, c⟩ k := by
  refine ⟨fun a ha => ?_, fun i j hij hi hj => ?_, fun i hi q h1 h2 => ?_⟩
  · rcases List.mem_append.1 ha with ha | ha
    · exact h.le a ha
    · rw [List.mem_singleton] at ha; subst ha; exact Int.le_refl _
  · simp only [List.length_append, List.length_cons, List.length_nil] at hi hj
    simp only [List.getElem_append]
    by_cases hj2 : j < s.sp.ar.length
    · rw [dif_pos (show i < s.sp.ar.length by omega), dif_pos hj2]; exact h.srt i j hij _ _
    · rw [dif_neg hj2]
      by_cases hi2 : i < s.sp.ar.length
      · rw [dif_pos hi2]
        simp only [List.getElem_singleton]
        exact h.le _ (List.getElem_mem hi2)
      · rw [dif_neg hi2]; simp
  · simp only [List.length_append, List.length_cons, List.length_nil] at hi
    by_cases hi2 : i < s.sp.ar.length
    · simp only [List.getElem_append, dif_pos hi2] at h2
      obtain ⟨j, hj, e⟩ := h.pre i hi2 q h1 h2
      exact ⟨j, hj, by simp only [List.getElem_append, dif_pos (show j < s.sp.ar.length by omega)]; exact e⟩
    · have : i = s.sp.ar.length := by omega
      subst this
      simp only [List.getElem_append, dif_neg hi2, List.getElem_singleton] at h2
      obtain ⟨j, hj, e⟩ := hd q h1 h2
      exact ⟨j, hj, by simp only [List.getElem_append, dif_pos hj]; exact e⟩
theorem ExB.stop {s : Ex} {k : Nat} (h : ExB s k) (c : Int) : ExB ⟨s.sp, c⟩ k := ⟨h.le, h.srt, h.pre⟩
theorem zc4 {n : Net} {start : List Int} {b : Int} {k : Nat} {s : Ex} {t : Int} (ho : ExOk n start b s) (h : ExB s k) : ExB (zc2 n b k s t) k := by
  have all : ∀ q : Nat, 1 ≤ q → q < s.sp.ms.length → ∃ j, ∃ hj : j < s.sp.ar.length, s.sp.ar[j].dst = q := fun q h1 h2 => by
    obtain ⟨i, hi, e, _⟩ := ho.back q (by omega) h2
    exact ⟨i, hi, e⟩
  by_cases h0 : s.code = 0
  case neg => rw [zcc h0]; exact h
  cases ha : (ze0 (trAt n t) (s.sp.ms.getD k [])).all (inB 0 50) with
  | false => rw [zcd h0 ha]; exact h.stop 3
  | true =>
    by_cases h2 : 0 ≤ findM s.sp.ms (ze0 (trAt n t) (s.sp.ms.getD k []))
    · rw [zca h0 ha h2]
      have := (zdq h2).1
      exact h.add fun q h3 h4 => all q h3 (by omega)
    · by_cases h3 : b ≤ s.sp.ms.length
      · rw [zc6 h0 ha h2 h3]; exact h.stop 2
      · rw [zc8 h0 ha h2 h3]
        exact h.add fun q h3 h4 => all q h3 (by omega)
theorem zbs {n : Net} {start : List Int} {b : Int} {k : Nat} : ∀ (l : List Int) (s : Ex), ExOk n start b s → ExB s k → k < s.sp.ms.length → (∀ t ∈ l, t ∈ enabL n (s.sp.ms.getD k [])) → ExB (exL n b k s l) k
  | [], s, _, h, _, _ => h
  | t :: l, s, ho, h, hk, hl => by
    have h1 := zc9 ho hk (hl t (by simp))
    obtain ⟨p, hp⟩ := zcb (n := n) (b := b) (k := k) (s := s) (t := t)
    have e : (zc2 n b k s t).sp.ms.getD k [] = s.sp.ms.getD k [] := by rw [hp, zg1 hk]
    exact zbs l (zc2 n b k s t) h1 (zc4 ho h) (by rw [hp]; simp; omega) (fun u hu => by rw [e]; exact hl u (by simp [hu]))
theorem ExB.up {s : Ex} {k k' : Nat} (h : ExB s k) (hk : k ≤ k') : ExB s k' := ⟨fun a ha => by have := h.le a ha; omega, h.srt, h.pre⟩
theorem zby {n : Net} {start : List Int} {b : Int} : ∀ (f k : Nat) (s : Ex), ExOk n start b s → ExB s k → ∃ k', ExB (exRun n b f k s) k'
  | 0, k, s, _, h => ⟨k, h⟩
  | f + 1, k, s, ho, h => by
    have er : exRun n b (f + 1) k s = if s.code ≠ 0 then s else if k < s.sp.ms.length then exRun n b f (k + 1) (exL n b k s (enabL n (s.sp.ms.getD k []))) else s := rfl
    rw [er]
    split
    · exact ⟨k, h⟩
    · split
      · rename_i hl
        exact zby f (k + 1) _ (zbv (start := start) (k := k) _ s ho hl (fun t ht => ht)).1 ((zbs _ s ho h hl (fun t ht => ht)).up (by omega))
      · exact ⟨k, h⟩
theorem zbo {n : Net} {start : List Int} {b : Int} (hm : zou n start = true) (hb : 1 ≤ b) : Bfs (exAll n start b).sp.ar (exAll n start b).sp.ms.length := by
  have ho := (zbq hm hb).1
  obtain ⟨k, h⟩ : ∃ k, ExB (exAll n start b) k := by
    unfold exAll
    refine zby (start := start) _ 0 _ ⟨rfl, fun m hm2 => ?_, by simp; omega, by simp, fun a ha => by simp at ha, fun j hj hl => ?_⟩ ⟨fun a ha => by simp at ha, fun i j _ hi => by simp at hi, fun i hi => by simp at hi⟩
    · simp only [List.mem_singleton] at hm2; subst hm2; exact hm
    · simp only [List.length_cons, List.length_nil] at hl; omega
  refine ⟨fun a ha => ?_, h.srt, h.pre, ho.back⟩
  have := ho.arcs a ha
  omega

/-! ### Ways of some arcs -/
def Dk (ar : List Arc3) (p : Int) : Nat → Int → Prop
  | 0, k => k = p
  | d + 1, k => ∃ a ∈ ar, a.src = k ∧ Dk ar p d a.dst
structure isFar (ar : List Arc3) (p : Int) (n : Nat) (F : List Int) : Prop where
  len : F.length = n
  val : ∀ k : Nat, k < n → (F[k]? = some (-1) ∧ ∀ e, ¬ Dk ar p e k) ∨ ∃ d : Nat, F[k]? = some (d : Int) ∧ Dk ar p d k ∧ ∀ e, e < d → ¬ Dk ar p e k
def treeW (ar : List Arc3) : Nat → Nat → List Int
  | 0, _ => []
  | f + 1, k => if k = 0 then [] else match ar[(arcTo ar k).toNat]? with
    | some a => treeW ar f a.src.toNat ++ [a.by_]
    | none => []
def tw (ar : List Arc3) (k : Nat) : List Int := treeW ar (k + 1) k
section
variable {ar : List Arc3} {n : Nat}
theorem Bfs.arc (h : Bfs ar n) {q : Nat} (h0 : 0 < q) (hq : q < n) : ∃ i, ∃ hi : i < ar.length, arcTo ar q = i ∧ ar[i].dst = q ∧ 0 ≤ ar[i].src ∧ ar[i].src < q ∧ ∀ i', (h' : i' < i) → (ar[i']'(by omega)).dst ≠ q := by
  obtain ⟨i, hi, e1, e2, e3⟩ := h.back q h0 hq
  refine ⟨i, hi, ?_, e1, (h.inn _ (List.getElem_mem hi)).1, e2, e3⟩
  unfold arcTo
  refine zho hi ?_ (decide_eq_true e1)
  rw [List.any_eq_false]
  intro x hx
  obtain ⟨i', h1, rfl⟩ := List.mem_iff_getElem.1 hx
  have h2 : i' < i := by simp at h1; omega
  have := e3 i' h2
  simpa using this
theorem z19b (h : Bfs ar n) : ∀ (f g k : Nat), k < n → k < f → k < g → treeW ar f k = treeW ar g k
  | 0, _, k, _, hf, _ => by omega
  | f + 1, 0, k, _, _, hg => by omega
  | f + 1, g + 1, k, hn, hf, hg => by
    unfold treeW
    split
    · rfl
    · rename_i h0
      obtain ⟨i, hi, e, _, e2, e3, _⟩ := h.arc (by omega) hn
      rw [e, Int.toNat_natCast, List.getElem?_eq_getElem hi]
      simp only
      rw [z19b h f g _ (by omega) (by omega) (by omega)]
theorem z19i : tw ar 0 = [] := rfl
theorem z19h (h : Bfs ar n) {k i : Nat} (h0 : 0 < k) (hk : k < n) (hi : i < ar.length) (e : arcTo ar k = i) : tw ar k = tw ar ar[i].src.toNat ++ [ar[i].by_] := by
  obtain ⟨j, hj, e1, _, e2, e3, _⟩ := h.arc h0 hk
  have hij : j = i := by rw [e] at e1; omega
  subst hij
  show (if k = 0 then [] else match ar[(arcTo ar k).toNat]? with | some a => treeW ar k a.src.toNat ++ [a.by_] | none => []) = _
  rw [if_neg (by omega), e, Int.toNat_natCast, List.getElem?_eq_getElem hj]
  simp only
  rw [z19b h k (ar[j].src.toNat + 1) _ (by omega) (by omega) (by omega)]; rfl
theorem z19f (h : Bfs ar n) : ∀ (k k' : Nat), k ≤ k' → k' < n → (tw ar k).length ≤ (tw ar k').length
  | 0, k', _, _ => by simp [z19i]
  | k + 1, k', hk, hn => by
    obtain ⟨i, hi, a1, a2, a3, a4, a5⟩ := h.arc (q := k + 1) (by omega) (by omega)
    obtain ⟨j, hj, b1, b2, b3, b4, b5⟩ := h.arc (q := k') (by omega) hn
    rw [z19h h (by omega) (by omega) hi a1, z19h h (by omega) hn hj b1]
    have hij : i ≤ j := by
      by_cases e : k + 1 = k'
      · subst e; rw [a1] at b1; omega
      · obtain ⟨j', hj', e'⟩ := h.pre j hj (k + 1) (by omega) (by omega)
        have : ¬ j' < i := fun hlt => a5 j' hlt e'
        omega
    have hs := h.srt i j hij hi hj
    have := z19f h ar[i].src.toNat ar[j].src.toNat (by omega) (by omega)
    simp only [List.length_append, List.length_cons, List.length_nil]; omega
termination_by k => k
decreasing_by all_goals omega
theorem z19g (h : Bfs ar n) {p : Nat} (hp : p < n) : ∀ (r k : Nat), k < n → Dk ar p r k → (tw ar p).length ≤ (tw ar k).length + r
  | 0, k, _, hd => by have : k = p := by simp only [Dk] at hd; omega
                      subst this; omega
  | r + 1, k, hk, ⟨a, hm, e, hd⟩ => by
    obtain ⟨a1, a2, a3, a4⟩ := h.inn a hm
    have hd2 : Dk ar p r (a.dst.toNat : Nat) := by rw [Int.toNat_of_nonneg a3]; exact hd
    have ih := z19g h hp r a.dst.toNat (by omega) hd2
    by_cases h0 : a.dst.toNat = 0
    · rw [h0, z19i, List.length_nil] at ih; omega
    · obtain ⟨i, hi, b1, b2, b3, b4, b5⟩ := h.arc (q := a.dst.toNat) (by omega) (by omega)
      obtain ⟨j, hj, rfl⟩ := List.mem_iff_getElem.1 hm
      have hij : i ≤ j := by
        have : ¬ j < i := fun hlt => b5 j hlt (by omega)
        omega
      have hs := h.srt i j hij hi hj
      rw [z19h h (by omega) (by omega) hi b1, List.length_append, List.length_cons, List.length_nil] at ih
      have := z19f h ar[i].src.toNat k (by omega) hk
      omega
inductive Tp (ar : List Arc3) (p : Nat) : Nat → List Int → Prop
  | refl : Tp ar p p []
  | step {c i : Nat} {U : List Int} (hi : i < ar.length) (e : arcTo ar c = i) (h0 : 0 < c) (t : Tp ar p c U) : Tp ar p ar[i].src.toNat (ar[i].by_ :: U)
theorem Tp.path (h : Bfs ar n) {p t : Nat} {U : List Int} (hp : p < n) (ht : Tp ar p t U) : t < n ∧ Dk ar p U.length t := by
  induction ht with
  | refl => exact ⟨hp, rfl⟩
  | step hi e h0 t ih =>
    rename_i c i U
    obtain ⟨j, hj, e1, e2, e3, e4, _⟩ := h.arc h0 ih.1
    have : j = i := by rw [e] at e1; omega
    subst this
    refine ⟨by omega, _, List.getElem_mem hi, (Int.toNat_of_nonneg e3).symm, ?_⟩
    rw [e2]; exact ih.2
theorem tw_tp (h : Bfs ar n) {p : Nat} (hp : p < n) : ∀ (k : Nat) (U : List Int), k < n → Tp ar p k U → Tp ar p 0 (tw ar k ++ U)
  | 0, U, _, ht => by rw [z19i]; exact ht
  | k + 1, U, hk, ht => by
    obtain ⟨i, hi, e1, e2, e3, e4, _⟩ := h.arc (q := k + 1) (by omega) hk
    rw [z19h h (by omega) hk hi e1, List.append_assoc]
    exact tw_tp h hp ar[i].src.toNat _ (by omega) (.step hi e1 (by omega) ht)
termination_by k => k
decreasing_by all_goals omega
theorem zri (h : Bfs ar n) {p : Nat} (hp : p < n) : ∀ (U : List Int) (x c : Nat), x < c → Tp ar p c U → Dk ar p U.length x → False
  | [], x, c, hx, ht, hd => by
    cases ht
    simp only [List.length_nil, Dk] at hd; omega
  | b :: U, x, c, hx, ht, hd => by
    cases ht
    rename_i c' i hi e h0 t
    obtain ⟨a, hm, e2, hd2⟩ := hd
    obtain ⟨j, hj, rfl⟩ := List.mem_iff_getElem.1 hm
    obtain ⟨a1, a2, a3, a4⟩ := h.inn _ hm
    have hc := (Tp.path h hp t).1
    obtain ⟨i2, hi2, f1, f2, f3, f4, f5⟩ := h.arc h0 hc
    have : i2 = i := by rw [e] at f1; omega
    subst this
    have hji : j < i2 := by
      apply Decidable.byContradiction
      intro hn
      have := h.srt i2 j (by omega) hi hj
      omega
    have hlt : ar[j].dst.toNat < c' := by
      apply Decidable.byContradiction
      intro hn
      by_cases he : ar[j].dst.toNat = c'
      · exact f5 j hji (by omega)
      · obtain ⟨j', hj', e'⟩ := h.pre j hj c' h0 (by omega)
        exact f5 j' (by omega) e'
    exact zri h hp U _ c' hlt t (by rw [Int.toNat_of_nonneg a3]; exact hd2)
inductive Gd (ar : List Arc3) (F : List Int) (p : Nat) : Nat → List Int → Prop
  | refl : Gd ar F p p []
  | step {t i : Nat} {W : List Int} (hne : t ≠ p) (hi : i < ar.length) (hs : ar[i].src = t) (hf : ∀ u v, F[ar[i].dst.toNat]? = some u → F[t]? = some v → u = v - 1) (hm : ∀ j, (hj : j < i) → (ar[j]'(by omega)).src = t → ∀ u v, F[(ar[j]'(by omega)).dst.toNat]? = some u → F[t]? = some v → u ≠ v - 1)
      (g : Gd ar F p ar[i].dst.toNat W) : Gd ar F p t (ar[i].by_ :: W)
theorem isFar.at_ {p : Nat} {F : List Int} (hF : isFar ar p n F) {k d : Nat} (hk : k < n) (hd : Dk ar p d k) (hm : ∀ e, e < d → ¬ Dk ar p e k) : F[k]? = some (d : Int) := by
  rcases hF.val k hk with ⟨_, h⟩ | ⟨d', h1, h2, h3⟩
  · exact (h d hd).elim
  · have : d' = d := by
      rcases Nat.lt_trichotomy d d' with h | h | h
      · exact (h3 d h hd).elim
      · exact h.symm
      · exact (hm d' h h2).elim
    rw [h1, this]
theorem zft (h : Bfs ar n) {p : Nat} (hp : p < n) {F : List Int} (hF : isFar ar p n F) : ∀ {t : Nat} {W : List Int}, Gd ar F p t W → ∀ {U : List Int}, Tp ar p t U → (∀ e, e < U.length → ¬ Dk ar p e t) → W = U := by
  intro t W hg
  induction hg with
  | refl =>
    intro U ht hm
    cases U with
    | nil => rfl
    | cons b U => exact (hm 0 (by simp) rfl).elim
  | step hne hi hs hf hm g ih =>
    intro U ht hmin
    cases ht with
    | refl => exact (hne rfl).elim
    | step hj e h0 t' =>
      rename_i i W c j U
      obtain ⟨hcn, hdc⟩ := Tp.path h hp t'
      obtain ⟨j2, hj2, f1, f2, f3, f4, f5⟩ := h.arc h0 hcn
      have : j2 = j := by rw [e] at f1; omega
      subst this
      have hminc : ∀ e, e < U.length → ¬ Dk ar p e c := fun e he hd => hmin (e + 1) (by simp; omega) ⟨_, List.getElem_mem hj, (Int.toNat_of_nonneg f3).symm, by rw [f2]; exact hd⟩
      have hFc := hF.at_ hcn hdc hminc
      have htn : ar[j2].src.toNat < n := by omega
      have hFt := hF.at_ htn (d := U.length + 1) ⟨_, List.getElem_mem hj, (Int.toNat_of_nonneg f3).symm, by rw [f2]; exact hdc⟩ (by simpa using hmin)
      have hij : i ≤ j2 := by
        apply Decidable.byContradiction
        intro hn
        refine hm j2 (by omega) (Int.toNat_of_nonneg f3).symm U.length (U.length + 1 : Nat) ?_ hFt (by omega)
        rw [f2, Int.toNat_natCast]; exact hFc
      have hieq : i = j2 := by
        apply Decidable.byContradiction
        intro hn
        have hlt : i < j2 := by omega
        obtain ⟨a1, a2, a3, a4⟩ := h.inn _ (List.getElem_mem hi)
        have hxn : ar[i].dst.toNat < n := by omega
        obtain ⟨u, hu⟩ : ∃ u, F[ar[i].dst.toNat]? = some u := ⟨_, List.getElem?_eq_getElem (by rw [hF.len]; exact hxn)⟩
        have hux := hf u _ hu hFt
        have hDx : Dk ar p U.length (ar[i].dst.toNat : Nat) := by
          rcases hF.val _ hxn with ⟨h1, _⟩ | ⟨d, h1, h2, _⟩
          · rw [h1] at hu; have := Option.some.inj hu; omega
          · rw [h1] at hu
            have : d = U.length := by have := Option.some.inj hu; omega
            rw [← this]; exact h2
        have hxc : ar[i].dst.toNat < c := by
          apply Decidable.byContradiction
          intro hn2
          by_cases he : ar[i].dst.toNat = c
          · exact f5 i hlt (by omega)
          · obtain ⟨j', hj', e'⟩ := h.pre i hi c h0 (by omega)
            exact f5 j' (by omega) e'
        exact zri h hp U _ c hxc t' hDx
      subst hieq
      have hdst : ar[i].dst.toNat = c := by omega
      rw [ih (hdst ▸ t') (by rw [hdst]; exact hminc)]
theorem gd_tw (h : Bfs ar n) {p : Nat} (hp : p < n) {F : List Int} (hF : isFar ar p n F) {W : List Int} (hg : Gd ar F p 0 W) : W = tw ar p := by
  have ht := tw_tp h hp p [] hp .refl
  rw [List.append_nil] at ht
  refine zft h hp hF hg ht fun e he hd => ?_
  have := z19g h hp e 0 (by omega) hd
  rw [z19i, List.length_nil] at this
  omega
end
end Go.Proofs.YtkkifebmicbbaaaGreat.Pi
namespace Go.Proofs.YtkkifebmicbbaaaGreat.Pi
open Go
set_option linter.all false

structure FQ (ar : List Arc3) (p : Int) (n : Nat) (F q : List Int) (w : Int → Prop) : Prop where
  len : F.length = n
  val : ∀ k : Nat, ∀ u, F[k]? = some u → u = -1 ∨ ∃ d : Nat, u = d ∧ Dk ar p d k
  zero : F[p.toNat]? = some 0
  inn : ∀ x ∈ q, 0 ≤ x ∧ ∃ d : Nat, F[x.toNat]? = some (d : Int)
  srt : q.Pairwise fun x y => ∀ u v, F[x.toNat]? = some u → F[y.toNat]? = some v → u ≤ v
  bnd : ∀ k : Nat, ∀ u, F[k]? = some u → ∀ x ∈ q, ∀ v, F[x.toNat]? = some v → u ≤ v + 1
  cls : ∀ a ∈ ar, ∀ u, F[a.dst.toNat]? = some u → 0 ≤ u → a.dst ∉ q → ¬ w a.dst → ∃ v, F[a.src.toNat]? = some v ∧ 0 ≤ v ∧ v ≤ u + 1
def cntU (F : List Int) : Nat := F.countP fun x => decide (x < 0)
theorem z9p {F : List Int} {k : Nat} {v : Int} (h : F[k]? = some (-1)) (hv : 0 ≤ v) : cntU (F.set k v) < cntU F := by
  induction F generalizing k with
  | nil => simp at h
  | cons x F ih =>
    cases k with
    | zero =>
      simp at h; subst h
      simp [cntU, List.countP_cons, show ¬ v < 0 by omega]
    | succ k =>
      have := ih (k := k) (by simpa using h)
      simp only [cntU, List.set_cons_succ, List.countP_cons] at this ⊢
      omega
section
variable {ar : List Arc3} {p : Int} {n : Nat} {F q : List Int}
theorem FQ.end_ (h : FQ ar p n F [] fun _ => False) (ha : z3u ar n) (hp : 0 ≤ p ∧ p < n) : isFar ar p n F := by
  have key : ∀ (e k : Nat), k < n → Dk ar p e k → ∃ u, F[k]? = some u ∧ 0 ≤ u ∧ u ≤ e := by
    intro e
    induction e with
    | zero =>
      intro k hk hd
      simp only [Dk] at hd
      refine ⟨0, ?_, by omega, by omega⟩
      have := h.zero
      rwa [← hd, Int.toNat_natCast] at this
    | succ e ih =>
      rintro k hk ⟨a, hm, e1, hd⟩
      obtain ⟨a1, a2, a3, a4⟩ := ha a hm
      obtain ⟨u, h1, h2, h3⟩ := ih a.dst.toNat (by omega) (by rw [Int.toNat_of_nonneg a3]; exact hd)
      obtain ⟨v, h4, h5, h6⟩ := h.cls a hm u h1 h2 (by simp) (by simp)
      rw [e1, Int.toNat_natCast] at h4
      exact ⟨v, h4, h5, by omega⟩
  refine ⟨h.len, fun k hk => ?_⟩
  have hkl : k < F.length := by rw [h.len]; exact hk
  rcases h.val k _ (List.getElem?_eq_getElem hkl) with h1 | ⟨d, h1, h2⟩
  · refine .inl ⟨by rw [List.getElem?_eq_getElem hkl, h1], fun e hd => ?_⟩
    obtain ⟨u, g1, g2, _⟩ := key e k hk hd
    rw [List.getElem?_eq_getElem hkl, h1] at g1
    have := Option.some.inj g1
    omega
  · refine .inr ⟨d, by rw [List.getElem?_eq_getElem hkl, h1], h2, fun e he hd => ?_⟩
    obtain ⟨u, g1, _, g3⟩ := key e k hk hd
    rw [List.getElem?_eq_getElem hkl, h1] at g1
    have := Option.some.inj g1
    omega
theorem FQ.start (ha : z3u ar n) (hp : 0 ≤ p ∧ p < n) : FQ ar p n ((List.replicate n (-1)).set p.toNat 0) [p] fun _ => False := by
  have hl : p.toNat < (List.replicate n (-1 : Int)).length := by simp; omega
  have hz : ((List.replicate n (-1 : Int)).set p.toNat 0)[p.toNat]? = some 0 := by rw [List.getElem?_set_self hl]
  have hall : ∀ (k : Nat) (u : Int), ((List.replicate n (-1 : Int)).set p.toNat 0)[k]? = some u → (k = p.toNat ∧ u = 0) ∨ u = -1 := by
    intro k u h
    rw [List.getElem?_set] at h
    split at h
    · rename_i e
      exact .inl ⟨e.symm, (Option.some.inj h).symm⟩
    · rw [List.getElem?_replicate] at h
      split at h
      · exact .inr (Option.some.inj h).symm
      · cases h
  refine ⟨by simp, fun k u h => ?_, hz, fun x hx => ?_, by simp, fun k u h x hx v hv => ?_, fun a hm u h h0 hq _ => ?_⟩
  · rcases hall k u h with ⟨h1, h2⟩ | h1
    · exact .inr ⟨0, h2, by simp only [Dk]; omega⟩
    · exact .inl h1
  · rw [List.mem_singleton] at hx; subst hx; exact ⟨hp.1, 0, hz⟩
  · rw [List.mem_singleton] at hx; subst hx
    rw [hz] at hv
    have := Option.some.inj hv
    rcases hall k u h with ⟨_, h2⟩ | h1 <;> omega
  · rcases hall _ u h with ⟨h1, _⟩ | h1
    · refine (hq ?_).elim
      rw [List.mem_singleton]
      have := (ha a hm).2.2.1
      omega
    · omega
structure FW (ar : List Arc3) (p : Int) (n : Nat) (x : Int) (d : Nat) (m : Nat) (F q : List Int) : Prop extends FQ ar p n F q (fun y => y = x) where
  at_ : F[x.toNat]? = some (d : Int)
  pos : 0 ≤ x ∧ x < n
  dk : Dk ar p d x
  low : ∀ y ∈ q, ∀ v, F[y.toNat]? = some v → (d : Int) ≤ v
  top : ∀ k : Nat, ∀ u, F[k]? = some u → u ≤ d + 1
  up : ∀ j, j < m → ∀ a, ar[j]? = some a → a.dst = x → ∃ v, F[a.src.toNat]? = some v ∧ 0 ≤ v ∧ v ≤ d + 1
theorem FQ.look {x : Int} (h : FQ ar p n F (x :: q) fun _ => False) : ∃ d : Nat, FW ar p n x d 0 F q := by
  obtain ⟨h0, d, hd⟩ := h.inn x (by simp)
  have hlt := (List.getElem?_eq_some_iff.1 hd).1
  have hs := List.pairwise_cons.1 h.srt
  refine ⟨d, ⟨h.len, h.val, h.zero, fun y hy => h.inn y (by simp [hy]), hs.2, fun k u hu y hy => h.bnd k u hu y (by simp [hy]), fun a hm u hu h1 hq hw => h.cls a hm u hu h1 (by simp; exact ⟨hw, hq⟩) (by simp)⟩, hd, ⟨h0, by have := h.len; omega⟩, ?_, fun y hy v hv => hs.1 y hy _ v hd hv, fun k u hu => by have := h.bnd k u hu x (by simp) _ hd; omega, fun j hj => by omega⟩
  rcases h.val _ _ hd with h1 | ⟨d', h1, h2⟩
  · omega
  · have : d' = d := by omega
    rw [← this, ← Int.toNat_of_nonneg h0]; exact h2
theorem FW.next {x : Int} {d : Nat} (h : FW ar p n x d ar.length F q) : FQ ar p n F q fun _ => False := by
  refine ⟨h.len, h.val, h.zero, h.inn, h.srt, h.bnd, fun a hm u hu h1 hq _ => ?_⟩
  by_cases e : a.dst = x
  · obtain ⟨j, hj, he⟩ := List.mem_iff_getElem.1 hm
    obtain ⟨v, g1, g2, g3⟩ := h.up j hj a (by rw [List.getElem?_eq_getElem hj, he]) e
    rw [e, h.at_] at hu
    have := Option.some.inj hu
    exact ⟨v, g1, g2, by omega⟩
  · exact h.cls a hm u hu h1 hq e
theorem FW.old {x : Int} {d m : Nat} (h : FW ar p n x d m F q) (hm : m < ar.length) (hc : ar[m].dst = x → ∃ v, F[ar[m].src.toNat]? = some v ∧ 0 ≤ v) : FW ar p n x d (m + 1) F q := by
  refine ⟨h.toFQ, h.at_, h.pos, h.dk, h.low, h.top, fun j hj a ha e => ?_⟩
  by_cases ej : j = m
  · subst ej
    rw [List.getElem?_eq_getElem hm] at ha
    cases ha
    obtain ⟨v, g1, g2⟩ := hc e
    exact ⟨v, g1, g2, h.top _ v g1⟩
  · exact h.up j (by omega) a ha e
theorem FW.new {x : Int} {d m : Nat} (h : FW ar p n x d m F q) (ha : z3u ar n) (hm : m < ar.length) (hd : ar[m].dst = x) (hc : F[ar[m].src.toNat]? = some (-1)) : FW ar p n x d (m + 1) (F.set ar[m].src.toNat (d + 1)) (q ++ [ar[m].src]) := by
  have hmm := List.getElem_mem hm
  obtain ⟨a1, a2, a3, a4⟩ := ha _ hmm
  have hup := h.up
  have hdk : Dk ar p (d + 1) ar[m].src := ⟨ar[m], hmm, rfl, by rw [hd]; exact h.dk⟩
  generalize hy : ar[m].src = y at *
  have hyl : y.toNat < F.length := (List.getElem?_eq_some_iff.1 hc).1
  have hself : (F.set y.toNat ((d : Int) + 1))[y.toNat]? = some ((d : Int) + 1) := by rw [List.getElem?_set_self hyl]
  have get : ∀ (k : Nat) (u : Int), (F.set y.toNat ((d : Int) + 1))[k]? = some u → (k = y.toNat ∧ u = d + 1) ∨ (k ≠ y.toNat ∧ F[k]? = some u) := by
    intro k u hu
    rw [List.getElem?_set] at hu
    split at hu
    · rename_i e
      exact .inl ⟨e.symm, (Option.some.inj hu).symm⟩
    · rename_i e; exact .inr ⟨fun h => e h.symm, hu⟩
  have keep : ∀ (k : Nat) (u : Int), F[k]? = some u → 0 ≤ u → (F.set y.toNat ((d : Int) + 1))[k]? = some u := by
    intro k u hu h0
    rw [List.getElem?_set_ne]; exact hu
    rintro rfl
    rw [hc] at hu
    have := Option.some.inj hu
    omega
  have hqy : ∀ z ∈ q, z.toNat ≠ y.toNat := by
    intro z hz e
    obtain ⟨_, d', h1⟩ := h.inn z hz
    rw [e, hc] at h1
    have := Option.some.inj h1
    omega
  refine ⟨⟨by simp [h.len], fun k u hu => ?_, keep _ _ h.zero (by omega), fun z hz => ?_, ?_, fun k u hu z hz v hv => ?_, fun a hma u hu h1 hq hw => ?_⟩, keep _ _ h.at_ (by omega), h.pos, h.dk, fun z hz v hv => ?_, fun k u hu => ?_, fun j hj a hja e => ?_⟩
  · rcases get k u hu with ⟨rfl, rfl⟩ | ⟨_, h1⟩
    · exact .inr ⟨d + 1, by omega, by rw [Int.toNat_of_nonneg a1]; exact hdk⟩
    · exact h.val k u h1
  · rcases List.mem_append.1 hz with hz | hz
    · obtain ⟨h0, d', h1⟩ := h.inn z hz
      exact ⟨h0, d', keep _ _ h1 (by omega)⟩
    · rw [List.mem_singleton] at hz; subst hz
      exact ⟨a1, d + 1, by rw [hself]; congr 1⟩
  · rw [List.pairwise_append]
    refine ⟨h.srt.imp_of_mem fun {z z'} hz hz' hp u v hu hv => ?_, by simp, fun z hz z' hz' u v hu hv => ?_⟩
    · rcases get _ u hu with ⟨e, _⟩ | ⟨_, g1⟩
      · exact (hqy z hz e).elim
      rcases get _ v hv with ⟨e, _⟩ | ⟨_, g2⟩
      · exact (hqy z' hz' e).elim
      exact hp u v g1 g2
    · rw [List.mem_singleton] at hz'; subst hz'
      rcases get _ u hu with ⟨e, _⟩ | ⟨_, g1⟩
      · exact (hqy z hz e).elim
      rw [hself] at hv
      have := Option.some.inj hv
      have := h.top _ u g1
      omega
  · have hku : u ≤ d + 1 := by
      rcases get k u hu with ⟨_, rfl⟩ | ⟨_, g1⟩
      · omega
      · exact h.top k u g1
    have hvd : (d : Int) ≤ v := by
      rcases get _ v hv with ⟨_, rfl⟩ | ⟨e, g1⟩
      · omega
      · rcases List.mem_append.1 hz with hz | hz
        · exact h.low z hz v g1
        · rw [List.mem_singleton] at hz; subst hz; exact (e rfl).elim
    omega
  · rcases get _ u hu with ⟨e, _⟩ | ⟨_, g1⟩
    · refine (hq (List.mem_append.2 (.inr ?_))).elim
      rw [List.mem_singleton]
      have := (ha a hma).2.2.1
      omega
    · obtain ⟨v, g2, g3, g4⟩ := h.cls a hma u g1 h1 (fun hz => hq (List.mem_append.2 (.inl hz))) hw
      exact ⟨v, keep _ _ g2 g3, g3, g4⟩
  · rcases List.mem_append.1 hz with hz | hz
    · rcases get _ v hv with ⟨_, rfl⟩ | ⟨_, g1⟩
      · omega
      · exact h.low z hz v g1
    · rw [List.mem_singleton] at hz; subst hz
      rw [hself] at hv
      have := Option.some.inj hv
      omega
  · rcases get k u hu with ⟨_, rfl⟩ | ⟨_, g1⟩
    · omega
    · exact h.top k u g1
  · by_cases ej : j = m
    · subst ej
      rw [List.getElem?_eq_getElem hm] at hja
      cases hja
      rw [hy]
      exact ⟨d + 1, hself, by omega, by omega⟩
    · obtain ⟨v, g1, g2, g3⟩ := hup j (by omega) a hja e
      exact ⟨v, keep _ _ g1 g2, g2, g3⟩
theorem z19e (h : Bfs ar n) : ∀ k : Nat, k < n → (tw ar k).length ≤ k
  | 0, _ => by simp [z19i]
  | k + 1, hk => by
    obtain ⟨i, hi, e1, e2, e3, e4, _⟩ := h.arc (q := k + 1) (by omega) hk
    rw [z19h h (by omega) hk hi e1, List.length_append, List.length_cons, List.length_nil]
    have := z19e h ar[i].src.toNat (by omega)
    omega
termination_by k => k
decreasing_by all_goals omega
theorem isFar.begin_ (h : Bfs ar n) {p : Nat} (hp : p < n) {F : List Int} (hF : isFar ar p n F) : ∃ d : Nat, F[0]? = some (d : Int) ∧ d < n := by
  have hd := (Tp.path h hp (tw_tp h hp p [] hp .refl)).2
  rw [List.append_nil] at hd
  rcases hF.val 0 (by omega) with ⟨_, h1⟩ | ⟨d, h1, _, h3⟩
  · exact (h1 _ hd).elim
  · refine ⟨d, h1, ?_⟩
    have := z19e h p hp
    apply Decidable.byContradiction
    intro hn
    exact h3 _ (by omega) hd
theorem isFar.near {p : Nat} {F : List Int} (ha : z3u ar n) (hF : isFar ar p n F) {t j : Nat} (ht : t < n) (htp : t ≠ p) (hFt : F[t]? = some (j : Int)) : ∃ i, ∃ hi : i < ar.length, ar[i].src = t ∧ F[ar[i].dst.toNat]? = some ((j : Int) - 1) := by
  rcases hF.val t ht with ⟨h1, _⟩ | ⟨d, h1, h2, h3⟩
  · rw [hFt] at h1; have := Option.some.inj h1; omega
  · have hdj : d = j := by rw [hFt] at h1; have := Option.some.inj h1; omega
    subst hdj
    cases d with
    | zero => simp only [Dk] at h2; omega
    | succ d =>
      obtain ⟨a, hm, e, hd⟩ := h2
      obtain ⟨i, hi, rfl⟩ := List.mem_iff_getElem.1 hm
      obtain ⟨a1, a2, a3, a4⟩ := ha _ hm
      refine ⟨i, hi, e, ?_⟩
      have := hF.at_ (k := ar[i].dst.toNat) (d := d) (by omega) (by rw [Int.toNat_of_nonneg a3]; exact hd) (fun e' he' hd' => h3 (e' + 1) (by omega) ⟨_, hm, e, by rw [Int.toNat_of_nonneg a3] at hd'; exact hd'⟩)
      rw [this]; congr 1; omega
theorem isFar.pos {p : Nat} {F : List Int} (hF : isFar ar p n F) {t j : Nat} (ht : t < n) (htp : t ≠ p) (hFt : F[t]? = some (j : Int)) : 0 < j := by
  rcases hF.val t ht with ⟨h1, _⟩ | ⟨d, h1, h2, _⟩
  · rw [hFt] at h1; have := Option.some.inj h1; omega
  · rw [hFt] at h1
    have e := Option.some.inj h1
    cases d with
    | zero => simp only [Dk] at h2; omega
    | succ d => omega
def bndF (n : Nat) (F : List Int) : Prop := ∀ (k : Nat) (u : Int), F[k]? = some u → u + cntU F + 1 ≤ n
theorem z9o (F : List Int) : cntU F ≤ F.length := List.countP_le_length
theorem z6h {p : Nat} (hp : p < n) : bndF n ((List.replicate n (-1)).set p 0) := by
  have h1 := z9p (F := List.replicate n (-1)) (k := p) (v := 0) (by rw [List.getElem?_replicate, if_pos hp]) (by omega)
  have h2 := z9o (List.replicate n (-1))
  rw [List.length_replicate] at h2
  intro k u hu
  have : u ≤ 0 := by
    rw [List.getElem?_set] at hu
    split at hu
    · rename_i e
      subst e
      rw [List.length_replicate] at hu
      simp only [hp, if_true] at hu
      have := Option.some.inj hu; omega
    · rw [List.getElem?_replicate] at hu
      split at hu
      · have := Option.some.inj hu; omega
      · cases hu
  omega
theorem z6g {x y : Nat} {d : Nat} (h : bndF n F) (hx : F[x]? = some (d : Int)) (hy : F[y]? = some (-1)) : bndF n (F.set y (d + 1)) := by
  have h1 := z9p (F := F) (k := y) (v := (d : Int) + 1) hy (by omega)
  have h2 := h x _ hx
  intro k u hu
  rw [List.getElem?_set] at hu
  split at hu
  · rename_i e
    subst e
    have hyl := (List.getElem?_eq_some_iff.1 hy).1
    have hu' : u = d + 1 := by
      first
        | exact (Option.some.inj hu).symm
        | (simp only [hyl, if_true] at hu; exact (Option.some.inj hu).symm)
    omega
  · have := h k u hu; omega
theorem isFar.nonneg {p : Nat} {F : List Int} (hF : isFar ar p n F) : ∀ (k : Nat) (u : Int), F[k]? = some u → -1 ≤ u ∧ (u = -1 ∨ 0 ≤ u) := by
  intro k u hu
  have hk : k < n := by rw [← hF.len]; exact (List.getElem?_eq_some_iff.1 hu).1
  rcases hF.val k hk with ⟨h1, _⟩ | ⟨d, h1, _⟩ <;> (rw [h1] at hu; have := Option.some.inj hu; omega)
end
end Go.Proofs.YtkkifebmicbbaaaGreat.Pi
namespace Go.Proofs.YtkkifebmicbbaaaGreat.Pi
open Go
set_option linter.all false

structure Vd where
  ok : Int
  kind : Int
  way : List Int
  dead : Int
def overB (a b : List Int) : Bool := zaa a b && !decide (a = b)
def deadK (ar : List Arc3) (k : Nat) : List Int := ((List.range k).filter fun (t : Nat) => !ar.any fun a => decide (a.by_ = (t : Int))).map fun (t : Nat) => (t : Int)
theorem zaf (ar : List Arc3) : deadK ar 0 = [] := rfl
theorem zae (ar : List Arc3) (k : Nat) : deadK ar (k + 1) = deadK ar k ++ (if (ar.any fun a => decide (a.by_ = (k : Int))) = true then [] else [(k : Int)]) := by
  unfold deadK
  rw [List.range_succ, List.filter_append, List.map_append]
  congr 1
  rw [List.filter_cons]
  cases ar.any fun a => decide (a.by_ = (k : Int)) <;> simp
theorem zad (ar : List Arc3) (k : Nat) : (deadK ar k).length ≤ k := by
  unfold deadK
  rw [List.length_map]
  exact Nat.le_trans (List.length_filter_le ..) (by simp)
def endS (ms : List (List Int)) (E : List Int) : List Int := if 0 ≤ findM ms E then [findM ms E] else []
noncomputable def chkV (nt : Nat) (ms : List (List Int)) (ar : List Arc3) (E : List Int) : Vd :=
  if 0 ≤ idxI (toL ar ms.length (endS ms E)) (fun x => x == false) then ⟨2, 1, tw ar (idxI (toL ar ms.length (endS ms E)) (fun x => x == false)).toNat, 0⟩
  else if 0 ≤ idxI ms (fun m => overB m E) then ⟨2, 2, tw ar (idxI ms (fun m => overB m E)).toNat, 0⟩
  else if 0 < (deadK ar nt).length then ⟨2, 3, [], (deadK ar nt).getD 0 0⟩
  else ⟨1, 0, [], 0⟩
noncomputable def sndV (f : Fl) (b : Int) : Vd :=
  if (exAll f.net (oneM f.net.pl.toNat f.src) b).code = 0 then
    if (chkV f.net.tr.length (exAll f.net (oneM f.net.pl.toNat f.src) b).sp.ms (exAll f.net (oneM f.net.pl.toNat f.src) b).sp.ar (oneM f.net.pl.toNat f.dst)).way.length ≤ 60 then
      chkV f.net.tr.length (exAll f.net (oneM f.net.pl.toNat f.src) b).sp.ms (exAll f.net (oneM f.net.pl.toNat f.src) b).sp.ar (oneM f.net.pl.toNat f.dst)
    else ⟨3, 0, [], 0⟩
  else ⟨3, 0, [], 0⟩
def safeV (f : Fl) (b : Int) : Bool := decide ((exAll f.net (oneM f.net.pl.toNat f.src) b).code = 0) && (exAll f.net (oneM f.net.pl.toNat f.src) b).sp.ms.all fun m => m.all (inB 0 1)
noncomputable def admC (f : Fl) (b : Int) : Int := if (sndV f b).ok = 1 then (if safeV f b = true then 0 else 2) else 1
theorem z8n (nt : Nat) (ms : List (List Int)) (ar : List Arc3) (E : List Int) : ¬ ((chkV nt ms ar E).kind = 1 ∨ (chkV nt ms ar E).kind = 2) → (chkV nt ms ar E).way = [] := by
  unfold chkV
  split
  · simp
  · split
    · simp
    · split <;> simp
theorem z8m {nt : Nat} {ms : List (List Int)} {ar : List Arc3} {E : List Int} (hb : Bfs ar ms.length) : (chkV nt ms ar E).way.length ≤ ms.length := by
  unfold chkV
  have h1 := zhm (toL ar ms.length (endS ms E)) (fun x => x == false)
  have h2 := zhm ms (fun m => overB m E)
  rw [z18q] at h1
  split
  · have := z19e hb (idxI (toL ar ms.length (endS ms E)) (fun x => x == false)).toNat (by omega)
    simp only; omega
  · split
    · have := z19e hb (idxI ms (fun m => overB m E)).toNat (by omega)
      simp only; omega
    · split <;> simp
theorem zt6 {f : Fl} (h : zg7 f = true) : zou f.net (oneM f.net.pl.toNat f.src) = true := by
  obtain ⟨g1, g2, _⟩ := zga h
  simp only [zou, g1, Bool.true_and]
  exact zt1 g1 g2
end Go.Proofs.YtkkifebmicbbaaaGreat.Pi
