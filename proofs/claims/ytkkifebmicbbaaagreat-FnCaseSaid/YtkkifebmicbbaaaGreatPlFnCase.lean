/- The plain laws. -/
import Derived.Test.YtkkifebmicbbaaaGreatPiRy
import Derived.Laws.BitsLemmas
namespace Go.Proofs.YtkkifebmicbbaaaGreat.Pi
open Go
set_option linter.all false

abbrev bys (l : List Int) : PV := .sl true 1 (l.map (PV.int .u8))
abbrev rows (l : List (List Int)) : PV := .sl false 1 (l.map ints)

theorem z1a8 {α : Type} {l : List α} {k : Nat} (hk : k < l.length) : l.take (k + 1) = l.take k ++ [l[k]] := List.take_succ_eq_append_getElem hk
theorem z2s {α : Type} {l : List α} {p : α → Bool} {k : Nat} (hk : k < l.length) (h : (l.take k).all p = true) (hp : p l[k] = true) : (l.take (k + 1)).all p = true := by
  rw [z1a8 hk, List.all_append, h, List.all_cons, hp]; rfl
theorem z2r {α : Type} {l : List α} {p : α → Bool} {k : Nat} (hk : k < l.length) (hp : p l[k] = false) : l.all p = false := by
  rw [List.all_eq_false]; exact ⟨l[k], List.getElem_mem hk, by simp [hp]⟩
theorem z37 {α : Type} {l : List α} {p : α → Bool} {k : Nat} (hk : k < l.length) (h : (l.take k).any p = false) (hp : p l[k] = false) : (l.take (k + 1)).any p = false := by
  rw [z1a8 hk, List.any_append, h, List.any_cons, hp]; rfl
def inB (lo hi n : Int) : Bool := decide (lo ≤ n) && decide (n ≤ hi)
def goodM (p : Int) (m : List Int) : Bool := inB 1 16 p && (m.length : Int) == p && m.all (inB 0 50)
theorem zh2 {p : Int} {m : List Int} (h : goodM p m = true) : 1 ≤ p ∧ p ≤ 16 ∧ (m.length : Int) = p ∧ m.length ≤ 16 ∧ ∀ x ∈ m, 0 ≤ x ∧ x ≤ 50 := by
  simp [goodM, inB] at h
  refine ⟨h.1.1.1, h.1.1.2, h.1.2, by omega, fun x hx => h.2 x hx⟩

def sumI (l : List Int) : Int := l.foldl (· + ·) 0
theorem z19l (l : List Int) (x : Int) : sumI (l ++ [x]) = sumI l + x := by simp [sumI]
theorem z19m {l : List Int} {k : Nat} (hk : k < l.length) : sumI (l.take (k + 1)) = sumI (l.take k) + l[k] := by
  rw [z1a8 hk, z19l]
theorem z19f {l : List Int} {b : Int} (h : ∀ x ∈ l, 0 ≤ x ∧ x ≤ b) : ∀ k, k ≤ l.length → 0 ≤ sumI (l.take k) ∧ sumI (l.take k) ≤ b * k
  | 0, _ => by simp [sumI]
  | k + 1, hk => by
    obtain ⟨h1, h2⟩ := z19f h k (by omega)
    have := h l[k] (List.getElem_mem (by omega))
    rw [z19m (by omega)]
    refine ⟨by omega, ?_⟩
    have : b * (↑(k + 1) : Int) = b * k + b := by rw [Int.natCast_add, Int.mul_add]; simp
    omega
def zaq (a b : List Int) : Bool := (a.zip b).all fun p => decide (p.2 ≤ p.1)

def idxI {α : Type} (l : List α) (p : α → Bool) : Int := match l.findIdx? p with
  | some k => k
  | none => -1
theorem zid {α : Type} {l : List α} {p : α → Bool} {k : Nat} (hk : k < l.length) (h : (l.take k).any p = false) (hp : p l[k] = true) : idxI l p = k := by
  have : l.findIdx? p = some k := by
    rw [List.findIdx?_eq_some_iff_getElem]
    refine ⟨hk, hp, fun j hj => ?_⟩
    rw [List.any_eq_false] at h
    have hjl : j < l.length := by omega
    have := h l[j] (by rw [List.mem_iff_getElem]; exact ⟨j, by simp; omega, by simp⟩)
    simpa using this
  simp [idxI, this]
theorem zic {α : Type} {l : List α} {p : α → Bool} (h : l.any p = false) : idxI l p = -1 := by
  have : l.findIdx? p = none := by
    rw [List.findIdx?_eq_none_iff]
    rw [List.any_eq_false] at h
    intro x hx; simpa using h x hx
  simp [idxI, this]
theorem zia {α : Type} (l : List α) (p : α → Bool) : l.any p = decide (0 ≤ idxI l p) := by
  unfold idxI
  cases h : l.findIdx? p with
  | none =>
    rw [List.findIdx?_eq_none_iff] at h
    simp only [List.any_eq_false.2 (fun x hx => by simpa using h x hx)]
    rfl
  | some k =>
    rw [List.findIdx?_eq_some_iff_getElem] at h
    obtain ⟨h1, h2, _⟩ := h
    rw [List.any_eq_true.2 ⟨l[k], List.getElem_mem h1, h2⟩]
    simp
theorem zib {α : Type} (l : List α) (p : α → Bool) : -1 ≤ idxI l p ∧ idxI l p < l.length := by
  unfold idxI
  cases h : l.findIdx? p with
  | none => simp; omega
  | some k =>
    rw [List.findIdx?_eq_some_iff_getElem] at h
    obtain ⟨h1, h2, _⟩ := h
    simp; omega

theorem z19d (l : List Int) (x : Int) : l.foldl (· + ·) x = x + sumI l := by
  induction l generalizing x with
  | nil => simp [sumI]
  | cons y l ih =>
    have h1 : sumI (y :: l) = (0 + y) + sumI l := ih (0 + y)
    rw [List.foldl_cons, ih, h1]; omega
theorem z19g (x : Int) (l : List Int) : sumI (x :: l) = x + sumI l := by
  show (x :: l).foldl (· + ·) 0 = _
  rw [List.foldl_cons, z19d]; omega
theorem zh4 {p : Int} {m : List Int} (h : goodM p m = true) : 0 ≤ sumI m ∧ sumI m ≤ 800 := by
  obtain ⟨_, _, _, h1, h2⟩ := zh2 h
  have := z19f h2 m.length (Nat.le_refl _)
  rw [List.take_length] at this
  omega
attribute [go_sem] Bool.false_and Bool.and_false bne_self_eq_false

def putI : List Int → Int → List Int
  | [], x => [x]
  | y :: l, x => if y < x then y :: putI l x else if y = x then y :: l else x :: y :: l
theorem zzc : ∀ {l : List Int} {x : Int} {k : Nat} (hk : k < l.length), (l.take k).all (fun y => decide (y < x)) = true → l[k] = x → putI l x = l
  | y :: l, x, 0, hk, h, hx => by
    simp only [List.getElem_cons_zero] at hx
    simp [putI, hx]
  | y :: l, x, k + 1, hk, h, hx => by
    simp only [List.take_succ_cons, List.all_cons, Bool.and_eq_true, decide_eq_true_eq] at h
    simp only [putI, h.1, if_true]
    rw [zzc (k := k) (by simpa using hk) h.2 (by simpa using hx)]
theorem zzd : ∀ {l : List Int} {x : Int} {k : Nat}, (l.take k).all (fun y => decide (y < x)) = true → (∀ h : k < l.length, x < l[k]) → k ≤ l.length → putI l x = l.take k ++ x :: l.drop k
  | [], x, k, h, hx, hk => by have : k = 0 := by simpa using hk
                              subst this; rfl
  | y :: l, x, 0, h, hx, hk => by
    have := hx (by simp)
    simp only [List.getElem_cons_zero] at this
    have h1 : ¬ y < x := by omega
    have h2 : ¬ y = x := by omega
    simp [putI, h1, h2]
  | y :: l, x, k + 1, h, hx, hk => by
    simp only [List.take_succ_cons, List.all_cons, Bool.and_eq_true, decide_eq_true_eq] at h
    simp only [putI, h.1, if_true, List.take_succ_cons, List.drop_succ_cons, List.cons_append]
    rw [zzd (k := k) h.2 (fun hh => by have := hx (by simpa using hh); simpa using this) (by simpa using hk)]
theorem zze : ∀ (l : List Int) (x : Int), l.length ≤ (putI l x).length ∧ (putI l x).length ≤ l.length + 1
  | [], x => by simp [putI]
  | y :: l, x => by
    have := zze l x
    simp only [putI]
    split
    · simp; omega
    · split <;> simp
theorem zzf {l : List Int} {x y : Int} (h : y ∈ putI l x) : y ∈ l ∨ y = x := by
  induction l with
  | nil => simp [putI] at h; exact .inr h
  | cons z l ih =>
    simp only [putI] at h
    split at h
    · rcases List.mem_cons.1 h with h | h
      · exact .inl (by simp [h])
      · rcases ih h with h | h
        · exact .inl (by simp [h])
        · exact .inr h
    · split at h
      · exact .inl h
      · rcases List.mem_cons.1 h with h | h
        · exact .inr h
        · exact .inl h
end Go.Proofs.YtkkifebmicbbaaaGreat.Pi
namespace Go.Proofs.YtkkifebmicbbaaaGreat.Pi
open Go
set_option linter.all false

structure Tr where
  inn : List Int
  out : List Int
  rst : List Int
structure Net where
  pl : Int
  tr : List Tr
abbrev encT (t : Tr) : PV := .agg [ints t.inn, ints t.out, ints t.rst]
abbrev trs (l : List Tr) : PV := .sl false 3 (l.map encT)
abbrev encN (n : Net) : PV := .agg [I n.pl, trs n.tr]
def smT (t : Tr) : Prop := t.inn.length < 2^40 ∧ t.out.length < 2^40 ∧ t.rst.length < 2^40
def smN (n : Net) : Prop := n.tr.length < 2^40 ∧ ∀ t ∈ n.tr, smT t

def smNet (n : Net) : Prop := (0 < n.tr.length ∧ n.tr.length ≤ 30) ∧ n.pl ≤ 20 ∧ ∀ t ∈ n.tr, t.inn.length ≤ 20 ∧ t.out.length ≤ 20 ∧ t.rst.length ≤ 20
theorem smNet.smN {n : Net} (h : smNet n) : smN n := ⟨by have := h.1; omega, fun t ht => by have := h.2.2 t ht; exact ⟨by omega, by omega, by omega⟩⟩
def incr (l : List Int) : Bool := decide (l.Pairwise (· < ·))
theorem zki {l : List Int} : (l.take 1).Pairwise (· < ·) := by cases l <;> simp
theorem zxn {l : List Int} {x y : Int} (h : (l ++ [x]).Pairwise (· < ·)) (hxy : x < y) : (l ++ [x] ++ [y]).Pairwise (· < ·) := by
  rw [List.pairwise_append]
  refine ⟨h, by simp, ?_⟩
  intro a ha b hb
  simp only [List.mem_singleton] at hb
  subst hb
  rcases List.mem_append.1 ha with ha | ha
  · have := (List.pairwise_append.1 h).2.2 a ha x (by simp); omega
  · simp only [List.mem_singleton] at ha; omega
theorem zkk {l : List Int} {k : Nat} (hk : k + 1 < l.length) (h : (l.take (k + 1)).Pairwise (· < ·)) (hx : l[k]'(by omega) < l[k + 1]) : (l.take (k + 2)).Pairwise (· < ·) := by
  rw [z1a8 (show k < l.length by omega)] at h
  rw [z1a8 hk, z1a8 (show k < l.length by omega)]
  exact zxn h hx
theorem zkh {l : List Int} {k : Nat} (hk : k + 1 < l.length) (hx : ¬ l[k]'(by omega) < l[k + 1]) : incr l = false := by
  unfold incr
  rw [decide_eq_false_iff_not]
  intro h
  exact hx (List.pairwise_iff_getElem.1 h k (k + 1) (by omega) hk (by omega))
def zy2 (p : Int) (l : List Int) : Bool := incr l && l.all (inB 0 (p - 1))
theorem zy3 (p : Int) (l : List Int) : (incr l && l.all (inB 0 (p - 1))) = zy2 p l := rfl
def goodT (p : Int) (t : Tr) : Bool := !t.inn.isEmpty && zy2 p t.inn && zy2 p t.out && zy2 p t.rst
def goodN (n : Net) : Bool := inB 1 16 n.pl && decide (n.tr.length ≤ 24) && n.tr.all (goodT n.pl)

theorem zh8 {n : Net} {k : Nat} (hk : k < n.tr.length) (h : goodT n.pl n.tr[k] = false) : goodN n = false := by
  unfold goodN; rw [z2r hk h]; simp
theorem zhi {p : Int} {t : Tr} (h : t.inn.length = 0) : goodT p t = false := by
  have : t.inn = [] := List.eq_nil_of_length_eq_zero h
  simp [goodT, this]
theorem zhd {p : Int} {t : Tr} (h : t.inn.length ≠ 0) (h1 : zy2 p t.inn = true) (h2 : zy2 p t.out = true) (h3 : zy2 p t.rst = true) : goodT p t = true := by
  have : t.inn.isEmpty = false := by cases e : t.inn with
    | nil => simp [e] at h
    | cons => rfl
  simp [goodT, this, h1, h2, h3]
def at_ (m : List Int) (p : Int) : Int := m.getD p.toNat 0
theorem at_eq {m : List Int} {p : Int} (h : p.toNat < m.length) : m[p.toNat] = at_ m p := by
  unfold at_; rw [List.getD_eq_getElem?_getD, List.getElem?_eq_getElem h]; rfl
def canT (t : Tr) (m : List Int) : Bool := t.inn.all fun p => !(at_ m p == 0)
def decS (m : List Int) (p : Int) : List Int := m.set p.toNat (at_ m p - 1)
def zerS (m : List Int) (p : Int) : List Int := m.set p.toNat 0
def incS (m : List Int) (p : Int) : List Int := m.set p.toNat (at_ m p + 1)
def decL (m l : List Int) : List Int := l.foldl decS m
def zerL (m l : List Int) : List Int := l.foldl zerS m
def incL (m l : List Int) : List Int := l.foldl incS m
def zem (t : Tr) (m : List Int) : List Int := incL (zerL (decL m t.inn) t.rst) t.out
theorem zf8 {α β : Type} (f : β → α → β) (b : β) {l : List α} {k : Nat} (hk : k < l.length) : (l.take (k + 1)).foldl f b = f ((l.take k).foldl f b) l[k] := by
  rw [z1a8 hk, List.foldl_append]; rfl
theorem zb2 (m l : List Int) : (decL m l).length = m.length := by
  unfold decL
  induction l generalizing m with
  | nil => rfl
  | cons x l ih => rw [List.foldl_cons, ih]; simp [decS]
theorem z1co (m l : List Int) : (zerL m l).length = m.length := by
  unfold zerL
  induction l generalizing m with
  | nil => rfl
  | cons x l ih => rw [List.foldl_cons, ih]; simp [zerS]
theorem zkc (m l : List Int) : (incL m l).length = m.length := by
  unfold incL
  induction l generalizing m with
  | nil => rfl
  | cons x l ih => rw [List.foldl_cons, ih]; simp [incS]
theorem zeo (t : Tr) (m : List Int) : (zem t m).length = m.length := by
  unfold zem; rw [zkc, z1co, zb2]
theorem z46 {m : List Int} {p lo hi : Int} (h : ∀ x ∈ m, lo ≤ x ∧ x ≤ hi) (hp : p.toNat < m.length) : lo ≤ at_ m p ∧ at_ m p ≤ hi := by
  rw [← at_eq hp]; exact h _ (List.getElem_mem hp)
theorem zq9 {m : List Int} {i : Nat} {v x : Int} (h : x ∈ m.set i v) : x ∈ m ∨ x = v := List.mem_or_eq_of_mem_set h
theorem zb1 {m l : List Int} {lo hi : Int} (h : ∀ x ∈ m, lo ≤ x ∧ x ≤ hi) (hl : ∀ p ∈ l, p.toNat < m.length) : ∀ x ∈ decL m l, lo - l.length ≤ x ∧ x ≤ hi := by
  unfold decL
  induction l generalizing m lo with
  | nil => intro x hx; have := h x hx; simp; omega
  | cons p l ih =>
    rw [List.foldl_cons]
    have hp := z46 h (hl p (by simp))
    intro x hx
    have h2 := ih (m := decS m p) (lo := lo - 1) (by
      intro y hy
      rcases zq9 hy with hy | hy
      · have := h y hy; omega
      · omega) (by intro q hq; simp [decS]; exact hl q (by simp [hq])) x hx
    simp only [List.length_cons]; omega
theorem z1cn {m l : List Int} {lo hi : Int} (h : ∀ x ∈ m, lo ≤ x ∧ x ≤ hi) (h0 : lo ≤ 0 ∧ 0 ≤ hi) : ∀ x ∈ zerL m l, lo ≤ x ∧ x ≤ hi := by
  unfold zerL
  induction l generalizing m with
  | nil => exact h
  | cons p l ih =>
    rw [List.foldl_cons]
    refine ih ?_
    intro y hy
    rcases zq9 hy with hy | hy
    · exact h y hy
    · omega
theorem zkb {m l : List Int} {lo hi : Int} (h : ∀ x ∈ m, lo ≤ x ∧ x ≤ hi) (hl : ∀ p ∈ l, p.toNat < m.length) : ∀ x ∈ incL m l, lo ≤ x ∧ x ≤ hi + l.length := by
  unfold incL
  induction l generalizing m hi with
  | nil => intro x hx; have := h x hx; simp; omega
  | cons p l ih =>
    rw [List.foldl_cons]
    have hp := z46 h (hl p (by simp))
    intro x hx
    have h2 := ih (m := incS m p) (hi := hi + 1) (by
      intro y hy
      rcases zq9 hy with hy | hy
      · have := h y hy; omega
      · omega) (by intro q hq; simp [incS]; exact hl q (by simp [hq])) x hx
    simp only [List.length_cons]; omega
theorem zb3 {m l : List Int} {k : Nat} (hk : k < l.length) : decL m (l.take (k + 1)) = (decL m (l.take k)).set (l[k].toNat) (at_ (decL m (l.take k)) l[k] - 1) := by
  unfold decL; rw [zf8 _ _ hk]; rfl
theorem z1cp {m l : List Int} {k : Nat} (hk : k < l.length) : zerL m (l.take (k + 1)) = (zerL m (l.take k)).set (l[k].toNat) 0 := by
  unfold zerL; rw [zf8 _ _ hk]; rfl
theorem zkd {m l : List Int} {k : Nat} (hk : k < l.length) : incL m (l.take (k + 1)) = (incL m (l.take k)).set (l[k].toNat) (at_ (incL m (l.take k)) l[k] + 1) := by
  unfold incL; rw [zf8 _ _ hk]; rfl

theorem zy4 {p : Int} {l : List Int} (h : zy2 p l = true) : ∀ x ∈ l, 0 ≤ x ∧ x < p := by
  simp only [zy2, Bool.and_eq_true, List.all_eq_true] at h
  intro x hx
  have := h.2 x hx
  simp [inB] at this; omega
theorem zkg : ∀ {l : List Int} {lo hi : Int}, l.Pairwise (· < ·) → (∀ x ∈ l, lo ≤ x ∧ x < hi) → lo ≤ hi → (l.length : Int) ≤ hi - lo
  | [], _, _, _, _, h => by simp; omega
  | a :: l, lo, hi, hp, hb, h => by
    rw [List.pairwise_cons] at hp
    have ha := hb a (by simp)
    have := zkg (l := l) (lo := a + 1) (hi := hi) hp.2 (fun x hx => ⟨by have := hp.1 x hx; omega, (hb x (by simp [hx])).2⟩) (by omega)
    simp only [List.length_cons]; omega
theorem zy6 {p : Int} {l : List Int} (h : zy2 p l = true) (h0 : 0 ≤ p) : (l.length : Int) ≤ p := by
  have h1 : l.Pairwise (· < ·) := by simp [zy2, incr] at h; exact h.1
  have := zkg h1 (zy4 h) h0; omega
theorem zhj {p : Int} {t : Tr} (h : goodT p t = true) : t.inn ≠ [] ∧ zy2 p t.inn = true ∧ zy2 p t.out = true ∧ zy2 p t.rst = true := by
  simp [goodT] at h
  exact ⟨h.1.1.1, h.1.1.2, h.1.2, h.2⟩
theorem zha {n : Net} (h : goodN n = true) : 1 ≤ n.pl ∧ n.pl ≤ 16 ∧ n.tr.length ≤ 24 ∧ ∀ t ∈ n.tr, goodT n.pl t = true := by
  simp [goodN, inB] at h
  exact ⟨h.1.1.1, h.1.1.2, h.1.2, h.2⟩
theorem zhg {p : Int} {t : Tr} {m : List Int} (h : goodT p t = true) (hm : (m.length : Int) = p) : (∀ q ∈ t.inn, 0 ≤ q ∧ q.toNat < m.length) ∧ (∀ q ∈ t.out, 0 ≤ q ∧ q.toNat < m.length) ∧ (∀ q ∈ t.rst, 0 ≤ q ∧ q.toNat < m.length) := by
  obtain ⟨_, h1, h2, h3⟩ := zhj h
  refine ⟨fun q hq => ?_, fun q hq => ?_, fun q hq => ?_⟩
  · have := zy4 h1 q hq; omega
  · have := zy4 h2 q hq; omega
  · have := zy4 h3 q hq; omega
theorem zhf {p : Int} {t : Tr} (h : goodT p t = true) (hp : 0 ≤ p ∧ p ≤ 16) : t.inn.length ≤ 16 ∧ t.out.length ≤ 16 ∧ t.rst.length ≤ 16 := by
  obtain ⟨_, h1, h2, h3⟩ := zhj h
  have := zy6 h1 hp.1
  have := zy6 h2 hp.1
  have := zy6 h3 hp.1
  omega

def zpr (n : Net) (m : List Int) : Bool := goodN n && goodM n.pl m
def trAt (n : Net) (t : Int) : Tr := n.tr.getD t.toNat ⟨[], [], []⟩
theorem z1ak {n : Net} {t : Int} (h : t.toNat < n.tr.length) : n.tr[t.toNat] = trAt n t := by
  unfold trAt; rw [List.getD_eq_getElem?_getD, List.getElem?_eq_getElem h]; rfl
def canN (n : Net) (m : List Int) (t : Int) : Bool := zpr n m && inB 0 (n.tr.length - 1) t && canT (trAt n t) m
def ztb (n : Net) (m : List Int) (t : Int) : Bool := canN n m t && (zem (trAt n t) m).all (inB 0 50)
theorem zps {n : Net} {m : List Int} (h : zpr n m = true) : goodN n = true ∧ goodM n.pl m = true := by simpa [zpr] using h
theorem z7w {n : Net} {m : List Int} {t : Int} (h : canN n m t = true) : goodN n = true ∧ goodM n.pl m = true ∧ 0 ≤ t ∧ t.toNat < n.tr.length ∧ canT (trAt n t) m = true ∧ goodT n.pl (trAt n t) = true := by
  simp only [canN, Bool.and_eq_true, inB, decide_eq_true_eq] at h
  obtain ⟨⟨h1, h2⟩, h3⟩ := h
  obtain ⟨h4, h5⟩ := zps h1
  have h6 : t.toNat < n.tr.length := by omega
  refine ⟨h4, h5, h2.1, h6, h3, ?_⟩
  have := (zha h4).2.2.2 n.tr[t.toNat] (List.getElem_mem h6)
  rwa [z1ak h6] at this
def enabK (n : Net) (m : List Int) (k : Nat) : List Int := ((List.range k).filter fun i => canT (n.tr.getD i ⟨[], [], []⟩) m).map Int.ofNat
def enabL (n : Net) (m : List Int) : List Int := enabK n m n.tr.length
theorem zbs (n : Net) (m : List Int) (k : Nat) : (enabK n m k).length ≤ k := by
  have := List.length_filter_le (fun i => canT (n.tr.getD i ⟨[], [], []⟩) m) (List.range k)
  simp only [enabK, List.length_map]; simp at this ⊢; omega
theorem zbt {n : Net} {m : List Int} {k : Nat} (hk : k < n.tr.length) (h : canT n.tr[k] m = true) : enabK n m (k + 1) = enabK n m k ++ [(k : Int)] := by
  have e : n.tr[k]?.getD ⟨[], [], []⟩ = n.tr[k] := by rw [List.getElem?_eq_getElem hk]; rfl
  simp [enabK, List.range_succ, List.filter_append, e, h]
theorem zbr {n : Net} {m : List Int} {k : Nat} (hk : k < n.tr.length) (h : canT n.tr[k] m = false) : enabK n m (k + 1) = enabK n m k := by
  have e : n.tr[k]?.getD ⟨[], [], []⟩ = n.tr[k] := by rw [List.getElem?_eq_getElem hk]; rfl
  simp [enabK, List.range_succ, List.filter_append, e, h]
theorem zbu {n : Net} {m : List Int} {t : Int} : t ∈ enabL n m ↔ 0 ≤ t ∧ t.toNat < n.tr.length ∧ canT (trAt n t) m = true := by
  simp only [enabL, enabK, List.mem_map, List.mem_filter, List.mem_range, trAt]
  constructor
  · rintro ⟨i, ⟨h1, h2⟩, rfl⟩
    exact ⟨by simp, by simpa using h1, by simpa using h2⟩
  · rintro ⟨h1, h2, h3⟩
    exact ⟨t.toNat, ⟨h2, h3⟩, by simp; omega⟩
/-! Firing is monotone. -/
end Go.Proofs.YtkkifebmicbbaaaGreat.Pi
namespace Go.Proofs.YtkkifebmicbbaaaGreat.Pi
open Go
set_option linter.all false

theorem zte {n : Net} {m : List Int} {t : Int} (h : ztb n m t = true) : zpr n (zem (trAt n t) m) = true := by
  obtain ⟨h1, h2⟩ := Bool.and_eq_true .. ▸ h
  obtain ⟨h3, h4, _⟩ := z7w h1
  have h5 := zh2 h4
  simp only [zpr, h3, Bool.true_and, goodM, zeo, h2, Bool.and_true]
  simp [inB]; omega
end Go.Proofs.YtkkifebmicbbaaaGreat.Pi
namespace Go.Proofs.YtkkifebmicbbaaaGreat.Pi
open Go
set_option linter.all false

/-! Tokens place by place. -/
theorem z4m {m : List Int} {p q x : Int} (hp : 0 ≤ p ∧ p.toNat < m.length) (hq : 0 ≤ q) : at_ (m.set p.toNat x) q = if q = p then x else at_ m q := by
  unfold at_
  rw [List.getD_eq_getElem?_getD, List.getD_eq_getElem?_getD, List.getElem?_set]
  by_cases h : q = p
  · subst h; simp [hp.2]
  · have : p.toNat ≠ q.toNat := by omega
    simp [h, this]
/-! Nets turned. -/
/-! Transitions with a property. -/
def hasB (l : List Int) (p : Int) : Bool := decide (p ∈ l)
theorem zhx (l : List Int) (p : Int) : hasB l p = l.any (fun x => x == p) := by
  unfold hasB
  rw [Bool.eq_iff_iff, List.any_eq_true]
  simp only [decide_eq_true_eq, beq_iff_eq]
  exact ⟨fun h => ⟨p, h, rfl⟩, fun ⟨x, h, e⟩ => e ▸ h⟩
theorem zhz {l : List Int} {p : Int} (h : l.any (fun x => x == p) = false) : hasB l p = false := by rw [zhx, h]
theorem zi0 {l : List Int} {p : Int} {k : Nat} (hk : k < l.length) (h : l[k] = p) : hasB l p = true := by
  subst h; simp [hasB]

/-! Free choice. -/
end Go.Proofs.YtkkifebmicbbaaaGreat.Pi
namespace Go.Proofs.YtkkifebmicbbaaaGreat.Pi
open Go
set_option linter.all false

def one (b : Bool) : Int := if b then 1 else 0
end Go.Proofs.YtkkifebmicbbaaaGreat.Pi
namespace Go.Proofs.YtkkifebmicbbaaaGreat.Pi
open Go
set_option linter.all false

theorem z1a {orc : Orc} {m : Nat} {st : St} {Q : Out → Prop} {keep : List Bool} {b : ICode} (Inv : Nat → St → Prop) (n : Nat) (h0 : Inv n (gc m ⟨clean keep st.fr, st.mem⟩))
    (step : ∀ k s, Inv k s → W orc m b s (fun o => match o with | .next s' => ∃ j, j < k ∧ Inv j (gc m ⟨clean keep s'.fr, s'.mem⟩) | o => Q o)) : W orc m (.loop keep b) st Q := by
  have key : ∀ (d k : Nat) (st : St), k < d → Inv k (gc m ⟨clean keep st.fr, st.mem⟩) → W orc m (.loop keep b) st Q := by
    intro d
    induction d with
    | zero => intro k st hk; omega
    | succ d ih =>
      intro k st hk hI
      obtain ⟨o, h1, h2⟩ := step k _ hI
      cases o with
      | next s' =>
        obtain ⟨j, hj, h5⟩ := h2
        obtain ⟨o', h3, h4⟩ := ih j s' (by omega) h5
        simp only [run] at h3
        exact ⟨o', by simp only [run]; rw [zl7, h1]; exact h3, h4⟩
      | ret s' => exact ⟨_, by simp only [run]; rw [zl7, h1], h2⟩
      | exit i s' => exact ⟨_, by simp only [run]; rw [zl7, h1], h2⟩
  exact key (n + 1) n st (by omega) h0
theorem z34 {α : Type} {l : List α} {p : α → Bool} {k : Nat} (hk : k < l.length) (h : (l.take k).any p = true) : (l.take (k + 1)).any p = true := by
  rw [z1a8 hk, List.any_append, h]; rfl
theorem z32 {α : Type} {l : List α} {p : α → Bool} {k : Nat} (hk : k < l.length) (h : p l[k] = true) : (l.take (k + 1)).any p = true := by
  rw [z1a8 hk, List.any_append]; simp [h]
@[go_sem] theorem z16g {mem : List Blk} {sz sz' : Nat} {fl : Bool} {lo hi : Option PV} : z16f mem sz (.nil fl sz') lo hi = if sz' = sz then (bound 0 lo).bind fun l => (bound 0 hi).bind fun h => if l = 0 ∧ h = 0 then some (.nil fl sz) else none else none := rfl
attribute [go_sem] List.getElem?_nil
abbrev bls (l : List Bool) : PV := .sl true 1 (l.map PV.bool)

/-! What can be come to: zy2 and transitions are zpr round by round. -/
structure Cl where
  pl : List Bool
  tr : List Bool
  ch : Bool
def hitB (P : List Bool) (l : List Int) : Bool := l.any fun p => P.getD p.toNat false
def markB (P : List Bool) (l : List Int) : List Bool := l.foldl (fun a p => a.set p.toNat true) P
theorem zpk (P : List Bool) (l : List Int) : (markB P l).length = P.length := by
  unfold markB
  induction l generalizing P with
  | nil => rfl
  | cons p l ih => rw [List.foldl_cons, ih]; simp
theorem zpl {P : List Bool} {l : List Int} {k : Nat} (hk : k < l.length) : markB P (l.take (k + 1)) = (markB P (l.take k)).set (l[k].toNat) true := by
  unfold markB; rw [zf8 _ _ hk]
def sideI (bk : Bool) (t : Tr) : List Int := if bk then t.out else t.inn
def sideO (bk : Bool) (t : Tr) : List Int := if bk then t.inn else t.out
def trN (n : Net) (k : Nat) : Tr := n.tr.getD k ⟨[], [], []⟩
theorem z1aq {n : Net} {k : Nat} (hk : k < n.tr.length) : trN n k = n.tr[k] := by
  unfold trN; rw [List.getD_eq_getElem?_getD, List.getElem?_eq_getElem hk]; rfl
def z96 (n : Net) (bk : Bool) (s : Cl) (k : Nat) : Cl := if s.tr.getD k false || !hitB s.pl (sideI bk (trN n k)) then s else ⟨markB s.pl (sideO bk (trN n k)), s.tr.set k true, true⟩
def clK (n : Net) (bk : Bool) (s : Cl) (k : Nat) : Cl := (List.range k).foldl (z96 n bk) ⟨s.pl, s.tr, false⟩
def z91 (n : Net) (bk : Bool) (s : Cl) : Cl := clK n bk s n.tr.length
def clRun (n : Net) (bk : Bool) : Nat → Cl → Cl
  | 0, s => s
  | f + 1, s => if (z91 n bk s).ch then clRun n bk f (z91 n bk s) else z91 n bk s
theorem z90 (n : Net) (bk : Bool) (s : Cl) (k : Nat) : clK n bk s (k + 1) = z96 n bk (clK n bk s k) k := by
  simp [clK, List.range_succ, List.foldl_append]
theorem z99 {n : Net} {bk : Bool} {s : Cl} {k : Nat} (h : s.tr.getD k false = true ∨ hitB s.pl (sideI bk (trN n k)) = false) : z96 n bk s k = s := by
  unfold z96
  rcases h with h | h
  · rw [h]; rfl
  · rw [h]; simp
theorem z9a {n : Net} {bk : Bool} {s : Cl} {k : Nat} (h : s.tr.getD k false = false) (h2 : hitB s.pl (sideI bk (trN n k)) = true) : z96 n bk s k = ⟨markB s.pl (sideO bk (trN n k)), s.tr.set k true, true⟩ := by
  unfold z96
  rw [h, h2]; rfl
theorem z98 (n : Net) (bk : Bool) (s : Cl) (k : Nat) : (z96 n bk s k).pl.length = s.pl.length ∧ (z96 n bk s k).tr.length = s.tr.length := by
  unfold z96
  split
  · exact ⟨rfl, rfl⟩
  · exact ⟨zpk .., by simp⟩
theorem z8z (n : Net) (bk : Bool) (s : Cl) (k : Nat) : (clK n bk s k).pl.length = s.pl.length ∧ (clK n bk s k).tr.length = s.tr.length := by
  induction k with
  | zero => exact ⟨rfl, rfl⟩
  | succ k ih =>
    rw [z90]
    have := z98 n bk (clK n bk s k) k
    omega
theorem z94 (n : Net) (bk : Bool) (f : Nat) : ∀ (s : Cl), (clRun n bk f s).pl.length = s.pl.length ∧ (clRun n bk f s).tr.length = s.tr.length := by
  induction f with
  | zero => intro s; exact ⟨rfl, rfl⟩
  | succ f ih =>
    intro s
    have h := z8z n bk s n.tr.length
    have h2 := ih (z91 n bk s)
    unfold clRun
    unfold z91 at h2 ⊢
    split <;> omega
def cntF (l : List Bool) : Nat := l.countP (!·)
theorem z9z {l : List Bool} {k : Nat} (hk : k < l.length) (h : l.getD k false = false) : cntF (l.set k true) < cntF l := by
  induction l generalizing k with
  | nil => simp at hk
  | cons x l ih =>
    cases k with
    | zero => simp at h; subst h; simp [cntF]
    | succ k =>
      have := ih (k := k) (by simpa using hk) (by simpa using h)
      simp only [cntF, List.set_cons_succ, List.countP_cons] at this ⊢
      omega
theorem z97 {n : Net} {bk : Bool} {s : Cl} {k : Nat} (hk : k < s.tr.length) : cntF (z96 n bk s k).tr ≤ cntF s.tr ∧ ((z96 n bk s k).ch = true → s.ch = true ∨ cntF (z96 n bk s k).tr < cntF s.tr) := by
  unfold z96
  split
  · exact ⟨Nat.le_refl _, fun h => .inl h⟩
  · rename_i h
    have h1 : s.tr.getD k false = false := by
      cases e : s.tr.getD k false
      · rfl
      · rw [e] at h; simp at h
    have := z9z hk h1
    exact ⟨by simp only; omega, fun _ => .inr this⟩
theorem z8y {n : Net} {bk : Bool} {s : Cl} {k : Nat} (hk : k ≤ s.tr.length) : cntF (clK n bk s k).tr ≤ cntF s.tr ∧ ((clK n bk s k).ch = true → cntF (clK n bk s k).tr < cntF s.tr) := by
  induction k with
  | zero => exact ⟨Nat.le_refl _, fun h => by simp [clK] at h⟩
  | succ k ih =>
    have h1 := ih (by omega)
    rw [z90]
    have h2 := z97 (n := n) (bk := bk) (s := clK n bk s k) (k := k) (by rw [(z8z ..).2]; omega)
    refine ⟨by omega, fun h => ?_⟩
    rcases h2.2 h with h3 | h3
    · have := h1.2 h3; omega
    · omega
theorem z9x (l : List Bool) : cntF l ≤ l.length := List.countP_le_length
theorem z92 {n : Net} {bk : Bool} : ∀ {f : Nat} {s : Cl}, s.tr.length = n.tr.length → cntF s.tr < f → clRun n bk f s = clRun n bk (f + 1) s
  | 0, _, _, h => by omega
  | f + 1, s, hl, h => by
    show (if (z91 n bk s).ch then clRun n bk f (z91 n bk s) else z91 n bk s) = (if (z91 n bk s).ch then clRun n bk (f + 1) (z91 n bk s) else z91 n bk s)
    cases e : (z91 n bk s).ch with
    | false => rfl
    | true =>
      simp only [if_true]
      have h1 := (z8y (n := n) (bk := bk) (s := s) (k := n.tr.length) (by omega)).2 e
      exact z92 (by rw [z91, (z8z ..).2, hl]) (by unfold z91; omega)
theorem z93 {n : Net} {bk : Bool} {s : Cl} (hl : s.tr.length = n.tr.length) : ∀ {d f : Nat}, cntF s.tr < f → clRun n bk f s = clRun n bk (f + d) s
  | 0, _, _ => rfl
  | d + 1, f, h => by rw [z93 (d := d) hl h, z92 hl (by omega)]; rfl
theorem z95 {n : Net} {bk : Bool} {s : Cl} (hl : s.tr.length = n.tr.length) : clRun n bk (cntF s.tr + 1) s = if (z91 n bk s).ch then clRun n bk (cntF (z91 n bk s).tr + 1) (z91 n bk s) else z91 n bk s := by
  show (if (z91 n bk s).ch then clRun n bk (cntF s.tr) (z91 n bk s) else z91 n bk s) = _
  cases e : (z91 n bk s).ch with
  | false => rfl
  | true =>
    simp only [if_true]
    have h1 := (z8y (n := n) (bk := bk) (s := s) (k := n.tr.length) (by omega)).2 e
    have h2 : (z91 n bk s).tr.length = n.tr.length := by rw [z91, (z8z ..).2, hl]
    have h3 := z93 (n := n) (bk := bk) h2 (d := cntF s.tr - (cntF (z91 n bk s).tr + 1)) (f := cntF (z91 n bk s).tr + 1) (by omega)
    rw [h3]
    congr 1
    unfold z91; omega
theorem z9y (k : Nat) : cntF (List.replicate k false) = k := by
  unfold cntF; rw [List.countP_replicate]; simp
def zzx (n : Net) (bk : Bool) (p : Int) : Cl := clRun n bk (n.tr.length + 1) ⟨(List.replicate n.pl.toNat false).set p.toNat true, List.replicate n.tr.length false, true⟩
theorem zzz (n : Net) (bk : Bool) (p : Int) : (zzx n bk p).pl.length = n.pl.toNat ∧ (zzx n bk p).tr.length = n.tr.length := by
  have := z94 n bk (n.tr.length + 1) ⟨(List.replicate n.pl.toNat false).set p.toNat true, List.replicate n.tr.length false, true⟩
  simpa [zzx] using this
theorem zzy (n : Net) (bk : Bool) (p : Int) : zzx n bk p = clRun n bk (cntF (List.replicate n.tr.length false) + 1) ⟨(List.replicate n.pl.toNat false).set p.toNat true, List.replicate n.tr.length false, true⟩ := by
  rw [z9y]; rfl
theorem zgj {l : List Bool} {k : Nat} (hk : k < l.length) : l[k] = l.getD k false := by
  rw [List.getD_eq_getElem?_getD, List.getElem?_eq_getElem hk]; rfl
def bothK (a b : List Bool) (k : Nat) : List Int := ((List.range k).filter fun i => a.getD i false && b.getD i false).map Int.ofNat
def bothL (a b : List Bool) : List Int := bothK a b a.length
theorem z6n (a b : List Bool) (k : Nat) : (bothK a b k).length ≤ k := by
  have := List.length_filter_le (fun i => a.getD i false && b.getD i false) (List.range k)
  simp only [bothK, List.length_map]; simp at this ⊢; omega
theorem z6o {a b : List Bool} {k : Nat} (h : a.getD k false = true) (h2 : b.getD k false = true) : bothK a b (k + 1) = bothK a b k ++ [(k : Int)] := by
  simp only [bothK, List.range_succ, List.filter_append, List.filter_cons, h, h2, Bool.and_self, if_true, List.filter_nil, List.map_append]; rfl
theorem z6m {a b : List Bool} {k : Nat} (h : (a.getD k false && b.getD k false) = false) : bothK a b (k + 1) = bothK a b k := by
  simp only [bothK, List.range_succ, List.filter_append, List.filter_cons, h, Bool.false_eq_true, if_false, List.filter_nil, List.append_nil]
def wayP (n : Net) (a b : Int) : List Int := bothL (zzx n false a).pl (zzx n true b).pl
def wayT (n : Net) (a b : Int) : List Int := bothL (zzx n false a).tr (zzx n true b).tr
def okWay (n : Net) (a b : Int) : Bool := goodN n && inB 0 (n.pl - 1) a && inB 0 (n.pl - 1) b

/-! Flows. -/
structure Fl where
  net : Net
  src : Int
  dst : Int
abbrev encF (f : Fl) : PV := .agg [I f.net.pl, trs f.net.tr, I f.src, I f.dst]
def z17k (f : Fl) (t : Tr) : Bool := hasB t.out f.src || hasB t.inn f.dst || hasB t.rst f.src || hasB t.rst f.dst
def zgv (f : Fl) : Bool := okWay f.net f.src f.dst && !decide (f.src = f.dst) && f.net.tr.all (fun t => !z17k f t) && decide (((wayP f.net f.src f.dst).length : Int) = f.net.pl) && decide ((wayT f.net f.src f.dst).length = f.net.tr.length)
theorem zgy {f : Fl} (h : zgv f = true) : goodN f.net = true ∧ (0 ≤ f.src ∧ f.src < f.net.pl) ∧ (0 ≤ f.dst ∧ f.dst < f.net.pl) ∧ f.src ≠ f.dst ∧ (∀ t ∈ f.net.tr, z17k f t = false) ∧ ((wayP f.net f.src f.dst).length : Int) = f.net.pl ∧ (wayT f.net f.src f.dst).length = f.net.tr.length := by
  simp only [zgv, okWay, inB, Bool.and_eq_true, decide_eq_true_eq, Bool.not_eq_true', decide_eq_false_iff_not, List.all_eq_true] at h
  obtain ⟨⟨⟨⟨⟨⟨h1, h2⟩, h3⟩, h4⟩, h5⟩, h6⟩, h7⟩ := h
  exact ⟨h1, by omega, by omega, h4, h5, h6, h7⟩
/-! Drawn flows: how much grows. -/
def oneM (n : Nat) (p : Int) : List Int := (List.replicate n 0).set p.toNat 1
theorem zty {n : Net} {p : Int} (hg : goodN n = true) (hp : 0 ≤ p ∧ p < n.pl) : goodM n.pl (oneM n.pl.toNat p) = true := by
  have := zha hg
  have h1 : inB 1 16 n.pl = true := by simp [inB]; omega
  have h2 : (((oneM n.pl.toNat p).length : Int) == n.pl) = true := by simp only [oneM, List.length_set, List.length_replicate, beq_iff_eq]; omega
  have h3 : (oneM n.pl.toNat p).all (inB 0 50) = true := by
    rw [List.all_eq_true]
    intro x hx
    rcases zq9 hx with hx | hx
    · have := (List.mem_replicate.1 hx).2; subst this; rfl
    · subst hx; rfl
  simp [goodM, h1, h2, h3]
theorem z4j {n : Nat} {p q : Int} (hp : 0 ≤ p ∧ p.toNat < n) (hq : 0 ≤ q) : at_ (oneM n p) q = if q = p then 1 else 0 := by
  unfold oneM
  rw [z4m (by simpa using hp) hq]
  split
  · rfl
  · unfold at_
    rw [List.getD_eq_getElem?_getD, List.getElem?_replicate]
    split <;> rfl
end Go.Proofs.YtkkifebmicbbaaaGreat.Pi
namespace Go.Proofs.YtkkifebmicbbaaaGreat.Pi
open Go
set_option linter.all false

@[go_sem] theorem z5u {bl : Bool} {k : IntKind} {x y : Int} : binV bl .andNot (.int k x) (.int k y) = some (.int k (bits .andNot k x y)) := by simp [binV, binI]

def maskN (l : List Int) : Nat := l.foldl (fun a p => a ||| 2 ^ p.toNat) 0
theorem zpt {l : List Int} (h : ∀ p ∈ l, 0 ≤ p) (i : Nat) : ∀ a : Nat, (l.foldl (fun a p => a ||| 2 ^ p.toNat) a).testBit i = (a.testBit i || hasB l i) := by
  induction l with
  | nil => intro a; simp [hasB]
  | cons p l ih =>
    intro a
    rw [List.foldl_cons, ih (fun q hq => h q (by simp [hq])), Nat.testBit_or, Nat.testBit_two_pow]
    have hp := h p (by simp)
    have e : decide (p.toNat = i) = decide ((i : Int) = p) := by rw [decide_eq_decide]; omega
    rw [e]
    simp only [hasB, List.mem_cons]
    by_cases h1 : (i : Int) = p <;> simp [h1]
theorem zpu {l : List Int} (h : ∀ p ∈ l, 0 ≤ p) (i : Nat) : (maskN l).testBit i = hasB l i := by
  unfold maskN; rw [zpt h]; simp
theorem zpw {l : List Int} {q : Nat} (h : ∀ p ∈ l, 0 ≤ p ∧ p < q) : maskN l < 2 ^ q := by
  apply Nat.lt_pow_two_of_testBit
  intro i hi
  rw [zpu (fun p hp => (h p hp).1)]
  unfold hasB
  rw [decide_eq_false_iff_not]
  intro hm
  have := (h _ hm).2; omega
theorem z1cf (n : Int) (h0 : 0 ≤ n) (h1 : n < 2 ^ 62) : IntKind.i64.wrap n = n := by rw [IntKind.wrap_i64]; omega
theorem z2x {a b : Nat} (ha : a < 2 ^ 62) (hb : b < 2 ^ 62) : bits .and .i64 (a : Int) (b : Int) = ((a &&& b : Nat) : Int) := (bits_nat .i64 62 (by decide) z1cf a b ha hb).1
def below (l : List Int) (k : Nat) : List Int := l.filter fun p => decide (p < k)
theorem z5b {l : List Int} (h : ∀ p ∈ l, 0 ≤ p) : below l 0 = [] := by
  unfold below
  rw [List.filter_eq_nil_iff]
  intro p hp
  have := h p hp
  simp; omega
theorem z5a : ∀ {l : List Int} {k : Nat}, l.Pairwise (· < ·) → below l (k + 1) = below l k ++ (if (k : Int) ∈ l then [(k : Int)] else [])
  | [], k, _ => by simp [below]
  | x :: l, k, h => by
    rw [List.pairwise_cons] at h
    have ih := z5a (l := l) (k := k) h.2
    unfold below at ih ⊢
    rcases Int.lt_trichotomy x k with h1 | h1 | h1
    · have a1 : decide (x < ((k + 1 : Nat) : Int)) = true := by simp; omega
      have a2 : decide (x < (k : Int)) = true := by simp; omega
      have a3 : (k : Int) ∈ x :: l ↔ (k : Int) ∈ l := by simp; omega
      simp only [List.filter_cons, a1, a2, if_true, ih, a3, List.cons_append]
    · have a1 : decide (x < ((k + 1 : Nat) : Int)) = true := by simp; omega
      have a2 : decide (x < (k : Int)) = false := by simp; omega
      have a4 : l.filter (fun p => decide (p < (k : Int))) = [] := by
        rw [List.filter_eq_nil_iff]; intro p hp; have := h.1 p hp; simp; omega
      have a5 : (k : Int) ∉ l := fun hk => by have := h.1 _ hk; omega
      simp only [List.filter_cons, a1, a2, if_true, ih, Bool.false_eq_true, if_false, a4, a5]
      simp [h1]
    · have a1 : decide (x < ((k + 1 : Nat) : Int)) = false := by simp; omega
      have a2 : decide (x < (k : Int)) = false := by simp; omega
      have a3 : (k : Int) ∈ x :: l ↔ (k : Int) ∈ l := by simp; omega
      simp only [List.filter_cons, a1, a2, Bool.false_eq_true, if_false, ih, a3]
theorem z58 {l : List Int} {k : Nat} (h : ∀ p ∈ l, p < k) : below l k = l := by
  unfold below
  rw [List.filter_eq_self]
  intro p hp
  have := h p hp
  simp; omega
theorem z59 (l : List Int) (k : Nat) : (below l k).length ≤ l.length := List.length_filter_le _ _
theorem zq1 {l : List Int} (h : ∀ p ∈ l, 0 ≤ p) (k : Nat) (h0 : maskN l / 2 ^ k = 0) : ∀ p ∈ l, p < k := by
  intro p hp
  have h1 : maskN l < 2 ^ k := Nat.lt_of_div_eq_zero (Nat.two_pow_pos k) h0
  rcases Int.lt_or_le p k with h2 | h2
  · exact h2
  · exfalso
    have h3 := zpu h p.toNat
    rw [show ((p.toNat : Nat) : Int) = p by have := h p hp; omega, Nat.testBit_lt_two_pow (Nat.lt_of_lt_of_le h1 (Nat.pow_le_pow_right (by decide) (by omega)))] at h3
    simp [hasB, hp] at h3
theorem zq0 {l : List Int} (h : ∀ p ∈ l, 0 ≤ p) (k : Nat) : hasB l k = decide (maskN l / 2 ^ k % 2 = 1) := by
  rw [← zpu h, Nat.testBit_eq_decide_div_mod_eq]
end Go.Proofs.YtkkifebmicbbaaaGreat.Pi
namespace Go.Proofs.YtkkifebmicbbaaaGreat.Pi
open Go
set_option linter.all false

structure Tk where
  join : Int
  split : Int
  inn : List Int
  out : List Int
  cut : List Int
  stop : List Int
  role : Int
  deriving DecidableEq
structure Spc where
  conds : Int
  tasks : List Tk
  deriving DecidableEq
abbrev encK (t : Tk) : PV := .agg [I t.join, I t.split, ints t.inn, ints t.out, ints t.cut, ints t.stop, I t.role]
abbrev tks (l : List Tk) : PV := .sl false 7 (l.map encK)
abbrev encS (s : Spc) : PV := .agg [I s.conds, tks s.tasks]
def smTk (t : Tk) : Prop := t.inn.length < 2^40 ∧ t.out.length < 2^40 ∧ t.cut.length < 2^40 ∧ t.stop.length < 2^40
def smSpc (s : Spc) : Prop := s.tasks.length < 2^40 ∧ ∀ t ∈ s.tasks, smTk t

theorem share {orc : Orc} {m : Nat} {G : Prop} (S0 : St) (k : List Bool) (b : ICode) (Q : Out → Prop) (h : (∀ st0 : St, gc m ⟨clean k st0.fr, st0.mem⟩ = S0 → W orc m (.loop k b) st0 Q) → G)
    (h2 : ∀ st0 : St, gc m ⟨clean k st0.fr, st0.mem⟩ = S0 → W orc m (.loop k b) st0 Q) : G := h h2

/-! ### Sizes -/
/-! ### Copies, in part done -/
theorem z158 {α : Type} {l : List α} {z x : α} {k n : Nat} (hk : k < n) (hl : l.length = k) : (l ++ List.replicate (n - k) z).set k x = l ++ [x] ++ List.replicate (n - (k + 1)) z := by
  obtain ⟨d, hd⟩ : ∃ d, n - k = d + 1 := ⟨n - k - 1, by omega⟩
  rw [hd, show n - (k + 1) = d by omega, List.replicate_succ]
  simp [List.set_append, hl]
/-! ### Equality, by steps -/
/-! ### Marks -/
/-! ### What a specification lays out -/
structure Mv where
  task : Int
  begin_ : Bool
  pick : Int
  deriving DecidableEq
abbrev encM (m : Mv) : PV := .agg [I m.task, .bool m.begin_, I m.pick]
theorem zru (x y : Mv) : (x == y) = (x.task == y.task && (x.begin_ == y.begin_ && x.pick == y.pick)) := by
  cases x; cases y
  rw [Bool.eq_iff_iff]
  simp
def goodK (s : Spc) (k : Nat) (t : Tk) : Bool :=
  inB 1 2 t.join && inB 1 3 t.split && inB 0 3 t.role && inB 1 3 t.inn.length && inB 1 3 t.out.length &&
  (incr t.inn && t.inn.all (inB 0 (s.conds - 1))) && (incr t.out && t.out.all (inB 0 (s.conds - 1))) && (incr t.cut && t.cut.all (inB 2 (s.conds - 1))) &&
  (incr t.stop && t.stop.all (inB 0 ((s.tasks.length : Int) - 1))) && !hasB t.stop k
def regL (s : Spc) (t : Tk) : List Int := t.cut ++ t.stop.map (s.conds + ·)
theorem z10z {s : Spc} {t : Tk} {k : Nat} (hk : k < t.stop.length) : t.cut ++ (t.stop.take (k + 1)).map (s.conds + ·) = t.cut ++ (t.stop.take k).map (s.conds + ·) ++ [s.conds + t.stop[k]] := by
  rw [List.take_succ_eq_append_getElem hk, List.map_append]; simp only [List.map_cons, List.map_nil, List.append_assoc]
def setB (n : Nat) : List Int := ((List.range 3).filter fun i => n.testBit i).map Int.ofNat
theorem z14y : ∀ n, n < 8 → maskN (setB n) = n ∧ incr (setB n) = true ∧ (∀ p ∈ setB n, 0 ≤ p ∧ p < 3) ∧ (setB n).length ≤ 3 ∧ ∀ q : Nat, 1 ≤ q → q ≤ 3 → n < 2 ^ q → ∀ p ∈ setB n, p < (q : Int) := by
  intro n hn
  have h : n = 0 ∨ n = 1 ∨ n = 2 ∨ n = 3 ∨ n = 4 ∨ n = 5 ∨ n = 6 ∨ n = 7 := by omega
  have hq : ∀ q : Nat, 1 ≤ q → q ≤ 3 → q = 1 ∨ q = 2 ∨ q = 3 := by omega
  rcases h with rfl | rfl | rfl | rfl | rfl | rfl | rfl | rfl <;> refine ⟨by decide, by decide, by decide, by decide, fun q h1 h2 => ?_⟩ <;> rcases hq q h1 h2 with rfl | rfl | rfl <;> decide
def someL (l : List Int) (n : Nat) : List Int := (setB n).map fun i => at_ l i
def z50 (t : Tk) : List (List Int) := if t.join = 2 then t.inn.map fun p => [p] else [t.inn]
def endL (t : Tk) : List (List Int) := if t.split = 2 then t.out.map fun p => [p] else if t.split = 3 then (List.range (2 ^ t.out.length - 1)).map fun i => someL t.out (i + 1) else [t.out]
def endF (t : Tk) : Int := if t.split = 2 then 0 else if t.split = 3 then 1 else 0
def mvB (k n : Nat) : List Mv := (List.range n).map fun (i : Nat) => ⟨(k : Int), true, (i : Int)⟩
def mvE (k : Nat) (f : Int) (n : Nat) : List Mv := (List.range n).map fun (i : Nat) => ⟨(k : Int), false, f + (i : Int)⟩
def tkN (s : Spc) (k : Nat) : Tk := s.tasks.getD k ⟨0, 0, [], [], [], [], 0⟩
theorem z1af {s : Spc} {k : Nat} (h : k < s.tasks.length) : tkN s k = s.tasks[k] := by simp [tkN, h]
def mvK (s : Spc) (k : Nat) : List Mv := mvB k (z50 (tkN s k)).length ++ mvE k (endF (tkN s k)) (endL (tkN s k)).length
def trB (s : Spc) (k : Nat) (l : List (List Int)) : List Tr := l.map fun x => ⟨x, [s.conds + k], []⟩
def trE (s : Spc) (k : Nat) (l : List (List Int)) : List Tr := l.map fun x => ⟨[s.conds + k], x, regL s (tkN s k)⟩
def trK (s : Spc) (k : Nat) : List Tr := trB s k (z50 (tkN s k)) ++ trE s k (endL (tkN s k))
def mvU (s : Spc) (k : Nat) : List Mv := (List.range k).flatMap (mvK s)
def trU (s : Spc) (k : Nat) : List Tr := (List.range k).flatMap (trK s)
def mvS (s : Spc) : List Mv := mvU s s.tasks.length
def trS (s : Spc) : List Tr := trU s s.tasks.length
def flS (s : Spc) : Fl := ⟨⟨s.conds + s.tasks.length, trS s⟩, 0, 1⟩
def zts (s : Spc) : Bool := inB 2 8 s.conds && inB 1 6 s.tasks.length && (List.range s.tasks.length).all fun k => goodK s k (tkN s k)
def goodS (s : Spc) : Bool := zts s && zgv (flS s)
theorem zhc {s : Spc} (h : goodS s = true) : zts s = true := by simp only [goodS, Bool.and_eq_true] at h; exact h.1
theorem zrs (s : Spc) (k : Nat) : mvU s (k + 1) = mvU s k ++ mvK s k := by simp [mvU, List.range_succ]
theorem z1az (s : Spc) (k : Nat) : trU s (k + 1) = trU s k ++ trK s k := by simp [trU, List.range_succ]
theorem zri (k n : Nat) : mvB k (n + 1) = mvB k n ++ [⟨(k : Int), true, (n : Int)⟩] := by simp [mvB, List.range_succ]
theorem zrk (k : Nat) (f : Int) (n : Nat) : mvE k f (n + 1) = mvE k f n ++ [⟨(k : Int), false, f + (n : Int)⟩] := by simp [mvE, List.range_succ]
theorem zrh (k n : Nat) : (mvB k n).length = n := by simp [mvB]
theorem zrj (k : Nat) (f : Int) (n : Nat) : (mvE k f n).length = n := by simp [mvE]
theorem zgz {s : Spc} {k : Nat} {t : Tk} (h : goodK s k t = true) : (t.join = 1 ∨ t.join = 2) ∧ (t.split = 1 ∨ t.split = 2 ∨ t.split = 3) ∧ (1 ≤ t.inn.length ∧ t.inn.length ≤ 3) ∧ (1 ≤ t.out.length ∧ t.out.length ≤ 3) ∧
    (∀ x ∈ t.inn, 0 ≤ x ∧ x < s.conds) ∧ (∀ x ∈ t.out, 0 ≤ x ∧ x < s.conds) ∧ (∀ x ∈ t.cut, 2 ≤ x ∧ x < s.conds) ∧ (∀ x ∈ t.stop, 0 ≤ x ∧ x < s.tasks.length) ∧ incr t.cut = true ∧ incr t.stop = true := by
  simp only [goodK, Bool.and_eq_true, List.all_eq_true, inB, decide_eq_true_eq] at h
  obtain ⟨⟨⟨⟨⟨⟨⟨⟨⟨h1, h2⟩, h3⟩, h4⟩, h5⟩, h6⟩, h7⟩, h8⟩, h9⟩, h10⟩ := h
  refine ⟨by omega, by omega, by omega, by omega, fun x hx => ?_, fun x hx => ?_, fun x hx => ?_, fun x hx => ?_, h8.1, h9.1⟩
  · have := h6.2 x hx; omega
  · have := h7.2 x hx; omega
  · have := h8.2 x hx; omega
  · have := h9.2 x hx; omega
theorem z52 {s : Spc} {k : Nat} {t : Tk} (h : goodK s k t = true) : 1 ≤ (z50 t).length ∧ (z50 t).length ≤ 3 := by
  have := zgz h
  unfold z50
  split
  · simp; omega
  · simp
theorem zyk {n : Nat} (h1 : 1 ≤ n) (h : n ≤ 3) : 2 ≤ 2 ^ n ∧ 2 ^ n ≤ 8 := by
  have : n = 1 ∨ n = 2 ∨ n = 3 := by omega
  rcases this with rfl | rfl | rfl <;> decide
theorem zc0 {s : Spc} {k : Nat} {t : Tk} (h : goodK s k t = true) : 1 ≤ (endL t).length ∧ (endL t).length ≤ 7 := by
  have := zgz h
  have hp := zyk this.2.2.2.1.1 this.2.2.2.1.2
  unfold endL
  split
  · simp; omega
  · split
    · simp; omega
    · simp
theorem ztt {s : Spc} (h : zts s = true) : (2 ≤ s.conds ∧ s.conds ≤ 8) ∧ (1 ≤ s.tasks.length ∧ s.tasks.length ≤ 6) ∧ ∀ k, k < s.tasks.length → goodK s k (tkN s k) = true := by
  simp only [zts, Bool.and_eq_true, List.all_eq_true, inB, decide_eq_true_eq, List.mem_range] at h
  exact ⟨by omega, by omega, h.2⟩
theorem zrl {s : Spc} (h : zts s = true) {k : Nat} (hk : k < s.tasks.length) : 2 ≤ (mvK s k).length ∧ (mvK s k).length ≤ 10 := by
  have hg := (ztt h).2.2 k hk
  have h1 := z52 hg
  have h2 := zc0 hg
  simp [mvK, zrh, zrj]; omega
theorem zrq {s : Spc} (h : zts s = true) : ∀ k, k ≤ s.tasks.length → 2 * k ≤ (mvU s k).length ∧ (mvU s k).length ≤ 10 * k
  | 0, _ => by simp [mvU]
  | k + 1, hk => by
    have h1 := zrq h k (by omega)
    have h2 := zrl h (k := k) (by omega)
    rw [zrs, List.length_append]; omega
theorem z1ay (s : Spc) : ∀ k, (trU s k).length = (mvU s k).length
  | 0 => rfl
  | k + 1 => by rw [z1az, zrs, List.length_append, List.length_append, z1ay s k]; simp [trK, mvK, trB, trE, zrh, zrj]
def trM (s : Spc) (m : Mv) : Tr := let t := tkN s m.task.toNat
  if m.begin_ then (if t.join = 2 then ⟨[at_ t.inn m.pick], [s.conds + m.task], []⟩ else ⟨t.inn, [s.conds + m.task], []⟩)
  else ⟨[s.conds + m.task], (if t.split = 2 then [at_ t.out m.pick] else if t.split = 3 then someL t.out m.pick.toNat else t.out), regL s t⟩
theorem zzt {α β : Type} (l : List α) (d : α) (f : α → β) : ((List.range l.length).map fun i => f (l.getD i d)) = l.map f := by
  apply List.ext_getElem?
  intro i
  simp only [List.getElem?_map, List.getElem?_range']
  by_cases h : i < l.length
  · simp [h]
  · simp [h]
theorem trM_K (s : Spc) (k : Nat) : (mvK s k).map (trM s) = trK s k := by
  unfold mvK trK
  rw [List.map_append]
  congr 1
  · unfold mvB trB z50
    rw [List.map_map]
    by_cases hj : (tkN s k).join = 2
    · simp only [hj, if_true, List.length_map, List.map_map]
      rw [← zzt (tkN s k).inn 0]
      apply List.map_congr_left
      intro i hi
      simp [trM, hj, at_]
    · simp [hj, trM]
  · unfold mvE trE endL endF
    rw [List.map_map]
    by_cases h2 : (tkN s k).split = 2
    · simp only [h2, if_true, List.length_map, List.map_map]
      rw [← zzt (tkN s k).out 0]
      apply List.map_congr_left
      intro i hi
      simp [trM, h2, at_]
    · by_cases h3 : (tkN s k).split = 3
      · simp only [h3, if_neg (show ¬ ((3 : Int) = 2) by omega), if_true, List.length_map, List.length_range, List.map_map]
        apply List.map_congr_left
        intro i hi
        simp only [Function.comp, trM, h3]
        have : ((1 : Int) + (i : Int)).toNat = i + 1 := by omega
        simp [this, h3]
      · simp [h2, h3, trM]
theorem trM_U (s : Spc) : ∀ k, (mvU s k).map (trM s) = trU s k
  | 0 => rfl
  | k + 1 => by rw [zrs, z1az, List.map_append, trM_U s k, trM_K]
def isMv (s : Spc) (m : Mv) : Prop := ∃ k : Nat, k < s.tasks.length ∧ m.task = k ∧ (m.begin_ = true → 0 ≤ m.pick ∧ m.pick.toNat < (z50 (tkN s k)).length) ∧ (m.begin_ = false → endF (tkN s k) ≤ m.pick ∧ m.pick < endF (tkN s k) + (endL (tkN s k)).length)
theorem zro {s : Spc} {m : Mv} (h : m ∈ mvS s) : isMv s m := by
  simp only [mvS, mvU, List.mem_flatMap, List.mem_range, mvK, List.mem_append, mvB, mvE, List.mem_map] at h
  obtain ⟨k, hk, ⟨i, hi, rfl⟩ | ⟨i, hi, rfl⟩⟩ := h
  · exact ⟨k, hk, rfl, fun _ => ⟨by simp, by simpa using hi⟩, fun h => (by cases h)⟩
  · exact ⟨k, hk, rfl, fun h => (by cases h), fun _ => ⟨show endF (tkN s k) ≤ endF (tkN s k) + (i : Int) by omega, show endF (tkN s k) + (i : Int) < _ by omega⟩⟩
def cellT (b : Nat) (l : List Tr) : PV := if l = [] then .nil false 3 else .ref b 3 0 l.length
def blkT (t : TypeId) (l : List Tr) : List Blk := if l = [] then [] else [.row t false 3 (l.map encT)]
theorem z82 {b : Nat} : cellT b [] = .nil false 3 := rfl
theorem z6i {t : TypeId} : blkT t [] = [] := rfl
theorem z81 {b : Nat} {l : List Tr} (h : l ≠ []) : cellT b l = .ref b 3 0 l.length := by simp [cellT, h]
theorem z6h {t : TypeId} {l : List Tr} (h : l ≠ []) : blkT t l = [.row t false 3 (l.map encT)] := by simp [blkT, h]
theorem z18d {s : Spc} {k : Nat} {t : Tk} (h : goodK s k t = true) : (t.stop.length : Int) ≤ s.tasks.length ∧ (t.cut.length : Int) ≤ s.conds - 2 ∨ s.conds < 2 := by
  obtain ⟨-, -, -, -, -, -, h7, h8, h9, h10⟩ := zgz h
  by_cases hc : s.conds < 2
  · exact .inr hc
  · have a := zkg (by simpa [incr] using h10) h8 (by omega)
    have b := zkg (by simpa [incr] using h9) h7 (by omega)
    exact .inl (by omega)
theorem ztu {s : Spc} (h : zts s = true) {k : Nat} (hk : k < s.tasks.length) : smTk s.tasks[k] ∧ s.tasks[k].cut.length ≤ 16 ∧ s.tasks[k].stop.length ≤ 16 ∧ ∀ x ∈ s.tasks[k].stop, 0 ≤ x ∧ x < 16 := by
  obtain ⟨hc, hn, hg⟩ := ztt h
  have hK := hg k hk
  rw [z1af hk] at hK
  obtain ⟨-, -, h3, h4, -, -, -, h8, -, -⟩ := zgz hK
  have := (z18d hK).resolve_right (by omega)
  exact ⟨⟨by omega, by omega, by omega, by omega⟩, by omega, by omega, fun x hx => by have := h8 x hx; omega⟩
theorem z1aw {s : Spc} (h : zts s = true) : ∀ t ∈ trS s, t.inn.length ≤ 3 ∧ t.out.length ≤ 3 ∧ t.rst.length ≤ 32 := by
  intro t ht
  obtain ⟨hc, hn, hg⟩ := ztt h
  rw [show trS s = (mvS s).map (trM s) from (trM_U s s.tasks.length).symm, List.mem_map] at ht
  obtain ⟨m, hm, rfl⟩ := ht
  obtain ⟨k, hk, e1, hb, he⟩ := zro hm
  have hK := hg k hk
  obtain ⟨-, h1, h2, h3⟩ := ztu h hk
  rw [← z1af hk] at h1 h2
  obtain ⟨-, -, h4, h5, -, -, -, -, -, -⟩ := zgz hK
  obtain ⟨mt, mb, mp⟩ := m
  simp only at e1 hb he
  subst e1
  have eT : tkN s ((k : Int)).toNat = tkN s k := by simp
  have hE : (endL (tkN s k)).length = if (tkN s k).split = 2 then (tkN s k).out.length else if (tkN s k).split = 3 then 2 ^ (tkN s k).out.length - 1 else 1 := by unfold endL; (repeat' split) <;> simp
  have hF : endF (tkN s k) = if (tkN s k).split = 2 then 0 else if (tkN s k).split = 3 then 1 else 0 := rfl
  simp only [trM, eT]
  cases mb with
  | true =>
    simp only [if_true]
    split <;> simp <;> omega
  | false =>
    simp only [Bool.false_eq_true, if_false]
    refine ⟨by simp, ?_, by simp [regL]; omega⟩
    split
    · simp
    · split
      · rename_i hs2 hs3
        obtain ⟨hp0, hp1⟩ := he rfl
        simp [hs3] at hE hF
        have hpp := zyk h5.1 h5.2
        have := (z14y mp.toNat (by omega)).2.2.2.1
        simpa [someL] using this
      · omega
theorem zev {s : Spc} (h : zts s = true) : smN (flS s).net := by
  have h2 := zrq h s.tasks.length (by omega)
  have hn := (ztt h).2.1
  have e : (trS s).length = (mvS s).length := z1ay s s.tasks.length
  refine ⟨?_, fun t ht => ?_⟩
  · show (trS s).length < 2 ^ 40
    unfold mvS at e
    omega
  · have := z1aw h t ht
    exact ⟨by omega, by omega, by omega⟩
def layB (b : Int) (l : List (List Int)) : List Tr := l.map fun x => ⟨x, [b], []⟩
def layE (b : Int) (R : List Int) (l : List (List Int)) : List Tr := l.map fun x => ⟨[b], x, R⟩
theorem zmi {b : Int} {l : List (List Int)} {i : Nat} (h : i < l.length) : layB b (l.take (i + 1)) = layB b (l.take i) ++ [⟨l[i], [b], []⟩] := by
  unfold layB; rw [List.take_succ_eq_append_getElem h, List.map_append]; rfl
theorem zmk {b : Int} {R : List Int} {l : List (List Int)} {i : Nat} (h : i < l.length) : layE b R (l.take (i + 1)) = layE b R (l.take i) ++ [⟨[b], l[i], R⟩] := by
  unfold layE; rw [List.take_succ_eq_append_getElem h, List.map_append]; rfl
theorem zmh {b : Int} {l : List (List Int)} {i : Nat} (h : i ≤ l.length) : (layB b (l.take i)).length = i := by simp [layB]; omega
theorem zmj {b : Int} {R : List Int} {l : List (List Int)} {i : Nat} (h : i ≤ l.length) : (layE b R (l.take i)).length = i := by simp [layE]; omega
theorem z1ax (s : Spc) (k : Nat) : trU s (k + 1) = trU s k ++ layB (s.conds + k) (z50 (tkN s k)) ++ layE (s.conds + k) (regL s (tkN s k)) (endL (tkN s k)) := by
  rw [z1az, List.append_assoc]; rfl
theorem zrp (s : Spc) (k : Nat) : mvU s (k + 1) = mvU s k ++ mvB k (z50 (tkN s k)).length ++ mvE k (endF (tkN s k)) (endL (tkN s k)).length := by
  rw [zrs, List.append_assoc]; rfl
theorem z10y {s : Spc} {k : Nat} (h : zts s = true) (hk : k < s.tasks.length) : (regL s (tkN s k)).length ≤ 32 := by
  obtain ⟨-, h1, h2, -⟩ := ztu h hk
  rw [z1af hk]
  simp [regL]; omega
theorem z51 {s : Spc} {k : Nat} {t : Tk} (h : goodK s k t = true) : ∀ x ∈ z50 t, x.length ≤ 3 := by
  have := zgz h
  intro x hx
  unfold z50 at hx
  split at hx
  · simp at hx; obtain ⟨a, _, rfl⟩ := hx; simp
  · simp at hx; subst hx; omega
theorem zbz {s : Spc} {k : Nat} {t : Tk} (h : goodK s k t = true) : ∀ x ∈ endL t, x.length ≤ 3 := by
  have := zgz h
  have hpp := zyk this.2.2.2.1.1 this.2.2.2.1.2
  intro x hx
  unfold endL at hx
  split at hx
  · simp at hx; obtain ⟨a, _, rfl⟩ := hx; simp
  · split at hx
    · simp only [List.mem_map, List.mem_range] at hx
      obtain ⟨i, hi, rfl⟩ := hx
      simpa [someL] using (z14y (i + 1) (by omega)).2.2.2.1
    · simp at hx; subst hx; omega
/-! ### A specification's fields, zpr -/
/-! ### Cases -/
structure Cs where
  state : Int
  mark : List Int
  deriving DecidableEq
abbrev encC (c : Cs) : PV := .agg [I c.state, ints c.mark]
def goodC (s : Spc) (c : Cs) : Bool := goodM (s.conds + s.tasks.length) c.mark && (if c.state = 1 then decide (at_ c.mark 1 = 0) else if c.state = 2 then decide (0 < at_ c.mark 1) else decide (c.state = 3))
theorem zgt {s : Spc} {c : Cs} (h : goodM (s.conds + s.tasks.length) c.mark = true) (hc : 2 ≤ s.conds) : (c.mark.length : Int) = s.conds + s.tasks.length ∧ 1 < c.mark.length := by
  simp only [goodM, Bool.and_eq_true, beq_iff_eq] at h
  have := h.1.2
  omega
end Go.Proofs.YtkkifebmicbbaaaGreat.Pi
namespace Go.Proofs.YtkkifebmicbbaaaGreat.Pi
open Go
set_option linter.all false
def smk (q : Nat) (l : List Tk) : Prop := ∀ t ∈ l, t.inn.length ≤ q ∧ t.out.length ≤ q ∧ t.cut.length ≤ q ∧ t.stop.length ≤ q
theorem z179 {q : Nat} : smk q [] := by intro t ht; cases ht
theorem z177 {q : Nat} {t : Tk} {l : List Tk} (ht : t.inn.length ≤ q ∧ t.out.length ≤ q ∧ t.cut.length ≤ q ∧ t.stop.length ≤ q) (h : smk q l) : smk q (t :: l) := by
  intro u hu
  rcases List.mem_cons.1 hu with rfl | hu
  · exact ht
  · exact h u hu
theorem z17a {q : Nat} {l : List Tk} {i : Nat} {t : Tk} (h : smk q l) (ht : t.inn.length ≤ q ∧ t.out.length ≤ q ∧ t.cut.length ≤ q ∧ t.stop.length ≤ q) : smk q (l.set i t) := by
  intro u hu
  rcases List.mem_or_eq_of_mem_set hu with hu | rfl
  · exact h u hu
  · exact ht
theorem z178 {p q : Nat} {l : List Tk} (hpq : p ≤ q) (h : smk p l) : smk q l := fun t ht => by
  have := h t ht
  exact ⟨Nat.le_trans this.1 hpq, Nat.le_trans this.2.1 hpq, Nat.le_trans this.2.2.1 hpq, Nat.le_trans this.2.2.2 hpq⟩
def drS (s : Spc) : Prop := (1 ≤ s.tasks.length ∧ s.tasks.length ≤ 4) ∧ (0 ≤ s.conds ∧ s.conds ≤ 20) ∧ smk 20 s.tasks
theorem drS.sm {s : Spc} (h : drS s) : smSpc s := ⟨by have := h.1; omega, fun t ht => by have := h.2.2 t ht; exact ⟨by omega, by omega, by omega, by omega⟩⟩

/-! ### Moves are distinct, and what their transitions have -/
end Go.Proofs.YtkkifebmicbbaaaGreat.Pi
namespace Go.Proofs.YtkkifebmicbbaaaGreat.Pi
open Go
set_option linter.all false

def canM (s : Spc) (c : Cs) (m : Mv) : Bool := canT (trM s m) c.mark
def movL (s : Spc) (c : Cs) : List Mv := if c.state = 1 then (mvS s).filter (canM s c) else []
theorem zhb {s : Spc} (h : goodS s = true) : goodN (flS s).net = true := by
  simp only [goodS, zgv, okWay, Bool.and_eq_true] at h
  exact h.2.1.1.1.1.1.1
theorem z1av (s : Spc) : trS s = (mvS s).map (trM s) := (trM_U s s.tasks.length).symm
theorem zgu {s : Spc} {c : Cs} (h : goodC s c = true) : goodM (s.conds + s.tasks.length) c.mark = true := by
  unfold goodC at h; simp only [Bool.and_eq_true] at h; exact h.1
theorem z1an {s : Spc} {m : Mv} (h : goodS s = true) (hm : m ∈ mvS s) : goodT (s.conds + s.tasks.length) (trM s m) = true := by
  have h2 := zhb h
  have h3 : (flS s).net.tr.all (goodT (flS s).net.pl) = true := by
    unfold goodN at h2; simp only [Bool.and_eq_true] at h2; exact h2.2
  rw [List.all_eq_true] at h3
  refine h3 _ ?_
  show trM s m ∈ trS s
  rw [z1av]
  exact List.mem_map_of_mem hm
theorem zbv (s : Spc) (c : Cs) (d : Mv) : ∀ k, k ≤ (mvS s).length → (enabK (flS s).net c.mark k).map (fun t => (mvS s).getD t.toNat d) = ((mvS s).take k).filter (canM s c)
  | 0, _ => by simp [enabK]
  | k + 1, hk => by
    have ih := zbv s c d k (by omega)
    have hlen : (flS s).net.tr.length = (mvS s).length := by show (trS s).length = _; rw [z1av]; simp
    have hkl : k < (flS s).net.tr.length := by omega
    have hk2 : k < (mvS s).length := by omega
    have e : (flS s).net.tr[k] = trM s (mvS s)[k] := by
      have : (trS s)[k]? = some (trM s (mvS s)[k]) := by rw [z1av, List.getElem?_map, List.getElem?_eq_getElem hk2]; rfl
      have h2 : (flS s).net.tr[k]? = some (trM s (mvS s)[k]) := this
      rw [List.getElem?_eq_getElem hkl] at h2
      exact Option.some.inj h2
    rw [List.take_succ_eq_append_getElem hk2, List.filter_append, ← ih]
    cases hc : canM s c (mvS s)[k] with
    | true =>
      rw [zbt hkl (by rw [e]; exact hc), List.map_append]
      simp [hc, hk2]
    | false =>
      rw [zbr hkl (by rw [e]; exact hc)]
      simp [hc]
theorem zbx (s : Spc) (c : Cs) (d : Mv) : (enabL (flS s).net c.mark).map (fun t => (mvS s).getD t.toNat d) = (mvS s).filter (canM s c) := by
  have hlen : (flS s).net.tr.length = (mvS s).length := by show (trS s).length = _; rw [z1av]; simp
  unfold enabL
  rw [hlen, zbv s c d _ (Nat.le_refl _), List.take_length]
theorem z1a7 {α : Type} {l : List α} {q : Nat} {x : α} (h : q < l.length) : (l.set q x).take (q + 1) = l.take q ++ [x] := by
  have hq : (l.take q).length = q := by simp; omega
  rw [List.set_eq_take_append_cons_drop, if_pos h, List.take_append, hq, List.take_of_length_le (by omega)]
  simp
def stepB (s : Spc) (c : Cs) (m : Mv) : Bool := c.state == 1 && (mvS s).any (fun y => y == m) && canM s c m && (zem (trM s m) c.mark).all (inB 0 50)
def stepC (s : Spc) (c : Cs) (m : Mv) : Cs := ⟨if 0 < at_ (zem (trM s m) c.mark) 1 then 2 else 1, zem (trM s m) c.mark⟩
def z17u (t : TypeId) (s : Spc) (c : Cs) (m : Mv) : PV := .tup [if stepB s c m = true then .agg [I (stepC s c m).state, .un t true 1 ((stepC s c m).mark.map I)] else .agg [I 0, .nil true 1], .bool (stepB s c m)]
theorem z33 {M : List Mv} {m : Mv} (h : M.any (fun y => y == m) = true) : m ∈ M := by
  rw [List.any_eq_true] at h
  obtain ⟨x, h1, h2⟩ := h
  have : x = m := by simpa using h2
  rwa [this] at h1
theorem zr6 (s : Spc) (c : Cs) (m : Mv) : (movL s c).any (fun y => y == m) = (c.state == 1 && (mvS s).any (fun y => y == m) && canM s c m) := by
  unfold movL
  split
  · rename_i h
    rw [Bool.eq_iff_iff]
    simp only [List.any_eq_true, List.mem_filter, Bool.and_eq_true, h, beq_self_eq_true, true_and]
    constructor
    · rintro ⟨x, ⟨h1, h2⟩, h3⟩
      have : x = m := by simpa using h3
      subst this
      exact ⟨⟨x, h1, by simp⟩, h2⟩
    · rintro ⟨⟨x, h1, h3⟩, h2⟩
      have : x = m := by simpa using h3
      subst this
      exact ⟨x, ⟨h1, h2⟩, by simp⟩
  · rename_i h
    have : (c.state == 1) = false := by simpa using h
    simp [this]
theorem zin {s : Spc} {m : Mv} (h : (mvS s).any (fun y => y == m) = true) : 0 ≤ idxI (mvS s) (fun y => y == m) ∧ trAt (flS s).net (idxI (mvS s) (fun y => y == m)) = trM s m := by
  have h0 := zia (mvS s) (fun y => y == m)
  rw [h] at h0
  have h1 : 0 ≤ idxI (mvS s) (fun y => y == m) := by simpa using h0.symm
  refine ⟨h1, ?_⟩
  unfold idxI at h1 ⊢
  cases hf : (mvS s).findIdx? (fun y => y == m) with
  | none => rw [hf] at h1; simp at h1
  | some k =>
    rw [List.findIdx?_eq_some_iff_getElem] at hf
    obtain ⟨hk, hp, _⟩ := hf
    have he : (mvS s)[k] = m := by simpa using hp
    show (trS s).getD ((k : Int)).toNat _ = _
    rw [z1av, Int.toNat_natCast, List.getD_eq_getElem?_getD, List.getElem?_map, List.getElem?_eq_getElem hk, he]
    rfl
theorem zij {s : Spc} {m : Mv} (h : (mvS s).any (fun y => y == m) = false) : idxI (mvS s) (fun y => y == m) = -1 := zic h
theorem zel {s : Spc} {c : Cs} {m : Mv} (hg : goodS s = true) (hc : goodC s c = true) (h : (mvS s).any (fun y => y == m) = true) (h1 : c.state = 1) : ztb (flS s).net c.mark (idxI (mvS s) (fun y => y == m)) = stepB s c m := by
  obtain ⟨e1, e2⟩ := zin h
  have hm := zgu hc
  have hlt := (zib (mvS s) (fun y => y == m)).2
  have hlen : (flS s).net.tr.length = (mvS s).length := by show (trS s).length = _; rw [z1av]; simp
  have h2 : zpr (flS s).net c.mark = true := by unfold zpr; rw [zhb hg]; exact hm
  have h3 : inB 0 (((flS s).net.tr.length : Int) - 1) (idxI (mvS s) (fun y => y == m)) = true := by simp [inB]; omega
  simp only [ztb, canN, h2, h3, e2, Bool.true_and, stepB, h, canM]
  rw [show (c.state == 1) = true by simpa using h1]
  simp
end Go.Proofs.YtkkifebmicbbaaaGreat.Pi
namespace Go.Proofs.YtkkifebmicbbaaaGreat.Pi
open Go
set_option linter.all false

def playS (s : Spc) (x : Cs × List Bool) (m : Mv) : Cs × List Bool := if stepB s x.1 m = true then (stepC s x.1 m, x.2 ++ [true]) else (x.1, x.2 ++ [false])
def playK (s : Spc) (c : Cs) (l : List Mv) (k : Nat) : Cs × List Bool := (l.take k).foldl (playS s) (c, [])
theorem zyc (s : Spc) (c : Cs) (l : List Mv) : playK s c l 0 = (c, []) := by simp [playK]
theorem zyb {s : Spc} {c : Cs} {l : List Mv} {k : Nat} (h : k < l.length) : playK s c l (k + 1) = playS s (playK s c l k) l[k] := by
  unfold playK; rw [List.take_succ_eq_append_getElem h, List.foldl_append]; rfl
theorem zyd (s : Spc) (x : Cs × List Bool) (m : Mv) : (playS s x m).2.length = x.2.length + 1 := by unfold playS; split <;> simp
theorem zya (s : Spc) (c : Cs) (l : List Mv) : ∀ k, k ≤ l.length → (playK s c l k).2.length = k
  | 0, _ => by simp [playK]
  | k + 1, h => by rw [zyb (by omega), zyd, zya s c l k (by omega)]
theorem z17m {s : Spc} {c : Cs} {m : Mv} (hc : goodC s c = true) (h : stepB s c m = true) : goodC s (stepC s c m) = true := by
  have hm := zgu hc
  have hl := zh2 hm
  have hfl : (zem (trM s m) c.mark).length = c.mark.length := zeo (trM s m) c.mark
  have hall : (zem (trM s m) c.mark).all (inB 0 50) = true := by unfold stepB at h; simp only [Bool.and_eq_true] at h; exact h.2
  have hM : goodM (s.conds + s.tasks.length) (zem (trM s m) c.mark) = true := by
    have h1 : inB 1 16 (s.conds + s.tasks.length) = true := by simp [inB]; omega
    have h2 : (((zem (trM s m) c.mark).length : Int) == s.conds + s.tasks.length) = true := by simp [hfl]; omega
    simp only [goodM, h1, h2, hall, Bool.true_and]
  have hnn : 0 ≤ at_ (zem (trM s m) c.mark) 1 := by
    by_cases h1 : 1 < (zem (trM s m) c.mark).length
    · have e := at_eq (m := zem (trM s m) c.mark) (p := 1) h1
      rw [← e]
      exact ((zh2 hM).2.2.2.2 _ (List.getElem_mem h1)).1
    · simp [at_]; rw [List.getElem?_eq_none (by omega)]; simp
  unfold goodC stepC
  simp only [hM, Bool.true_and]
  by_cases hp : 0 < at_ (zem (trM s m) c.mark) 1
  · simp [hp]
  · simp [hp]; omega
theorem zy9 {s : Spc} {c : Cs} {l : List Mv} (hc : goodC s c = true) : ∀ k, k ≤ l.length → goodC s (playK s c l k).1 = true
  | 0, _ => by simpa [playK] using hc
  | k + 1, h => by
    rw [zyb (by omega)]
    unfold playS
    split
    · rename_i hb; exact z17m (zy9 hc k (by omega)) hb
    · exact zy9 hc k (by omega)
def zeq (s : Spc) : Cs := ⟨1, oneM (s.conds + s.tasks.length).toNat 0⟩
theorem zer {s : Spc} (h : zts s = true) : goodC s (zeq s) = true := by
  obtain ⟨hc, hn, -⟩ := ztt h
  obtain ⟨n, hN⟩ : ∃ n : Nat, s.conds + (s.tasks.length : Int) = n := ⟨(s.conds + s.tasks.length).toNat, by omega⟩
  unfold goodC zeq
  simp only [hN, Int.toNat_natCast]
  have h1 : inB 1 16 (n : Int) = true := by simp [inB]; omega
  have h2 : (((oneM n 0).length : Int) == (n : Int)) = true := by simp [oneM]
  have h3 : (oneM n 0).all (inB 0 50) = true := by
    rw [List.all_eq_true]
    intro x hx
    rcases List.mem_or_eq_of_mem_set hx with hx | rfl
    · obtain rfl := List.eq_of_mem_replicate hx; decide
    · decide
  have h4 : at_ (oneM n 0) 1 = 0 := by
    simp only [at_, oneM, List.getD_eq_getElem?_getD]
    rw [List.getElem?_set_ne (by decide), List.getElem?_replicate]
    split <;> rfl
  simp [goodM, h1, h2, h3, h4]
theorem zes {s : Spc} (h : zts s = true) : (zeq s).mark.length ≤ 16 := by
  obtain ⟨hc, hn, -⟩ := ztt h
  simp [zeq, oneM]; omega
end Go.Proofs.YtkkifebmicbbaaaGreat.Pi
namespace Go.Proofs.YtkkifebmicbbaaaGreat.Pi
open Go
set_option linter.all false

structure Arc3 where
  src : Int
  by_ : Int
  dst : Int
structure Sp where
  ms : List (List Int)
  ar : List Arc3
structure Ex where
  sp : Sp
  code : Int
def findM (l : List (List Int)) (m : List Int) : Int := idxI l (fun x => decide (x = m))
def zco (n : Net) (b : Int) (k : Nat) (s : Ex) (t : Int) : Ex :=
  if s.code ≠ 0 then s else
  let m := zem (trAt n t) (s.sp.ms.getD k [])
  if m.all (inB 0 50) = false then ⟨s.sp, 3⟩
  else if 0 ≤ findM s.sp.ms m then ⟨⟨s.sp.ms, s.sp.ar ++ [⟨k, t, findM s.sp.ms m⟩]⟩, 0⟩
  else if b ≤ s.sp.ms.length then ⟨s.sp, 2⟩
  else ⟨⟨s.sp.ms ++ [m], s.sp.ar ++ [⟨k, t, s.sp.ms.length⟩]⟩, 0⟩
def exL (n : Net) (b : Int) (k : Nat) (s : Ex) (l : List Int) : Ex := l.foldl (zco n b k) s
def exRun (n : Net) (b : Int) : Nat → Nat → Ex → Ex
  | 0, _, s => s
  | f + 1, k, s => if s.code ≠ 0 then s else if k < s.sp.ms.length then exRun n b f (k + 1) (exL n b k s (enabL n (s.sp.ms.getD k []))) else s
def exAll (n : Net) (start : List Int) (b : Int) : Ex := exRun n b (b.toNat + 2) 0 ⟨⟨[start], []⟩, 0⟩
theorem zcy {n : Net} {b : Int} {k : Nat} {s : Ex} {t : Int} (h : s.code ≠ 0) : zco n b k s t = s := by
  unfold zco; rw [if_pos h]
theorem zci {n : Net} {b : Int} {k : Nat} {l : List Int} {s : Ex} (h : s.code ≠ 0) : exL n b k s l = s := by
  unfold exL
  induction l with
  | nil => rfl
  | cons t l ih => rw [List.foldl_cons, zcy h]; exact ih
theorem zcn {n : Net} {b : Int} {f k : Nat} {s : Ex} (h : s.code ≠ 0) : exRun n b f k s = s := by
  cases f with
  | zero => rfl
  | succ f => show (if s.code ≠ 0 then s else _) = s; rw [if_pos h]
theorem zcg {n : Net} {b : Int} {k : Nat} {s : Ex} {l : List Int} {j : Nat} (hj : j < l.length) : exL n b k s (l.drop j) = exL n b k (zco n b k s l[j]) (l.drop (j + 1)) := by
  rw [List.drop_eq_getElem_cons hj]; rfl
theorem zcz {n : Net} {b : Int} {k : Nat} {s : Ex} {t : Int} (h0 : s.code = 0) (h : (zem (trAt n t) (s.sp.ms.getD k [])).all (inB 0 50) = false) : zco n b k s t = ⟨s.sp, 3⟩ := by
  unfold zco; rw [if_neg (by omega)]; simp only [h, if_true]
theorem zcw {n : Net} {b : Int} {k : Nat} {s : Ex} {t : Int} (h0 : s.code = 0) (h : (zem (trAt n t) (s.sp.ms.getD k [])).all (inB 0 50) = true) (h2 : 0 ≤ findM s.sp.ms (zem (trAt n t) (s.sp.ms.getD k []))) : zco n b k s t = ⟨⟨s.sp.ms, s.sp.ar ++ [⟨k, t, findM s.sp.ms (zem (trAt n t) (s.sp.ms.getD k []))⟩]⟩, 0⟩ := by
  unfold zco; rw [if_neg (by omega)]; simp only [h]; rw [if_neg (by simp), if_pos h2]
theorem zcs {n : Net} {b : Int} {k : Nat} {s : Ex} {t : Int} (h0 : s.code = 0) (h : (zem (trAt n t) (s.sp.ms.getD k [])).all (inB 0 50) = true) (h2 : ¬ 0 ≤ findM s.sp.ms (zem (trAt n t) (s.sp.ms.getD k []))) (h3 : b ≤ s.sp.ms.length) : zco n b k s t = ⟨s.sp, 2⟩ := by
  unfold zco; rw [if_neg (by omega)]; simp only [h]; rw [if_neg (by simp), if_neg h2, if_pos h3]
theorem zcu {n : Net} {b : Int} {k : Nat} {s : Ex} {t : Int} (h0 : s.code = 0) (h : (zem (trAt n t) (s.sp.ms.getD k [])).all (inB 0 50) = true) (h2 : ¬ 0 ≤ findM s.sp.ms (zem (trAt n t) (s.sp.ms.getD k []))) (h3 : ¬ b ≤ s.sp.ms.length) : zco n b k s t = ⟨⟨s.sp.ms ++ [zem (trAt n t) (s.sp.ms.getD k [])], s.sp.ar ++ [⟨k, t, s.sp.ms.length⟩]⟩, 0⟩ := by
  unfold zco; rw [if_neg (by omega)]; simp only [h]; rw [if_neg (by simp), if_neg h2, if_neg h3]
theorem zed {l : List (List Int)} {m : List Int} : 0 ≤ findM l m ↔ m ∈ l := by
  have := zia l (fun x => decide (x = m))
  unfold findM
  constructor
  · intro h
    rw [decide_eq_true h] at this
    rw [List.any_eq_true] at this
    obtain ⟨x, hx, hy⟩ := this
    have : x = m := by simpa using hy
    exact this ▸ hx
  · intro h
    have h2 : (l.any fun x => decide (x = m)) = true := by rw [List.any_eq_true]; exact ⟨m, h, by simp⟩
    rw [h2] at this
    exact of_decide_eq_true this.symm
theorem zec {l : List (List Int)} {m : List Int} (h : 0 ≤ findM l m) : (findM l m).toNat < l.length ∧ l[(findM l m).toNat]? = some m := by
  unfold findM idxI at h ⊢
  cases e : l.findIdx? (fun x => decide (x = m)) with
  | none => rw [e] at h; simp at h
  | some k =>
    rw [List.findIdx?_eq_some_iff_getElem] at e
    obtain ⟨h1, h2, _⟩ := e
    refine ⟨by simpa using h1, ?_⟩
    have : l[k] = m := by simpa using h2
    simp [List.getElem?_eq_getElem h1, this]
structure ExOk (n : Net) (start : List Int) (b : Int) (s : Ex) : Prop where
  first : s.sp.ms[0]? = some start
  good : ∀ m ∈ s.sp.ms, zpr n m = true
  lenb : s.sp.ms.length ≤ b.toNat
  nodup : s.sp.ms.Nodup
  arcs : ∀ a ∈ s.sp.ar, 0 ≤ a.src ∧ a.src.toNat < s.sp.ms.length ∧ 0 ≤ a.dst ∧ a.dst.toNat < s.sp.ms.length ∧ ztb n (s.sp.ms.getD a.src.toNat []) a.by_ = true ∧ s.sp.ms.getD a.dst.toNat [] = zem (trAt n a.by_) (s.sp.ms.getD a.src.toNat [])
  back : ∀ j : Nat, 0 < j → j < s.sp.ms.length → ∃ i, ∃ h : i < s.sp.ar.length, s.sp.ar[i].dst = j ∧ s.sp.ar[i].src < j ∧ ∀ i', (h' : i' < i) → (s.sp.ar[i']'(by omega)).dst ≠ j
theorem ExOk.sp {n : Net} {start : List Int} {b : Int} {s : Ex} (h : ExOk n start b s) (c : Int) : ExOk n start b ⟨s.sp, c⟩ := ⟨h.first, h.good, h.lenb, h.nodup, h.arcs, h.back⟩
theorem zgm {l : List (List Int)} {k : Nat} (hk : k < l.length) : l.getD k [] ∈ l := by
  rw [List.getD_eq_getElem?_getD, List.getElem?_eq_getElem hk]; exact List.getElem_mem hk
theorem zgn {l : List (List Int)} {k : Nat} (hk : k < l.length) : l[k] = l.getD k [] := by
  rw [List.getD_eq_getElem?_getD, List.getElem?_eq_getElem hk]; rfl
theorem zgi {l : List (List Int)} {m : List Int} {k : Nat} (hk : k < l.length) : (l ++ [m]).getD k [] = l.getD k [] := by
  rw [List.getD_eq_getElem?_getD, List.getD_eq_getElem?_getD, List.getElem?_append_left hk]
theorem zgl {l : List (List Int)} {m : List Int} : (l ++ [m]).getD l.length [] = m := by
  rw [List.getD_eq_getElem?_getD, List.getElem?_append_right (Nat.le_refl _)]; simp
theorem zbw {n : Net} {m : List Int} {t : Int} (hm : zpr n m = true) (ht : t ∈ enabL n m) (ha : (zem (trAt n t) m).all (inB 0 50) = true) : ztb n m t = true := by
  obtain ⟨h1, h2, h3⟩ := zbu.1 ht
  have h4 : inB 0 (n.tr.length - 1) t = true := by simp [inB]; omega
  simp only [ztb, canN, hm, h3, h4, ha, Bool.and_self]
theorem zcv {n : Net} {start : List Int} {b : Int} {k : Nat} {s : Ex} {t : Int} (h : ExOk n start b s) (hk : k < s.sp.ms.length) (ht : t ∈ enabL n (s.sp.ms.getD k [])) : ExOk n start b (zco n b k s t) := by
  by_cases h0 : s.code = 0
  case neg => rw [zcy h0]; exact h
  cases ha : (zem (trAt n t) (s.sp.ms.getD k [])).all (inB 0 50) with
  | false => rw [zcz h0 ha]; exact h.sp 3
  | true =>
    have hf := zbw (h.good _ (zgm hk)) ht ha
    by_cases h2 : 0 ≤ findM s.sp.ms (zem (trAt n t) (s.sp.ms.getD k []))
    · rw [zcw h0 ha h2]
      obtain ⟨g1, g2⟩ := zec h2
      refine ⟨h.first, h.good, h.lenb, h.nodup, fun a hm => ?_, fun j hj hl => ?_⟩
      · rcases List.mem_append.1 hm with hm | hm
        · exact h.arcs a hm
        · simp only [List.mem_singleton] at hm
          subst hm
          refine ⟨by simp, by simpa using hk, h2, g1, by simpa using hf, ?_⟩
          simp only [Int.toNat_natCast]
          rw [List.getD_eq_getElem?_getD, g2]; rfl
      · obtain ⟨i, hi, e1, e2, e3⟩ := h.back j hj hl
        refine ⟨i, by simp; omega, by simp only; rw [List.getElem_append_left hi]; exact e1, by simp only; rw [List.getElem_append_left hi]; exact e2, fun i' h' => ?_⟩
        simp only
        rw [List.getElem_append_left (by omega)]; exact e3 i' h'
    · by_cases h3 : b ≤ s.sp.ms.length
      · rw [zcs h0 ha h2 h3]; exact h.sp 2
      · rw [zcu h0 ha h2 h3]
        have hnm : zem (trAt n t) (s.sp.ms.getD k []) ∉ s.sp.ms := fun hm => h2 (zed.2 hm)
        generalize hM : zem (trAt n t) (s.sp.ms.getD k []) = M at *
        refine ⟨?_, fun m hm => ?_, by simp; omega, ?_, fun a hm => ?_, fun j hj hl => ?_⟩
        · simp only
          rw [List.getElem?_append_left (by omega)]; exact h.first
        · rcases List.mem_append.1 hm with hm | hm
          · exact h.good m hm
          · simp only [List.mem_singleton] at hm
            subst hm; rw [← hM]; exact zte hf
        · simp only
          rw [List.nodup_append]
          refine ⟨h.nodup, by simp, fun x hx y hy => ?_⟩
          simp only [List.mem_singleton] at hy
          subst hy
          intro e; subst e; exact hnm hx
        · rcases List.mem_append.1 hm with hm | hm
          · obtain ⟨a1, a2, a3, a4, a5, a6⟩ := h.arcs a hm
            refine ⟨a1, by simp; omega, a3, by simp; omega, ?_, ?_⟩
            · simp only; rw [zgi a2]; exact a5
            · simp only; rw [zgi a2, zgi a4]; exact a6
          · simp only [List.mem_singleton] at hm
            subst hm
            refine ⟨by simp, by simp; omega, by simp, by simp, ?_, ?_⟩
            · simp only [Int.toNat_natCast]; rw [zgi hk]; exact hf
            · simp only [Int.toNat_natCast]; rw [zgi hk, zgl]; exact hM.symm
        · simp only [List.length_append, List.length_cons, List.length_nil] at hl
          by_cases hj2 : j < s.sp.ms.length
          · obtain ⟨i, hi, e1, e2, e3⟩ := h.back j hj hj2
            refine ⟨i, by simp; omega, by simp only; rw [List.getElem_append_left hi]; exact e1, by simp only; rw [List.getElem_append_left hi]; exact e2, fun i' h' => ?_⟩
            simp only
            rw [List.getElem_append_left (by omega)]; exact e3 i' h'
          · have : j = s.sp.ms.length := by omega
            subst this
            refine ⟨s.sp.ar.length, by simp, by simp, by simp; omega, fun i' h' => ?_⟩
            simp only
            rw [List.getElem_append_left h']
            have := h.arcs _ (List.getElem_mem h')
            omega
theorem zcx {n : Net} {b : Int} {k : Nat} {s : Ex} {t : Int} : ∃ l, (zco n b k s t).sp.ms = s.sp.ms ++ l := by
  by_cases h0 : s.code = 0
  case neg => rw [zcy h0]; exact ⟨[], by simp⟩
  cases ha : (zem (trAt n t) (s.sp.ms.getD k [])).all (inB 0 50) with
  | false => rw [zcz h0 ha]; exact ⟨[], by simp⟩
  | true =>
    by_cases h2 : 0 ≤ findM s.sp.ms (zem (trAt n t) (s.sp.ms.getD k []))
    · rw [zcw h0 ha h2]; exact ⟨[], by simp⟩
    · by_cases h3 : b ≤ s.sp.ms.length
      · rw [zcs h0 ha h2 h3]; exact ⟨[], by simp⟩
      · rw [zcu h0 ha h2 h3]; exact ⟨_, rfl⟩
theorem zct {n : Net} {b : Int} {k : Nat} {s : Ex} {t : Int} (h0 : s.code = 0) (h : (zco n b k s t).code = 0) : (zem (trAt n t) (s.sp.ms.getD k [])).all (inB 0 50) = true ∧ zem (trAt n t) (s.sp.ms.getD k []) ∈ (zco n b k s t).sp.ms := by
  cases ha : (zem (trAt n t) (s.sp.ms.getD k [])).all (inB 0 50) with
  | false => rw [zcz h0 ha] at h; simp at h
  | true =>
    refine ⟨rfl, ?_⟩
    by_cases h2 : 0 ≤ findM s.sp.ms (zem (trAt n t) (s.sp.ms.getD k []))
    · rw [zcw h0 ha h2]; exact zed.1 h2
    · by_cases h3 : b ≤ s.sp.ms.length
      · rw [zcs h0 ha h2 h3] at h; simp at h
      · rw [zcu h0 ha h2 h3]; simp
theorem zgp {l l' : List (List Int)} {k : Nat} (hk : k < l.length) : (l ++ l').getD k [] = l.getD k [] := by
  rw [List.getD_eq_getElem?_getD, List.getD_eq_getElem?_getD, List.getElem?_append_left hk]
theorem zch {n : Net} {start : List Int} {b : Int} {k : Nat} : ∀ (l : List Int) (s : Ex), ExOk n start b s → k < s.sp.ms.length → (∀ t ∈ l, t ∈ enabL n (s.sp.ms.getD k [])) →
    ExOk n start b (exL n b k s l) ∧ (∃ l', (exL n b k s l).sp.ms = s.sp.ms ++ l') ∧ ((exL n b k s l).code = 0 → s.code = 0 ∧ ∀ t ∈ l, (zem (trAt n t) (s.sp.ms.getD k [])).all (inB 0 50) = true ∧ zem (trAt n t) (s.sp.ms.getD k []) ∈ (exL n b k s l).sp.ms)
  | [], s, h, hk, _ => ⟨h, ⟨[], by simp [exL]⟩, fun hc => ⟨hc, by simp⟩⟩
  | t :: l, s, h, hk, hl => by
    have h1 := zcv h hk (hl t (by simp))
    obtain ⟨p, hp⟩ := zcx (n := n) (b := b) (k := k) (s := s) (t := t)
    have e : (zco n b k s t).sp.ms.getD k [] = s.sp.ms.getD k [] := by rw [hp, zgp hk]
    obtain ⟨f1, ⟨p2, f2⟩, f3⟩ := zch (k := k) l (zco n b k s t) h1 (by rw [hp]; simp; omega) (fun u hu => by rw [e]; exact hl u (by simp [hu]))
    refine ⟨f1, ⟨p ++ p2, by show (exL n b k (zco n b k s t) l).sp.ms = _; rw [f2, hp, List.append_assoc]⟩, fun hc => ?_⟩
    obtain ⟨c1, c2⟩ := f3 hc
    have h0 : s.code = 0 := by
      by_cases h0 : s.code = 0
      · exact h0
      · rw [zcy h0] at c1; exact c1
    refine ⟨h0, fun u hu => ?_⟩
    rcases List.mem_cons.1 hu with rfl | hu
    · obtain ⟨d1, d2⟩ := zct h0 c1
      refine ⟨d1, ?_⟩
      show _ ∈ (exL n b k (zco n b k s u) l).sp.ms
      rw [f2]; exact List.mem_append_left _ d2
    · have := c2 u hu
      rw [e] at this; exact this
def z9h (n : Net) (s : Ex) (k : Nat) : Prop := ∀ i, i < k → i < s.sp.ms.length → ∀ t ∈ enabL n (s.sp.ms.getD i []), (zem (trAt n t) (s.sp.ms.getD i [])).all (inB 0 50) = true ∧ zem (trAt n t) (s.sp.ms.getD i []) ∈ s.sp.ms
theorem zcm {n : Net} {start : List Int} {b : Int} : ∀ (f k : Nat) (s : Ex), ExOk n start b s → z9h n s k → b.toNat < k + f → k ≤ s.sp.ms.length →
    ExOk n start b (exRun n b f k s) ∧ ((exRun n b f k s).code = 0 → z9h n (exRun n b f k s) (exRun n b f k s).sp.ms.length)
  | 0, k, s, h, hc, hb, hk => by have := h.lenb; omega
  | f + 1, k, s, h, hc, hb, hk => by
    by_cases h0 : s.code ≠ 0
    · rw [zcn h0]; exact ⟨h, fun e => absurd e h0⟩
    · show ExOk n start b (if s.code ≠ 0 then s else if k < s.sp.ms.length then exRun n b f (k + 1) (exL n b k s (enabL n (s.sp.ms.getD k []))) else s) ∧ _
      have er : exRun n b (f + 1) k s = if s.code ≠ 0 then s else if k < s.sp.ms.length then exRun n b f (k + 1) (exL n b k s (enabL n (s.sp.ms.getD k []))) else s := rfl
      rw [er, if_neg h0]
      by_cases hl : k < s.sp.ms.length
      · rw [if_pos hl]
        obtain ⟨f1, ⟨p, f2⟩, f3⟩ := zch (start := start) (k := k) (enabL n (s.sp.ms.getD k [])) s h hl (fun t ht => ht)
        by_cases hc0 : (exL n b k s (enabL n (s.sp.ms.getD k []))).code = 0
        · refine zcm f (k + 1) (exL n b k s (enabL n (s.sp.ms.getD k []))) f1 (fun i hi hl2 t ht => ?_) (by omega) (by rw [f2, List.length_append]; omega)
          by_cases hik : i < k
          · have e : (exL n b k s (enabL n (s.sp.ms.getD k []))).sp.ms.getD i [] = s.sp.ms.getD i [] := by rw [f2, zgp (l := s.sp.ms) (by omega)]
            rw [e] at ht ⊢
            obtain ⟨d1, d2⟩ := hc i hik (by omega) t ht
            exact ⟨d1, by rw [f2]; exact List.mem_append_left _ d2⟩
          · have : i = k := by omega
            subst this
            have e : (exL n b i s (enabL n (s.sp.ms.getD i []))).sp.ms.getD i [] = s.sp.ms.getD i [] := by rw [f2, zgp hl]
            rw [e] at ht ⊢
            exact (f3 hc0).2 t ht
        · rw [zcn hc0]; exact ⟨f1, fun e => absurd e hc0⟩
      · rw [if_neg hl]
        refine ⟨h, fun _ i hi hl2 t ht => hc i (by omega) hl2 t ht⟩
theorem zcc {n : Net} {start : List Int} {b : Int} (hm : zpr n start = true) (hb : 1 ≤ b) : ExOk n start b (exAll n start b) ∧ ((exAll n start b).code = 0 → z9h n (exAll n start b) (exAll n start b).sp.ms.length) := by
  unfold exAll
  refine zcm _ 0 _ ⟨rfl, fun m hm2 => ?_, by simp; omega, by simp, fun a ha => by simp at ha, fun j hj hl => ?_⟩ (fun i hi => by omega) (by omega) (by omega)
  · simp only [List.mem_singleton] at hm2; subst hm2; exact hm
  · simp only [List.length_cons, List.length_nil] at hl; omega
end Go.Proofs.YtkkifebmicbbaaaGreat.Pi
namespace Go.Proofs.YtkkifebmicbbaaaGreat.Pi
open Go
set_option linter.all false

def arcTo (ar : List Arc3) (p : Int) : Int := idxI ar (fun a => decide (a.dst = p))
theorem zeb {l : List (List Int)} (hn : l.Nodup) {k : Nat} (hk : k < l.length) : findM l (l.getD k []) = k := by
  unfold findM
  refine zid hk ?_ (by rw [zgn hk]; simp)
  rw [List.any_eq_false]
  intro x hx
  obtain ⟨i, h1, rfl⟩ := List.mem_iff_getElem.1 hx
  have h2 : i < k := by simp at h1; omega
  have h3 := List.pairwise_iff_getElem.1 hn i k (by omega) hk h2
  rw [List.getElem_take, ← zgn hk]
  simpa using h3
theorem zcp (n : Net) (b : Int) (k : Nat) (s : Ex) (t : Int) : (zco n b k s t).sp.ar.length ≤ s.sp.ar.length + 1 := by
  by_cases h0 : s.code = 0
  case neg => rw [zcy h0]; omega
  cases ha : (zem (trAt n t) (s.sp.ms.getD k [])).all (inB 0 50) with
  | false => rw [zcz h0 ha]; simp only; omega
  | true =>
    by_cases h2 : 0 ≤ findM s.sp.ms (zem (trAt n t) (s.sp.ms.getD k []))
    · rw [zcw h0 ha h2]; simp
    · by_cases h3 : b ≤ s.sp.ms.length
      · rw [zcs h0 ha h2 h3]; simp only; omega
      · rw [zcu h0 ha h2 h3]; simp
theorem zcd (n : Net) (b : Int) (k : Nat) : ∀ (l : List Int) (s : Ex), (exL n b k s l).sp.ar.length ≤ s.sp.ar.length + l.length
  | [], s => by simp [exL]
  | t :: l, s => by
    have h1 := zcp n b k s t
    have h2 := zcd n b k l (zco n b k s t)
    show (exL n b k (zco n b k s t) l).sp.ar.length ≤ _
    simp only [List.length_cons]; omega
theorem zcj {n : Net} {b : Int} (hn : n.tr.length ≤ 24) : ∀ (f k : Nat) (s : Ex), (exRun n b f k s).sp.ar.length ≤ s.sp.ar.length + 24 * f
  | 0, k, s => by simp [exRun]
  | f + 1, k, s => by
    show (if s.code ≠ 0 then s else if k < s.sp.ms.length then exRun n b f (k + 1) (exL n b k s (enabL n (s.sp.ms.getD k []))) else s).sp.ar.length ≤ _
    split
    · omega
    · split
      · have h1 := zcd n b k (enabL n (s.sp.ms.getD k [])) s
        have h2 : (enabL n (s.sp.ms.getD k [])).length ≤ n.tr.length := zbs ..
        have h3 := zcj (b := b) hn f (k + 1) (exL n b k s (enabL n (s.sp.ms.getD k [])))
        omega
      · omega
theorem zc9 {n : Net} {start : List Int} {b : Int} (hn : n.tr.length ≤ 24) (hb : b ≤ 400) : (exAll n start b).sp.ar.length ≤ 20000 := by
  have := zcj (b := b) hn (b.toNat + 2) 0 ⟨⟨[start], []⟩, 0⟩
  unfold exAll
  simp only [List.length_nil] at this
  omega
theorem zcr (n : Net) (b : Int) (k : Nat) (s : Ex) (t : Int) (h : s.code = 0 ∨ s.code = 2 ∨ s.code = 3) : (zco n b k s t).code = 0 ∨ (zco n b k s t).code = 2 ∨ (zco n b k s t).code = 3 := by
  by_cases h0 : s.code = 0
  case neg => rw [zcy h0]; exact h
  cases ha : (zem (trAt n t) (s.sp.ms.getD k [])).all (inB 0 50) with
  | false => rw [zcz h0 ha]; simp
  | true =>
    by_cases h2 : 0 ≤ findM s.sp.ms (zem (trAt n t) (s.sp.ms.getD k []))
    · rw [zcw h0 ha h2]; simp
    · by_cases h3 : b ≤ s.sp.ms.length
      · rw [zcs h0 ha h2 h3]; simp
      · rw [zcu h0 ha h2 h3]; simp
theorem zcf (n : Net) (b : Int) (k : Nat) : ∀ (l : List Int) (s : Ex), (s.code = 0 ∨ s.code = 2 ∨ s.code = 3) → (exL n b k s l).code = 0 ∨ (exL n b k s l).code = 2 ∨ (exL n b k s l).code = 3
  | [], s, h => h
  | t :: l, s, h => zcf n b k l (zco n b k s t) (zcr n b k s t h)
theorem zcl {n : Net} {b : Int} : ∀ (f k : Nat) (s : Ex), (s.code = 0 ∨ s.code = 2 ∨ s.code = 3) → (exRun n b f k s).code = 0 ∨ (exRun n b f k s).code = 2 ∨ (exRun n b f k s).code = 3
  | 0, k, s, h => h
  | f + 1, k, s, h => by
    have er : exRun n b (f + 1) k s = if s.code ≠ 0 then s else if k < s.sp.ms.length then exRun n b f (k + 1) (exL n b k s (enabL n (s.sp.ms.getD k []))) else s := rfl
    rw [er]
    split
    · exact h
    · split
      · exact zcl f (k + 1) _ (zcf n b k _ s h)
      · exact h
theorem zcb (n : Net) (start : List Int) (b : Int) : (exAll n start b).code = 0 ∨ (exAll n start b).code = 2 ∨ (exAll n start b).code = 3 := zcl _ _ _ (.inl rfl)
def revI (l c : List Int) (i : Nat) : Prop := ∃ h : c.length = l.length, ∀ p, (hp : p < l.length) → c[p]'(by omega) = if p < i ∨ l.length ≤ p + i then l[l.length - 1 - p]'(by omega) else l[p]
theorem z12u (l : List Int) : revI l l 0 := ⟨rfl, fun p hp => by rw [if_neg (by omega)]⟩
theorem z12t {l c : List Int} {i : Nat} (h : revI l c i) (hi : 2 * i + 1 < l.length) : revI l ((c.set i (c[l.length - 1 - i]'(by have := h.1; omega))).set (l.length - 1 - i) (c[i]'(by have := h.1; omega))) (i + 1) := by
  obtain ⟨h1, h2⟩ := h
  refine ⟨by simp [h1], fun p hp => ?_⟩
  have hi1 := h2 i (by omega)
  have hi2 := h2 (l.length - 1 - i) (by omega)
  rw [if_neg (by omega)] at hi1 hi2
  rw [List.getElem_set]
  by_cases e1 : l.length - 1 - i = p
  · rw [if_pos e1, if_pos (by omega), hi1]
    congr 1; omega
  · rw [if_neg e1, List.getElem_set]
    by_cases e2 : i = p
    · rw [if_pos e2, if_pos (by omega), hi2]
      congr 1; omega
    · rw [if_neg e2, h2 p hp]
      by_cases e3 : p < i ∨ l.length ≤ p + i
      · rw [if_pos e3, if_pos (by omega)]
      · rw [if_neg e3, if_neg (by omega)]
theorem z12s {l c : List Int} {i : Nat} (h : revI l c i) (hi : l.length ≤ 2 * i + 1) : c = l.reverse := by
  obtain ⟨h1, h2⟩ := h
  refine List.ext_getElem (by simp [h1]) (fun p hp hp2 => ?_)
  rw [h2 p (by omega), List.getElem_reverse]
  split
  · rfl
  · congr 1; omega
end Go.Proofs.YtkkifebmicbbaaaGreat.Pi
namespace Go.Proofs.YtkkifebmicbbaaaGreat.Pi
open Go
set_option linter.all false

inductive Rk (ar : List Arc3) (S : List Int) : Int → Prop
  | base {k : Int} (h : k ∈ S) : Rk ar S k
  | step {a : Arc3} (h : a ∈ ar) (r : Rk ar S a.dst) : Rk ar S a.src
def z3v (ar : List Arc3) (n : Nat) : Prop := ∀ a ∈ ar, 0 ≤ a.src ∧ a.src < n ∧ 0 ≤ a.dst ∧ a.dst < n
open Classical in
noncomputable def toL (ar : List Arc3) (n : Nat) (S : List Int) : List Bool := (List.range n).map fun (k : Nat) => decide (Rk ar S (k : Int))
theorem z1ah (ar : List Arc3) (n : Nat) (S : List Int) : (toL ar n S).length = n := by simp [toL]
theorem z1ag {ar : List Arc3} {n : Nat} {S : List Int} {k : Nat} (hk : k < n) : (toL ar n S)[k]'(by rw [z1ah]; exact hk) = true ↔ Rk ar S k := by simp [toL]
def sndB (ar : List Arc3) (S : List Int) (c : List Bool) : Prop := ∀ k : Nat, c[k]? = some true → Rk ar S k
def hasS (S : List Int) (c : List Bool) : Prop := ∀ k ∈ S, c[k.toNat]? = some true
def clsB (ar : List Arc3) (c : List Bool) : Prop := ∀ a ∈ ar, c[a.dst.toNat]? = some true → c[a.src.toNat]? = some true
theorem z1ai {ar : List Arc3} {n : Nat} {S : List Int} {c : List Bool} (hl : c.length = n) (hS : ∀ k ∈ S, 0 ≤ k ∧ k < n) (hs : sndB ar S c) (hb : hasS S c) (hc : clsB ar c) : c = toL ar n S := by
  have h : ∀ k, Rk ar S k → c[k.toNat]? = some true := by
    intro k hk
    induction hk with
    | base h => exact hb _ h
    | step h _ ih => exact hc _ h ih
  apply List.ext_getElem?
  intro k
  by_cases hk : k < n
  · rw [List.getElem?_eq_getElem (by omega), List.getElem?_eq_getElem (by rw [z1ah]; exact hk)]
    congr 1
    cases e : c[k]'(by omega) with
    | true => exact ((z1ag hk).2 (hs k (by rw [List.getElem?_eq_getElem (by omega), e]))).symm
    | false =>
      cases e2 : (toL ar n S)[k]'(by rw [z1ah]; exact hk) with
      | false => rfl
      | true =>
        have := h _ ((z1ag hk).1 e2)
        rw [Int.toNat_natCast, List.getElem?_eq_getElem (by omega), e] at this
        cases this
  · rw [List.getElem?_eq_none (by omega), List.getElem?_eq_none (by rw [z1ah]; omega)]
theorem z17f {ar : List Arc3} {S : List Int} {c : List Bool} {k : Int} (h : sndB ar S c) (h0 : 0 ≤ k) (hk : Rk ar S k) : sndB ar S (c.set k.toNat true) := by
  intro j hj
  rw [List.getElem?_set] at hj
  split at hj
  · rename_i e
    rw [← e, Int.toNat_of_nonneg h0]; exact hk
  · exact h j hj
theorem z15b {c : List Bool} {k j : Nat} (h : c[j]? = some true) : (c.set k true)[j]? = some true := by
  rw [List.getElem?_set]
  split
  · rename_i e; subst e
    rw [if_pos (List.getElem?_eq_some_iff.1 h).1]
  · exact h
theorem zi3 {S : List Int} {c : List Bool} {k : Nat} (h : hasS S c) : hasS S (c.set k true) := fun x hx => z15b (h x hx)
def putS (c : List Bool) (S : List Int) : List Bool := S.foldl (fun c k => c.set k.toNat true) c
theorem z17g {ar : List Arc3} {S : List Int} {n : Nat} : sndB ar S (List.replicate n false) := by
  intro k hk
  rw [List.getElem?_replicate] at hk
  split at hk <;> cases hk
/-! ### From where arcs come to a marking -/
def befs (ar : List Arc3) (j : Int) : List Int := (ar.filter fun a => decide (a.dst = j)).map (·.src)
def pvB (l : List Int) : PV := if l = [] then .nil true 1 else ints l
def befP (ar : List Arc3) (n : Nat) : List PV := (List.range n).map fun (j : Nat) => pvB (befs ar j)
theorem z4u (ar : List Arc3) (n : Nat) : (befP ar n).length = n := by simp [befP]
theorem z4t {ar : List Arc3} {n : Nat} {j : Int} (h0 : 0 ≤ j) (h : j < n) : (befP ar n)[j.toNat]? = some (pvB (befs ar j)) := by
  simp only [befP, List.getElem?_map]
  rw [List.getElem?_range (by omega)]
  simp [Int.toNat_of_nonneg h0]
theorem z4w (n : Nat) : befP [] n = List.replicate n (.nil true 1) := by
  apply List.ext_getElem
  · simp [befP]
  · intro i h1 h2
    simp [befP, befs, pvB]
theorem z4z {ar : List Arc3} {k : Nat} {j : Int} (hk : k < ar.length) : befs (ar.take (k + 1)) j = if ar[k].dst = j then befs (ar.take k) j ++ [ar[k].src] else befs (ar.take k) j := by
  unfold befs
  rw [List.take_succ_eq_append_getElem hk, List.filter_append, List.map_append]
  split
  · rename_i h; simp [h]
  · rename_i h; simp [h]
theorem z4v {ar : List Arc3} {n k : Nat} (hk : k < ar.length) (h0 : 0 ≤ ar[k].dst) : befP (ar.take (k + 1)) n = (befP (ar.take k) n).set ar[k].dst.toNat (ints (befs (ar.take k) ar[k].dst ++ [ar[k].src])) := by
  apply List.ext_getElem?
  intro j
  rw [List.getElem?_set, z4u]
  by_cases hj : j < n
  · simp only [befP, List.getElem?_map, List.getElem?_range hj, Option.map_some]
    rw [z4z hk]
    by_cases e : ar[k].dst = (j : Int)
    · rw [if_pos e, if_pos (by omega), if_pos (by omega), e]
      simp [pvB]
    · rw [if_neg e, if_neg (by omega)]
  · simp only [befP, List.getElem?_map]
    rw [List.getElem?_eq_none (by simp; omega)]
    split
    · rw [if_neg (by omega)]; rfl
    · rfl
theorem z4y {ar : List Arc3} {j x : Int} : x ∈ befs ar j ↔ ∃ a ∈ ar, a.dst = j ∧ a.src = x := by
  simp only [befs, List.mem_map, List.mem_filter, decide_eq_true_eq]
  constructor
  · rintro ⟨a, ⟨h1, h2⟩, h3⟩; exact ⟨a, h1, h2, h3⟩
  · rintro ⟨a, h1, h2, h3⟩; exact ⟨a, ⟨h1, h2⟩, h3⟩
theorem z4x (ar : List Arc3) (j : Int) : (befs ar j).length ≤ ar.length := by unfold befs; rw [List.length_map]; exact List.length_filter_le _ _
structure BF (ar : List Arc3) (n : Nat) (S : List Int) (c : List Bool) (q : List Int) (i : Nat) : Prop where
  len : c.length = n
  snd : sndB ar S c
  has : hasS S c
  inn : ∀ x ∈ q, 0 ≤ x ∧ x < n
  mkd : ∀ x ∈ q, c[x.toNat]? = some true
  all : ∀ k : Nat, c[k]? = some true → (k : Int) ∈ q
  cnt : q.length + cntF c ≤ n
  le : i ≤ q.length
  done : ∀ j, (hj : j < i) → ∀ a ∈ ar, a.dst = q[j]'(by omega) → c[a.src.toNat]? = some true
theorem BF.end_ {ar : List Arc3} {n : Nat} {S : List Int} {c : List Bool} {q : List Int} (h : BF ar n S c q q.length) (ha : z3v ar n) (hS : ∀ k ∈ S, 0 ≤ k ∧ k < n) : c = toL ar n S := by
  refine z1ai h.len hS h.snd h.has fun a hm hd => ?_
  have := h.all _ hd
  rw [Int.toNat_of_nonneg (ha a hm).2.2.1] at this
  obtain ⟨j, hj, e⟩ := List.mem_iff_getElem.1 this
  exact h.done j hj a hm e.symm
structure BG (ar : List Arc3) (n : Nat) (S : List Int) (i : Nat) (L : List Int) (m : Nat) (x : Int) (c : List Bool) (q : List Int) : Prop extends BF ar n S c q i where
  lt : i < q.length
  at_ : q[i]? = some x
  up : ∀ j, j < m → ∀ y, L[j]? = some y → c[y.toNat]? = some true
theorem BG.next {ar : List Arc3} {n : Nat} {S : List Int} {i : Nat} {x : Int} {c : List Bool} {q : List Int} (h : BG ar n S i (befs ar x) (befs ar x).length x c q) : BF ar n S c q (i + 1) := by
  refine ⟨h.len, h.snd, h.has, h.inn, h.mkd, h.all, h.cnt, h.lt, fun j hj a hm e => ?_⟩
  by_cases hji : j = i
  · subst hji
    have hx := h.at_
    rw [List.getElem?_eq_getElem h.lt] at hx
    rw [Option.some.inj hx] at e
    obtain ⟨k, hk, he⟩ := List.mem_iff_getElem.1 (z4y.2 ⟨a, hm, e, rfl⟩)
    exact h.up k hk _ (by rw [List.getElem?_eq_getElem hk, he])
  · exact h.done j (by omega) a hm e
theorem BG.old {ar : List Arc3} {n : Nat} {S : List Int} {i : Nat} {L : List Int} {m : Nat} {x : Int} {c : List Bool} {q : List Int} (h : BG ar n S i L m x c q) (hm : m < L.length) (hc : c[L[m].toNat]? = some true) : BG ar n S i L (m + 1) x c q := by
  refine ⟨h.toBF, h.lt, h.at_, fun j hj y hy => ?_⟩
  by_cases e : j = m
  · subst e
    rw [List.getElem?_eq_getElem hm] at hy
    cases hy; exact hc
  · exact h.up j (by omega) y hy
theorem BG.new {ar : List Arc3} {n : Nat} {S : List Int} {i : Nat} {m : Nat} {x : Int} {c : List Bool} {q : List Int} (h : BG ar n S i (befs ar x) m x c q) (ha : z3v ar n) (hm : m < (befs ar x).length) (hc : c[(befs ar x)[m].toNat]? = some false) :
    BG ar n S i (befs ar x) (m + 1) x (c.set (befs ar x)[m].toNat true) (q ++ [(befs ar x)[m]]) := by
  obtain ⟨a, h1, h2, h3⟩ := z4y.1 (List.getElem_mem hm)
  obtain ⟨a1, a2, a3, a4⟩ := ha a h1
  have hl := h.len
  have hx := h.at_
  have hi := h.lt
  rw [List.getElem?_eq_getElem hi] at hx
  have hq : x ∈ q := by rw [← Option.some.inj hx]; exact List.getElem_mem hi
  generalize hy : (befs ar x)[m] = y at *
  subst h3
  have hcy : a.src.toNat < c.length := by omega
  have hRk : Rk ar S a.src := by
    refine .step h1 ?_
    have hr := h.snd _ (h.mkd x hq)
    rw [Int.toNat_of_nonneg (h.inn x hq).1] at hr
    rw [h2]; exact hr
  have hcnt := z9z hcy (by rw [List.getD_eq_getElem?_getD, hc]; rfl)
  have hcn := h.cnt
  refine ⟨⟨by simpa using hl, z17f h.snd a1 hRk, zi3 h.has, fun z hz => ?_, fun z hz => ?_, fun k hk => ?_, by rw [List.length_append]; simp only [List.length_cons, List.length_nil]; omega, by rw [List.length_append]; have := h.le; omega, fun j hj a' hm' e => ?_⟩, by rw [List.length_append]; omega, ?_, fun j hj z hz => ?_⟩
  · rcases List.mem_append.1 hz with hz | hz
    · exact h.inn z hz
    · rw [List.mem_singleton] at hz; subst hz; exact ⟨a1, a2⟩
  · rcases List.mem_append.1 hz with hz | hz
    · exact z15b (h.mkd z hz)
    · rw [List.mem_singleton] at hz; subst hz; rw [List.getElem?_set_self hcy]
  · rw [List.getElem?_set] at hk
    split at hk
    · rename_i e
      refine List.mem_append.2 (.inr ?_)
      rw [List.mem_singleton]; omega
    · exact List.mem_append.2 (.inl (h.all k hk))
  · have hjq : j < q.length := by omega
    rw [List.getElem_append_left hjq] at e
    exact z15b (h.done j hj a' hm' e)
  · rw [List.getElem?_append_left hi, List.getElem?_eq_getElem hi]; exact hx
  · by_cases e : j = m
    · subst e
      rw [List.getElem?_eq_getElem hm, hy] at hz
      cases hz
      rw [List.getElem?_set_self hcy]
    · exact z15b (h.up j (by omega) z hz)
theorem BF.look {ar : List Arc3} {n : Nat} {S : List Int} {c : List Bool} {q : List Int} {i : Nat} (h : BF ar n S c q i) (hi : i < q.length) : BG ar n S i (befs ar q[i]) 0 q[i] c q := ⟨h, hi, List.getElem?_eq_getElem hi, fun j hj => by omega⟩
theorem BF.start {ar : List Arc3} {n : Nat} {p : Int} (h0 : 0 ≤ p) (h : p < n) : BF ar n [p] ((List.replicate n false).set p.toNat true) [p] 0 := by
  have hp : p.toNat < (List.replicate n false).length := by simp; omega
  have hc := z9z (l := List.replicate n false) (k := p.toNat) hp (by rw [List.getD_eq_getElem?_getD, List.getElem?_replicate]; split <;> rfl)
  have hl := z9x (List.replicate n false)
  rw [List.length_replicate] at hl
  refine ⟨by simp, z17f z17g h0 (.base (by simp)), fun k hk => ?_, fun x hx => ?_, fun x hx => ?_, fun k hk => ?_, by simp only [List.length_cons, List.length_nil]; omega, Nat.zero_le _, fun j hj => by omega⟩
  · rw [List.mem_singleton] at hk; subst hk; rw [List.getElem?_set_self hp]
  · rw [List.mem_singleton] at hx; subst hx; exact ⟨h0, h⟩
  · rw [List.mem_singleton] at hx; subst hx; rw [List.getElem?_set_self hp]
  · rw [List.getElem?_set] at hk
    split at hk
    · rename_i e; rw [List.mem_singleton]; omega
    · rw [List.getElem?_replicate] at hk; split at hk <;> cases hk
end Go.Proofs.YtkkifebmicbbaaaGreat.Pi
namespace Go.Proofs.YtkkifebmicbbaaaGreat.Pi
open Go
set_option linter.all false

/-! ### How a space is laid out -/
structure Bfs (ar : List Arc3) (n : Nat) : Prop where
  inn : z3v ar n
  srt : ∀ i j, i ≤ j → ∀ (hi : i < ar.length) (hj : j < ar.length), ar[i].src ≤ ar[j].src
  pre : ∀ i, (hi : i < ar.length) → ∀ q : Nat, 1 ≤ q → (q : Int) < ar[i].dst → ∃ j, ∃ hj : j < i, (ar[j]'(by omega)).dst = q
  back : ∀ q : Nat, 0 < q → q < n → ∃ i, ∃ h : i < ar.length, ar[i].dst = q ∧ ar[i].src < q ∧ ∀ i', (h' : i' < i) → (ar[i']'(by omega)).dst ≠ q
structure ExB (s : Ex) (k : Nat) : Prop where
  le : ∀ a ∈ s.sp.ar, a.src ≤ k
  srt : ∀ i j, i ≤ j → ∀ (hi : i < s.sp.ar.length) (hj : j < s.sp.ar.length), s.sp.ar[i].src ≤ s.sp.ar[j].src
  pre : ∀ i, (hi : i < s.sp.ar.length) → ∀ q : Nat, 1 ≤ q → (q : Int) < s.sp.ar[i].dst → ∃ j, ∃ hj : j < i, (s.sp.ar[j]'(by omega)).dst = q
theorem ExB.add {s : Ex} {k : Nat} {ms : List (List Int)} {t d c : Int} (h : ExB s k) (hd : ∀ q : Nat, 1 ≤ q → (q : Int) < d → ∃ j, ∃ hj : j < s.sp.ar.length, s.sp.ar[j].dst = q) : ExB ⟨⟨ms, s.sp.ar ++ [⟨k, t, d⟩]⟩, c⟩ k := by
  refine ⟨fun a ha => ?_, fun i j hij hi hj => ?_, fun i hi q h1 h2 => ?_⟩
  · rcases List.mem_append.1 ha with ha | ha
    · exact h.le a ha
    · rw [List.mem_singleton] at ha; subst ha; exact Int.le_refl _
  · simp only [List.length_append, List.length_cons, List.length_nil] at hi hj
    simp only [List.getElem_append]
    by_cases hj2 : j < s.sp.ar.length
    · rw [dif_pos (show i < s.sp.ar.length by omega), dif_pos hj2]; exact h.srt i j hij _ _
    · rw [dif_neg hj2]
      by_cases hi2 : i < s.sp.ar.length
      · rw [dif_pos hi2]
        simp only [List.getElem_singleton]
        exact h.le _ (List.getElem_mem hi2)
      · rw [dif_neg hi2]; simp
  · simp only [List.length_append, List.length_cons, List.length_nil] at hi
    by_cases hi2 : i < s.sp.ar.length
    · simp only [List.getElem_append, dif_pos hi2] at h2
      obtain ⟨j, hj, e⟩ := h.pre i hi2 q h1 h2
      exact ⟨j, hj, by simp only [List.getElem_append, dif_pos (show j < s.sp.ar.length by omega)]; exact e⟩
    · have : i = s.sp.ar.length := by omega
      subst this
      simp only [List.getElem_append, dif_neg hi2, List.getElem_singleton] at h2
      obtain ⟨j, hj, e⟩ := hd q h1 h2
      exact ⟨j, hj, by simp only [List.getElem_append, dif_pos hj]; exact e⟩
theorem ExB.stop {s : Ex} {k : Nat} (h : ExB s k) (c : Int) : ExB ⟨s.sp, c⟩ k := ⟨h.le, h.srt, h.pre⟩
theorem zcq {n : Net} {start : List Int} {b : Int} {k : Nat} {s : Ex} {t : Int} (ho : ExOk n start b s) (h : ExB s k) : ExB (zco n b k s t) k := by
  have all : ∀ q : Nat, 1 ≤ q → q < s.sp.ms.length → ∃ j, ∃ hj : j < s.sp.ar.length, s.sp.ar[j].dst = q := fun q h1 h2 => by
    obtain ⟨i, hi, e, _⟩ := ho.back q (by omega) h2
    exact ⟨i, hi, e⟩
  by_cases h0 : s.code = 0
  case neg => rw [zcy h0]; exact h
  cases ha : (zem (trAt n t) (s.sp.ms.getD k [])).all (inB 0 50) with
  | false => rw [zcz h0 ha]; exact h.stop 3
  | true =>
    by_cases h2 : 0 ≤ findM s.sp.ms (zem (trAt n t) (s.sp.ms.getD k []))
    · rw [zcw h0 ha h2]
      have := (zec h2).1
      exact h.add fun q h3 h4 => all q h3 (by omega)
    · by_cases h3 : b ≤ s.sp.ms.length
      · rw [zcs h0 ha h2 h3]; exact h.stop 2
      · rw [zcu h0 ha h2 h3]
        exact h.add fun q h3 h4 => all q h3 (by omega)
theorem zce {n : Net} {start : List Int} {b : Int} {k : Nat} : ∀ (l : List Int) (s : Ex), ExOk n start b s → ExB s k → k < s.sp.ms.length → (∀ t ∈ l, t ∈ enabL n (s.sp.ms.getD k [])) → ExB (exL n b k s l) k
  | [], s, _, h, _, _ => h
  | t :: l, s, ho, h, hk, hl => by
    have h1 := zcv ho hk (hl t (by simp))
    obtain ⟨p, hp⟩ := zcx (n := n) (b := b) (k := k) (s := s) (t := t)
    have e : (zco n b k s t).sp.ms.getD k [] = s.sp.ms.getD k [] := by rw [hp, zgp hk]
    exact zce l (zco n b k s t) h1 (zcq ho h) (by rw [hp]; simp; omega) (fun u hu => by rw [e]; exact hl u (by simp [hu]))
theorem ExB.up {s : Ex} {k k' : Nat} (h : ExB s k) (hk : k ≤ k') : ExB s k' := ⟨fun a ha => by have := h.le a ha; omega, h.srt, h.pre⟩
theorem zck {n : Net} {start : List Int} {b : Int} : ∀ (f k : Nat) (s : Ex), ExOk n start b s → ExB s k → ∃ k', ExB (exRun n b f k s) k'
  | 0, k, s, _, h => ⟨k, h⟩
  | f + 1, k, s, ho, h => by
    have er : exRun n b (f + 1) k s = if s.code ≠ 0 then s else if k < s.sp.ms.length then exRun n b f (k + 1) (exL n b k s (enabL n (s.sp.ms.getD k []))) else s := rfl
    rw [er]
    split
    · exact ⟨k, h⟩
    · split
      · rename_i hl
        exact zck f (k + 1) _ (zch (start := start) (k := k) _ s ho hl (fun t ht => ht)).1 ((zce _ s ho h hl (fun t ht => ht)).up (by omega))
      · exact ⟨k, h⟩
theorem zca {n : Net} {start : List Int} {b : Int} (hm : zpr n start = true) (hb : 1 ≤ b) : Bfs (exAll n start b).sp.ar (exAll n start b).sp.ms.length := by
  have ho := (zcc hm hb).1
  obtain ⟨k, h⟩ : ∃ k, ExB (exAll n start b) k := by
    unfold exAll
    refine zck (start := start) _ 0 _ ⟨rfl, fun m hm2 => ?_, by simp; omega, by simp, fun a ha => by simp at ha, fun j hj hl => ?_⟩ ⟨fun a ha => by simp at ha, fun i j _ hi => by simp at hi, fun i hi => by simp at hi⟩
    · simp only [List.mem_singleton] at hm2; subst hm2; exact hm
    · simp only [List.length_cons, List.length_nil] at hl; omega
  refine ⟨fun a ha => ?_, h.srt, h.pre, ho.back⟩
  have := ho.arcs a ha
  omega

/-! ### Ways of some arcs -/
def Dk (ar : List Arc3) (p : Int) : Nat → Int → Prop
  | 0, k => k = p
  | d + 1, k => ∃ a ∈ ar, a.src = k ∧ Dk ar p d a.dst
structure isFar (ar : List Arc3) (p : Int) (n : Nat) (F : List Int) : Prop where
  len : F.length = n
  val : ∀ k : Nat, k < n → (F[k]? = some (-1) ∧ ∀ e, ¬ Dk ar p e k) ∨ ∃ d : Nat, F[k]? = some (d : Int) ∧ Dk ar p d k ∧ ∀ e, e < d → ¬ Dk ar p e k
def treeW (ar : List Arc3) : Nat → Nat → List Int
  | 0, _ => []
  | f + 1, k => if k = 0 then [] else match ar[(arcTo ar k).toNat]? with
    | some a => treeW ar f a.src.toNat ++ [a.by_]
    | none => []
def tw (ar : List Arc3) (k : Nat) : List Int := treeW ar (k + 1) k
section
variable {ar : List Arc3} {n : Nat}
theorem Bfs.arc (h : Bfs ar n) {q : Nat} (h0 : 0 < q) (hq : q < n) : ∃ i, ∃ hi : i < ar.length, arcTo ar q = i ∧ ar[i].dst = q ∧ 0 ≤ ar[i].src ∧ ar[i].src < q ∧ ∀ i', (h' : i' < i) → (ar[i']'(by omega)).dst ≠ q := by
  obtain ⟨i, hi, e1, e2, e3⟩ := h.back q h0 hq
  refine ⟨i, hi, ?_, e1, (h.inn _ (List.getElem_mem hi)).1, e2, e3⟩
  unfold arcTo
  refine zid hi ?_ (decide_eq_true e1)
  rw [List.any_eq_false]
  intro x hx
  obtain ⟨i', h1, rfl⟩ := List.mem_iff_getElem.1 hx
  have h2 : i' < i := by simp at h1; omega
  have := e3 i' h2
  simpa using this
theorem z1b2 (h : Bfs ar n) : ∀ (f g k : Nat), k < n → k < f → k < g → treeW ar f k = treeW ar g k
  | 0, _, k, _, hf, _ => by omega
  | f + 1, 0, k, _, _, hg => by omega
  | f + 1, g + 1, k, hn, hf, hg => by
    unfold treeW
    split
    · rfl
    · rename_i h0
      obtain ⟨i, hi, e, _, e2, e3, _⟩ := h.arc (by omega) hn
      rw [e, Int.toNat_natCast, List.getElem?_eq_getElem hi]
      simp only
      rw [z1b2 h f g _ (by omega) (by omega) (by omega)]
theorem z1b9 : tw ar 0 = [] := rfl
theorem z1b8 (h : Bfs ar n) {k i : Nat} (h0 : 0 < k) (hk : k < n) (hi : i < ar.length) (e : arcTo ar k = i) : tw ar k = tw ar ar[i].src.toNat ++ [ar[i].by_] := by
  obtain ⟨j, hj, e1, _, e2, e3, _⟩ := h.arc h0 hk
  have hij : j = i := by rw [e] at e1; omega
  subst hij
  show (if k = 0 then [] else match ar[(arcTo ar k).toNat]? with | some a => treeW ar k a.src.toNat ++ [a.by_] | none => []) = _
  rw [if_neg (by omega), e, Int.toNat_natCast, List.getElem?_eq_getElem hj]
  simp only
  rw [z1b2 h k (ar[j].src.toNat + 1) _ (by omega) (by omega) (by omega)]; rfl
inductive Tp (ar : List Arc3) (p : Nat) : Nat → List Int → Prop
  | refl : Tp ar p p []
  | step {c i : Nat} {U : List Int} (hi : i < ar.length) (e : arcTo ar c = i) (h0 : 0 < c) (t : Tp ar p c U) : Tp ar p ar[i].src.toNat (ar[i].by_ :: U)
theorem Tp.path (h : Bfs ar n) {p t : Nat} {U : List Int} (hp : p < n) (ht : Tp ar p t U) : t < n ∧ Dk ar p U.length t := by
  induction ht with
  | refl => exact ⟨hp, rfl⟩
  | step hi e h0 t ih =>
    rename_i c i U
    obtain ⟨j, hj, e1, e2, e3, e4, _⟩ := h.arc h0 ih.1
    have : j = i := by rw [e] at e1; omega
    subst this
    refine ⟨by omega, _, List.getElem_mem hi, (Int.toNat_of_nonneg e3).symm, ?_⟩
    rw [e2]; exact ih.2
theorem tw_tp (h : Bfs ar n) {p : Nat} (hp : p < n) : ∀ (k : Nat) (U : List Int), k < n → Tp ar p k U → Tp ar p 0 (tw ar k ++ U)
  | 0, U, _, ht => by rw [z1b9]; exact ht
  | k + 1, U, hk, ht => by
    obtain ⟨i, hi, e1, e2, e3, e4, _⟩ := h.arc (q := k + 1) (by omega) hk
    rw [z1b8 h (by omega) hk hi e1, List.append_assoc]
    exact tw_tp h hp ar[i].src.toNat _ (by omega) (.step hi e1 (by omega) ht)
termination_by k => k
decreasing_by all_goals omega
inductive Gd (ar : List Arc3) (F : List Int) (p : Nat) : Nat → List Int → Prop
  | refl : Gd ar F p p []
  | step {t i : Nat} {W : List Int} (hne : t ≠ p) (hi : i < ar.length) (hs : ar[i].src = t) (hf : ∀ u v, F[ar[i].dst.toNat]? = some u → F[t]? = some v → u = v - 1) (hm : ∀ j, (hj : j < i) → (ar[j]'(by omega)).src = t → ∀ u v, F[(ar[j]'(by omega)).dst.toNat]? = some u → F[t]? = some v → u ≠ v - 1)
      (g : Gd ar F p ar[i].dst.toNat W) : Gd ar F p t (ar[i].by_ :: W)
theorem isFar.at_ {p : Nat} {F : List Int} (hF : isFar ar p n F) {k d : Nat} (hk : k < n) (hd : Dk ar p d k) (hm : ∀ e, e < d → ¬ Dk ar p e k) : F[k]? = some (d : Int) := by
  rcases hF.val k hk with ⟨_, h⟩ | ⟨d', h1, h2, h3⟩
  · exact (h d hd).elim
  · have : d' = d := by
      rcases Nat.lt_trichotomy d d' with h | h | h
      · exact (h3 d h hd).elim
      · exact h.symm
      · exact (hm d' h h2).elim
    rw [h1, this]
end
end Go.Proofs.YtkkifebmicbbaaaGreat.Pi
namespace Go.Proofs.YtkkifebmicbbaaaGreat.Pi
open Go
set_option linter.all false

structure FQ (ar : List Arc3) (p : Int) (n : Nat) (F q : List Int) (w : Int → Prop) : Prop where
  len : F.length = n
  val : ∀ k : Nat, ∀ u, F[k]? = some u → u = -1 ∨ ∃ d : Nat, u = d ∧ Dk ar p d k
  zero : F[p.toNat]? = some 0
  inn : ∀ x ∈ q, 0 ≤ x ∧ ∃ d : Nat, F[x.toNat]? = some (d : Int)
  srt : q.Pairwise fun x y => ∀ u v, F[x.toNat]? = some u → F[y.toNat]? = some v → u ≤ v
  bnd : ∀ k : Nat, ∀ u, F[k]? = some u → ∀ x ∈ q, ∀ v, F[x.toNat]? = some v → u ≤ v + 1
  cls : ∀ a ∈ ar, ∀ u, F[a.dst.toNat]? = some u → 0 ≤ u → a.dst ∉ q → ¬ w a.dst → ∃ v, F[a.src.toNat]? = some v ∧ 0 ≤ v ∧ v ≤ u + 1
section
variable {ar : List Arc3} {p : Int} {n : Nat} {F q : List Int}
theorem FQ.end_ (h : FQ ar p n F [] fun _ => False) (ha : z3v ar n) (hp : 0 ≤ p ∧ p < n) : isFar ar p n F := by
  have key : ∀ (e k : Nat), k < n → Dk ar p e k → ∃ u, F[k]? = some u ∧ 0 ≤ u ∧ u ≤ e := by
    intro e
    induction e with
    | zero =>
      intro k hk hd
      simp only [Dk] at hd
      refine ⟨0, ?_, by omega, by omega⟩
      have := h.zero
      rwa [← hd, Int.toNat_natCast] at this
    | succ e ih =>
      rintro k hk ⟨a, hm, e1, hd⟩
      obtain ⟨a1, a2, a3, a4⟩ := ha a hm
      obtain ⟨u, h1, h2, h3⟩ := ih a.dst.toNat (by omega) (by rw [Int.toNat_of_nonneg a3]; exact hd)
      obtain ⟨v, h4, h5, h6⟩ := h.cls a hm u h1 h2 (by simp) (by simp)
      rw [e1, Int.toNat_natCast] at h4
      exact ⟨v, h4, h5, by omega⟩
  refine ⟨h.len, fun k hk => ?_⟩
  have hkl : k < F.length := by rw [h.len]; exact hk
  rcases h.val k _ (List.getElem?_eq_getElem hkl) with h1 | ⟨d, h1, h2⟩
  · refine .inl ⟨by rw [List.getElem?_eq_getElem hkl, h1], fun e hd => ?_⟩
    obtain ⟨u, g1, g2, _⟩ := key e k hk hd
    rw [List.getElem?_eq_getElem hkl, h1] at g1
    have := Option.some.inj g1
    omega
  · refine .inr ⟨d, by rw [List.getElem?_eq_getElem hkl, h1], h2, fun e he hd => ?_⟩
    obtain ⟨u, g1, _, g3⟩ := key e k hk hd
    rw [List.getElem?_eq_getElem hkl, h1] at g1
    have := Option.some.inj g1
    omega
theorem FQ.start (ha : z3v ar n) (hp : 0 ≤ p ∧ p < n) : FQ ar p n ((List.replicate n (-1)).set p.toNat 0) [p] fun _ => False := by
  have hl : p.toNat < (List.replicate n (-1 : Int)).length := by simp; omega
  have hz : ((List.replicate n (-1 : Int)).set p.toNat 0)[p.toNat]? = some 0 := by rw [List.getElem?_set_self hl]
  have hall : ∀ (k : Nat) (u : Int), ((List.replicate n (-1 : Int)).set p.toNat 0)[k]? = some u → (k = p.toNat ∧ u = 0) ∨ u = -1 := by
    intro k u h
    rw [List.getElem?_set] at h
    split at h
    · rename_i e
      exact .inl ⟨e.symm, (Option.some.inj h).symm⟩
    · rw [List.getElem?_replicate] at h
      split at h
      · exact .inr (Option.some.inj h).symm
      · cases h
  refine ⟨by simp, fun k u h => ?_, hz, fun x hx => ?_, by simp, fun k u h x hx v hv => ?_, fun a hm u h h0 hq _ => ?_⟩
  · rcases hall k u h with ⟨h1, h2⟩ | h1
    · exact .inr ⟨0, h2, by simp only [Dk]; omega⟩
    · exact .inl h1
  · rw [List.mem_singleton] at hx; subst hx; exact ⟨hp.1, 0, hz⟩
  · rw [List.mem_singleton] at hx; subst hx
    rw [hz] at hv
    have := Option.some.inj hv
    rcases hall k u h with ⟨_, h2⟩ | h1 <;> omega
  · rcases hall _ u h with ⟨h1, _⟩ | h1
    · refine (hq ?_).elim
      rw [List.mem_singleton]
      have := (ha a hm).2.2.1
      omega
    · omega
structure FW (ar : List Arc3) (p : Int) (n : Nat) (x : Int) (d : Nat) (m : Nat) (F q : List Int) : Prop extends FQ ar p n F q (fun y => y = x) where
  at_ : F[x.toNat]? = some (d : Int)
  pos : 0 ≤ x ∧ x < n
  dk : Dk ar p d x
  low : ∀ y ∈ q, ∀ v, F[y.toNat]? = some v → (d : Int) ≤ v
  top : ∀ k : Nat, ∀ u, F[k]? = some u → u ≤ d + 1
  up : ∀ j, j < m → ∀ a, ar[j]? = some a → a.dst = x → ∃ v, F[a.src.toNat]? = some v ∧ 0 ≤ v ∧ v ≤ d + 1
theorem FQ.look {x : Int} (h : FQ ar p n F (x :: q) fun _ => False) : ∃ d : Nat, FW ar p n x d 0 F q := by
  obtain ⟨h0, d, hd⟩ := h.inn x (by simp)
  have hlt := (List.getElem?_eq_some_iff.1 hd).1
  have hs := List.pairwise_cons.1 h.srt
  refine ⟨d, ⟨h.len, h.val, h.zero, fun y hy => h.inn y (by simp [hy]), hs.2, fun k u hu y hy => h.bnd k u hu y (by simp [hy]), fun a hm u hu h1 hq hw => h.cls a hm u hu h1 (by simp; exact ⟨hw, hq⟩) (by simp)⟩, hd, ⟨h0, by have := h.len; omega⟩, ?_, fun y hy v hv => hs.1 y hy _ v hd hv, fun k u hu => by have := h.bnd k u hu x (by simp) _ hd; omega, fun j hj => by omega⟩
  rcases h.val _ _ hd with h1 | ⟨d', h1, h2⟩
  · omega
  · have : d' = d := by omega
    rw [← this, ← Int.toNat_of_nonneg h0]; exact h2
theorem FW.next {x : Int} {d : Nat} (h : FW ar p n x d ar.length F q) : FQ ar p n F q fun _ => False := by
  refine ⟨h.len, h.val, h.zero, h.inn, h.srt, h.bnd, fun a hm u hu h1 hq _ => ?_⟩
  by_cases e : a.dst = x
  · obtain ⟨j, hj, he⟩ := List.mem_iff_getElem.1 hm
    obtain ⟨v, g1, g2, g3⟩ := h.up j hj a (by rw [List.getElem?_eq_getElem hj, he]) e
    rw [e, h.at_] at hu
    have := Option.some.inj hu
    exact ⟨v, g1, g2, by omega⟩
  · exact h.cls a hm u hu h1 hq e
theorem FW.old {x : Int} {d m : Nat} (h : FW ar p n x d m F q) (hm : m < ar.length) (hc : ar[m].dst = x → ∃ v, F[ar[m].src.toNat]? = some v ∧ 0 ≤ v) : FW ar p n x d (m + 1) F q := by
  refine ⟨h.toFQ, h.at_, h.pos, h.dk, h.low, h.top, fun j hj a ha e => ?_⟩
  by_cases ej : j = m
  · subst ej
    rw [List.getElem?_eq_getElem hm] at ha
    cases ha
    obtain ⟨v, g1, g2⟩ := hc e
    exact ⟨v, g1, g2, h.top _ v g1⟩
  · exact h.up j (by omega) a ha e
theorem FW.new {x : Int} {d m : Nat} (h : FW ar p n x d m F q) (ha : z3v ar n) (hm : m < ar.length) (hd : ar[m].dst = x) (hc : F[ar[m].src.toNat]? = some (-1)) : FW ar p n x d (m + 1) (F.set ar[m].src.toNat (d + 1)) (q ++ [ar[m].src]) := by
  have hmm := List.getElem_mem hm
  obtain ⟨a1, a2, a3, a4⟩ := ha _ hmm
  have hup := h.up
  have hdk : Dk ar p (d + 1) ar[m].src := ⟨ar[m], hmm, rfl, by rw [hd]; exact h.dk⟩
  generalize hy : ar[m].src = y at *
  have hyl : y.toNat < F.length := (List.getElem?_eq_some_iff.1 hc).1
  have hself : (F.set y.toNat ((d : Int) + 1))[y.toNat]? = some ((d : Int) + 1) := by rw [List.getElem?_set_self hyl]
  have get : ∀ (k : Nat) (u : Int), (F.set y.toNat ((d : Int) + 1))[k]? = some u → (k = y.toNat ∧ u = d + 1) ∨ (k ≠ y.toNat ∧ F[k]? = some u) := by
    intro k u hu
    rw [List.getElem?_set] at hu
    split at hu
    · rename_i e
      exact .inl ⟨e.symm, (Option.some.inj hu).symm⟩
    · rename_i e; exact .inr ⟨fun h => e h.symm, hu⟩
  have keep : ∀ (k : Nat) (u : Int), F[k]? = some u → 0 ≤ u → (F.set y.toNat ((d : Int) + 1))[k]? = some u := by
    intro k u hu h0
    rw [List.getElem?_set_ne]; exact hu
    rintro rfl
    rw [hc] at hu
    have := Option.some.inj hu
    omega
  have hqy : ∀ z ∈ q, z.toNat ≠ y.toNat := by
    intro z hz e
    obtain ⟨_, d', h1⟩ := h.inn z hz
    rw [e, hc] at h1
    have := Option.some.inj h1
    omega
  refine ⟨⟨by simp [h.len], fun k u hu => ?_, keep _ _ h.zero (by omega), fun z hz => ?_, ?_, fun k u hu z hz v hv => ?_, fun a hma u hu h1 hq hw => ?_⟩, keep _ _ h.at_ (by omega), h.pos, h.dk, fun z hz v hv => ?_, fun k u hu => ?_, fun j hj a hja e => ?_⟩
  · rcases get k u hu with ⟨rfl, rfl⟩ | ⟨_, h1⟩
    · exact .inr ⟨d + 1, by omega, by rw [Int.toNat_of_nonneg a1]; exact hdk⟩
    · exact h.val k u h1
  · rcases List.mem_append.1 hz with hz | hz
    · obtain ⟨h0, d', h1⟩ := h.inn z hz
      exact ⟨h0, d', keep _ _ h1 (by omega)⟩
    · rw [List.mem_singleton] at hz; subst hz
      exact ⟨a1, d + 1, by rw [hself]; congr 1⟩
  · rw [List.pairwise_append]
    refine ⟨h.srt.imp_of_mem fun {z z'} hz hz' hp u v hu hv => ?_, by simp, fun z hz z' hz' u v hu hv => ?_⟩
    · rcases get _ u hu with ⟨e, _⟩ | ⟨_, g1⟩
      · exact (hqy z hz e).elim
      rcases get _ v hv with ⟨e, _⟩ | ⟨_, g2⟩
      · exact (hqy z' hz' e).elim
      exact hp u v g1 g2
    · rw [List.mem_singleton] at hz'; subst hz'
      rcases get _ u hu with ⟨e, _⟩ | ⟨_, g1⟩
      · exact (hqy z hz e).elim
      rw [hself] at hv
      have := Option.some.inj hv
      have := h.top _ u g1
      omega
  · have hku : u ≤ d + 1 := by
      rcases get k u hu with ⟨_, rfl⟩ | ⟨_, g1⟩
      · omega
      · exact h.top k u g1
    have hvd : (d : Int) ≤ v := by
      rcases get _ v hv with ⟨_, rfl⟩ | ⟨e, g1⟩
      · omega
      · rcases List.mem_append.1 hz with hz | hz
        · exact h.low z hz v g1
        · rw [List.mem_singleton] at hz; subst hz; exact (e rfl).elim
    omega
  · rcases get _ u hu with ⟨e, _⟩ | ⟨_, g1⟩
    · refine (hq (List.mem_append.2 (.inr ?_))).elim
      rw [List.mem_singleton]
      have := (ha a hma).2.2.1
      omega
    · obtain ⟨v, g2, g3, g4⟩ := h.cls a hma u g1 h1 (fun hz => hq (List.mem_append.2 (.inl hz))) hw
      exact ⟨v, keep _ _ g2 g3, g3, g4⟩
  · rcases List.mem_append.1 hz with hz | hz
    · rcases get _ v hv with ⟨_, rfl⟩ | ⟨_, g1⟩
      · omega
      · exact h.low z hz v g1
    · rw [List.mem_singleton] at hz; subst hz
      rw [hself] at hv
      have := Option.some.inj hv
      omega
  · rcases get k u hu with ⟨_, rfl⟩ | ⟨_, g1⟩
    · omega
    · exact h.top k u g1
  · by_cases ej : j = m
    · subst ej
      rw [List.getElem?_eq_getElem hm] at hja
      cases hja
      rw [hy]
      exact ⟨d + 1, hself, by omega, by omega⟩
    · obtain ⟨v, g1, g2, g3⟩ := hup j (by omega) a hja e
      exact ⟨v, keep _ _ g1 g2, g2, g3⟩
theorem z1b5 (h : Bfs ar n) : ∀ k : Nat, k < n → (tw ar k).length ≤ k
  | 0, _ => by simp [z1b9]
  | k + 1, hk => by
    obtain ⟨i, hi, e1, e2, e3, e4, _⟩ := h.arc (q := k + 1) (by omega) hk
    rw [z1b8 h (by omega) hk hi e1, List.length_append, List.length_cons, List.length_nil]
    have := z1b5 h ar[i].src.toNat (by omega)
    omega
termination_by k => k
decreasing_by all_goals omega
theorem isFar.begin_ (h : Bfs ar n) {p : Nat} (hp : p < n) {F : List Int} (hF : isFar ar p n F) : ∃ d : Nat, F[0]? = some (d : Int) ∧ d < n := by
  have hd := (Tp.path h hp (tw_tp h hp p [] hp .refl)).2
  rw [List.append_nil] at hd
  rcases hF.val 0 (by omega) with ⟨_, h1⟩ | ⟨d, h1, _, h3⟩
  · exact (h1 _ hd).elim
  · refine ⟨d, h1, ?_⟩
    have := z1b5 h p hp
    apply Decidable.byContradiction
    intro hn
    exact h3 _ (by omega) hd
theorem isFar.pos {p : Nat} {F : List Int} (hF : isFar ar p n F) {t j : Nat} (ht : t < n) (htp : t ≠ p) (hFt : F[t]? = some (j : Int)) : 0 < j := by
  rcases hF.val t ht with ⟨h1, _⟩ | ⟨d, h1, h2, _⟩
  · rw [hFt] at h1; have := Option.some.inj h1; omega
  · rw [hFt] at h1
    have e := Option.some.inj h1
    cases d with
    | zero => simp only [Dk] at h2; omega
    | succ d => omega
end
end Go.Proofs.YtkkifebmicbbaaaGreat.Pi
namespace Go.Proofs.YtkkifebmicbbaaaGreat.Pi
open Go
set_option linter.all false

structure Vd where
  ok : Int
  kind : Int
  way : List Int
  dead : Int
def overB (a b : List Int) : Bool := zaq a b && !decide (a = b)
def deadK (ar : List Arc3) (k : Nat) : List Int := ((List.range k).filter fun (t : Nat) => !ar.any fun a => decide (a.by_ = (t : Int))).map fun (t : Nat) => (t : Int)
theorem zay (ar : List Arc3) (k : Nat) : deadK ar (k + 1) = deadK ar k ++ (if (ar.any fun a => decide (a.by_ = (k : Int))) = true then [] else [(k : Int)]) := by
  unfold deadK
  rw [List.range_succ, List.filter_append, List.map_append]
  congr 1
  rw [List.filter_cons]
  cases ar.any fun a => decide (a.by_ = (k : Int)) <;> simp
theorem zax (ar : List Arc3) (k : Nat) : (deadK ar k).length ≤ k := by
  unfold deadK
  rw [List.length_map]
  exact Nat.le_trans (List.length_filter_le ..) (by simp)
def endS (ms : List (List Int)) (E : List Int) : List Int := if 0 ≤ findM ms E then [findM ms E] else []
noncomputable def chkV (nt : Nat) (ms : List (List Int)) (ar : List Arc3) (E : List Int) : Vd :=
  if 0 ≤ idxI (toL ar ms.length (endS ms E)) (fun x => x == false) then ⟨2, 1, tw ar (idxI (toL ar ms.length (endS ms E)) (fun x => x == false)).toNat, 0⟩
  else if 0 ≤ idxI ms (fun m => overB m E) then ⟨2, 2, tw ar (idxI ms (fun m => overB m E)).toNat, 0⟩
  else if 0 < (deadK ar nt).length then ⟨2, 3, [], (deadK ar nt).getD 0 0⟩
  else ⟨1, 0, [], 0⟩
noncomputable def sndV (f : Fl) (b : Int) : Vd :=
  if (exAll f.net (oneM f.net.pl.toNat f.src) b).code = 0 then
    if (chkV f.net.tr.length (exAll f.net (oneM f.net.pl.toNat f.src) b).sp.ms (exAll f.net (oneM f.net.pl.toNat f.src) b).sp.ar (oneM f.net.pl.toNat f.dst)).way.length ≤ 60 then
      chkV f.net.tr.length (exAll f.net (oneM f.net.pl.toNat f.src) b).sp.ms (exAll f.net (oneM f.net.pl.toNat f.src) b).sp.ar (oneM f.net.pl.toNat f.dst)
    else ⟨3, 0, [], 0⟩
  else ⟨3, 0, [], 0⟩
def safeV (f : Fl) (b : Int) : Bool := decide ((exAll f.net (oneM f.net.pl.toNat f.src) b).code = 0) && (exAll f.net (oneM f.net.pl.toNat f.src) b).sp.ms.all fun m => m.all (inB 0 1)
noncomputable def admC (f : Fl) (b : Int) : Int := if (sndV f b).ok = 1 then (if safeV f b = true then 0 else 2) else 1
theorem zu3 {f : Fl} (h : zgv f = true) : zpr f.net (oneM f.net.pl.toNat f.src) = true := by
  obtain ⟨g1, g2, _⟩ := zgy h
  simp only [zpr, g1, Bool.true_and]
  exact zty g1 g2
end Go.Proofs.YtkkifebmicbbaaaGreat.Pi
namespace Go.Proofs.YtkkifebmicbbaaaGreat.Pi
open Go
set_option linter.all false

theorem z17h {f : Fl} {b : Int} (h : (sndV f b).ok = 1) : (exAll f.net (oneM f.net.pl.toNat f.src) b).code = 0 ∧ chkV f.net.tr.length (exAll f.net (oneM f.net.pl.toNat f.src) b).sp.ms (exAll f.net (oneM f.net.pl.toNat f.src) b).sp.ar (oneM f.net.pl.toNat f.dst) = ⟨1, 0, [], 0⟩ := by
  unfold sndV at h
  split at h
  · rename_i hc
    refine ⟨hc, ?_⟩
    split at h
    · unfold chkV at h ⊢
      split at h
      · simp at h
      · rename_i h1
        rw [if_neg h1]
        split at h
        · simp at h
        · rename_i h2
          rw [if_neg h2]
          split at h
          · simp at h
          · rename_i h3
            rw [if_neg h3]
    · simp at h
  · simp at h
theorem z8x {nt : Nat} {ms : List (List Int)} {ar : List Arc3} {E : List Int} (h : (chkV nt ms ar E).ok = 1) : (∀ k : Nat, k < ms.length → Rk ar (endS ms E) k) ∧ (∀ m ∈ ms, overB m E = false) ∧ deadK ar nt = [] := by
  unfold chkV at h
  split at h
  · simp at h
  · rename_i h1
    split at h
    · simp at h
    · rename_i h2
      split at h
      · simp at h
      · rename_i h3
        refine ⟨fun k hk => ?_, fun m hm => ?_, ?_⟩
        · have h4 := zia (toL ar ms.length (endS ms E)) (fun x => x == false)
          rw [decide_eq_false h1, List.any_eq_false] at h4
          have h5 := h4 _ (List.getElem_mem (by rw [z1ah]; exact hk : k < (toL ar ms.length (endS ms E)).length))
          have h6 : (toL ar ms.length (endS ms E))[k]'(by rw [z1ah]; exact hk) = true := by
            revert h5
            cases (toL ar ms.length (endS ms E))[k]'(by rw [z1ah]; exact hk) <;> simp
          exact (z1ag hk).1 h6
        · have h4 := zia ms (fun m => overB m E)
          rw [decide_eq_false h2, List.any_eq_false] at h4
          have := h4 m hm
          simpa using this
        · exact List.length_eq_zero_iff.1 (by omega)
theorem z4k {n : Nat} {p : Int} {m : List Int} (hp : 0 ≤ p ∧ p.toNat < n) (hl : m.length = n) (hm : ∀ x ∈ m, 0 ≤ x) (h : 0 < at_ m p) : zaq m (oneM n p) = true := by
  unfold zaq
  rw [List.all_eq_true]
  rintro ⟨x, y⟩ hxy
  obtain ⟨i, hi, e⟩ := List.mem_iff_getElem.1 hxy
  have hi2 : i < n := by simp [oneM] at hi; omega
  rw [List.getElem_zip] at e
  obtain ⟨rfl, rfl⟩ := Prod.mk.inj e
  have hol : (oneM n p).length = n := by simp [oneM]
  have e1 := at_eq (m := m) (p := (i : Int)) (by simp; omega)
  have e2 := at_eq (m := oneM n p) (p := (i : Int)) (by simp; omega)
  simp only [Int.toNat_natCast] at e1 e2
  simp only [decide_eq_true_eq]
  rw [e2, z4j hp (by omega)]
  split
  · rename_i hip
    rw [e1, hip]; omega
  · exact hm _ (List.getElem_mem _)
theorem z19n : ∀ n : Nat, sumI (List.replicate n 0) = 0
  | 0 => rfl
  | n + 1 => by rw [List.replicate_succ, z19g, z19n n]; rfl
theorem z19k : ∀ (n k : Nat) (x : Int), k < n → sumI ((List.replicate n 0).set k x) = x
  | n + 1, 0, x, _ => by rw [List.replicate_succ, List.set_cons_zero, z19g, z19n]; omega
  | n + 1, k + 1, x, h => by rw [List.replicate_succ, List.set_cons_succ, z19g, z19k n k x (by omega)]; omega
theorem z19j {n : Nat} {p : Int} (h : p.toNat < n) : sumI (oneM n p) = 1 := by
  unfold oneM
  exact z19k n p.toNat 1 h
theorem zyf {s : Spc} {l : List Mv} (hg : goodS s = true) (hc : (exAll (flS s).net (oneM (flS s).net.pl.toNat (flS s).src) 400).code = 0) : ∀ k, k ≤ l.length → (playK s (zeq s) l k).1.mark ∈ (exAll (flS s).net (oneM (flS s).net.pl.toNat (flS s).src) 400).sp.ms
  | 0, _ => by
    have hgf : zgv (flS s) = true := by simp only [goodS, Bool.and_eq_true] at hg; exact hg.2
    have h1 := (zcc (b := 400) (zu3 hgf) (by omega)).1.first
    rw [zyc]
    exact List.mem_of_getElem? h1
  | k + 1, h => by
    have ih := zyf (l := l) hg hc k (by omega)
    have hgf : zgv (flS s) = true := by simp only [goodS, Bool.and_eq_true] at hg; exact hg.2
    have hcl := (zcc (b := 400) (zu3 hgf) (by omega)).2 hc
    have hgd := zy9 (l := l) (zer (zhc hg)) k (by omega)
    rw [zyb (by omega)]
    generalize (playK s (zeq s) l k) = x at *
    unfold playS
    split
    · rename_i hb
      obtain ⟨i, hi, e⟩ := List.mem_iff_getElem.1 ih
      have hb2 := hb
      unfold stepB at hb2
      simp only [Bool.and_eq_true, beq_iff_eq] at hb2
      obtain ⟨⟨⟨b1, b2⟩, b3⟩, b4⟩ := hb2
      obtain ⟨e1, e2⟩ := zin b2
      have hlt := (zib (mvS s) (fun y => y == l[k])).2
      have hlen : (flS s).net.tr.length = (mvS s).length := by show (trS s).length = _; rw [z1av]; simp
      have ht : idxI (mvS s) (fun y => y == l[k]) ∈ enabL (flS s).net x.1.mark := by
        rw [zbu]
        refine ⟨e1, by omega, ?_⟩
        rw [e2]; exact b3
      have := hcl i (by simpa using hi) hi (idxI (mvS s) (fun y => y == l[k])) (by rw [← zgn hi, e]; exact ht)
      rw [← zgn hi, e, e2] at this
      exact this.2
    · exact ih
theorem zye {s : Spc} {l : List Mv} (hg : goodS s = true) (h : (sndV (flS s) 400).ok = 1) (k : Nat) (hk : k ≤ l.length) :
    ((playK s (zeq s) l k).1.state = 1 → movL s (playK s (zeq s) l k).1 ≠ []) ∧ ((playK s (zeq s) l k).1.state = 2 → sumI (playK s (zeq s) l k).1.mark = 1) := by
  obtain ⟨hc, h2⟩ := z17h h
  have hin := zyf (l := l) hg hc k hk
  have hgf : zgv (flS s) = true := by simp only [goodS, Bool.and_eq_true] at hg; exact hg.2
  have hf := (zcc (b := 400) (zu3 hgf) (by omega)).1
  obtain ⟨c1, c2, c3⟩ := z8x (congrArg Vd.ok h2)
  have hgd := zy9 (l := l) (zer (zhc hg)) k hk
  obtain ⟨g1, g2, g3, _⟩ := zgy hgf
  obtain ⟨gc, gn, -⟩ := ztt (zhc hg)
  generalize exAll (flS s).net (oneM (flS s).net.pl.toNat (flS s).src) 400 = R at *
  generalize playK s (zeq s) l k = x at *
  have hml := zh2 (zgu hgd)
  have hpl : (flS s).net.pl = s.conds + s.tasks.length := rfl
  have hdst : (flS s).dst = 1 := rfl
  rw [hdst, hpl] at c1 c2
  generalize hN : (s.conds + (s.tasks.length : Int)).toNat = N at *
  have hN1 : 1 < N := by rw [hdst, hpl] at g3; omega
  have hE1 : at_ (oneM N 1) 1 = 1 := by rw [z4j (by omega) (by omega)]; rfl
  unfold goodC at hgd
  simp only [Bool.and_eq_true, Bool.or_eq_true] at hgd
  refine ⟨fun hs hno => ?_, fun hs => ?_⟩
  · obtain ⟨i, hi, e⟩ := List.mem_iff_getElem.1 hin
    have h0 : at_ x.1.mark 1 = 0 := by
      have := hgd.2
      simp [hs] at this
      exact this
    have hr := c1 i hi
    have key : ∀ z, Rk R.sp.ar (endS R.sp.ms (oneM N 1)) z → z = (i : Int) → False := by
      intro z hz
      cases hz with
      | base hb =>
        intro he
        unfold endS at hb
        split at hb
        · rename_i hp
          rw [List.mem_singleton] at hb
          obtain ⟨f1, f2⟩ := zec hp
          have : (findM R.sp.ms (oneM N 1)).toNat = i := by omega
          rw [this, List.getElem?_eq_getElem hi, e] at f2
          rw [Option.some.inj f2, hE1] at h0
          omega
        · cases hb
      | step ha _ =>
        rename_i a _
        intro he
        obtain ⟨a1, a2, a3, a4, a5, a6⟩ := hf.arcs a ha
        rw [he, Int.toNat_natCast, ← zgn hi, e] at a5
        have hen : a.by_ ∈ enabL (flS s).net x.1.mark := by
          rw [zbu]
          unfold ztb canN at a5
          simp only [Bool.and_eq_true, inB, decide_eq_true_eq] at a5
          exact ⟨by omega, by omega, a5.1.2⟩
        have hmv := zbx s x.1 ⟨0, false, 0⟩
        have : movL s x.1 = (mvS s).filter (canM s x.1) := by unfold movL; rw [if_pos hs]
        rw [← this, hno, List.map_eq_nil_iff] at hmv
        rw [hmv] at hen
        cases hen
    exact key _ hr rfl
  · have h0 : 0 < at_ x.1.mark 1 := by
      have := hgd.2
      simp [hs] at this
      exact this
    have hcov := z4k (n := N) (p := 1) (m := x.1.mark) (by omega) (by omega) (fun y hy => (hml.2.2.2.2 y hy).1) h0
    have := c2 _ hin
    unfold overB at this
    rw [hcov] at this
    have he : x.1.mark = oneM N 1 := by simpa using this
    rw [he]
    exact z19j (by omega)
end Go.Proofs.YtkkifebmicbbaaaGreat.Pi
