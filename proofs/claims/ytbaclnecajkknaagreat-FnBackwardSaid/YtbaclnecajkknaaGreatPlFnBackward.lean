/- The plain laws. -/
import Derived.Test.YtbaclnecajkknaaGreatPiRy
import Derived.Sort.AssemblyPlain
import Derived.Laws.Bits64
import Derived.Laws.Bits64b
import Derived.Laws.BitsLemmas
namespace Go.Proofs.YtbaclnecajkknaaGreat.Pi
open Go
set_option linter.all false

abbrev bys (l : List Int) : PV := .sl true 1 (l.map (PV.int .u8))
abbrev rows (l : List (List Int)) : PV := .sl false 1 (l.map ints)

theorem z1e0 {α : Type} {l : List α} {k : Nat} (hk : k < l.length) : l.take (k + 1) = l.take k ++ [l[k]] := List.take_succ_eq_append_getElem hk
theorem zfl {α : Type} (xs : List α) (z : α) (k : Nat) (hk : k < xs.length) :
    (xs.take k ++ List.replicate (xs.length - k) z).set k xs[k] = xs.take (k + 1) ++ List.replicate (xs.length - (k + 1)) z := by
  have h1 : (xs.take k).length = k := by simp; omega
  rw [List.set_append_right _ _ (by omega), h1, Nat.sub_self]
  rw [show xs.length - k = (xs.length - (k + 1)) + 1 by omega, List.replicate_succ, List.set_cons_zero, z1e0 hk, List.append_assoc]
  rfl

theorem zfh {α : Type} (xs : List α) (z : α) (n k : Nat) (hn : xs.length = n) (hk : k < n) (y : α) (hy : xs[k]? = some y) :
    (xs.take k ++ List.replicate (n - k) z).set k y = xs.take (k + 1) ++ List.replicate (n - (k + 1)) z := by
  subst hn
  rw [List.getElem?_eq_getElem hk] at hy
  cases hy
  exact zfl xs z k hk
theorem z2z {α : Type} {l : List α} {p : α → Bool} {k : Nat} (hk : k < l.length) (h : (l.take k).all p = true) (hp : p l[k] = true) : (l.take (k + 1)).all p = true := by
  rw [z1e0 hk, List.all_append, h, List.all_cons, hp]; rfl
theorem z2y {α : Type} {l : List α} {p : α → Bool} {k : Nat} (hk : k < l.length) (hp : p l[k] = false) : l.all p = false := by
  rw [List.all_eq_false]; exact ⟨l[k], List.getElem_mem hk, by simp [hp]⟩
theorem z3e {α : Type} {l : List α} {p : α → Bool} {k : Nat} (hk : k < l.length) (h : (l.take k).any p = false) (hp : p l[k] = false) : (l.take (k + 1)).any p = false := by
  rw [z1e0 hk, List.any_append, h, List.any_cons, hp]; rfl
theorem z3f {α : Type} {l : List α} {p : α → Bool} {k : Nat} (hk : k < l.length) (hp : p l[k] = true) : l.any p = true := by
  rw [List.any_eq_true]; exact ⟨l[k], List.getElem_mem hk, hp⟩

def inB (lo hi n : Int) : Bool := decide (lo ≤ n) && decide (n ≤ hi)
def goodM (p : Int) (m : List Int) : Bool := inB 1 16 p && (m.length : Int) == p && m.all (inB 0 50)
theorem zim {p : Int} {m : List Int} (h : goodM p m = true) : 1 ≤ p ∧ p ≤ 16 ∧ (m.length : Int) = p ∧ m.length ≤ 16 ∧ ∀ x ∈ m, 0 ≤ x ∧ x ≤ 50 := by
  simp [goodM, inB] at h
  refine ⟨h.1.1.1, h.1.1.2, h.1.2, by omega, fun x hx => h.2 x hx⟩

def sumI (l : List Int) : Int := l.foldl (· + ·) 0
def zbg (a b : List Int) : Bool := (a.zip b).all fun p => decide (p.2 ≤ p.1)

def idxI {α : Type} (l : List α) (p : α → Bool) : Int := match l.findIdx? p with
  | some k => k
  | none => -1
theorem zk1 {α : Type} {l : List α} {p : α → Bool} {k : Nat} (hk : k < l.length) (h : (l.take k).any p = false) (hp : p l[k] = true) : idxI l p = k := by
  have : l.findIdx? p = some k := by
    rw [List.findIdx?_eq_some_iff_getElem]
    refine ⟨hk, hp, fun j hj => ?_⟩
    rw [List.any_eq_false] at h
    have hjl : j < l.length := by omega
    have := h l[j] (by rw [List.mem_iff_getElem]; exact ⟨j, by simp; omega, by simp⟩)
    simpa using this
  simp [idxI, this]
theorem zk0 {α : Type} {l : List α} {p : α → Bool} (h : l.any p = false) : idxI l p = -1 := by
  have : l.findIdx? p = none := by
    rw [List.findIdx?_eq_none_iff]
    rw [List.any_eq_false] at h
    intro x hx; simpa using h x hx
  simp [idxI, this]
theorem zjx {α : Type} (l : List α) (p : α → Bool) : l.any p = decide (0 ≤ idxI l p) := by
  unfold idxI
  cases h : l.findIdx? p with
  | none =>
    rw [List.findIdx?_eq_none_iff] at h
    simp only [List.any_eq_false.2 (fun x hx => by simpa using h x hx)]
    rfl
  | some k =>
    rw [List.findIdx?_eq_some_iff_getElem] at h
    obtain ⟨h1, h2, _⟩ := h
    rw [List.any_eq_true.2 ⟨l[k], List.getElem_mem h1, h2⟩]
    simp
theorem ziq {p : Int} {a b : List Int} (h : (goodM p a && goodM p b) = true) : a.length = b.length ∧ a.length ≤ 16 := by
  simp only [Bool.and_eq_true] at h
  have h1 := zim h.1
  have h2 := zim h.2
  omega

theorem z1d5 (l : List Int) (x : Int) : l.foldl (· + ·) x = x + sumI l := by
  induction l generalizing x with
  | nil => simp [sumI]
  | cons y l ih =>
    have h1 : sumI (y :: l) = (0 + y) + sumI l := ih (0 + y)
    rw [List.foldl_cons, ih, h1]; omega
theorem z1d8 (x : Int) (l : List Int) : sumI (x :: l) = x + sumI l := by
  show (x :: l).foldl (· + ·) 0 = _
  rw [List.foldl_cons, z1d5]; omega
attribute [go_sem] Bool.false_and Bool.and_false bne_self_eq_false

def putI : List Int → Int → List Int
  | [], x => [x]
  | y :: l, x => if y < x then y :: putI l x else if y = x then y :: l else x :: y :: l
theorem z11q : ∀ {l : List Int} {x : Int} {k : Nat} (hk : k < l.length), (l.take k).all (fun y => decide (y < x)) = true → l[k] = x → putI l x = l
  | y :: l, x, 0, hk, h, hx => by
    simp only [List.getElem_cons_zero] at hx
    simp [putI, hx]
  | y :: l, x, k + 1, hk, h, hx => by
    simp only [List.take_succ_cons, List.all_cons, Bool.and_eq_true, decide_eq_true_eq] at h
    simp only [putI, h.1, if_true]
    rw [z11q (k := k) (by simpa using hk) h.2 (by simpa using hx)]
theorem z11r : ∀ {l : List Int} {x : Int} {k : Nat}, (l.take k).all (fun y => decide (y < x)) = true → (∀ h : k < l.length, x < l[k]) → k ≤ l.length → putI l x = l.take k ++ x :: l.drop k
  | [], x, k, h, hx, hk => by have : k = 0 := by simpa using hk
                              subst this; rfl
  | y :: l, x, 0, h, hx, hk => by
    have := hx (by simp)
    simp only [List.getElem_cons_zero] at this
    have h1 : ¬ y < x := by omega
    have h2 : ¬ y = x := by omega
    simp [putI, h1, h2]
  | y :: l, x, k + 1, h, hx, hk => by
    simp only [List.take_succ_cons, List.all_cons, Bool.and_eq_true, decide_eq_true_eq] at h
    simp only [putI, h.1, if_true, List.take_succ_cons, List.drop_succ_cons, List.cons_append]
    rw [z11r (k := k) h.2 (fun hh => by have := hx (by simpa using hh); simpa using this) (by simpa using hk)]
theorem z11s : ∀ (l : List Int) (x : Int), l.length ≤ (putI l x).length ∧ (putI l x).length ≤ l.length + 1
  | [], x => by simp [putI]
  | y :: l, x => by
    have := z11s l x
    simp only [putI]
    split
    · simp; omega
    · split <;> simp
theorem z11t {l : List Int} {x y : Int} (h : y ∈ putI l x) : y ∈ l ∨ y = x := by
  induction l with
  | nil => simp [putI] at h; exact .inr h
  | cons z l ih =>
    simp only [putI] at h
    split at h
    · rcases List.mem_cons.1 h with h | h
      · exact .inl (by simp [h])
      · rcases ih h with h | h
        · exact .inl (by simp [h])
        · exact .inr h
    · split at h
      · exact .inl h
      · rcases List.mem_cons.1 h with h | h
        · exact .inr h
        · exact .inl h
end Go.Proofs.YtbaclnecajkknaaGreat.Pi
namespace Go.Proofs.YtbaclnecajkknaaGreat.Pi
open Go
set_option linter.all false

structure Tr where
  inn : List Int
  out : List Int
  rst : List Int
structure Net where
  pl : Int
  tr : List Tr
abbrev encT (t : Tr) : PV := .agg [ints t.inn, ints t.out, ints t.rst]
abbrev trs (l : List Tr) : PV := .sl false 3 (l.map encT)
abbrev encN (n : Net) : PV := .agg [I n.pl, trs n.tr]
def smT (t : Tr) : Prop := t.inn.length < 2^40 ∧ t.out.length < 2^40 ∧ t.rst.length < 2^40
def smN (n : Net) : Prop := n.tr.length < 2^40 ∧ ∀ t ∈ n.tr, smT t

def smNet (n : Net) : Prop := (0 < n.tr.length ∧ n.tr.length ≤ 30) ∧ n.pl ≤ 20 ∧ ∀ t ∈ n.tr, t.inn.length ≤ 20 ∧ t.out.length ≤ 20 ∧ t.rst.length ≤ 20
theorem smNet.smN {n : Net} (h : smNet n) : smN n := ⟨by have := h.1; omega, fun t ht => by have := h.2.2 t ht; exact ⟨by omega, by omega, by omega⟩⟩
def incr (l : List Int) : Bool := decide (l.Pairwise (· < ·))
theorem zm5 {l : List Int} : (l.take 1).Pairwise (· < ·) := by cases l <;> simp
theorem zzw {l : List Int} {x y : Int} (h : (l ++ [x]).Pairwise (· < ·)) (hxy : x < y) : (l ++ [x] ++ [y]).Pairwise (· < ·) := by
  rw [List.pairwise_append]
  refine ⟨h, by simp, ?_⟩
  intro a ha b hb
  simp only [List.mem_singleton] at hb
  subst hb
  rcases List.mem_append.1 ha with ha | ha
  · have := (List.pairwise_append.1 h).2.2 a ha x (by simp); omega
  · simp only [List.mem_singleton] at ha; omega
theorem zm7 {l : List Int} {k : Nat} (hk : k + 1 < l.length) (h : (l.take (k + 1)).Pairwise (· < ·)) (hx : l[k]'(by omega) < l[k + 1]) : (l.take (k + 2)).Pairwise (· < ·) := by
  rw [z1e0 (show k < l.length by omega)] at h
  rw [z1e0 hk, z1e0 (show k < l.length by omega)]
  exact zzw h hx
theorem zm4 {l : List Int} {k : Nat} (hk : k + 1 < l.length) (hx : ¬ l[k]'(by omega) < l[k + 1]) : incr l = false := by
  unfold incr
  rw [decide_eq_false_iff_not]
  intro h
  exact hx (List.pairwise_iff_getElem.1 h k (k + 1) (by omega) hk (by omega))
def z10g (p : Int) (l : List Int) : Bool := incr l && l.all (inB 0 (p - 1))
theorem z10h (p : Int) (l : List Int) : (incr l && l.all (inB 0 (p - 1))) = z10g p l := rfl
def goodT (p : Int) (t : Tr) : Bool := !t.inn.isEmpty && z10g p t.inn && z10g p t.out && z10g p t.rst
def goodN (n : Net) : Bool := inB 1 16 n.pl && decide (n.tr.length ≤ 24) && n.tr.all (goodT n.pl)

theorem zit {n : Net} {k : Nat} (hk : k < n.tr.length) (h : goodT n.pl n.tr[k] = false) : goodN n = false := by
  unfold goodN; rw [z2y hk h]; simp
theorem zj4 {p : Int} {t : Tr} (h : t.inn.length = 0) : goodT p t = false := by
  have : t.inn = [] := List.eq_nil_of_length_eq_zero h
  simp [goodT, this]
theorem ziy {p : Int} {t : Tr} (h : t.inn.length ≠ 0) (h1 : z10g p t.inn = true) (h2 : z10g p t.out = true) (h3 : z10g p t.rst = true) : goodT p t = true := by
  have : t.inn.isEmpty = false := by cases e : t.inn with
    | nil => simp [e] at h
    | cons => rfl
  simp [goodT, this, h1, h2, h3]
def at_ (m : List Int) (p : Int) : Int := m.getD p.toNat 0
theorem at_eq {m : List Int} {p : Int} (h : p.toNat < m.length) : m[p.toNat] = at_ m p := by
  unfold at_; rw [List.getD_eq_getElem?_getD, List.getElem?_eq_getElem h]; rfl
def canT (t : Tr) (m : List Int) : Bool := t.inn.all fun p => !(at_ m p == 0)
def decS (m : List Int) (p : Int) : List Int := m.set p.toNat (at_ m p - 1)
def zerS (m : List Int) (p : Int) : List Int := m.set p.toNat 0
def incS (m : List Int) (p : Int) : List Int := m.set p.toNat (at_ m p + 1)
def decL (m l : List Int) : List Int := l.foldl decS m
def zerL (m l : List Int) : List Int := l.foldl zerS m
def incL (m l : List Int) : List Int := l.foldl incS m
def zg1 (t : Tr) (m : List Int) : List Int := incL (zerL (decL m t.inn) t.rst) t.out
theorem zgn {α β : Type} (f : β → α → β) (b : β) {l : List α} {k : Nat} (hk : k < l.length) : (l.take (k + 1)).foldl f b = f ((l.take k).foldl f b) l[k] := by
  rw [z1e0 hk, List.foldl_append]; rfl
theorem zbu (m l : List Int) : (decL m l).length = m.length := by
  unfold decL
  induction l generalizing m with
  | nil => rfl
  | cons x l ih => rw [List.foldl_cons, ih]; simp [decS]
theorem z1gn (m l : List Int) : (zerL m l).length = m.length := by
  unfold zerL
  induction l generalizing m with
  | nil => rfl
  | cons x l ih => rw [List.foldl_cons, ih]; simp [zerS]
theorem zlz (m l : List Int) : (incL m l).length = m.length := by
  unfold incL
  induction l generalizing m with
  | nil => rfl
  | cons x l ih => rw [List.foldl_cons, ih]; simp [incS]
theorem zg3 (t : Tr) (m : List Int) : (zg1 t m).length = m.length := by
  unfold zg1; rw [zlz, z1gn, zbu]
theorem z4k {m : List Int} {p lo hi : Int} (h : ∀ x ∈ m, lo ≤ x ∧ x ≤ hi) (hp : p.toNat < m.length) : lo ≤ at_ m p ∧ at_ m p ≤ hi := by
  rw [← at_eq hp]; exact h _ (List.getElem_mem hp)
theorem zs6 {m : List Int} {i : Nat} {v x : Int} (h : x ∈ m.set i v) : x ∈ m ∨ x = v := List.mem_or_eq_of_mem_set h
theorem zbt {m l : List Int} {lo hi : Int} (h : ∀ x ∈ m, lo ≤ x ∧ x ≤ hi) (hl : ∀ p ∈ l, p.toNat < m.length) : ∀ x ∈ decL m l, lo - l.length ≤ x ∧ x ≤ hi := by
  unfold decL
  induction l generalizing m lo with
  | nil => intro x hx; have := h x hx; simp; omega
  | cons p l ih =>
    rw [List.foldl_cons]
    have hp := z4k h (hl p (by simp))
    intro x hx
    have h2 := ih (m := decS m p) (lo := lo - 1) (by
      intro y hy
      rcases zs6 hy with hy | hy
      · have := h y hy; omega
      · omega) (by intro q hq; simp [decS]; exact hl q (by simp [hq])) x hx
    simp only [List.length_cons]; omega
theorem z1gm {m l : List Int} {lo hi : Int} (h : ∀ x ∈ m, lo ≤ x ∧ x ≤ hi) (h0 : lo ≤ 0 ∧ 0 ≤ hi) : ∀ x ∈ zerL m l, lo ≤ x ∧ x ≤ hi := by
  unfold zerL
  induction l generalizing m with
  | nil => exact h
  | cons p l ih =>
    rw [List.foldl_cons]
    refine ih ?_
    intro y hy
    rcases zs6 hy with hy | hy
    · exact h y hy
    · omega
theorem zly {m l : List Int} {lo hi : Int} (h : ∀ x ∈ m, lo ≤ x ∧ x ≤ hi) (hl : ∀ p ∈ l, p.toNat < m.length) : ∀ x ∈ incL m l, lo ≤ x ∧ x ≤ hi + l.length := by
  unfold incL
  induction l generalizing m hi with
  | nil => intro x hx; have := h x hx; simp; omega
  | cons p l ih =>
    rw [List.foldl_cons]
    have hp := z4k h (hl p (by simp))
    intro x hx
    have h2 := ih (m := incS m p) (hi := hi + 1) (by
      intro y hy
      rcases zs6 hy with hy | hy
      · have := h y hy; omega
      · omega) (by intro q hq; simp [incS]; exact hl q (by simp [hq])) x hx
    simp only [List.length_cons]; omega
theorem zbv {m l : List Int} {k : Nat} (hk : k < l.length) : decL m (l.take (k + 1)) = (decL m (l.take k)).set (l[k].toNat) (at_ (decL m (l.take k)) l[k] - 1) := by
  unfold decL; rw [zgn _ _ hk]; rfl
theorem z1go {m l : List Int} {k : Nat} (hk : k < l.length) : zerL m (l.take (k + 1)) = (zerL m (l.take k)).set (l[k].toNat) 0 := by
  unfold zerL; rw [zgn _ _ hk]; rfl
theorem zm0 {m l : List Int} {k : Nat} (hk : k < l.length) : incL m (l.take (k + 1)) = (incL m (l.take k)).set (l[k].toNat) (at_ (incL m (l.take k)) l[k] + 1) := by
  unfold incL; rw [zgn _ _ hk]; rfl

theorem z10i {p : Int} {l : List Int} (h : z10g p l = true) : ∀ x ∈ l, 0 ≤ x ∧ x < p := by
  simp only [z10g, Bool.and_eq_true, List.all_eq_true] at h
  intro x hx
  have := h.2 x hx
  simp [inB] at this; omega
theorem zm3 : ∀ {l : List Int} {lo hi : Int}, l.Pairwise (· < ·) → (∀ x ∈ l, lo ≤ x ∧ x < hi) → lo ≤ hi → (l.length : Int) ≤ hi - lo
  | [], _, _, _, _, h => by simp; omega
  | a :: l, lo, hi, hp, hb, h => by
    rw [List.pairwise_cons] at hp
    have ha := hb a (by simp)
    have := zm3 (l := l) (lo := a + 1) (hi := hi) hp.2 (fun x hx => ⟨by have := hp.1 x hx; omega, (hb x (by simp [hx])).2⟩) (by omega)
    simp only [List.length_cons]; omega
theorem z10k {p : Int} {l : List Int} (h : z10g p l = true) (h0 : 0 ≤ p) : (l.length : Int) ≤ p := by
  have h1 : l.Pairwise (· < ·) := by simp [z10g, incr] at h; exact h.1
  have := zm3 h1 (z10i h) h0; omega
theorem zj5 {p : Int} {t : Tr} (h : goodT p t = true) : t.inn ≠ [] ∧ z10g p t.inn = true ∧ z10g p t.out = true ∧ z10g p t.rst = true := by
  simp [goodT] at h
  exact ⟨h.1.1.1, h.1.1.2, h.1.2, h.2⟩
theorem ziv {n : Net} (h : goodN n = true) : 1 ≤ n.pl ∧ n.pl ≤ 16 ∧ n.tr.length ≤ 24 ∧ ∀ t ∈ n.tr, goodT n.pl t = true := by
  simp [goodN, inB] at h
  exact ⟨h.1.1.1, h.1.1.2, h.1.2, h.2⟩
theorem zj2 {p : Int} {t : Tr} {m : List Int} (h : goodT p t = true) (hm : (m.length : Int) = p) : (∀ q ∈ t.inn, 0 ≤ q ∧ q.toNat < m.length) ∧ (∀ q ∈ t.out, 0 ≤ q ∧ q.toNat < m.length) ∧ (∀ q ∈ t.rst, 0 ≤ q ∧ q.toNat < m.length) := by
  obtain ⟨_, h1, h2, h3⟩ := zj5 h
  refine ⟨fun q hq => ?_, fun q hq => ?_, fun q hq => ?_⟩
  · have := z10i h1 q hq; omega
  · have := z10i h2 q hq; omega
  · have := z10i h3 q hq; omega
theorem zj1 {p : Int} {t : Tr} (h : goodT p t = true) (hp : 0 ≤ p ∧ p ≤ 16) : t.inn.length ≤ 16 ∧ t.out.length ≤ 16 ∧ t.rst.length ≤ 16 := by
  obtain ⟨_, h1, h2, h3⟩ := zj5 h
  have := z10k h1 hp.1
  have := z10k h2 hp.1
  have := z10k h3 hp.1
  omega

def zrn (n : Net) (m : List Int) : Bool := goodN n && goodM n.pl m
def trAt (n : Net) (t : Int) : Tr := n.tr.getD t.toNat ⟨[], [], []⟩
theorem z1ed {n : Net} {t : Int} (h : t.toNat < n.tr.length) : n.tr[t.toNat] = trAt n t := by
  unfold trAt; rw [List.getD_eq_getElem?_getD, List.getElem?_eq_getElem h]; rfl
def canN (n : Net) (m : List Int) (t : Int) : Bool := zrn n m && inB 0 (n.tr.length - 1) t && canT (trAt n t) m
def zvg (n : Net) (m : List Int) (t : Int) : Bool := canN n m t && (zg1 (trAt n t) m).all (inB 0 50)
theorem zro {n : Net} {m : List Int} (h : zrn n m = true) : goodN n = true ∧ goodM n.pl m = true := by simpa [zrn] using h
theorem z8e {n : Net} {m : List Int} {t : Int} (h : canN n m t = true) : goodN n = true ∧ goodM n.pl m = true ∧ 0 ≤ t ∧ t.toNat < n.tr.length ∧ canT (trAt n t) m = true ∧ goodT n.pl (trAt n t) = true := by
  simp only [canN, Bool.and_eq_true, inB, decide_eq_true_eq] at h
  obtain ⟨⟨h1, h2⟩, h3⟩ := h
  obtain ⟨h4, h5⟩ := zro h1
  have h6 : t.toNat < n.tr.length := by omega
  refine ⟨h4, h5, h2.1, h6, h3, ?_⟩
  have := (ziv h4).2.2.2 n.tr[t.toNat] (List.getElem_mem h6)
  rwa [z1ed h6] at this
def enabK (n : Net) (m : List Int) (k : Nat) : List Int := ((List.range k).filter fun i => canT (n.tr.getD i ⟨[], [], []⟩) m).map Int.ofNat
def enabL (n : Net) (m : List Int) : List Int := enabK n m n.tr.length
theorem zcs (n : Net) (m : List Int) (k : Nat) : (enabK n m k).length ≤ k := by
  have := List.length_filter_le (fun i => canT (n.tr.getD i ⟨[], [], []⟩) m) (List.range k)
  simp only [enabK, List.length_map]; simp at this ⊢; omega
theorem zct {n : Net} {m : List Int} {k : Nat} (hk : k < n.tr.length) (h : canT n.tr[k] m = true) : enabK n m (k + 1) = enabK n m k ++ [(k : Int)] := by
  have e : n.tr[k]?.getD ⟨[], [], []⟩ = n.tr[k] := by rw [List.getElem?_eq_getElem hk]; rfl
  simp [enabK, List.range_succ, List.filter_append, e, h]
theorem zcr {n : Net} {m : List Int} {k : Nat} (hk : k < n.tr.length) (h : canT n.tr[k] m = false) : enabK n m (k + 1) = enabK n m k := by
  have e : n.tr[k]?.getD ⟨[], [], []⟩ = n.tr[k] := by rw [List.getElem?_eq_getElem hk]; rfl
  simp [enabK, List.range_succ, List.filter_append, e, h]
theorem zcu {n : Net} {m : List Int} {t : Int} : t ∈ enabL n m ↔ 0 ≤ t ∧ t.toNat < n.tr.length ∧ canT (trAt n t) m = true := by
  simp only [enabL, enabK, List.mem_map, List.mem_filter, List.mem_range, trAt]
  constructor
  · rintro ⟨i, ⟨h1, h2⟩, rfl⟩
    exact ⟨by simp, by simpa using h1, by simpa using h2⟩
  · rintro ⟨h1, h2, h3⟩
    exact ⟨t.toNat, ⟨h2, h3⟩, by simp; omega⟩
/-! Firing is monotone. -/
end Go.Proofs.YtbaclnecajkknaaGreat.Pi
namespace Go.Proofs.YtbaclnecajkknaaGreat.Pi
open Go
set_option linter.all false

theorem zvj {n : Net} {m : List Int} {t : Int} (h : zvg n m t = true) : zrn n (zg1 (trAt n t) m) = true := by
  obtain ⟨h1, h2⟩ := Bool.and_eq_true .. ▸ h
  obtain ⟨h3, h4, _⟩ := z8e h1
  have h5 := zim h4
  simp only [zrn, h3, Bool.true_and, goodM, zg3, h2, Bool.and_true]
  simp [inB]; omega
end Go.Proofs.YtbaclnecajkknaaGreat.Pi
namespace Go.Proofs.YtbaclnecajkknaaGreat.Pi
open Go
set_option linter.all false

/-! Tokens place by place. -/
theorem z50 {m : List Int} {p q x : Int} (hp : 0 ≤ p ∧ p.toNat < m.length) (hq : 0 ≤ q) : at_ (m.set p.toNat x) q = if q = p then x else at_ m q := by
  unfold at_
  rw [List.getD_eq_getElem?_getD, List.getD_eq_getElem?_getD, List.getElem?_set]
  by_cases h : q = p
  · subst h; simp [hp.2]
  · have : p.toNat ≠ q.toNat := by omega
    simp [h, this]
theorem z4q {a b : List Int} (hl : a.length = b.length) (h : ∀ p : Int, 0 ≤ p → p.toNat < a.length → at_ a p = at_ b p) : a = b := by
  apply List.ext_getElem hl
  intro i h1 h2
  have := h i (by omega) (by simpa using h1)
  rw [← at_eq (by simpa using h1), ← at_eq (by simpa using h2)] at this
  simpa using this
def zmi (m l : List Int) : Prop := ∀ q ∈ l, 0 ≤ q ∧ q.toNat < m.length
theorem z4p {l : List Int} : ∀ {m : List Int} {p : Int}, zmi m l → 0 ≤ p → at_ (decL m l) p = at_ m p - (l.count p : Nat) := by
  unfold decL
  induction l with
  | nil => intros; simp
  | cons q l ih =>
    intro m p hm hp
    rw [List.foldl_cons, ih (fun r hr => by simp [decS]; exact hm r (by simp [hr])) hp]
    unfold decS
    rw [z50 (hm q (by simp)) hp, List.count_cons]
    by_cases h : p = q
    · subst h; simp; omega
    · have : (q == p) = false := by simp; omega
      simp [h, this]
theorem z4v {l : List Int} : ∀ {m : List Int} {p : Int}, zmi m l → 0 ≤ p → at_ (incL m l) p = at_ m p + (l.count p : Nat) := by
  unfold incL
  induction l with
  | nil => intros; simp
  | cons q l ih =>
    intro m p hm hp
    rw [List.foldl_cons, ih (fun r hr => by simp [incS]; exact hm r (by simp [hr])) hp]
    unfold incS
    rw [z50 (hm q (by simp)) hp, List.count_cons]
    by_cases h : p = q
    · subst h; simp; omega
    · have : (q == p) = false := by simp; omega
      simp [h, this]
theorem z51 {l : List Int} : ∀ {m : List Int} {p : Int}, zmi m l → 0 ≤ p → at_ (zerL m l) p = if p ∈ l then 0 else at_ m p := by
  unfold zerL
  induction l with
  | nil => intros; simp
  | cons q l ih =>
    intro m p hm hp
    rw [List.foldl_cons, ih (fun r hr => by simp [zerS]; exact hm r (by simp [hr])) hp]
    unfold zerS
    rw [z50 (hm q (by simp)) hp]
    by_cases h : p = q
    · subst h; simp
    · simp [h]
theorem zm1 {l : List Int} (h : incr l = true) (p : Int) : l.count p = if p ∈ l then 1 else 0 := by
  have h1 : l.Pairwise (· < ·) := by simpa [incr] using h
  clear h
  induction l with
  | nil => simp
  | cons q l ih =>
    rw [List.pairwise_cons] at h1
    rw [List.count_cons, ih h1.2]
    by_cases hq : p = q
    · subst hq
      have : p ∉ l := fun hp => by have := h1.1 p hp; omega
      simp [this]
    · have : (q == p) = false := by simp; omega
      simp [hq, this]
theorem z10j {p : Int} {l : List Int} (h : z10g p l = true) : incr l = true := by
  simp only [z10g, Bool.and_eq_true] at h; exact h.1
theorem zmj {m m' l : List Int} (h : zmi m l) (hl : m'.length = m.length) : zmi m' l := fun q hq => by rw [hl]; exact h q hq
theorem z4s {t : Tr} {m : List Int} {p : Int} (h1 : zmi m t.inn) (h2 : zmi m t.out) (h3 : zmi m t.rst) (hp : 0 ≤ p) :
    at_ (zg1 t m) p = (if p ∈ t.rst then 0 else at_ m p - (t.inn.count p : Nat)) + (t.out.count p : Nat) := by
  unfold zg1
  rw [z4v (zmj h2 (by rw [z1gn, zbu])) hp, z51 (zmj h3 (by rw [zbu])) hp, z4p h1 hp]
theorem zj0 {p : Int} {t : Tr} {m : List Int} (h : goodT p t = true) (hm : (m.length : Int) = p) : zmi m t.inn ∧ zmi m t.out ∧ zmi m t.rst := zj2 h hm
theorem z4t {p0 : Int} {t : Tr} {m : List Int} {p : Int} (h : goodT p0 t = true) (hm : (m.length : Int) = p0) (hp : 0 ≤ p) :
    at_ (zg1 t m) p = (if p ∈ t.rst then 0 else at_ m p - (if p ∈ t.inn then 1 else 0)) + (if p ∈ t.out then 1 else 0) := by
  obtain ⟨h1, h2, h3⟩ := zj0 h hm
  obtain ⟨_, g1, g2, g3⟩ := zj5 h
  rw [z4s h1 h2 h3 hp, zm1 (z10j g1), zm1 (z10j g2)]
  have e1 : (((if p ∈ t.inn then 1 else 0 : Nat)) : Int) = if p ∈ t.inn then 1 else 0 := by split <;> rfl
  have e2 : (((if p ∈ t.out then 1 else 0 : Nat)) : Int) = if p ∈ t.out then 1 else 0 := by split <;> rfl
  rw [e1, e2]

/-! Nets turned. -/
theorem z8f {t : Tr} {m : List Int} (h : canT t m = true) {p : Int} (hp : p ∈ t.inn) : at_ m p ≠ 0 := by
  simp only [canT, List.all_eq_true] at h
  simpa using h p hp
/-! Transitions with a property. -/
def hasB (l : List Int) (p : Int) : Bool := decide (p ∈ l)
theorem zjj (l : List Int) (p : Int) : hasB l p = l.any (fun x => x == p) := by
  unfold hasB
  rw [Bool.eq_iff_iff, List.any_eq_true]
  simp only [decide_eq_true_eq, beq_iff_eq]
  exact ⟨fun h => ⟨p, h, rfl⟩, fun ⟨x, h, e⟩ => e ▸ h⟩
theorem zjl {l : List Int} {p : Int} (h : l.any (fun x => x == p) = false) : hasB l p = false := by rw [zjj, h]
theorem zjm {l : List Int} {p : Int} {k : Nat} (hk : k < l.length) (h : l[k] = p) : hasB l p = true := by
  subst h; simp [hasB]

/-! Free choice. -/
end Go.Proofs.YtbaclnecajkknaaGreat.Pi
namespace Go.Proofs.YtbaclnecajkknaaGreat.Pi
open Go
set_option linter.all false

def one (b : Bool) : Int := if b then 1 else 0
def backX (t : Tr) (m : List Int) (i : Nat) : Int := max 0 (at_ m i - one (hasB t.out i)) + one (hasB t.inn i)
def backK (t : Tr) (m : List Int) (k : Nat) : List Int := (List.range k).map (backX t m)
def backM (t : Tr) (m : List Int) : List Int := backK t m m.length
def z1cp (t : Tr) (m : List Int) (i : Nat) : Bool := hasB t.rst i && decide (0 < at_ m i - one (hasB t.out i))
def okB (t : Tr) (m : List Int) : Bool := (List.range m.length).all fun i => !z1cp t m i
theorem z52 (t : Tr) (m : List Int) (k : Nat) : (backK t m k).length = k := by simp [backK]
theorem z54 (t : Tr) (m : List Int) : (backM t m).length = m.length := z52 ..
theorem z53 (t : Tr) (m : List Int) (k : Nat) : backK t m (k + 1) = backK t m k ++ [backX t m k] := by simp [backK, List.range_succ]
theorem zur {t : Tr} {m : List Int} {k : Nat} (hk : k < m.length) (h : z1cp t m k = true) : okB t m = false := by
  unfold okB
  rw [List.all_eq_false]
  exact ⟨k, by simpa using hk, by simp [h]⟩
theorem zus {t : Tr} {m : List Int} (h : ∀ k, k < m.length → z1cp t m k = false) : okB t m = true := by
  unfold okB
  rw [List.all_eq_true]
  intro k hk
  simp [h k (by simpa using hk)]
theorem zuq {t : Tr} {m : List Int} (h : okB t m = true) {k : Nat} (hk : k < m.length) : z1cp t m k = false := by
  unfold okB at h
  rw [List.all_eq_true] at h
  simpa using h k (by simpa using hk)
theorem z4j {t : Tr} {m : List Int} {p : Int} (hp : 0 ≤ p) (hl : p.toNat < m.length) : at_ (backM t m) p = max 0 (at_ m p - one (hasB t.out p)) + one (hasB t.inn p) := by
  rw [← at_eq (by simpa [z54] using hl)]
  simp only [backM, backK, List.getElem_map, List.getElem_range, backX, Int.toNat_of_nonneg hp]
def zvt (n : Net) (t : Int) (m : List Int) : Bool := zrn n m && inB 0 (n.tr.length - 1) t && okB (trAt n t) m && (backM (trAt n t) m).all (inB 0 50)
theorem zbi {a b : List Int} (hl : a.length = b.length) : zbg a b = true ↔ ∀ p : Int, 0 ≤ p → p.toNat < a.length → at_ b p ≤ at_ a p := by
  unfold zbg
  rw [List.all_eq_true]
  constructor
  · intro h p hp hpl
    have h1 := h (a[p.toNat], b[p.toNat]'(by omega)) (by
      rw [List.mem_iff_getElem]
      exact ⟨p.toNat, by simp; omega, by simp⟩)
    simp only [decide_eq_true_eq] at h1
    rwa [at_eq, at_eq] at h1
  · intro h x hx
    obtain ⟨i, hi, rfl⟩ := List.mem_iff_getElem.1 hx
    simp only [List.length_zip] at hi
    have := h i (by omega) (by simp; omega)
    rw [← at_eq (by simp; omega), ← at_eq (by simp; omega)] at this
    simpa using this
theorem zjk (l : List Int) (p : Int) : one (hasB l p) = if p ∈ l then 1 else 0 := by
  unfold hasB one
  by_cases h : p ∈ l <;> simp [h]
theorem zvu {n : Net} {t : Int} {m : List Int} (h : zvt n t m = true) : goodN n = true ∧ goodM n.pl m = true ∧ 0 ≤ t ∧ t.toNat < n.tr.length ∧ goodT n.pl (trAt n t) = true ∧ okB (trAt n t) m = true ∧ (backM (trAt n t) m).all (inB 0 50) = true := by
  simp only [zvt, Bool.and_eq_true] at h
  obtain ⟨⟨⟨h1, h2⟩, h3⟩, h4⟩ := h
  obtain ⟨g1, g2⟩ := zro h1
  have h5 : 0 ≤ t ∧ t.toNat < n.tr.length := by simp [inB] at h2; omega
  have := (ziv g1).2.2.2 _ (List.getElem_mem h5.2)
  rw [z1ed h5.2] at this
  exact ⟨g1, g2, h5.1, h5.2, this, h3, h4⟩
theorem z1bh {n : Net} {t : Int} {m d : List Int} (hm : zrn n m = true) (hf : zvg n d t = true) (hc : zbg (zg1 (trAt n t) d) m = true) : zvt n t m = true ∧ zbg d (backM (trAt n t) m) = true := by
  obtain ⟨g1, g2⟩ := zro hm
  obtain ⟨h1, h2⟩ := Bool.and_eq_true .. ▸ hf
  obtain ⟨h3, h4, h5, h6, h7, h8⟩ := z8e h1
  have lm := zim g2
  have ld := zim h4
  rw [zbi (by rw [zg3]; omega)] at hc
  have key : ∀ p : Int, 0 ≤ p → p.toNat < m.length → z1cp (trAt n t) m p.toNat = false ∧ 0 ≤ at_ (backM (trAt n t) m) p ∧ at_ (backM (trAt n t) m) p ≤ at_ d p ∧ at_ d p ≤ 50 := by
    intro p hp hl
    have c := hc p hp (by rw [zg3]; omega)
    rw [z4t h8 ld.2.2.1 hp] at c
    have b := z4k (p := p) ld.2.2.2.2 (by omega)
    have e : p ∈ (trAt n t).inn → at_ d p ≠ 0 := fun hi => z8f h7 hi
    rw [z4j hp hl]
    simp only [z1cp, zjk, Int.toNat_of_nonneg hp]
    by_cases hr : p ∈ (trAt n t).rst
    · simp only [hr, if_true] at c
      simp only [hasB, hr, decide_true, Bool.true_and, decide_eq_false_iff_not]
      by_cases hi : p ∈ (trAt n t).inn
      · have := e hi; simp only [hi, if_true]; omega
      · simp only [hi, if_false]; omega
    · simp only [hr, if_false] at c
      simp only [hasB, hr, decide_false, Bool.false_and, true_and]
      by_cases hi : p ∈ (trAt n t).inn
      · have := e hi; simp only [hi, if_true] at c ⊢; omega
      · simp only [hi, if_false] at c ⊢; omega
  have hok : okB (trAt n t) m = true := zus fun k hk => by
    have := (key k (by omega) (by simpa using hk)).1
    simpa using this
  have hb : (backM (trAt n t) m).all (inB 0 50) = true := by
    rw [List.all_eq_true]
    intro x hx
    obtain ⟨i, hi, rfl⟩ := List.mem_iff_getElem.1 hx
    have := key i (by omega) (by rw [z54] at hi; simpa using hi)
    rw [← at_eq (by simpa using hi)] at this
    simp only [inB, Bool.and_eq_true, decide_eq_true_eq]
    simp only [Int.toNat_natCast] at this
    omega
  have hi : inB 0 (n.tr.length - 1) t = true := by simp [inB]; omega
  refine ⟨by simp only [zvt, hm, hi, hok, hb, Bool.and_self], ?_⟩
  rw [zbi (by rw [z54]; omega)]
  intro p hp hl
  exact (key p hp (by omega)).2.2.1
end Go.Proofs.YtbaclnecajkknaaGreat.Pi
namespace Go.Proofs.YtbaclnecajkknaaGreat.Pi
open Go
set_option linter.all false

theorem z1a {orc : Orc} {m : Nat} {st : St} {Q : Out → Prop} {keep : List Bool} {b : ICode} (Inv : Nat → St → Prop) (n : Nat) (h0 : Inv n (gc m ⟨clean keep st.fr, st.mem⟩))
    (step : ∀ k s, Inv k s → W orc m b s (fun o => match o with | .next s' => ∃ j, j < k ∧ Inv j (gc m ⟨clean keep s'.fr, s'.mem⟩) | o => Q o)) : W orc m (.loop keep b) st Q := by
  have key : ∀ (d k : Nat) (st : St), k < d → Inv k (gc m ⟨clean keep st.fr, st.mem⟩) → W orc m (.loop keep b) st Q := by
    intro d
    induction d with
    | zero => intro k st hk; omega
    | succ d ih =>
      intro k st hk hI
      obtain ⟨o, h1, h2⟩ := step k _ hI
      cases o with
      | next s' =>
        obtain ⟨j, hj, h5⟩ := h2
        obtain ⟨o', h3, h4⟩ := ih j s' (by omega) h5
        simp only [run] at h3
        exact ⟨o', by simp only [run]; rw [zmv, h1]; exact h3, h4⟩
      | ret s' => exact ⟨_, by simp only [run]; rw [zmv, h1], h2⟩
      | exit i s' => exact ⟨_, by simp only [run]; rw [zmv, h1], h2⟩
  exact key (n + 1) n st (by omega) h0
theorem z3b {α : Type} {l : List α} {p : α → Bool} {k : Nat} (hk : k < l.length) (h : (l.take k).any p = true) : (l.take (k + 1)).any p = true := by
  rw [z1e0 hk, List.any_append, h]; rfl
theorem z39 {α : Type} {l : List α} {p : α → Bool} {k : Nat} (hk : k < l.length) (h : p l[k] = true) : (l.take (k + 1)).any p = true := by
  rw [z1e0 hk, List.any_append]; simp [h]
@[go_sem] theorem z19r {mem : List Blk} {sz sz' : Nat} {fl : Bool} {lo hi : Option PV} : z19q mem sz (.nil fl sz') lo hi = if sz' = sz then (bound 0 lo).bind fun l => (bound 0 hi).bind fun h => if l = 0 ∧ h = 0 then some (.nil fl sz) else none else none := rfl
attribute [go_sem] List.getElem?_nil
abbrev bls (l : List Bool) : PV := .sl true 1 (l.map PV.bool)

/-! What can be come to: z10g and transitions are zrn round by round. -/
structure Cl where
  pl : List Bool
  tr : List Bool
  ch : Bool
def hitB (P : List Bool) (l : List Int) : Bool := l.any fun p => P.getD p.toNat false
def markB (P : List Bool) (l : List Int) : List Bool := l.foldl (fun a p => a.set p.toNat true) P
theorem zrg (P : List Bool) (l : List Int) : (markB P l).length = P.length := by
  unfold markB
  induction l generalizing P with
  | nil => rfl
  | cons p l ih => rw [List.foldl_cons, ih]; simp
theorem zrh {P : List Bool} {l : List Int} {k : Nat} (hk : k < l.length) : markB P (l.take (k + 1)) = (markB P (l.take k)).set (l[k].toNat) true := by
  unfold markB; rw [zgn _ _ hk]
def sideI (bk : Bool) (t : Tr) : List Int := if bk then t.out else t.inn
def sideO (bk : Bool) (t : Tr) : List Int := if bk then t.inn else t.out
def trN (n : Net) (k : Nat) : Tr := n.tr.getD k ⟨[], [], []⟩
theorem z1ej {n : Net} {k : Nat} (hk : k < n.tr.length) : trN n k = n.tr[k] := by
  unfold trN; rw [List.getD_eq_getElem?_getD, List.getElem?_eq_getElem hk]; rfl
def z9t (n : Net) (bk : Bool) (s : Cl) (k : Nat) : Cl := if s.tr.getD k false || !hitB s.pl (sideI bk (trN n k)) then s else ⟨markB s.pl (sideO bk (trN n k)), s.tr.set k true, true⟩
def clK (n : Net) (bk : Bool) (s : Cl) (k : Nat) : Cl := (List.range k).foldl (z9t n bk) ⟨s.pl, s.tr, false⟩
def z9n (n : Net) (bk : Bool) (s : Cl) : Cl := clK n bk s n.tr.length
def clRun (n : Net) (bk : Bool) : Nat → Cl → Cl
  | 0, s => s
  | f + 1, s => if (z9n n bk s).ch then clRun n bk f (z9n n bk s) else z9n n bk s
theorem z9m (n : Net) (bk : Bool) (s : Cl) (k : Nat) : clK n bk s (k + 1) = z9t n bk (clK n bk s k) k := by
  simp [clK, List.range_succ, List.foldl_append]
theorem z9w {n : Net} {bk : Bool} {s : Cl} {k : Nat} (h : s.tr.getD k false = true ∨ hitB s.pl (sideI bk (trN n k)) = false) : z9t n bk s k = s := by
  unfold z9t
  rcases h with h | h
  · rw [h]; rfl
  · rw [h]; simp
theorem z9x {n : Net} {bk : Bool} {s : Cl} {k : Nat} (h : s.tr.getD k false = false) (h2 : hitB s.pl (sideI bk (trN n k)) = true) : z9t n bk s k = ⟨markB s.pl (sideO bk (trN n k)), s.tr.set k true, true⟩ := by
  unfold z9t
  rw [h, h2]; rfl
theorem z9v (n : Net) (bk : Bool) (s : Cl) (k : Nat) : (z9t n bk s k).pl.length = s.pl.length ∧ (z9t n bk s k).tr.length = s.tr.length := by
  unfold z9t
  split
  · exact ⟨rfl, rfl⟩
  · exact ⟨zrg .., by simp⟩
theorem z9k (n : Net) (bk : Bool) (s : Cl) (k : Nat) : (clK n bk s k).pl.length = s.pl.length ∧ (clK n bk s k).tr.length = s.tr.length := by
  induction k with
  | zero => exact ⟨rfl, rfl⟩
  | succ k ih =>
    rw [z9m]
    have := z9v n bk (clK n bk s k) k
    omega
theorem z9r (n : Net) (bk : Bool) (f : Nat) : ∀ (s : Cl), (clRun n bk f s).pl.length = s.pl.length ∧ (clRun n bk f s).tr.length = s.tr.length := by
  induction f with
  | zero => intro s; exact ⟨rfl, rfl⟩
  | succ f ih =>
    intro s
    have h := z9k n bk s n.tr.length
    have h2 := ih (z9n n bk s)
    unfold clRun
    unfold z9n at h2 ⊢
    split <;> omega
def cntF (l : List Bool) : Nat := l.countP (!·)
theorem zam {l : List Bool} {k : Nat} (hk : k < l.length) (h : l.getD k false = false) : cntF (l.set k true) < cntF l := by
  induction l generalizing k with
  | nil => simp at hk
  | cons x l ih =>
    cases k with
    | zero => simp at h; subst h; simp [cntF]
    | succ k =>
      have := ih (k := k) (by simpa using hk) (by simpa using h)
      simp only [cntF, List.set_cons_succ, List.countP_cons] at this ⊢
      omega
theorem z9u {n : Net} {bk : Bool} {s : Cl} {k : Nat} (hk : k < s.tr.length) : cntF (z9t n bk s k).tr ≤ cntF s.tr ∧ ((z9t n bk s k).ch = true → s.ch = true ∨ cntF (z9t n bk s k).tr < cntF s.tr) := by
  unfold z9t
  split
  · exact ⟨Nat.le_refl _, fun h => .inl h⟩
  · rename_i h
    have h1 : s.tr.getD k false = false := by
      cases e : s.tr.getD k false
      · rfl
      · rw [e] at h; simp at h
    have := zam hk h1
    exact ⟨by simp only; omega, fun _ => .inr this⟩
theorem z9j {n : Net} {bk : Bool} {s : Cl} {k : Nat} (hk : k ≤ s.tr.length) : cntF (clK n bk s k).tr ≤ cntF s.tr ∧ ((clK n bk s k).ch = true → cntF (clK n bk s k).tr < cntF s.tr) := by
  induction k with
  | zero => exact ⟨Nat.le_refl _, fun h => by simp [clK] at h⟩
  | succ k ih =>
    have h1 := ih (by omega)
    rw [z9m]
    have h2 := z9u (n := n) (bk := bk) (s := clK n bk s k) (k := k) (by rw [(z9k ..).2]; omega)
    refine ⟨by omega, fun h => ?_⟩
    rcases h2.2 h with h3 | h3
    · have := h1.2 h3; omega
    · omega
theorem zak (l : List Bool) : cntF l ≤ l.length := List.countP_le_length
theorem z9p {n : Net} {bk : Bool} : ∀ {f : Nat} {s : Cl}, s.tr.length = n.tr.length → cntF s.tr < f → clRun n bk f s = clRun n bk (f + 1) s
  | 0, _, _, h => by omega
  | f + 1, s, hl, h => by
    show (if (z9n n bk s).ch then clRun n bk f (z9n n bk s) else z9n n bk s) = (if (z9n n bk s).ch then clRun n bk (f + 1) (z9n n bk s) else z9n n bk s)
    cases e : (z9n n bk s).ch with
    | false => rfl
    | true =>
      simp only [if_true]
      have h1 := (z9j (n := n) (bk := bk) (s := s) (k := n.tr.length) (by omega)).2 e
      exact z9p (by rw [z9n, (z9k ..).2, hl]) (by unfold z9n; omega)
theorem z9q {n : Net} {bk : Bool} {s : Cl} (hl : s.tr.length = n.tr.length) : ∀ {d f : Nat}, cntF s.tr < f → clRun n bk f s = clRun n bk (f + d) s
  | 0, _, _ => rfl
  | d + 1, f, h => by rw [z9q (d := d) hl h, z9p hl (by omega)]; rfl
theorem z9s {n : Net} {bk : Bool} {s : Cl} (hl : s.tr.length = n.tr.length) : clRun n bk (cntF s.tr + 1) s = if (z9n n bk s).ch then clRun n bk (cntF (z9n n bk s).tr + 1) (z9n n bk s) else z9n n bk s := by
  show (if (z9n n bk s).ch then clRun n bk (cntF s.tr) (z9n n bk s) else z9n n bk s) = _
  cases e : (z9n n bk s).ch with
  | false => rfl
  | true =>
    simp only [if_true]
    have h1 := (z9j (n := n) (bk := bk) (s := s) (k := n.tr.length) (by omega)).2 e
    have h2 : (z9n n bk s).tr.length = n.tr.length := by rw [z9n, (z9k ..).2, hl]
    have h3 := z9q (n := n) (bk := bk) h2 (d := cntF s.tr - (cntF (z9n n bk s).tr + 1)) (f := cntF (z9n n bk s).tr + 1) (by omega)
    rw [h3]
    congr 1
    unfold z9n; omega
theorem zal (k : Nat) : cntF (List.replicate k false) = k := by
  unfold cntF; rw [List.countP_replicate]; simp
def z12i (n : Net) (bk : Bool) (p : Int) : Cl := clRun n bk (n.tr.length + 1) ⟨(List.replicate n.pl.toNat false).set p.toNat true, List.replicate n.tr.length false, true⟩
theorem z12l (n : Net) (bk : Bool) (p : Int) : (z12i n bk p).pl.length = n.pl.toNat ∧ (z12i n bk p).tr.length = n.tr.length := by
  have := z9r n bk (n.tr.length + 1) ⟨(List.replicate n.pl.toNat false).set p.toNat true, List.replicate n.tr.length false, true⟩
  simpa [z12i] using this
theorem z12j (n : Net) (bk : Bool) (p : Int) : z12i n bk p = clRun n bk (cntF (List.replicate n.tr.length false) + 1) ⟨(List.replicate n.pl.toNat false).set p.toNat true, List.replicate n.tr.length false, true⟩ := by
  rw [zal]; rfl
theorem zi1 {l : List Bool} {k : Nat} (hk : k < l.length) : l[k] = l.getD k false := by
  rw [List.getD_eq_getElem?_getD, List.getElem?_eq_getElem hk]; rfl
def bothK (a b : List Bool) (k : Nat) : List Int := ((List.range k).filter fun i => a.getD i false && b.getD i false).map Int.ofNat
def bothL (a b : List Bool) : List Int := bothK a b a.length
theorem z72 (a b : List Bool) (k : Nat) : (bothK a b k).length ≤ k := by
  have := List.length_filter_le (fun i => a.getD i false && b.getD i false) (List.range k)
  simp only [bothK, List.length_map]; simp at this ⊢; omega
theorem z73 {a b : List Bool} {k : Nat} (h : a.getD k false = true) (h2 : b.getD k false = true) : bothK a b (k + 1) = bothK a b k ++ [(k : Int)] := by
  simp only [bothK, List.range_succ, List.filter_append, List.filter_cons, h, h2, Bool.and_self, if_true, List.filter_nil, List.map_append]; rfl
theorem z71 {a b : List Bool} {k : Nat} (h : (a.getD k false && b.getD k false) = false) : bothK a b (k + 1) = bothK a b k := by
  simp only [bothK, List.range_succ, List.filter_append, List.filter_cons, h, Bool.false_eq_true, if_false, List.filter_nil, List.append_nil]
def wayP (n : Net) (a b : Int) : List Int := bothL (z12i n false a).pl (z12i n true b).pl
def wayT (n : Net) (a b : Int) : List Int := bothL (z12i n false a).tr (z12i n true b).tr
def okWay (n : Net) (a b : Int) : Bool := goodN n && inB 0 (n.pl - 1) a && inB 0 (n.pl - 1) b

/-! Flows. -/
structure Fl where
  net : Net
  src : Int
  dst : Int
abbrev encF (f : Fl) : PV := .agg [I f.net.pl, trs f.net.tr, I f.src, I f.dst]
def z1b5 (f : Fl) (t : Tr) : Bool := hasB t.out f.src || hasB t.inn f.dst || hasB t.rst f.src || hasB t.rst f.dst
def zie (f : Fl) : Bool := okWay f.net f.src f.dst && !decide (f.src = f.dst) && f.net.tr.all (fun t => !z1b5 f t) && decide (((wayP f.net f.src f.dst).length : Int) = f.net.pl) && decide ((wayT f.net f.src f.dst).length = f.net.tr.length)
theorem zii {f : Fl} (h : zie f = true) : goodN f.net = true ∧ (0 ≤ f.src ∧ f.src < f.net.pl) ∧ (0 ≤ f.dst ∧ f.dst < f.net.pl) ∧ f.src ≠ f.dst ∧ (∀ t ∈ f.net.tr, z1b5 f t = false) ∧ ((wayP f.net f.src f.dst).length : Int) = f.net.pl ∧ (wayT f.net f.src f.dst).length = f.net.tr.length := by
  simp only [zie, okWay, inB, Bool.and_eq_true, decide_eq_true_eq, Bool.not_eq_true', decide_eq_false_iff_not, List.all_eq_true] at h
  obtain ⟨⟨⟨⟨⟨⟨h1, h2⟩, h3⟩, h4⟩, h5⟩, h6⟩, h7⟩ := h
  exact ⟨h1, by omega, by omega, h4, h5, h6, h7⟩
/-! Drawn flows: how much grows. -/
def growT : Nat → Nat
  | 0 => 1
  | d + 1 => 2 + 2 * growT d
def growC : Nat → Nat
  | 0 => 0
  | d + 1 => 2 + 2 * growC d
theorem zjb (d : Nat) : d < growT d := by
  induction d with
  | zero => decide
  | succ d ih => have : growT (d + 1) = 2 + 2 * growT d := rfl; omega
theorem zjc {d : Nat} (h : d ≤ 3) : growT d ≤ 22 ∧ growC d ≤ 14 := by
  rcases d with _ | _ | _ | _ | d <;> first | omega | decide
def smq (q : Nat) (tr : List Tr) : Prop := ∀ t ∈ tr, t.inn.length ≤ q ∧ t.out.length ≤ q ∧ t.rst.length ≤ q
theorem z1am {q q' : Nat} {tr : List Tr} (hq : q ≤ q') (h : smq q tr) : smq q' tr := fun t ht => by have := h t ht; omega
theorem z1ap {q : Nat} {tr : List Tr} {t : Tr} (h : smq q tr) (ht : t.inn.length ≤ q ∧ t.out.length ≤ q ∧ t.rst.length ≤ q) : smq q (tr ++ [t]) := by
  intro u hu
  rcases List.mem_append.1 hu with hu | hu
  · exact h u hu
  · simp only [List.mem_singleton] at hu; subst hu; exact ht
theorem z1ao {q : Nat} {tr : List Tr} {t : Tr} {k : Nat} (h : smq q tr) (ht : t.inn.length ≤ q ∧ t.out.length ≤ q ∧ t.rst.length ≤ q) : smq q (tr.set k t) := by
  intro u hu
  rcases List.mem_or_eq_of_mem_set hu with hu | rfl
  · exact h u hu
  · exact ht
theorem z1an {q : Nat} : smq q [] := fun t ht => by simp at ht
def oneM (n : Nat) (p : Int) : List Int := (List.replicate n 0).set p.toNat 1
end Go.Proofs.YtbaclnecajkknaaGreat.Pi
namespace Go.Proofs.YtbaclnecajkknaaGreat.Pi
open Go
set_option linter.all false

def cmpI (a b : Int) : Int := if a < b then -1 else if b < a then 1 else 0
def cmpL : List Int → List Int → Int
  | [], [] => 0
  | [], _ :: _ => -1
  | _ :: _, [] => 1
  | a :: as, b :: bs => if a < b then -1 else if b < a then 1 else cmpL as bs
theorem zad : ∀ {a b : List Int}, cmpL a b = 0 ↔ a = b
  | [], [] => by simp [cmpL]
  | [], _ :: _ => by simp [cmpL]
  | _ :: _, [] => by simp [cmpL]
  | a :: as, b :: bs => by
    unfold cmpL
    split
    · simp; omega
    · split
      · simp; omega
      · rw [zad, List.cons.injEq]
        exact ⟨fun h => ⟨by omega, h⟩, fun h => h.2⟩
theorem zaf : ∀ (a b : List Int), cmpL b a = - cmpL a b
  | [], [] => by simp [cmpL]
  | [], _ :: _ => by simp [cmpL]
  | _ :: _, [] => by simp [cmpL]
  | a :: as, b :: bs => by
    unfold cmpL
    by_cases h1 : a < b
    · have h2 : ¬ b < a := by omega
      simp [h1, h2]
    · by_cases h2 : b < a
      · simp [h1, h2]
      · simp only [h1, h2, if_false]
        exact zaf as bs
theorem zah : ∀ {a b c : List Int}, cmpL a b < 0 → cmpL b c < 0 → cmpL a c < 0
  | [], [], _, h, _ => by simp [cmpL] at h
  | _ :: _, [], _, h, _ => by simp [cmpL] at h
  | [], _ :: _, [], _, h => by simp [cmpL] at h
  | _ :: _, _ :: _, [], _, h => by simp [cmpL] at h
  | [], _ :: _, _ :: _, _, _ => by simp [cmpL]
  | a :: as, b :: bs, c :: cs, h1, h2 => by
    unfold cmpL at h1 h2 ⊢
    split at h1
    · split at h2
      · rw [if_pos (by omega)]; omega
      · split at h2
        · omega
        · rw [if_pos (by omega)]; omega
    · split at h1
      · omega
      · split at h2
        · rw [if_pos (by omega)]; omega
        · split at h2
          · omega
          · rw [if_neg (by omega), if_neg (by omega)]
            exact zah h1 h2
def leL (a b : List Int) : Prop := cmpL a b ≤ 0
theorem zop {a b : List Int} (h : ¬ cmpL a b < 0) : leL b a := by
  unfold leL; rw [zaf]; omega
theorem zoq {a b c : List Int} (h1 : leL a b) (h2 : leL b c) : leL a c := by
  unfold leL at *
  by_cases e1 : cmpL a b = 0
  · rw [zad.1 e1]; exact h2
  · by_cases e2 : cmpL b c = 0
    · rw [← zad.1 e2]; exact h1
    · have := zah (a := a) (b := b) (c := c) (by omega) (by omega); omega

/-! ### Sorting by insertion -/
section
variable {α : Type} [Inhabited α] (le : α → α → Prop)
end

/-! ### Strictly sorted lists -/
def ltL (a b : List Int) : Prop := cmpL a b < 0
theorem zqz {a : List Int} : ¬ ltL a a := by unfold ltL; rw [zad.2 rfl]; omega
theorem z1b0 : ∀ {A B : List (List Int)}, A.Pairwise ltL → B.Pairwise ltL → (∀ x, x ∈ A ↔ x ∈ B) → A = B
  | [], [], _, _, _ => rfl
  | [], b :: B, _, _, h => by have := (h b).2 (by simp); simp at this
  | a :: A, [], _, _, h => by have := (h a).1 (by simp); simp at this
  | a :: A, b :: B, hA, hB, h => by
    rw [List.pairwise_cons] at hA hB
    have hab : a = b := by
      have h1 := (h a).1 (by simp)
      have h2 := (h b).2 (by simp)
      rw [List.mem_cons] at h1 h2
      rcases h1 with h1 | h1
      · exact h1
      · rcases h2 with h2 | h2
        · exact h2.symm
        · exact absurd (zah (hB.1 a h1) (hA.1 b h2)) zqz
    subst hab
    rw [z1b0 hA.2 hB.2 fun x => ?_]
    have hx := h x
    rw [List.mem_cons, List.mem_cons] at hx
    constructor
    · intro hm
      rcases hx.1 (.inr hm) with rfl | h'
      · exact absurd (hA.1 _ hm) zqz
      · exact h'
    · intro hm
      rcases hx.2 (.inr hm) with rfl | h'
      · exact absurd (hB.1 _ hm) zqz
      · exact h'
def compL : List (List Int) → List (List Int)
  | [] => []
  | x :: xs => if xs.head? = some x then compL xs else x :: compL xs
theorem zb5 : ∀ (l : List (List Int)) (x : List Int), x ∈ compL l ↔ x ∈ l
  | [], x => by simp [compL]
  | y :: ys, x => by
    unfold compL
    split
    · rename_i h
      rw [zb5 ys x, List.mem_cons]
      constructor
      · exact .inr
      · rintro (rfl | h')
        · exact List.mem_of_head? h
        · exact h'
    · rw [List.mem_cons, List.mem_cons, zb5 ys x]
theorem zb7 : ∀ (l : List (List Int)), l.Pairwise leL → (compL l).Pairwise ltL
  | [], _ => by simp [compL]
  | y :: ys, h => by
    rw [List.pairwise_cons] at h
    unfold compL
    split
    · exact zb7 ys h.2
    · rename_i hn
      rw [List.pairwise_cons]
      refine ⟨fun x hx => ?_, zb7 ys h.2⟩
      rw [zb5] at hx
      have h1 := h.1 x hx
      unfold leL at h1
      unfold ltL
      by_cases e : cmpL y x = 0
      · have e := zad.1 e
        subst e
        cases ys with
        | nil => simp at hx
        | cons z zs =>
          exfalso
          apply hn
          have h2 := h.1 z (by simp)
          rw [List.mem_cons] at hx
          rcases hx with rfl | hx
          · rfl
          · have h3 := (List.pairwise_cons.1 h.2).1 y hx
            unfold leL at h2 h3
            rw [zaf] at h3
            have : cmpL y z = 0 := by omega
            rw [zad.1 this]; rfl
      · omega
def inOrd : List (List Int) → List Int → List (List Int)
  | [], m => [m]
  | x :: xs, m => if cmpL m x = 0 then x :: xs else if cmpL m x < 0 then m :: x :: xs else x :: inOrd xs m
theorem zlv : ∀ (l : List (List Int)) (m x : List Int), x ∈ inOrd l m ↔ x = m ∨ x ∈ l
  | [], m, x => by simp [inOrd]
  | y :: ys, m, x => by
    unfold inOrd
    split
    · rename_i h
      have := zad.1 h; subst this
      rw [List.mem_cons]
      constructor
      · exact .inr
      · rintro (h | h)
        · exact .inl h
        · exact h
    · split
      · rw [List.mem_cons]
      · rw [List.mem_cons, zlv ys m x, List.mem_cons]
        constructor
        · rintro (h | h | h)
          · exact .inr (.inl h)
          · exact .inl h
          · exact .inr (.inr h)
        · rintro (h | h | h)
          · exact .inr (.inl h)
          · exact .inl h
          · exact .inr (.inr h)
theorem zlw : ∀ {l : List (List Int)} (m : List Int), l.Pairwise ltL → (inOrd l m).Pairwise ltL
  | [], m, _ => by simp [inOrd]
  | y :: ys, m, h => by
    have hh := List.pairwise_cons.1 h
    unfold inOrd
    split
    · exact h
    · rename_i h0
      split
      · rename_i h1
        rw [List.pairwise_cons]
        refine ⟨fun x hx => ?_, h⟩
        rw [List.mem_cons] at hx
        rcases hx with rfl | hx
        · exact h1
        · exact zah h1 (hh.1 x hx)
      · rename_i h1
        rw [List.pairwise_cons]
        refine ⟨fun x hx => ?_, zlw m hh.2⟩
        rw [zlv] at hx
        rcases hx with rfl | hx
        · unfold ltL; rw [zaf]; omega
        · exact hh.1 x hx
theorem zlu : ∀ (l : List (List Int)) (m : List Int), (inOrd l m).length ≤ l.length + 1
  | [], m => by simp [inOrd]
  | y :: ys, m => by
    have := zlu ys m
    unfold inOrd
    split
    · simp
    · split
      · simp
      · simp; omega
theorem zls {l : List (List Int)} {m : List Int} {j : Nat} (h1 : ∀ x ∈ l.take j, 0 < cmpL m x) (h2 : ∀ x, l[j]? = some x → cmpL m x < 0) : inOrd l m = l.take j ++ m :: l.drop j := by
  induction l generalizing j with
  | nil => simp [inOrd]
  | cons y ys ih =>
    cases j with
    | zero =>
      have := h2 y (by simp)
      simp only [List.take_zero, List.nil_append, List.drop_zero, inOrd]
      rw [if_neg (by omega), if_pos this]
    | succ j =>
      have := h1 y (by simp)
      simp only [List.take_succ_cons, List.drop_succ_cons, List.cons_append, inOrd]
      have hi := ih (j := j) (fun x hx => h1 x (by rw [List.take_succ_cons]; exact List.mem_cons_of_mem _ hx)) (fun x hx => h2 x (by simpa using hx))
      rw [if_neg (by omega), if_neg (by omega), hi]
theorem zlt {l : List (List Int)} {m : List Int} (hs : l.Pairwise ltL) (h : m ∈ l) : inOrd l m = l := by
  induction l with
  | nil => simp at h
  | cons y ys ih =>
    rw [List.pairwise_cons] at hs
    unfold inOrd
    by_cases e : cmpL m y = 0
    · rw [if_pos e]
    · rw [if_neg e]
      rw [List.mem_cons] at h
      have hm : m ∈ ys := h.resolve_left fun e' => e (zad.2 e')
      have := hs.1 m hm
      unfold ltL at this
      have h3 := zaf y m
      rw [if_neg (by omega), ih hs.2 hm]
/-! ### Least marks -/
def zor (l : List (List Int)) (m : List Int) : Bool := l.all fun x => !zbg m x || decide (m = x)
def zot (l : List (List Int)) (k : Nat) : List (List Int) := (l.take k).foldl (fun out m => if zor l m then inOrd out m else out) []
def zow (l : List (List Int)) : List (List Int) := zot l l.length
theorem zos (l : List (List Int)) : ∀ (k : List (List Int)) {out : List (List Int)}, out.Pairwise ltL → (k.foldl (fun out m => if zor l m then inOrd out m else out) out).Pairwise ltL ∧
    (∀ x, x ∈ k.foldl (fun out m => if zor l m then inOrd out m else out) out ↔ x ∈ out ∨ (x ∈ k ∧ zor l x = true)) ∧ (k.foldl (fun out m => if zor l m then inOrd out m else out) out).length ≤ out.length + k.length
  | [], out, h => ⟨h, by simp, by simp⟩
  | m :: k, out, h => by
    rw [List.foldl_cons]
    cases hm : zor l m with
    | false =>
      obtain ⟨f1, f2, f3⟩ := zos l k (out := out) h
      simp only [Bool.false_eq_true, if_false]
      refine ⟨f1, fun x => ?_, by simp; omega⟩
      rw [f2, List.mem_cons]
      constructor
      · rintro (h | ⟨h, h'⟩)
        · exact .inl h
        · exact .inr ⟨.inr h, h'⟩
      · rintro (h | ⟨rfl | h, h'⟩)
        · exact .inl h
        · rw [hm] at h'; cases h'
        · exact .inr ⟨h, h'⟩
    | true =>
      obtain ⟨f1, f2, f3⟩ := zos l k (out := inOrd out m) (zlw m h)
      simp only [if_true]
      refine ⟨f1, fun x => ?_, by have := zlu out m; simp; omega⟩
      rw [f2, zlv, List.mem_cons]
      constructor
      · rintro ((rfl | h) | ⟨h, h'⟩)
        · exact .inr ⟨.inl rfl, hm⟩
        · exact .inl h
        · exact .inr ⟨.inr h, h'⟩
      · rintro (h | ⟨rfl | h, h'⟩)
        · exact .inl (.inr h)
        · exact .inl (.inl rfl)
        · exact .inr ⟨h, h'⟩
theorem zov {l : List (List Int)} {k : Nat} (hk : k < l.length) : zot l (k + 1) = if zor l l[k] then inOrd (zot l k) l[k] else zot l k := by
  unfold zot; rw [zgn _ _ hk]
theorem zou (l : List (List Int)) (k : Nat) : (zot l k).Pairwise ltL ∧ (∀ x, x ∈ zot l k ↔ x ∈ l.take k ∧ zor l x = true) ∧ (zot l k).length ≤ k := by
  obtain ⟨f1, f2, f3⟩ := zos l (l.take k) (out := []) .nil
  refine ⟨f1, fun x => by rw [zot, f2]; simp, ?_⟩
  have := List.length_take_le k l
  unfold zot; simp at f3; omega
theorem zoy (l : List (List Int)) : (zow l).Pairwise ltL ∧ (∀ x, x ∈ zow l ↔ x ∈ l ∧ zor l x = true) ∧ (zow l).length ≤ l.length := by
  have := zou l l.length
  rw [List.take_length] at this
  exact this
theorem zox {l R : List (List Int)} (hp : R.Perm l) (hs : R.Pairwise leL) : ((compL R).filter fun m => (compL R).all fun x => !zbg m x || decide (m = x)) = zow l := by
  obtain ⟨f1, f2, _⟩ := zoy l
  have hm : ∀ x, x ∈ compL R ↔ x ∈ l := fun x => (zb5 R x).trans hp.mem_iff
  refine z1b0 ((zb7 R hs).filter _) f1 fun x => ?_
  rw [f2, List.mem_filter, hm]
  refine and_congr_right fun _ => ?_
  simp only [zor, List.all_eq_true]
  exact ⟨fun h y hy => h y ((hm y).2 hy), fun h y hy => h y ((hm y).1 hy)⟩
theorem zab : ∀ {k : Nat} {a b : List Int}, a.take k = b.take k → k ≤ a.length → k ≤ b.length → cmpL a b = cmpL (a.drop k) (b.drop k)
  | 0, a, b, _, _, _ => rfl
  | k + 1, [], b, _, h, _ => by simp at h
  | k + 1, x :: a, [], _, _, h => by simp at h
  | k + 1, x :: a, y :: b, h, h1, h2 => by
    simp only [List.take_succ_cons, List.cons.injEq] at h
    obtain ⟨rfl, h⟩ := h
    rw [List.drop_succ_cons, List.drop_succ_cons, ← zab h (by simpa using h1) (by simpa using h2)]
    show (if x < x then _ else if x < x then _ else cmpL a b) = _
    rw [if_neg (by omega), if_neg (by omega)]
theorem zaa {k : Nat} {a b : List Int} (h : a.take k = b.take k) (h1 : k < a.length) (h2 : k < b.length) (hn : cmpI a[k] b[k] ≠ 0) : cmpL a b = cmpI a[k] b[k] := by
  rw [zab h (by omega) (by omega), List.drop_eq_getElem_cons h1, List.drop_eq_getElem_cons h2]
  unfold cmpI at hn ⊢
  unfold cmpL
  by_cases h3 : a[k] < b[k]
  · simp [h3]
  · by_cases h4 : b[k] < a[k]
    · simp [h3, h4]
    · simp [h3, h4] at hn
theorem za9 {a b : Int} (h : cmpI a b = 0) : a = b := by
  unfold cmpI at h
  split at h
  · cases h
  · split at h
    · cases h
    · omega
theorem zae {k : Nat} {a b : List Int} (h : a.take k = b.take k) (h1 : k < a.length) (h2 : k = b.length) : cmpL a b = 1 := by
  have e : b.drop k = [] := List.drop_eq_nil_of_le (by omega)
  rw [zab h (by omega) (by omega), List.drop_eq_getElem_cons h1, e]; rfl
theorem zac {a b : List Int} (h : a.take a.length = b.take a.length) (h2 : a.length ≤ b.length) : cmpL a b = if a.length < b.length then -1 else 0 := by
  rw [zab h (by omega) h2, List.drop_eq_nil_of_le (Nat.le_refl _)]
  split
  · rename_i h3
    rw [List.drop_eq_getElem_cons h3]; rfl
  · rw [List.drop_eq_nil_of_le (by omega)]; rfl
/-! ### What stands next to its like, element by element -/
theorem zb6 : ∀ (l : List (List Int)) (x : List Int), compL (l ++ [x]) = if l.getLast? = some x then compL l else compL l ++ [x]
  | [], x => by simp [compL]
  | [a], x => by
    by_cases h : a = x
    · subst h; simp [compL]
    · have h2 : ¬ x = a := fun e => h e.symm
      simp [compL, h, h2]
  | a :: b :: l, x => by
    have ih := zb6 (b :: l) x
    have e : (a :: b :: l).getLast? = (b :: l).getLast? := by simp
    rw [e]
    show (if (b :: l ++ [x]).head? = some a then compL (b :: l ++ [x]) else a :: compL (b :: l ++ [x])) = _
    have e2 : compL (a :: b :: l) = if (b :: l).head? = some a then compL (b :: l) else a :: compL (b :: l) := rfl
    rw [ih, e2]
    simp only [List.cons_append, List.head?_cons]
    by_cases h1 : (b :: l).getLast? = some x
    · by_cases h2 : some b = some a
      · simp only [h1, h2, if_true]
      · simp only [h1, h2, if_true, if_false]
    · simp only [h1, if_false]
      by_cases h2 : some b = some a
      · simp only [h2, if_true]
      · simp only [h2, if_false]; rfl
def cK (l : List (List Int)) (k : Nat) : List (List Int) := compL (l.take k)
theorem zo4 {l : List (List Int)} {k : Nat} (h : 0 < k) (hk : k ≤ l.length) : (l.take k).getLast? = some (l[k - 1]'(by omega)) := by
  obtain ⟨j, rfl⟩ : ∃ j, k = j + 1 := ⟨k - 1, by omega⟩
  rw [List.take_succ_eq_append_getElem (show j < l.length by omega), List.getLast?_append]
  rfl
theorem z7v {l : List (List Int)} {k : Nat} (h : 0 < k) (hk : k < l.length) (he : l[k] = l[k - 1]'(by omega)) : cK l (k + 1) = cK l k := by
  unfold cK
  rw [List.take_succ_eq_append_getElem hk, zb6, zo4 h (by omega), if_pos (by rw [he])]
theorem z7s {l : List (List Int)} {k : Nat} (h : 0 < k) (hk : k < l.length) (he : l[k] ≠ l[k - 1]'(by omega)) : cK l (k + 1) = cK l k ++ [l[k]] := by
  unfold cK
  rw [List.take_succ_eq_append_getElem hk, zb6, zo4 h (by omega), if_neg (fun e => he (Option.some.inj e).symm)]
theorem z7u {l : List (List Int)} (h : 0 < l.length) : cK l 1 = l.take 1 := by
  unfold cK
  cases l with
  | nil => simp at h
  | cons a l => simp [compL]
theorem z7r (l : List (List Int)) : cK l l.length = compL l := by unfold cK; rw [List.take_length]
theorem z187 {α : Type} {l : List α} {q : Nat} {x : α} (h : q < l.length) : (l.set q x).take (q + 1) = l.take q ++ [x] := by
  have hq : (l.take q).length = q := by simp; omega
  rw [List.set_eq_take_append_cons_drop, if_pos h, List.take_append, hq, List.take_of_length_le (by omega)]
  simp
end Go.Proofs.YtbaclnecajkknaaGreat.Pi
namespace Go.Proofs.YtbaclnecajkknaaGreat.Pi
open Go
set_option linter.all false

section
variable {α β : Type} [Inhabited α] (e : α → β)
abbrev rwA (d : Array α) : List β := d.toList.map e
theorem z177 (d : Array α) {i : Nat} (h : i < d.size) : (rwA e d)[i]? = some (e d[i]!) := by
  simp [h]
theorem z176 (d : Array α) {i : Nat} (h : i < d.size) : d.toList[i]? = some d[i]! := by
  simp [h]
theorem z17a (d : Array α) (i j : Nat) : (Sort.swp d i j).toList.map e = ((d.toList.map e).set i (e d[j]!)).set j (e d[i]!) := by
  simp [Sort.swp, List.map_set]
end
abbrev ltC {α : Type} (cm : α → α → Int) (x y : α) : Bool := decide (cm x y < 0)
theorem z1di {α : Type} {cm : α → α → Int} {g : α → List Int} (h : ∀ x y, cm x y = cmpL (g x) (g y)) : Sort.SWO (ltC cm) := by
  refine ⟨fun x => ?_, fun x y z => ?_, fun x y z => ?_⟩
  · simp only [ltC, h, decide_eq_false_iff_not]
    rw [zad.2 rfl]; omega
  · simp only [ltC, h, decide_eq_true_eq]
    exact zah
  · simp only [ltC, h, decide_eq_false_iff_not]
    intro h1 h2 h3
    have h4 := zaf (g x) (g y)
    have h5 := zaf (g y) (g z)
    have h6 : leL (g y) (g x) := zop h1
    have h7 : leL (g z) (g y) := zop h2
    have h8 := zoq h7 h6
    unfold leL at h8
    have := zaf (g x) (g z)
    omega
theorem z10d {α : Type} [Inhabited α] {a b : Nat} {d d' : Array α} (h : Sort.PermIn a b d d') : d'.size = d.size := h.1
theorem zmh {α : Type} [Inhabited α] (lt : α → α → Bool) {a b i : Nat} (d : Array α) (h : i < b) : Sort.insOuter lt a b i d = Sort.insOuter lt a b (i + 1) (Sort.insInner lt a i d) := by rw [Sort.insOuter, if_pos h]
theorem zmg {α : Type} [Inhabited α] (lt : α → α → Bool) {a b i : Nat} (d : Array α) (h : ¬ i < b) : Sort.insOuter lt a b i d = d := by rw [Sort.insOuter, if_neg h]
theorem zmc {α : Type} [Inhabited α] (lt : α → α → Bool) {a j : Nat} (d : Array α) (h : a < j) (hl : lt d[j]! d[j - 1]! = true) : Sort.insInner lt a j d = Sort.insInner lt a (j - 1) (Sort.swp d j (j - 1)) := by
  obtain ⟨k, rfl⟩ : ∃ k, j = k + 1 := ⟨j - 1, by omega⟩
  rw [Sort.insInner]
  simp only [Nat.add_sub_cancel] at hl ⊢
  rw [hl]
  simp
  intro h2; omega
theorem zmb {α : Type} [Inhabited α] (lt : α → α → Bool) {a j : Nat} (d : Array α) (h : j ≤ a ∨ lt d[j]! d[j - 1]! = false) : Sort.insInner lt a j d = d := by
  cases j with
  | zero => rfl
  | succ k =>
    rw [Sort.insInner]
    simp only [Nat.add_sub_cancel] at h
    rcases h with h | h
    · rw [if_neg]; simp; omega
    · rw [h]; simp
theorem z179 {α β : Type} [Inhabited α] (e : α → β) (d : Array α) {i j : Nat} (y : α) (hi : i < d.size) (hj : j < d.size) : ((d.toList.map e).set i (e y))[j]? = some (e (if i = j then y else d[j]!)) := by
  rw [List.getElem?_set]
  by_cases h : i = j
  · rw [if_pos h, if_pos h]; simp [hi]
  · rw [if_neg h, if_neg h]
    exact z177 e d hj
theorem z193 {α : Type} [Inhabited α] (lt : α → α → Bool) {hi f r : Nat} (d : Array α) (h : hi ≤ 2 * r + 1) : Sort.siftDown lt hi f r d = d := by
  rw [Sort.siftDown, dif_pos h]
theorem z196 {α : Type} [Inhabited α] (lt : α → α → Bool) {hi f r c : Nat} (d : Array α) (h : 2 * r + 1 < hi) (hc : (c = 2 * r + 2 ∧ 2 * r + 2 < hi ∧ lt d[f + (2 * r + 1)]! d[f + (2 * r + 2)]! = true) ∨ (c = 2 * r + 1 ∧ ¬ (2 * r + 2 < hi ∧ lt d[f + (2 * r + 1)]! d[f + (2 * r + 2)]! = true))) (hs : lt d[f + r]! d[f + c]! = false) : Sort.siftDown lt hi f r d = d := by
  rw [Sort.siftDown, dif_neg (by omega)]
  rcases hc with ⟨rfl, h1, h2⟩ | ⟨rfl, h1⟩
  · rw [if_pos (by simp only [Bool.and_eq_true, decide_eq_true_eq]; exact ⟨h1, h2⟩), if_pos (by simp [hs])]
  · rw [if_neg (by simp only [Bool.and_eq_true, decide_eq_true_eq]; exact h1), if_pos (by simp [hs])]
theorem z194 {α : Type} [Inhabited α] (lt : α → α → Bool) {hi f r c : Nat} (d : Array α) (h : 2 * r + 1 < hi) (hc : (c = 2 * r + 2 ∧ 2 * r + 2 < hi ∧ lt d[f + (2 * r + 1)]! d[f + (2 * r + 2)]! = true) ∨ (c = 2 * r + 1 ∧ ¬ (2 * r + 2 < hi ∧ lt d[f + (2 * r + 1)]! d[f + (2 * r + 2)]! = true))) (hs : lt d[f + r]! d[f + c]! = true) : Sort.siftDown lt hi f r d = Sort.siftDown lt hi f c (Sort.swp d (f + r) (f + c)) := by
  rw [Sort.siftDown, dif_neg (by omega)]
  rcases hc with ⟨rfl, h1, h2⟩ | ⟨rfl, h1⟩
  · rw [if_pos (by simp only [Bool.and_eq_true, decide_eq_true_eq]; exact ⟨h1, h2⟩), if_neg (by simp [hs]), dif_pos h1]
  · rw [if_neg (by simp only [Bool.and_eq_true, decide_eq_true_eq]; exact h1), if_neg (by simp [hs])]
theorem z195 {α : Type} [Inhabited α] (lt : α → α → Bool) (hi f : Nat) : ∀ (n r : Nat) (d : Array α), hi - r ≤ n → (Sort.siftDown lt hi f r d).size = d.size
  | 0, r, d, hn => by rw [z193 lt d (by omega)]
  | n + 1, r, d, hn => by
    by_cases h : hi ≤ 2 * r + 1
    · rw [z193 lt d h]
    · obtain ⟨c, hc⟩ : ∃ c, (c = 2 * r + 2 ∧ 2 * r + 2 < hi ∧ lt d[f + (2 * r + 1)]! d[f + (2 * r + 2)]! = true) ∨ (c = 2 * r + 1 ∧ ¬ (2 * r + 2 < hi ∧ lt d[f + (2 * r + 1)]! d[f + (2 * r + 2)]! = true)) := by
        by_cases hh : 2 * r + 2 < hi ∧ lt d[f + (2 * r + 1)]! d[f + (2 * r + 2)]! = true
        · exact ⟨_, .inl ⟨rfl, hh⟩⟩
        · exact ⟨_, .inr ⟨rfl, hh⟩⟩
      cases hs : lt d[f + r]! d[f + c]! with
      | false => rw [z196 lt d (by omega) hc hs]
      | true =>
        rw [z194 lt d (by omega) hc hs, z195 lt hi f n c _ (by rcases hc with ⟨rfl, _⟩ | ⟨rfl, _⟩ <;> omega), Sort.size_swp]
@[go_sem] theorem z6o {bl : Bool} {k : IntKind} {x y : Int} : binV bl .xor (.int k x) (.int k y) = some (.int k (bits .xor k x y)) := by simp [binV, binI]
theorem z1gl {x y : Int} (hx : 0 ≤ x ∧ x < 18446744073709551616) (hy : 0 ≤ y ∧ y < 18446744073709551616) : 0 ≤ bits .xor .u64 x y ∧ bits .xor .u64 x y < 18446744073709551616 := by
  have h := bits_xor_u64_nat x.toNat y.toNat (by omega) (by omega)
  rw [show ((x.toNat : Nat) : Int) = x by omega, show ((y.toNat : Nat) : Int) = y by omega] at h
  have h2 : x.toNat ^^^ y.toNat < 2 ^ 64 := Nat.xor_lt_two_pow (by omega) (by omega)
  have h3 : bits .xor .u64 x y = ((x.toNat ^^^ y.toNat : Nat) : Int) := h
  omega
theorem z37 {x y : Int} (hx : 0 ≤ x ∧ x < 18446744073709551616) (hy : 0 ≤ y ∧ y < 18446744073709551616) : 0 ≤ bits .and .u64 x y ∧ bits .and .u64 x y ≤ y := by
  have h := bits_and_u64_nat x.toNat y.toNat (by omega) (by omega)
  rw [show ((x.toNat : Nat) : Int) = x by omega, show ((y.toNat : Nat) : Int) = y by omega] at h
  have h2 : x.toNat &&& y.toNat ≤ y.toNat := Nat.and_le_right
  have h3 : bits .and .u64 x y = ((x.toNat &&& y.toNat : Nat) : Int) := h
  omega
theorem z18w {x : Int} (k : Nat) (hx : 0 ≤ x ∧ x < 18446744073709551616) : 0 ≤ x / 2 ^ k ∧ x / 2 ^ k < 18446744073709551616 := by
  have h1 : (0 : Int) < 2 ^ k := Int.pow_pos (by decide)
  exact ⟨Int.ediv_nonneg hx.1 (by omega), Int.lt_of_le_of_lt (Int.ediv_le_self _ hx.1) hx.2⟩
theorem z6r {n : Nat} (h : 256 ≤ n) : Sort.bitsLen n = 8 + Sort.bitsLen (n / 256) := by
  have h1 := Sort.bitsLen_le_iff n (8 + Sort.bitsLen (n / 256))
  have h2 := Sort.lt_two_pow_bitsLen (n / 256)
  have h3 : n < 2 ^ (8 + Sort.bitsLen (n / 256)) := by
    rw [Nat.pow_add]
    have : n < 256 * 2 ^ Sort.bitsLen (n / 256) := by
      have := Nat.div_add_mod n 256
      have := Nat.mod_lt n (show 256 > 0 by decide)
      have : 256 * (n / 256 + 1) ≤ 256 * 2 ^ Sort.bitsLen (n / 256) := Nat.mul_le_mul_left _ h2
      omega
    exact this
  have h4 := h1.2 h3
  have h5 : 1 ≤ n / 256 := by omega
  have h6 := Sort.two_pow_bitsLen_le (n := n / 256) h5
  have h7 : 8 + Sort.bitsLen (n / 256) ≤ Sort.bitsLen n := by
    have h8 := Sort.lt_two_pow_bitsLen n
    apply Decidable.byContradiction
    intro hn
    have h9 : Sort.bitsLen n + 1 ≤ 8 + Sort.bitsLen (n / 256) := by omega
    have h10 : 2 ^ (Sort.bitsLen n + 1) ≤ 2 ^ (8 + Sort.bitsLen (n / 256)) := Nat.pow_le_pow_right (by decide) h9
    rw [Nat.pow_add, Nat.pow_add] at h10
    have h11 : 256 * 2 ^ Sort.bitsLen (n / 256) ≤ 256 * (2 * (n / 256)) := Nat.mul_le_mul_left _ h6
    have := Nat.div_mul_le_self n 256
    have h12 : (2 : Nat) ^ 8 = 256 := rfl
    rw [h12] at h10
    omega
  omega
section
variable {α : Type} [Inhabited α] (lt : α → α → Bool)
theorem z17m (d : Array α) {b i : Nat} (h : i < b) (hl : lt d[i]! d[i - 1]! = false) : Sort.scanSorted lt d b i = Sort.scanSorted lt d b (i + 1) := by
  rw [Sort.scanSorted, if_pos (by simp [h, hl])]
theorem z17l (d : Array α) {b i : Nat} (h : b ≤ i ∨ lt d[i]! d[i - 1]! = true) : Sort.scanSorted lt d b i = i := by
  rw [Sort.scanSorted]
  rcases h with h | h
  · rw [if_neg (by simp; omega)]
  · rw [if_neg (by simp [h])]
theorem z18j (d : Array α) {j : Nat} (h : 0 < j) (hl : lt d[j]! d[j - 1]! = true) : Sort.shiftDown lt j d = Sort.shiftDown lt (j - 1) (Sort.swp d j (j - 1)) := by
  obtain ⟨k, rfl⟩ : ∃ k, j = k + 1 := ⟨j - 1, by omega⟩
  simp only [Nat.add_sub_cancel] at hl ⊢
  rw [Sort.shiftDown, hl]; simp
theorem z18i (d : Array α) {j : Nat} (h : j = 0 ∨ lt d[j]! d[j - 1]! = false) : Sort.shiftDown lt j d = d := by
  cases j with
  | zero => rfl
  | succ k =>
    rcases h with h | h
    · omega
    · simp only [Nat.add_sub_cancel] at h
      rw [Sort.shiftDown, h]; simp
theorem z190 (d : Array α) {b j : Nat} (h : j < b) (hl : lt d[j]! d[j - 1]! = true) : Sort.shiftUp lt b j d = Sort.shiftUp lt b (j + 1) (Sort.swp d j (j - 1)) := by
  rw [Sort.shiftUp, if_pos h, hl]; simp
theorem z18z (d : Array α) {b j : Nat} (h : b ≤ j ∨ lt d[j]! d[j - 1]! = false) : Sort.shiftUp lt b j d = d := by
  rw [Sort.shiftUp]
  rcases h with h | h
  · rw [if_neg (by omega)]
  · split
    · rw [h]; simp
    · rfl
end
section
variable {α : Type} [Inhabited α]
theorem up_go (p : α → Bool) (d : Array α) {i j : Nat} (h : i ≤ j) (hp : p d[i]! = true) : Sort.scanUp p d j i = Sort.scanUp p d j (i + 1) := by
  rw [Sort.scanUp, if_pos (by simp only [Bool.and_eq_true, decide_eq_true_eq]; exact ⟨h, hp⟩)]
theorem z1fd (p : α → Bool) (d : Array α) {i j : Nat} (h : j < i ∨ p d[i]! = false) : Sort.scanUp p d j i = i := by
  rw [Sort.scanUp, if_neg]
  simp only [Bool.and_eq_true, decide_eq_true_eq]
  rintro ⟨h1, h2⟩
  rcases h with h | h
  · omega
  · rw [h] at h2; cases h2
theorem zce (p : α → Bool) (d : Array α) {i j : Nat} (h : i ≤ j) (h0 : 0 < j) (hp : p d[j]! = true) : Sort.scanDown p d i j = Sort.scanDown p d i (j - 1) := by
  obtain ⟨k, rfl⟩ : ∃ k, j = k + 1 := ⟨j - 1, by omega⟩
  rw [Sort.scanDown, if_pos (by simp only [Bool.and_eq_true, decide_eq_true_eq]; exact ⟨h, hp⟩)]; rfl
theorem zcd (p : α → Bool) (d : Array α) {i j : Nat} (h : j < i ∨ p d[j]! = false) : Sort.scanDown p d i j = j := by
  cases j with
  | zero => rfl
  | succ k =>
    rw [Sort.scanDown, if_neg]
    simp only [Bool.and_eq_true, decide_eq_true_eq]
    rintro ⟨h1, h2⟩
    rcases h with h | h
    · omega
    · rw [h] at h2; cases h2
end
theorem z10e {α : Type} [Inhabited α] {d E : Array α} (h : Sort.PermIn 0 d.size d E) : E.toList.Perm d.toList := by
  have h1 := h.2.2
  have h2 := h.1
  simpa [h2, Array.extract_eq_self_of_le] using h1
theorem zzv {α : Type} [Inhabited α] {lt : α → α → Bool} {E : Array α} (h : Sort.SortedIn lt 0 E.size E) : E.toList.Pairwise fun x y => lt y x = false := by
  rw [List.pairwise_iff_getElem]
  intro i j hi hj hij
  have := h i j (by omega) hij (by simpa using hj)
  simp only [Array.length_toList] at hi hj
  rw [getElem!_pos E i hi, getElem!_pos E j hj] at this
  simpa using this
end Go.Proofs.YtbaclnecajkknaaGreat.Pi
namespace Go.Proofs.YtbaclnecajkknaaGreat.Pi
open Go
set_option linter.all false

theorem zbj (x y : Int) (a b : List Int) : zbg (x :: a) (y :: b) = (decide (y ≤ x) && zbg a b) := by simp [zbg]
theorem zbk : ∀ a : List Int, zbg a a = true
  | [] => rfl
  | x :: a => by rw [zbj, zbk a]; simp
theorem zbm : ∀ {a b c : List Int}, a.length = b.length → b.length = c.length → zbg a b = true → zbg b c = true → zbg a c = true
  | [], [], [], _, _, _, _ => rfl
  | [], [], _ :: _, _, h, _, _ => by simp at h
  | [], _ :: _, _, h, _, _, _ => by simp at h
  | _ :: _, [], _, h, _, _, _ => by simp at h
  | _ :: _, _ :: _, [], _, h, _, _ => by simp at h
  | x :: a, y :: b, z :: c, h1, h2, h3, h4 => by
    rw [zbj, Bool.and_eq_true, decide_eq_true_eq] at h3 h4 ⊢
    exact ⟨by omega, zbm (by simpa using h1) (by simpa using h2) h3.2 h4.2⟩
theorem zbl : ∀ {a b : List Int}, a.length = b.length → zbg a b = true → sumI b ≤ sumI a ∧ (a ≠ b → sumI b < sumI a)
  | [], [], _, _ => ⟨Int.le_refl _, fun h => absurd rfl h⟩
  | [], _ :: _, h, _ => by simp at h
  | _ :: _, [], h, _ => by simp at h
  | x :: a, y :: b, h, hc => by
    rw [zbj, Bool.and_eq_true, decide_eq_true_eq] at hc
    obtain ⟨h1, h2⟩ := zbl (a := a) (b := b) (by simpa using h) hc.2
    rw [z1d8, z1d8]
    refine ⟨by omega, fun hn => ?_⟩
    by_cases e : x = y
    · subst e
      have := h2 (fun e => hn (by rw [e]))
      omega
    · omega
theorem z1da {l : List Int} (h : ∀ x ∈ l, 0 ≤ x) : 0 ≤ sumI l := by
  induction l with
  | nil => simp [sumI]
  | cons x l ih =>
    rw [z1d8]
    have := ih fun y hy => h y (by simp [hy])
    have := h x (by simp)
    omega
theorem zp4 {l : List (List Int)} {n : Nat} (hl : ∀ x ∈ l, x.length = n) (h0 : ∀ x ∈ l, ∀ y ∈ x, (0 : Int) ≤ y) : ∀ (k : Nat) (x : List Int), x ∈ l → sumI x ≤ k → ∃ y ∈ zow l, zbg x y = true
  | k, x, hx, hk => by
    cases hb : zor l x with
    | true => exact ⟨x, ((zoy l).2.1 x).2 ⟨hx, hb⟩, zbk x⟩
    | false =>
      unfold zor at hb
      rw [List.all_eq_false] at hb
      obtain ⟨y, hy, hy2⟩ := hb
      simp only [Bool.or_eq_true, Bool.not_eq_true', decide_eq_true_eq, not_or, Bool.not_eq_false] at hy2
      have hs := (zbl (a := x) (b := y) (by rw [hl x hx, hl y hy]) hy2.1).2 hy2.2
      have hy0 := z1da (h0 y hy)
      obtain ⟨j, rfl⟩ : ∃ j, k = j + 1 := ⟨k - 1, by omega⟩
      obtain ⟨z, hz, hz2⟩ := zp4 hl h0 j y hy (by omega)
      have hzl : z ∈ l := (((zoy l).2.1 z).1 hz).1
      exact ⟨z, hz, zbm (by rw [hl x hx, hl y hy]) (by rw [hl y hy, hl z hzl]) hy2.1 hz2⟩
theorem zp1 {l : List (List Int)} {n : Nat} (hl : ∀ x ∈ l, x.length = n) (h0 : ∀ x ∈ l, ∀ y ∈ x, (0 : Int) ≤ y) {m : List Int} (hm : m ∈ l) : (zow l).any (fun x => zbg m x) = true := by
  obtain ⟨y, hy, h⟩ := zp4 hl h0 (sumI m).toNat m hm (by omega)
  exact List.any_eq_true.2 ⟨y, hy, h⟩
end Go.Proofs.YtbaclnecajkknaaGreat.Pi
namespace Go.Proofs.YtbaclnecajkknaaGreat.Pi
open Go
set_option linter.all false

structure Arc3 where
  src : Int
  by_ : Int
  dst : Int
structure Sp where
  ms : List (List Int)
  ar : List Arc3
structure Ex where
  sp : Sp
  code : Int
def findM (l : List (List Int)) (m : List Int) : Int := idxI l (fun x => decide (x = m))
def zdw (n : Net) (b : Int) (k : Nat) (s : Ex) (t : Int) : Ex :=
  if s.code ≠ 0 then s else
  let m := zg1 (trAt n t) (s.sp.ms.getD k [])
  if m.all (inB 0 50) = false then ⟨s.sp, 3⟩
  else if 0 ≤ findM s.sp.ms m then ⟨⟨s.sp.ms, s.sp.ar ++ [⟨k, t, findM s.sp.ms m⟩]⟩, 0⟩
  else if b ≤ s.sp.ms.length then ⟨s.sp, 2⟩
  else ⟨⟨s.sp.ms ++ [m], s.sp.ar ++ [⟨k, t, s.sp.ms.length⟩]⟩, 0⟩
def exL (n : Net) (b : Int) (k : Nat) (s : Ex) (l : List Int) : Ex := l.foldl (zdw n b k) s
def exRun (n : Net) (b : Int) : Nat → Nat → Ex → Ex
  | 0, _, s => s
  | f + 1, k, s => if s.code ≠ 0 then s else if k < s.sp.ms.length then exRun n b f (k + 1) (exL n b k s (enabL n (s.sp.ms.getD k []))) else s
def exAll (n : Net) (start : List Int) (b : Int) : Ex := exRun n b (b.toNat + 2) 0 ⟨⟨[start], []⟩, 0⟩
theorem ze7 {n : Net} {b : Int} {k : Nat} {s : Ex} {t : Int} (h : s.code ≠ 0) : zdw n b k s t = s := by
  unfold zdw; rw [if_pos h]
theorem zdn {n : Net} {b : Int} {k : Nat} {l : List Int} {s : Ex} (h : s.code ≠ 0) : exL n b k s l = s := by
  unfold exL
  induction l with
  | nil => rfl
  | cons t l ih => rw [List.foldl_cons, ze7 h]; exact ih
theorem zdu {n : Net} {b : Int} {f k : Nat} {s : Ex} (h : s.code ≠ 0) : exRun n b f k s = s := by
  cases f with
  | zero => rfl
  | succ f => show (if s.code ≠ 0 then s else _) = s; rw [if_pos h]
theorem zdl {n : Net} {b : Int} {k : Nat} {s : Ex} {l : List Int} {j : Nat} (hj : j < l.length) : exL n b k s (l.drop j) = exL n b k (zdw n b k s l[j]) (l.drop (j + 1)) := by
  rw [List.drop_eq_getElem_cons hj]; rfl
theorem ze9 {n : Net} {b : Int} {k : Nat} {s : Ex} {t : Int} (h0 : s.code = 0) (h : (zg1 (trAt n t) (s.sp.ms.getD k [])).all (inB 0 50) = false) : zdw n b k s t = ⟨s.sp, 3⟩ := by
  unfold zdw; rw [if_neg (by omega)]; simp only [h, if_true]
theorem ze5 {n : Net} {b : Int} {k : Nat} {s : Ex} {t : Int} (h0 : s.code = 0) (h : (zg1 (trAt n t) (s.sp.ms.getD k [])).all (inB 0 50) = true) (h2 : 0 ≤ findM s.sp.ms (zg1 (trAt n t) (s.sp.ms.getD k []))) : zdw n b k s t = ⟨⟨s.sp.ms, s.sp.ar ++ [⟨k, t, findM s.sp.ms (zg1 (trAt n t) (s.sp.ms.getD k []))⟩]⟩, 0⟩ := by
  unfold zdw; rw [if_neg (by omega)]; simp only [h]; rw [if_neg (by simp), if_pos h2]
theorem ze1 {n : Net} {b : Int} {k : Nat} {s : Ex} {t : Int} (h0 : s.code = 0) (h : (zg1 (trAt n t) (s.sp.ms.getD k [])).all (inB 0 50) = true) (h2 : ¬ 0 ≤ findM s.sp.ms (zg1 (trAt n t) (s.sp.ms.getD k []))) (h3 : b ≤ s.sp.ms.length) : zdw n b k s t = ⟨s.sp, 2⟩ := by
  unfold zdw; rw [if_neg (by omega)]; simp only [h]; rw [if_neg (by simp), if_neg h2, if_pos h3]
theorem ze3 {n : Net} {b : Int} {k : Nat} {s : Ex} {t : Int} (h0 : s.code = 0) (h : (zg1 (trAt n t) (s.sp.ms.getD k [])).all (inB 0 50) = true) (h2 : ¬ 0 ≤ findM s.sp.ms (zg1 (trAt n t) (s.sp.ms.getD k []))) (h3 : ¬ b ≤ s.sp.ms.length) : zdw n b k s t = ⟨⟨s.sp.ms ++ [zg1 (trAt n t) (s.sp.ms.getD k [])], s.sp.ar ++ [⟨k, t, s.sp.ms.length⟩]⟩, 0⟩ := by
  unfold zdw; rw [if_neg (by omega)]; simp only [h]; rw [if_neg (by simp), if_neg h2, if_neg h3]
theorem zfr {l : List (List Int)} {m : List Int} : 0 ≤ findM l m ↔ m ∈ l := by
  have := zjx l (fun x => decide (x = m))
  unfold findM
  constructor
  · intro h
    rw [decide_eq_true h] at this
    rw [List.any_eq_true] at this
    obtain ⟨x, hx, hy⟩ := this
    have : x = m := by simpa using hy
    exact this ▸ hx
  · intro h
    have h2 : (l.any fun x => decide (x = m)) = true := by rw [List.any_eq_true]; exact ⟨m, h, by simp⟩
    rw [h2] at this
    exact of_decide_eq_true this.symm
theorem zfq {l : List (List Int)} {m : List Int} (h : 0 ≤ findM l m) : (findM l m).toNat < l.length ∧ l[(findM l m).toNat]? = some m := by
  unfold findM idxI at h ⊢
  cases e : l.findIdx? (fun x => decide (x = m)) with
  | none => rw [e] at h; simp at h
  | some k =>
    rw [List.findIdx?_eq_some_iff_getElem] at e
    obtain ⟨h1, h2, _⟩ := e
    refine ⟨by simpa using h1, ?_⟩
    have : l[k] = m := by simpa using h2
    simp [List.getElem?_eq_getElem h1, this]
structure ExOk (n : Net) (start : List Int) (b : Int) (s : Ex) : Prop where
  first : s.sp.ms[0]? = some start
  good : ∀ m ∈ s.sp.ms, zrn n m = true
  lenb : s.sp.ms.length ≤ b.toNat
  nodup : s.sp.ms.Nodup
  arcs : ∀ a ∈ s.sp.ar, 0 ≤ a.src ∧ a.src.toNat < s.sp.ms.length ∧ 0 ≤ a.dst ∧ a.dst.toNat < s.sp.ms.length ∧ zvg n (s.sp.ms.getD a.src.toNat []) a.by_ = true ∧ s.sp.ms.getD a.dst.toNat [] = zg1 (trAt n a.by_) (s.sp.ms.getD a.src.toNat [])
  back : ∀ j : Nat, 0 < j → j < s.sp.ms.length → ∃ i, ∃ h : i < s.sp.ar.length, s.sp.ar[i].dst = j ∧ s.sp.ar[i].src < j ∧ ∀ i', (h' : i' < i) → (s.sp.ar[i']'(by omega)).dst ≠ j
theorem ExOk.sp {n : Net} {start : List Int} {b : Int} {s : Ex} (h : ExOk n start b s) (c : Int) : ExOk n start b ⟨s.sp, c⟩ := ⟨h.first, h.good, h.lenb, h.nodup, h.arcs, h.back⟩
theorem zi4 {l : List (List Int)} {k : Nat} (hk : k < l.length) : l.getD k [] ∈ l := by
  rw [List.getD_eq_getElem?_getD, List.getElem?_eq_getElem hk]; exact List.getElem_mem hk
theorem zi5 {l : List (List Int)} {k : Nat} (hk : k < l.length) : l[k] = l.getD k [] := by
  rw [List.getD_eq_getElem?_getD, List.getElem?_eq_getElem hk]; rfl
theorem zi0 {l : List (List Int)} {m : List Int} {k : Nat} (hk : k < l.length) : (l ++ [m]).getD k [] = l.getD k [] := by
  rw [List.getD_eq_getElem?_getD, List.getD_eq_getElem?_getD, List.getElem?_append_left hk]
theorem zi3 {l : List (List Int)} {m : List Int} : (l ++ [m]).getD l.length [] = m := by
  rw [List.getD_eq_getElem?_getD, List.getElem?_append_right (Nat.le_refl _)]; simp
theorem zcw {n : Net} {m : List Int} {t : Int} (hm : zrn n m = true) (ht : t ∈ enabL n m) (ha : (zg1 (trAt n t) m).all (inB 0 50) = true) : zvg n m t = true := by
  obtain ⟨h1, h2, h3⟩ := zcu.1 ht
  have h4 : inB 0 (n.tr.length - 1) t = true := by simp [inB]; omega
  simp only [zvg, canN, hm, h3, h4, ha, Bool.and_self]
theorem ze4 {n : Net} {start : List Int} {b : Int} {k : Nat} {s : Ex} {t : Int} (h : ExOk n start b s) (hk : k < s.sp.ms.length) (ht : t ∈ enabL n (s.sp.ms.getD k [])) : ExOk n start b (zdw n b k s t) := by
  by_cases h0 : s.code = 0
  case neg => rw [ze7 h0]; exact h
  cases ha : (zg1 (trAt n t) (s.sp.ms.getD k [])).all (inB 0 50) with
  | false => rw [ze9 h0 ha]; exact h.sp 3
  | true =>
    have hf := zcw (h.good _ (zi4 hk)) ht ha
    by_cases h2 : 0 ≤ findM s.sp.ms (zg1 (trAt n t) (s.sp.ms.getD k []))
    · rw [ze5 h0 ha h2]
      obtain ⟨g1, g2⟩ := zfq h2
      refine ⟨h.first, h.good, h.lenb, h.nodup, fun a hm => ?_, fun j hj hl => ?_⟩
      · rcases List.mem_append.1 hm with hm | hm
        · exact h.arcs a hm
        · simp only [List.mem_singleton] at hm
          subst hm
          refine ⟨by simp, by simpa using hk, h2, g1, by simpa using hf, ?_⟩
          simp only [Int.toNat_natCast]
          rw [List.getD_eq_getElem?_getD, g2]; rfl
      · obtain ⟨i, hi, e1, e2, e3⟩ := h.back j hj hl
        refine ⟨i, by simp; omega, by simp only; rw [List.getElem_append_left hi]; exact e1, by simp only; rw [List.getElem_append_left hi]; exact e2, fun i' h' => ?_⟩
        simp only
        rw [List.getElem_append_left (by omega)]; exact e3 i' h'
    · by_cases h3 : b ≤ s.sp.ms.length
      · rw [ze1 h0 ha h2 h3]; exact h.sp 2
      · rw [ze3 h0 ha h2 h3]
        have hnm : zg1 (trAt n t) (s.sp.ms.getD k []) ∉ s.sp.ms := fun hm => h2 (zfr.2 hm)
        generalize hM : zg1 (trAt n t) (s.sp.ms.getD k []) = M at *
        refine ⟨?_, fun m hm => ?_, by simp; omega, ?_, fun a hm => ?_, fun j hj hl => ?_⟩
        · simp only
          rw [List.getElem?_append_left (by omega)]; exact h.first
        · rcases List.mem_append.1 hm with hm | hm
          · exact h.good m hm
          · simp only [List.mem_singleton] at hm
            subst hm; rw [← hM]; exact zvj hf
        · simp only
          rw [List.nodup_append]
          refine ⟨h.nodup, by simp, fun x hx y hy => ?_⟩
          simp only [List.mem_singleton] at hy
          subst hy
          intro e; subst e; exact hnm hx
        · rcases List.mem_append.1 hm with hm | hm
          · obtain ⟨a1, a2, a3, a4, a5, a6⟩ := h.arcs a hm
            refine ⟨a1, by simp; omega, a3, by simp; omega, ?_, ?_⟩
            · simp only; rw [zi0 a2]; exact a5
            · simp only; rw [zi0 a2, zi0 a4]; exact a6
          · simp only [List.mem_singleton] at hm
            subst hm
            refine ⟨by simp, by simp; omega, by simp, by simp, ?_, ?_⟩
            · simp only [Int.toNat_natCast]; rw [zi0 hk]; exact hf
            · simp only [Int.toNat_natCast]; rw [zi0 hk, zi3]; exact hM.symm
        · simp only [List.length_append, List.length_cons, List.length_nil] at hl
          by_cases hj2 : j < s.sp.ms.length
          · obtain ⟨i, hi, e1, e2, e3⟩ := h.back j hj hj2
            refine ⟨i, by simp; omega, by simp only; rw [List.getElem_append_left hi]; exact e1, by simp only; rw [List.getElem_append_left hi]; exact e2, fun i' h' => ?_⟩
            simp only
            rw [List.getElem_append_left (by omega)]; exact e3 i' h'
          · have : j = s.sp.ms.length := by omega
            subst this
            refine ⟨s.sp.ar.length, by simp, by simp, by simp; omega, fun i' h' => ?_⟩
            simp only
            rw [List.getElem_append_left h']
            have := h.arcs _ (List.getElem_mem h')
            omega
theorem ze6 {n : Net} {b : Int} {k : Nat} {s : Ex} {t : Int} : ∃ l, (zdw n b k s t).sp.ms = s.sp.ms ++ l := by
  by_cases h0 : s.code = 0
  case neg => rw [ze7 h0]; exact ⟨[], by simp⟩
  cases ha : (zg1 (trAt n t) (s.sp.ms.getD k [])).all (inB 0 50) with
  | false => rw [ze9 h0 ha]; exact ⟨[], by simp⟩
  | true =>
    by_cases h2 : 0 ≤ findM s.sp.ms (zg1 (trAt n t) (s.sp.ms.getD k []))
    · rw [ze5 h0 ha h2]; exact ⟨[], by simp⟩
    · by_cases h3 : b ≤ s.sp.ms.length
      · rw [ze1 h0 ha h2 h3]; exact ⟨[], by simp⟩
      · rw [ze3 h0 ha h2 h3]; exact ⟨_, rfl⟩
theorem ze2 {n : Net} {b : Int} {k : Nat} {s : Ex} {t : Int} (h0 : s.code = 0) (h : (zdw n b k s t).code = 0) : (zg1 (trAt n t) (s.sp.ms.getD k [])).all (inB 0 50) = true ∧ zg1 (trAt n t) (s.sp.ms.getD k []) ∈ (zdw n b k s t).sp.ms := by
  cases ha : (zg1 (trAt n t) (s.sp.ms.getD k [])).all (inB 0 50) with
  | false => rw [ze9 h0 ha] at h; simp at h
  | true =>
    refine ⟨rfl, ?_⟩
    by_cases h2 : 0 ≤ findM s.sp.ms (zg1 (trAt n t) (s.sp.ms.getD k []))
    · rw [ze5 h0 ha h2]; exact zfr.1 h2
    · by_cases h3 : b ≤ s.sp.ms.length
      · rw [ze1 h0 ha h2 h3] at h; simp at h
      · rw [ze3 h0 ha h2 h3]; simp
theorem zi8 {l l' : List (List Int)} {k : Nat} (hk : k < l.length) : (l ++ l').getD k [] = l.getD k [] := by
  rw [List.getD_eq_getElem?_getD, List.getD_eq_getElem?_getD, List.getElem?_append_left hk]
theorem zdm {n : Net} {start : List Int} {b : Int} {k : Nat} : ∀ (l : List Int) (s : Ex), ExOk n start b s → k < s.sp.ms.length → (∀ t ∈ l, t ∈ enabL n (s.sp.ms.getD k [])) →
    ExOk n start b (exL n b k s l) ∧ (∃ l', (exL n b k s l).sp.ms = s.sp.ms ++ l') ∧ ((exL n b k s l).code = 0 → s.code = 0 ∧ ∀ t ∈ l, (zg1 (trAt n t) (s.sp.ms.getD k [])).all (inB 0 50) = true ∧ zg1 (trAt n t) (s.sp.ms.getD k []) ∈ (exL n b k s l).sp.ms)
  | [], s, h, hk, _ => ⟨h, ⟨[], by simp [exL]⟩, fun hc => ⟨hc, by simp⟩⟩
  | t :: l, s, h, hk, hl => by
    have h1 := ze4 h hk (hl t (by simp))
    obtain ⟨p, hp⟩ := ze6 (n := n) (b := b) (k := k) (s := s) (t := t)
    have e : (zdw n b k s t).sp.ms.getD k [] = s.sp.ms.getD k [] := by rw [hp, zi8 hk]
    obtain ⟨f1, ⟨p2, f2⟩, f3⟩ := zdm (k := k) l (zdw n b k s t) h1 (by rw [hp]; simp; omega) (fun u hu => by rw [e]; exact hl u (by simp [hu]))
    refine ⟨f1, ⟨p ++ p2, by show (exL n b k (zdw n b k s t) l).sp.ms = _; rw [f2, hp, List.append_assoc]⟩, fun hc => ?_⟩
    obtain ⟨c1, c2⟩ := f3 hc
    have h0 : s.code = 0 := by
      by_cases h0 : s.code = 0
      · exact h0
      · rw [ze7 h0] at c1; exact c1
    refine ⟨h0, fun u hu => ?_⟩
    rcases List.mem_cons.1 hu with rfl | hu
    · obtain ⟨d1, d2⟩ := ze2 h0 c1
      refine ⟨d1, ?_⟩
      show _ ∈ (exL n b k (zdw n b k s u) l).sp.ms
      rw [f2]; exact List.mem_append_left _ d2
    · have := c2 u hu
      rw [e] at this; exact this
def za4 (n : Net) (s : Ex) (k : Nat) : Prop := ∀ i, i < k → i < s.sp.ms.length → ∀ t ∈ enabL n (s.sp.ms.getD i []), (zg1 (trAt n t) (s.sp.ms.getD i [])).all (inB 0 50) = true ∧ zg1 (trAt n t) (s.sp.ms.getD i []) ∈ s.sp.ms
theorem zdt {n : Net} {start : List Int} {b : Int} : ∀ (f k : Nat) (s : Ex), ExOk n start b s → za4 n s k → b.toNat < k + f → k ≤ s.sp.ms.length →
    ExOk n start b (exRun n b f k s) ∧ ((exRun n b f k s).code = 0 → za4 n (exRun n b f k s) (exRun n b f k s).sp.ms.length)
  | 0, k, s, h, hc, hb, hk => by have := h.lenb; omega
  | f + 1, k, s, h, hc, hb, hk => by
    by_cases h0 : s.code ≠ 0
    · rw [zdu h0]; exact ⟨h, fun e => absurd e h0⟩
    · show ExOk n start b (if s.code ≠ 0 then s else if k < s.sp.ms.length then exRun n b f (k + 1) (exL n b k s (enabL n (s.sp.ms.getD k []))) else s) ∧ _
      have er : exRun n b (f + 1) k s = if s.code ≠ 0 then s else if k < s.sp.ms.length then exRun n b f (k + 1) (exL n b k s (enabL n (s.sp.ms.getD k []))) else s := rfl
      rw [er, if_neg h0]
      by_cases hl : k < s.sp.ms.length
      · rw [if_pos hl]
        obtain ⟨f1, ⟨p, f2⟩, f3⟩ := zdm (start := start) (k := k) (enabL n (s.sp.ms.getD k [])) s h hl (fun t ht => ht)
        by_cases hc0 : (exL n b k s (enabL n (s.sp.ms.getD k []))).code = 0
        · refine zdt f (k + 1) (exL n b k s (enabL n (s.sp.ms.getD k []))) f1 (fun i hi hl2 t ht => ?_) (by omega) (by rw [f2, List.length_append]; omega)
          by_cases hik : i < k
          · have e : (exL n b k s (enabL n (s.sp.ms.getD k []))).sp.ms.getD i [] = s.sp.ms.getD i [] := by rw [f2, zi8 (l := s.sp.ms) (by omega)]
            rw [e] at ht ⊢
            obtain ⟨d1, d2⟩ := hc i hik (by omega) t ht
            exact ⟨d1, by rw [f2]; exact List.mem_append_left _ d2⟩
          · have : i = k := by omega
            subst this
            have e : (exL n b i s (enabL n (s.sp.ms.getD i []))).sp.ms.getD i [] = s.sp.ms.getD i [] := by rw [f2, zi8 hl]
            rw [e] at ht ⊢
            exact (f3 hc0).2 t ht
        · rw [zdu hc0]; exact ⟨f1, fun e => absurd e hc0⟩
      · rw [if_neg hl]
        refine ⟨h, fun _ i hi hl2 t ht => hc i (by omega) hl2 t ht⟩
theorem zdf {n : Net} {start : List Int} {b : Int} (hm : zrn n start = true) (hb : 1 ≤ b) : ExOk n start b (exAll n start b) ∧ ((exAll n start b).code = 0 → za4 n (exAll n start b) (exAll n start b).sp.ms.length) := by
  unfold exAll
  refine zdt _ 0 _ ⟨rfl, fun m hm2 => ?_, by simp; omega, by simp, fun a ha => by simp at ha, fun j hj hl => ?_⟩ (fun i hi => by omega) (by omega) (by omega)
  · simp only [List.mem_singleton] at hm2; subst hm2; exact hm
  · simp only [List.length_cons, List.length_nil] at hl; omega
end Go.Proofs.YtbaclnecajkknaaGreat.Pi
namespace Go.Proofs.YtbaclnecajkknaaGreat.Pi
open Go
set_option linter.all false

def okEx (n : Net) (start : List Int) (b : Int) : Bool := zrn n start && inB 1 400 b
theorem zv7 {n : Net} {start : List Int} {b : Int} (h : okEx n start b = true) : zrn n start = true ∧ 1 ≤ b ∧ b ≤ 400 := by
  simp only [okEx, inB, Bool.and_eq_true, decide_eq_true_eq] at h
  exact ⟨h.1, by omega, by omega⟩
def arcTo (ar : List Arc3) (p : Int) : Int := idxI ar (fun a => decide (a.dst = p))
theorem ze0 (n : Net) (b : Int) (k : Nat) (s : Ex) (t : Int) (h : s.code = 0 ∨ s.code = 2 ∨ s.code = 3) : (zdw n b k s t).code = 0 ∨ (zdw n b k s t).code = 2 ∨ (zdw n b k s t).code = 3 := by
  by_cases h0 : s.code = 0
  case neg => rw [ze7 h0]; exact h
  cases ha : (zg1 (trAt n t) (s.sp.ms.getD k [])).all (inB 0 50) with
  | false => rw [ze9 h0 ha]; simp
  | true =>
    by_cases h2 : 0 ≤ findM s.sp.ms (zg1 (trAt n t) (s.sp.ms.getD k []))
    · rw [ze5 h0 ha h2]; simp
    · by_cases h3 : b ≤ s.sp.ms.length
      · rw [ze1 h0 ha h2 h3]; simp
      · rw [ze3 h0 ha h2 h3]; simp
theorem zdk (n : Net) (b : Int) (k : Nat) : ∀ (l : List Int) (s : Ex), (s.code = 0 ∨ s.code = 2 ∨ s.code = 3) → (exL n b k s l).code = 0 ∨ (exL n b k s l).code = 2 ∨ (exL n b k s l).code = 3
  | [], s, h => h
  | t :: l, s, h => zdk n b k l (zdw n b k s t) (ze0 n b k s t h)
theorem zds {n : Net} {b : Int} : ∀ (f k : Nat) (s : Ex), (s.code = 0 ∨ s.code = 2 ∨ s.code = 3) → (exRun n b f k s).code = 0 ∨ (exRun n b f k s).code = 2 ∨ (exRun n b f k s).code = 3
  | 0, k, s, h => h
  | f + 1, k, s, h => by
    have er : exRun n b (f + 1) k s = if s.code ≠ 0 then s else if k < s.sp.ms.length then exRun n b f (k + 1) (exL n b k s (enabL n (s.sp.ms.getD k []))) else s := rfl
    rw [er]
    split
    · exact h
    · split
      · exact zds f (k + 1) _ (zdk n b k _ s h)
      · exact h
theorem zde (n : Net) (start : List Int) (b : Int) : (exAll n start b).code = 0 ∨ (exAll n start b).code = 2 ∨ (exAll n start b).code = 3 := zds _ _ _ (.inl rfl)
end Go.Proofs.YtbaclnecajkknaaGreat.Pi
namespace Go.Proofs.YtbaclnecajkknaaGreat.Pi
open Go
set_option linter.all false

inductive Rk (ar : List Arc3) (S : List Int) : Int → Prop
  | base {k : Int} (h : k ∈ S) : Rk ar S k
  | step {a : Arc3} (h : a ∈ ar) (r : Rk ar S a.dst) : Rk ar S a.src
def z44 (ar : List Arc3) (n : Nat) : Prop := ∀ a ∈ ar, 0 ≤ a.src ∧ a.src < n ∧ 0 ≤ a.dst ∧ a.dst < n
open Classical in
noncomputable def toL (ar : List Arc3) (n : Nat) (S : List Int) : List Bool := (List.range n).map fun (k : Nat) => decide (Rk ar S (k : Int))
theorem z1ea (ar : List Arc3) (n : Nat) (S : List Int) : (toL ar n S).length = n := by simp [toL]
theorem z1e8 {ar : List Arc3} {n : Nat} {S : List Int} {k : Nat} (hk : k < n) : (toL ar n S)[k]'(by rw [z1ea]; exact hk) = true ↔ Rk ar S k := by simp [toL]
def sndB (ar : List Arc3) (S : List Int) (c : List Bool) : Prop := ∀ k : Nat, c[k]? = some true → Rk ar S k
def hasS (S : List Int) (c : List Bool) : Prop := ∀ k ∈ S, c[k.toNat]? = some true
def clsB (ar : List Arc3) (c : List Bool) : Prop := ∀ a ∈ ar, c[a.dst.toNat]? = some true → c[a.src.toNat]? = some true
theorem z1eb {ar : List Arc3} {n : Nat} {S : List Int} {c : List Bool} (hl : c.length = n) (hS : ∀ k ∈ S, 0 ≤ k ∧ k < n) (hs : sndB ar S c) (hb : hasS S c) (hc : clsB ar c) : c = toL ar n S := by
  have h : ∀ k, Rk ar S k → c[k.toNat]? = some true := by
    intro k hk
    induction hk with
    | base h => exact hb _ h
    | step h _ ih => exact hc _ h ih
  apply List.ext_getElem?
  intro k
  by_cases hk : k < n
  · rw [List.getElem?_eq_getElem (by omega), List.getElem?_eq_getElem (by rw [z1ea]; exact hk)]
    congr 1
    cases e : c[k]'(by omega) with
    | true => exact ((z1e8 hk).2 (hs k (by rw [List.getElem?_eq_getElem (by omega), e]))).symm
    | false =>
      cases e2 : (toL ar n S)[k]'(by rw [z1ea]; exact hk) with
      | false => rfl
      | true =>
        have := h _ ((z1e8 hk).1 e2)
        rw [Int.toNat_natCast, List.getElem?_eq_getElem (by omega), e] at this
        cases this
  · rw [List.getElem?_eq_none (by omega), List.getElem?_eq_none (by rw [z1ea]; omega)]
theorem z1aq {ar : List Arc3} {S : List Int} {c : List Bool} {k : Int} (h : sndB ar S c) (h0 : 0 ≤ k) (hk : Rk ar S k) : sndB ar S (c.set k.toNat true) := by
  intro j hj
  rw [List.getElem?_set] at hj
  split at hj
  · rename_i e
    rw [← e, Int.toNat_of_nonneg h0]; exact hk
  · exact h j hj
theorem z188 {c : List Bool} {k j : Nat} (h : c[j]? = some true) : (c.set k true)[j]? = some true := by
  rw [List.getElem?_set]
  split
  · rename_i e; subst e
    rw [if_pos (List.getElem?_eq_some_iff.1 h).1]
  · exact h
theorem zjp {S : List Int} {c : List Bool} {k : Nat} (h : hasS S c) : hasS S (c.set k true) := fun x hx => z188 (h x hx)
theorem z1au {ar : List Arc3} {S : List Int} {n : Nat} : sndB ar S (List.replicate n false) := by
  intro k hk
  rw [List.getElem?_replicate] at hk
  split at hk <;> cases hk
/-! ### From where arcs come to a marking -/
def befs (ar : List Arc3) (j : Int) : List Int := (ar.filter fun a => decide (a.dst = j)).map (·.src)
theorem z5d {ar : List Arc3} {j x : Int} : x ∈ befs ar j ↔ ∃ a ∈ ar, a.dst = j ∧ a.src = x := by
  simp only [befs, List.mem_map, List.mem_filter, decide_eq_true_eq]
  constructor
  · rintro ⟨a, ⟨h1, h2⟩, h3⟩; exact ⟨a, h1, h2, h3⟩
  · rintro ⟨a, h1, h2, h3⟩; exact ⟨a, ⟨h1, h2⟩, h3⟩
structure BF (ar : List Arc3) (n : Nat) (S : List Int) (c : List Bool) (q : List Int) (i : Nat) : Prop where
  len : c.length = n
  snd : sndB ar S c
  has : hasS S c
  inn : ∀ x ∈ q, 0 ≤ x ∧ x < n
  mkd : ∀ x ∈ q, c[x.toNat]? = some true
  all : ∀ k : Nat, c[k]? = some true → (k : Int) ∈ q
  cnt : q.length + cntF c ≤ n
  le : i ≤ q.length
  done : ∀ j, (hj : j < i) → ∀ a ∈ ar, a.dst = q[j]'(by omega) → c[a.src.toNat]? = some true
theorem BF.end_ {ar : List Arc3} {n : Nat} {S : List Int} {c : List Bool} {q : List Int} (h : BF ar n S c q q.length) (ha : z44 ar n) (hS : ∀ k ∈ S, 0 ≤ k ∧ k < n) : c = toL ar n S := by
  refine z1eb h.len hS h.snd h.has fun a hm hd => ?_
  have := h.all _ hd
  rw [Int.toNat_of_nonneg (ha a hm).2.2.1] at this
  obtain ⟨j, hj, e⟩ := List.mem_iff_getElem.1 this
  exact h.done j hj a hm e.symm
structure BG (ar : List Arc3) (n : Nat) (S : List Int) (i : Nat) (L : List Int) (m : Nat) (x : Int) (c : List Bool) (q : List Int) : Prop extends BF ar n S c q i where
  lt : i < q.length
  at_ : q[i]? = some x
  up : ∀ j, j < m → ∀ y, L[j]? = some y → c[y.toNat]? = some true
theorem BG.next {ar : List Arc3} {n : Nat} {S : List Int} {i : Nat} {x : Int} {c : List Bool} {q : List Int} (h : BG ar n S i (befs ar x) (befs ar x).length x c q) : BF ar n S c q (i + 1) := by
  refine ⟨h.len, h.snd, h.has, h.inn, h.mkd, h.all, h.cnt, h.lt, fun j hj a hm e => ?_⟩
  by_cases hji : j = i
  · subst hji
    have hx := h.at_
    rw [List.getElem?_eq_getElem h.lt] at hx
    rw [Option.some.inj hx] at e
    obtain ⟨k, hk, he⟩ := List.mem_iff_getElem.1 (z5d.2 ⟨a, hm, e, rfl⟩)
    exact h.up k hk _ (by rw [List.getElem?_eq_getElem hk, he])
  · exact h.done j (by omega) a hm e
theorem BG.old {ar : List Arc3} {n : Nat} {S : List Int} {i : Nat} {L : List Int} {m : Nat} {x : Int} {c : List Bool} {q : List Int} (h : BG ar n S i L m x c q) (hm : m < L.length) (hc : c[L[m].toNat]? = some true) : BG ar n S i L (m + 1) x c q := by
  refine ⟨h.toBF, h.lt, h.at_, fun j hj y hy => ?_⟩
  by_cases e : j = m
  · subst e
    rw [List.getElem?_eq_getElem hm] at hy
    cases hy; exact hc
  · exact h.up j (by omega) y hy
theorem BG.new {ar : List Arc3} {n : Nat} {S : List Int} {i : Nat} {m : Nat} {x : Int} {c : List Bool} {q : List Int} (h : BG ar n S i (befs ar x) m x c q) (ha : z44 ar n) (hm : m < (befs ar x).length) (hc : c[(befs ar x)[m].toNat]? = some false) :
    BG ar n S i (befs ar x) (m + 1) x (c.set (befs ar x)[m].toNat true) (q ++ [(befs ar x)[m]]) := by
  obtain ⟨a, h1, h2, h3⟩ := z5d.1 (List.getElem_mem hm)
  obtain ⟨a1, a2, a3, a4⟩ := ha a h1
  have hl := h.len
  have hx := h.at_
  have hi := h.lt
  rw [List.getElem?_eq_getElem hi] at hx
  have hq : x ∈ q := by rw [← Option.some.inj hx]; exact List.getElem_mem hi
  generalize hy : (befs ar x)[m] = y at *
  subst h3
  have hcy : a.src.toNat < c.length := by omega
  have hRk : Rk ar S a.src := by
    refine .step h1 ?_
    have hr := h.snd _ (h.mkd x hq)
    rw [Int.toNat_of_nonneg (h.inn x hq).1] at hr
    rw [h2]; exact hr
  have hcnt := zam hcy (by rw [List.getD_eq_getElem?_getD, hc]; rfl)
  have hcn := h.cnt
  refine ⟨⟨by simpa using hl, z1aq h.snd a1 hRk, zjp h.has, fun z hz => ?_, fun z hz => ?_, fun k hk => ?_, by rw [List.length_append]; simp only [List.length_cons, List.length_nil]; omega, by rw [List.length_append]; have := h.le; omega, fun j hj a' hm' e => ?_⟩, by rw [List.length_append]; omega, ?_, fun j hj z hz => ?_⟩
  · rcases List.mem_append.1 hz with hz | hz
    · exact h.inn z hz
    · rw [List.mem_singleton] at hz; subst hz; exact ⟨a1, a2⟩
  · rcases List.mem_append.1 hz with hz | hz
    · exact z188 (h.mkd z hz)
    · rw [List.mem_singleton] at hz; subst hz; rw [List.getElem?_set_self hcy]
  · rw [List.getElem?_set] at hk
    split at hk
    · rename_i e
      refine List.mem_append.2 (.inr ?_)
      rw [List.mem_singleton]; omega
    · exact List.mem_append.2 (.inl (h.all k hk))
  · have hjq : j < q.length := by omega
    rw [List.getElem_append_left hjq] at e
    exact z188 (h.done j hj a' hm' e)
  · rw [List.getElem?_append_left hi, List.getElem?_eq_getElem hi]; exact hx
  · by_cases e : j = m
    · subst e
      rw [List.getElem?_eq_getElem hm, hy] at hz
      cases hz
      rw [List.getElem?_set_self hcy]
    · exact z188 (h.up j (by omega) z hz)
theorem BF.start {ar : List Arc3} {n : Nat} {p : Int} (h0 : 0 ≤ p) (h : p < n) : BF ar n [p] ((List.replicate n false).set p.toNat true) [p] 0 := by
  have hp : p.toNat < (List.replicate n false).length := by simp; omega
  have hc := zam (l := List.replicate n false) (k := p.toNat) hp (by rw [List.getD_eq_getElem?_getD, List.getElem?_replicate]; split <;> rfl)
  have hl := zak (List.replicate n false)
  rw [List.length_replicate] at hl
  refine ⟨by simp, z1aq z1au h0 (.base (by simp)), fun k hk => ?_, fun x hx => ?_, fun x hx => ?_, fun k hk => ?_, by simp only [List.length_cons, List.length_nil]; omega, Nat.zero_le _, fun j hj => by omega⟩
  · rw [List.mem_singleton] at hk; subst hk; rw [List.getElem?_set_self hp]
  · rw [List.mem_singleton] at hx; subst hx; exact ⟨h0, h⟩
  · rw [List.mem_singleton] at hx; subst hx; rw [List.getElem?_set_self hp]
  · rw [List.getElem?_set] at hk
    split at hk
    · rename_i e; rw [List.mem_singleton]; omega
    · rw [List.getElem?_replicate] at hk; split at hk <;> cases hk
end Go.Proofs.YtbaclnecajkknaaGreat.Pi
namespace Go.Proofs.YtbaclnecajkknaaGreat.Pi
open Go
set_option linter.all false

/-! ### How a space is laid out -/
structure Bfs (ar : List Arc3) (n : Nat) : Prop where
  inn : z44 ar n
  srt : ∀ i j, i ≤ j → ∀ (hi : i < ar.length) (hj : j < ar.length), ar[i].src ≤ ar[j].src
  pre : ∀ i, (hi : i < ar.length) → ∀ q : Nat, 1 ≤ q → (q : Int) < ar[i].dst → ∃ j, ∃ hj : j < i, (ar[j]'(by omega)).dst = q
  back : ∀ q : Nat, 0 < q → q < n → ∃ i, ∃ h : i < ar.length, ar[i].dst = q ∧ ar[i].src < q ∧ ∀ i', (h' : i' < i) → (ar[i']'(by omega)).dst ≠ q
structure ExB (s : Ex) (k : Nat) : Prop where
  le : ∀ a ∈ s.sp.ar, a.src ≤ k
  srt : ∀ i j, i ≤ j → ∀ (hi : i < s.sp.ar.length) (hj : j < s.sp.ar.length), s.sp.ar[i].src ≤ s.sp.ar[j].src
  pre : ∀ i, (hi : i < s.sp.ar.length) → ∀ q : Nat, 1 ≤ q → (q : Int) < s.sp.ar[i].dst → ∃ j, ∃ hj : j < i, (s.sp.ar[j]'(by omega)).dst = q
theorem ExB.add {s : Ex} {k : Nat} {ms : List (List Int)} {t d c : Int} (h : ExB s k) (hd : ∀ q : Nat, 1 ≤ q → (q : Int) < d → ∃ j, ∃ hj : j < s.sp.ar.length, s.sp.ar[j].dst = q) : ExB ⟨⟨ms, s.sp.ar ++ [⟨k, t, d⟩]⟩, c⟩ k := by
  refine ⟨fun a ha => ?_, fun i j hij hi hj => ?_, fun i hi q h1 h2 => ?_⟩
  · rcases List.mem_append.1 ha with ha | ha
    · exact h.le a ha
    · rw [List.mem_singleton] at ha; subst ha; exact Int.le_refl _
  · simp only [List.length_append, List.length_cons, List.length_nil] at hi hj
    simp only [List.getElem_append]
    by_cases hj2 : j < s.sp.ar.length
    · rw [dif_pos (show i < s.sp.ar.length by omega), dif_pos hj2]; exact h.srt i j hij _ _
    · rw [dif_neg hj2]
      by_cases hi2 : i < s.sp.ar.length
      · rw [dif_pos hi2]
        simp only [List.getElem_singleton]
        exact h.le _ (List.getElem_mem hi2)
      · rw [dif_neg hi2]; simp
  · simp only [List.length_append, List.length_cons, List.length_nil] at hi
    by_cases hi2 : i < s.sp.ar.length
    · simp only [List.getElem_append, dif_pos hi2] at h2
      obtain ⟨j, hj, e⟩ := h.pre i hi2 q h1 h2
      exact ⟨j, hj, by simp only [List.getElem_append, dif_pos (show j < s.sp.ar.length by omega)]; exact e⟩
    · have : i = s.sp.ar.length := by omega
      subst this
      simp only [List.getElem_append, dif_neg hi2, List.getElem_singleton] at h2
      obtain ⟨j, hj, e⟩ := hd q h1 h2
      exact ⟨j, hj, by simp only [List.getElem_append, dif_pos hj]; exact e⟩
theorem ExB.stop {s : Ex} {k : Nat} (h : ExB s k) (c : Int) : ExB ⟨s.sp, c⟩ k := ⟨h.le, h.srt, h.pre⟩
theorem ExB.up {s : Ex} {k k' : Nat} (h : ExB s k) (hk : k ≤ k') : ExB s k' := ⟨fun a ha => by have := h.le a ha; omega, h.srt, h.pre⟩
/-! ### Ways of some arcs -/
def Dk (ar : List Arc3) (p : Int) : Nat → Int → Prop
  | 0, k => k = p
  | d + 1, k => ∃ a ∈ ar, a.src = k ∧ Dk ar p d a.dst
structure isFar (ar : List Arc3) (p : Int) (n : Nat) (F : List Int) : Prop where
  len : F.length = n
  val : ∀ k : Nat, k < n → (F[k]? = some (-1) ∧ ∀ e, ¬ Dk ar p e k) ∨ ∃ d : Nat, F[k]? = some (d : Int) ∧ Dk ar p d k ∧ ∀ e, e < d → ¬ Dk ar p e k
def treeW (ar : List Arc3) : Nat → Nat → List Int
  | 0, _ => []
  | f + 1, k => if k = 0 then [] else match ar[(arcTo ar k).toNat]? with
    | some a => treeW ar f a.src.toNat ++ [a.by_]
    | none => []
def tw (ar : List Arc3) (k : Nat) : List Int := treeW ar (k + 1) k
section
variable {ar : List Arc3} {n : Nat}
theorem Bfs.arc (h : Bfs ar n) {q : Nat} (h0 : 0 < q) (hq : q < n) : ∃ i, ∃ hi : i < ar.length, arcTo ar q = i ∧ ar[i].dst = q ∧ 0 ≤ ar[i].src ∧ ar[i].src < q ∧ ∀ i', (h' : i' < i) → (ar[i']'(by omega)).dst ≠ q := by
  obtain ⟨i, hi, e1, e2, e3⟩ := h.back q h0 hq
  refine ⟨i, hi, ?_, e1, (h.inn _ (List.getElem_mem hi)).1, e2, e3⟩
  unfold arcTo
  refine zk1 hi ?_ (decide_eq_true e1)
  rw [List.any_eq_false]
  intro x hx
  obtain ⟨i', h1, rfl⟩ := List.mem_iff_getElem.1 hx
  have h2 : i' < i := by simp at h1; omega
  have := e3 i' h2
  simpa using this
theorem z1ev (h : Bfs ar n) : ∀ (f g k : Nat), k < n → k < f → k < g → treeW ar f k = treeW ar g k
  | 0, _, k, _, hf, _ => by omega
  | f + 1, 0, k, _, _, hg => by omega
  | f + 1, g + 1, k, hn, hf, hg => by
    unfold treeW
    split
    · rfl
    · rename_i h0
      obtain ⟨i, hi, e, _, e2, e3, _⟩ := h.arc (by omega) hn
      rw [e, Int.toNat_natCast, List.getElem?_eq_getElem hi]
      simp only
      rw [z1ev h f g _ (by omega) (by omega) (by omega)]
theorem z1f3 : tw ar 0 = [] := rfl
theorem z1f1 (h : Bfs ar n) {k i : Nat} (h0 : 0 < k) (hk : k < n) (hi : i < ar.length) (e : arcTo ar k = i) : tw ar k = tw ar ar[i].src.toNat ++ [ar[i].by_] := by
  obtain ⟨j, hj, e1, _, e2, e3, _⟩ := h.arc h0 hk
  have hij : j = i := by rw [e] at e1; omega
  subst hij
  show (if k = 0 then [] else match ar[(arcTo ar k).toNat]? with | some a => treeW ar k a.src.toNat ++ [a.by_] | none => []) = _
  rw [if_neg (by omega), e, Int.toNat_natCast, List.getElem?_eq_getElem hj]
  simp only
  rw [z1ev h k (ar[j].src.toNat + 1) _ (by omega) (by omega) (by omega)]; rfl
inductive Tp (ar : List Arc3) (p : Nat) : Nat → List Int → Prop
  | refl : Tp ar p p []
  | step {c i : Nat} {U : List Int} (hi : i < ar.length) (e : arcTo ar c = i) (h0 : 0 < c) (t : Tp ar p c U) : Tp ar p ar[i].src.toNat (ar[i].by_ :: U)
theorem Tp.path (h : Bfs ar n) {p t : Nat} {U : List Int} (hp : p < n) (ht : Tp ar p t U) : t < n ∧ Dk ar p U.length t := by
  induction ht with
  | refl => exact ⟨hp, rfl⟩
  | step hi e h0 t ih =>
    rename_i c i U
    obtain ⟨j, hj, e1, e2, e3, e4, _⟩ := h.arc h0 ih.1
    have : j = i := by rw [e] at e1; omega
    subst this
    refine ⟨by omega, _, List.getElem_mem hi, (Int.toNat_of_nonneg e3).symm, ?_⟩
    rw [e2]; exact ih.2
theorem tw_tp (h : Bfs ar n) {p : Nat} (hp : p < n) : ∀ (k : Nat) (U : List Int), k < n → Tp ar p k U → Tp ar p 0 (tw ar k ++ U)
  | 0, U, _, ht => by rw [z1f3]; exact ht
  | k + 1, U, hk, ht => by
    obtain ⟨i, hi, e1, e2, e3, e4, _⟩ := h.arc (q := k + 1) (by omega) hk
    rw [z1f1 h (by omega) hk hi e1, List.append_assoc]
    exact tw_tp h hp ar[i].src.toNat _ (by omega) (.step hi e1 (by omega) ht)
termination_by k => k
decreasing_by all_goals omega
inductive Gd (ar : List Arc3) (F : List Int) (p : Nat) : Nat → List Int → Prop
  | refl : Gd ar F p p []
  | step {t i : Nat} {W : List Int} (hne : t ≠ p) (hi : i < ar.length) (hs : ar[i].src = t) (hf : ∀ u v, F[ar[i].dst.toNat]? = some u → F[t]? = some v → u = v - 1) (hm : ∀ j, (hj : j < i) → (ar[j]'(by omega)).src = t → ∀ u v, F[(ar[j]'(by omega)).dst.toNat]? = some u → F[t]? = some v → u ≠ v - 1)
      (g : Gd ar F p ar[i].dst.toNat W) : Gd ar F p t (ar[i].by_ :: W)
theorem isFar.at_ {p : Nat} {F : List Int} (hF : isFar ar p n F) {k d : Nat} (hk : k < n) (hd : Dk ar p d k) (hm : ∀ e, e < d → ¬ Dk ar p e k) : F[k]? = some (d : Int) := by
  rcases hF.val k hk with ⟨_, h⟩ | ⟨d', h1, h2, h3⟩
  · exact (h d hd).elim
  · have : d' = d := by
      rcases Nat.lt_trichotomy d d' with h | h | h
      · exact (h3 d h hd).elim
      · exact h.symm
      · exact (hm d' h h2).elim
    rw [h1, this]
end
end Go.Proofs.YtbaclnecajkknaaGreat.Pi
namespace Go.Proofs.YtbaclnecajkknaaGreat.Pi
open Go
set_option linter.all false

structure FQ (ar : List Arc3) (p : Int) (n : Nat) (F q : List Int) (w : Int → Prop) : Prop where
  len : F.length = n
  val : ∀ k : Nat, ∀ u, F[k]? = some u → u = -1 ∨ ∃ d : Nat, u = d ∧ Dk ar p d k
  zero : F[p.toNat]? = some 0
  inn : ∀ x ∈ q, 0 ≤ x ∧ ∃ d : Nat, F[x.toNat]? = some (d : Int)
  srt : q.Pairwise fun x y => ∀ u v, F[x.toNat]? = some u → F[y.toNat]? = some v → u ≤ v
  bnd : ∀ k : Nat, ∀ u, F[k]? = some u → ∀ x ∈ q, ∀ v, F[x.toNat]? = some v → u ≤ v + 1
  cls : ∀ a ∈ ar, ∀ u, F[a.dst.toNat]? = some u → 0 ≤ u → a.dst ∉ q → ¬ w a.dst → ∃ v, F[a.src.toNat]? = some v ∧ 0 ≤ v ∧ v ≤ u + 1
section
variable {ar : List Arc3} {p : Int} {n : Nat} {F q : List Int}
theorem FQ.end_ (h : FQ ar p n F [] fun _ => False) (ha : z44 ar n) (hp : 0 ≤ p ∧ p < n) : isFar ar p n F := by
  have key : ∀ (e k : Nat), k < n → Dk ar p e k → ∃ u, F[k]? = some u ∧ 0 ≤ u ∧ u ≤ e := by
    intro e
    induction e with
    | zero =>
      intro k hk hd
      simp only [Dk] at hd
      refine ⟨0, ?_, by omega, by omega⟩
      have := h.zero
      rwa [← hd, Int.toNat_natCast] at this
    | succ e ih =>
      rintro k hk ⟨a, hm, e1, hd⟩
      obtain ⟨a1, a2, a3, a4⟩ := ha a hm
      obtain ⟨u, h1, h2, h3⟩ := ih a.dst.toNat (by omega) (by rw [Int.toNat_of_nonneg a3]; exact hd)
      obtain ⟨v, h4, h5, h6⟩ := h.cls a hm u h1 h2 (by simp) (by simp)
      rw [e1, Int.toNat_natCast] at h4
      exact ⟨v, h4, h5, by omega⟩
  refine ⟨h.len, fun k hk => ?_⟩
  have hkl : k < F.length := by rw [h.len]; exact hk
  rcases h.val k _ (List.getElem?_eq_getElem hkl) with h1 | ⟨d, h1, h2⟩
  · refine .inl ⟨by rw [List.getElem?_eq_getElem hkl, h1], fun e hd => ?_⟩
    obtain ⟨u, g1, g2, _⟩ := key e k hk hd
    rw [List.getElem?_eq_getElem hkl, h1] at g1
    have := Option.some.inj g1
    omega
  · refine .inr ⟨d, by rw [List.getElem?_eq_getElem hkl, h1], h2, fun e he hd => ?_⟩
    obtain ⟨u, g1, _, g3⟩ := key e k hk hd
    rw [List.getElem?_eq_getElem hkl, h1] at g1
    have := Option.some.inj g1
    omega
theorem FQ.start (ha : z44 ar n) (hp : 0 ≤ p ∧ p < n) : FQ ar p n ((List.replicate n (-1)).set p.toNat 0) [p] fun _ => False := by
  have hl : p.toNat < (List.replicate n (-1 : Int)).length := by simp; omega
  have hz : ((List.replicate n (-1 : Int)).set p.toNat 0)[p.toNat]? = some 0 := by rw [List.getElem?_set_self hl]
  have hall : ∀ (k : Nat) (u : Int), ((List.replicate n (-1 : Int)).set p.toNat 0)[k]? = some u → (k = p.toNat ∧ u = 0) ∨ u = -1 := by
    intro k u h
    rw [List.getElem?_set] at h
    split at h
    · rename_i e
      exact .inl ⟨e.symm, (Option.some.inj h).symm⟩
    · rw [List.getElem?_replicate] at h
      split at h
      · exact .inr (Option.some.inj h).symm
      · cases h
  refine ⟨by simp, fun k u h => ?_, hz, fun x hx => ?_, by simp, fun k u h x hx v hv => ?_, fun a hm u h h0 hq _ => ?_⟩
  · rcases hall k u h with ⟨h1, h2⟩ | h1
    · exact .inr ⟨0, h2, by simp only [Dk]; omega⟩
    · exact .inl h1
  · rw [List.mem_singleton] at hx; subst hx; exact ⟨hp.1, 0, hz⟩
  · rw [List.mem_singleton] at hx; subst hx
    rw [hz] at hv
    have := Option.some.inj hv
    rcases hall k u h with ⟨_, h2⟩ | h1 <;> omega
  · rcases hall _ u h with ⟨h1, _⟩ | h1
    · refine (hq ?_).elim
      rw [List.mem_singleton]
      have := (ha a hm).2.2.1
      omega
    · omega
structure FW (ar : List Arc3) (p : Int) (n : Nat) (x : Int) (d : Nat) (m : Nat) (F q : List Int) : Prop extends FQ ar p n F q (fun y => y = x) where
  at_ : F[x.toNat]? = some (d : Int)
  pos : 0 ≤ x ∧ x < n
  dk : Dk ar p d x
  low : ∀ y ∈ q, ∀ v, F[y.toNat]? = some v → (d : Int) ≤ v
  top : ∀ k : Nat, ∀ u, F[k]? = some u → u ≤ d + 1
  up : ∀ j, j < m → ∀ a, ar[j]? = some a → a.dst = x → ∃ v, F[a.src.toNat]? = some v ∧ 0 ≤ v ∧ v ≤ d + 1
theorem FW.next {x : Int} {d : Nat} (h : FW ar p n x d ar.length F q) : FQ ar p n F q fun _ => False := by
  refine ⟨h.len, h.val, h.zero, h.inn, h.srt, h.bnd, fun a hm u hu h1 hq _ => ?_⟩
  by_cases e : a.dst = x
  · obtain ⟨j, hj, he⟩ := List.mem_iff_getElem.1 hm
    obtain ⟨v, g1, g2, g3⟩ := h.up j hj a (by rw [List.getElem?_eq_getElem hj, he]) e
    rw [e, h.at_] at hu
    have := Option.some.inj hu
    exact ⟨v, g1, g2, by omega⟩
  · exact h.cls a hm u hu h1 hq e
theorem FW.old {x : Int} {d m : Nat} (h : FW ar p n x d m F q) (hm : m < ar.length) (hc : ar[m].dst = x → ∃ v, F[ar[m].src.toNat]? = some v ∧ 0 ≤ v) : FW ar p n x d (m + 1) F q := by
  refine ⟨h.toFQ, h.at_, h.pos, h.dk, h.low, h.top, fun j hj a ha e => ?_⟩
  by_cases ej : j = m
  · subst ej
    rw [List.getElem?_eq_getElem hm] at ha
    cases ha
    obtain ⟨v, g1, g2⟩ := hc e
    exact ⟨v, g1, g2, h.top _ v g1⟩
  · exact h.up j (by omega) a ha e
theorem FW.new {x : Int} {d m : Nat} (h : FW ar p n x d m F q) (ha : z44 ar n) (hm : m < ar.length) (hd : ar[m].dst = x) (hc : F[ar[m].src.toNat]? = some (-1)) : FW ar p n x d (m + 1) (F.set ar[m].src.toNat (d + 1)) (q ++ [ar[m].src]) := by
  have hmm := List.getElem_mem hm
  obtain ⟨a1, a2, a3, a4⟩ := ha _ hmm
  have hup := h.up
  have hdk : Dk ar p (d + 1) ar[m].src := ⟨ar[m], hmm, rfl, by rw [hd]; exact h.dk⟩
  generalize hy : ar[m].src = y at *
  have hyl : y.toNat < F.length := (List.getElem?_eq_some_iff.1 hc).1
  have hself : (F.set y.toNat ((d : Int) + 1))[y.toNat]? = some ((d : Int) + 1) := by rw [List.getElem?_set_self hyl]
  have get : ∀ (k : Nat) (u : Int), (F.set y.toNat ((d : Int) + 1))[k]? = some u → (k = y.toNat ∧ u = d + 1) ∨ (k ≠ y.toNat ∧ F[k]? = some u) := by
    intro k u hu
    rw [List.getElem?_set] at hu
    split at hu
    · rename_i e
      exact .inl ⟨e.symm, (Option.some.inj hu).symm⟩
    · rename_i e; exact .inr ⟨fun h => e h.symm, hu⟩
  have keep : ∀ (k : Nat) (u : Int), F[k]? = some u → 0 ≤ u → (F.set y.toNat ((d : Int) + 1))[k]? = some u := by
    intro k u hu h0
    rw [List.getElem?_set_ne]; exact hu
    rintro rfl
    rw [hc] at hu
    have := Option.some.inj hu
    omega
  have hqy : ∀ z ∈ q, z.toNat ≠ y.toNat := by
    intro z hz e
    obtain ⟨_, d', h1⟩ := h.inn z hz
    rw [e, hc] at h1
    have := Option.some.inj h1
    omega
  refine ⟨⟨by simp [h.len], fun k u hu => ?_, keep _ _ h.zero (by omega), fun z hz => ?_, ?_, fun k u hu z hz v hv => ?_, fun a hma u hu h1 hq hw => ?_⟩, keep _ _ h.at_ (by omega), h.pos, h.dk, fun z hz v hv => ?_, fun k u hu => ?_, fun j hj a hja e => ?_⟩
  · rcases get k u hu with ⟨rfl, rfl⟩ | ⟨_, h1⟩
    · exact .inr ⟨d + 1, by omega, by rw [Int.toNat_of_nonneg a1]; exact hdk⟩
    · exact h.val k u h1
  · rcases List.mem_append.1 hz with hz | hz
    · obtain ⟨h0, d', h1⟩ := h.inn z hz
      exact ⟨h0, d', keep _ _ h1 (by omega)⟩
    · rw [List.mem_singleton] at hz; subst hz
      exact ⟨a1, d + 1, by rw [hself]; congr 1⟩
  · rw [List.pairwise_append]
    refine ⟨h.srt.imp_of_mem fun {z z'} hz hz' hp u v hu hv => ?_, by simp, fun z hz z' hz' u v hu hv => ?_⟩
    · rcases get _ u hu with ⟨e, _⟩ | ⟨_, g1⟩
      · exact (hqy z hz e).elim
      rcases get _ v hv with ⟨e, _⟩ | ⟨_, g2⟩
      · exact (hqy z' hz' e).elim
      exact hp u v g1 g2
    · rw [List.mem_singleton] at hz'; subst hz'
      rcases get _ u hu with ⟨e, _⟩ | ⟨_, g1⟩
      · exact (hqy z hz e).elim
      rw [hself] at hv
      have := Option.some.inj hv
      have := h.top _ u g1
      omega
  · have hku : u ≤ d + 1 := by
      rcases get k u hu with ⟨_, rfl⟩ | ⟨_, g1⟩
      · omega
      · exact h.top k u g1
    have hvd : (d : Int) ≤ v := by
      rcases get _ v hv with ⟨_, rfl⟩ | ⟨e, g1⟩
      · omega
      · rcases List.mem_append.1 hz with hz | hz
        · exact h.low z hz v g1
        · rw [List.mem_singleton] at hz; subst hz; exact (e rfl).elim
    omega
  · rcases get _ u hu with ⟨e, _⟩ | ⟨_, g1⟩
    · refine (hq (List.mem_append.2 (.inr ?_))).elim
      rw [List.mem_singleton]
      have := (ha a hma).2.2.1
      omega
    · obtain ⟨v, g2, g3, g4⟩ := h.cls a hma u g1 h1 (fun hz => hq (List.mem_append.2 (.inl hz))) hw
      exact ⟨v, keep _ _ g2 g3, g3, g4⟩
  · rcases List.mem_append.1 hz with hz | hz
    · rcases get _ v hv with ⟨_, rfl⟩ | ⟨_, g1⟩
      · omega
      · exact h.low z hz v g1
    · rw [List.mem_singleton] at hz; subst hz
      rw [hself] at hv
      have := Option.some.inj hv
      omega
  · rcases get k u hu with ⟨_, rfl⟩ | ⟨_, g1⟩
    · omega
    · exact h.top k u g1
  · by_cases ej : j = m
    · subst ej
      rw [List.getElem?_eq_getElem hm] at hja
      cases hja
      rw [hy]
      exact ⟨d + 1, hself, by omega, by omega⟩
    · obtain ⟨v, g1, g2, g3⟩ := hup j (by omega) a hja e
      exact ⟨v, keep _ _ g1 g2, g2, g3⟩
theorem z1ey (h : Bfs ar n) : ∀ k : Nat, k < n → (tw ar k).length ≤ k
  | 0, _ => by simp [z1f3]
  | k + 1, hk => by
    obtain ⟨i, hi, e1, e2, e3, e4, _⟩ := h.arc (q := k + 1) (by omega) hk
    rw [z1f1 h (by omega) hk hi e1, List.length_append, List.length_cons, List.length_nil]
    have := z1ey h ar[i].src.toNat (by omega)
    omega
termination_by k => k
decreasing_by all_goals omega
theorem isFar.begin_ (h : Bfs ar n) {p : Nat} (hp : p < n) {F : List Int} (hF : isFar ar p n F) : ∃ d : Nat, F[0]? = some (d : Int) ∧ d < n := by
  have hd := (Tp.path h hp (tw_tp h hp p [] hp .refl)).2
  rw [List.append_nil] at hd
  rcases hF.val 0 (by omega) with ⟨_, h1⟩ | ⟨d, h1, _, h3⟩
  · exact (h1 _ hd).elim
  · refine ⟨d, h1, ?_⟩
    have := z1ey h p hp
    apply Decidable.byContradiction
    intro hn
    exact h3 _ (by omega) hd
theorem isFar.pos {p : Nat} {F : List Int} (hF : isFar ar p n F) {t j : Nat} (ht : t < n) (htp : t ≠ p) (hFt : F[t]? = some (j : Int)) : 0 < j := by
  rcases hF.val t ht with ⟨h1, _⟩ | ⟨d, h1, h2, _⟩
  · rw [hFt] at h1; have := Option.some.inj h1; omega
  · rw [hFt] at h1
    have e := Option.some.inj h1
    cases d with
    | zero => simp only [Dk] at h2; omega
    | succ d => omega
end
end Go.Proofs.YtbaclnecajkknaaGreat.Pi
namespace Go.Proofs.YtbaclnecajkknaaGreat.Pi
open Go
set_option linter.all false

structure Vd where
  ok : Int
  kind : Int
  way : List Int
  dead : Int
def overB (a b : List Int) : Bool := zbg a b && !decide (a = b)
end Go.Proofs.YtbaclnecajkknaaGreat.Pi
namespace Go.Proofs.YtbaclnecajkknaaGreat.Pi
open Go
set_option linter.all false

@[go_sem] theorem z69 {bl : Bool} {k : IntKind} {x y : Int} : binV bl .andNot (.int k x) (.int k y) = some (.int k (bits .andNot k x y)) := by simp [binV, binI]

end Go.Proofs.YtbaclnecajkknaaGreat.Pi
namespace Go.Proofs.YtbaclnecajkknaaGreat.Pi
open Go
set_option linter.all false

structure Tk where
  join : Int
  split : Int
  inn : List Int
  out : List Int
  cut : List Int
  stop : List Int
  role : Int
  deriving DecidableEq
structure Spc where
  conds : Int
  tasks : List Tk
  deriving DecidableEq
/-! ### Sizes -/
/-! ### Copies, in part done -/
/-! ### Equality, by steps -/
/-! ### Marks -/
/-! ### What a specification lays out -/
structure Mv where
  task : Int
  begin_ : Bool
  pick : Int
  deriving DecidableEq
/-! ### A specification's fields, zrn -/
/-! ### Cases -/
structure Cs where
  state : Int
  mark : List Int
  deriving DecidableEq
end Go.Proofs.YtbaclnecajkknaaGreat.Pi
namespace Go.Proofs.YtbaclnecajkknaaGreat.Pi
open Go
set_option linter.all false

end Go.Proofs.YtbaclnecajkknaaGreat.Pi
namespace Go.Proofs.YtbaclnecajkknaaGreat.Pi
open Go
set_option linter.all false

end Go.Proofs.YtbaclnecajkknaaGreat.Pi
namespace Go.Proofs.YtbaclnecajkknaaGreat.Pi
open Go
set_option linter.all false

end Go.Proofs.YtbaclnecajkknaaGreat.Pi
namespace Go.Proofs.YtbaclnecajkknaaGreat.Pi
open Go
set_option linter.all false

/-! ### Level by level -/
structure Lvl (ar : List Arc3) (p : Int) (n d : Nat) (F : List Int) : Prop where
  len : F.length = n
  val : ∀ k : Nat, k < n → (F[k]? = some (-1) ∧ ∀ e, e ≤ d → ¬ Dk ar p e k) ∨ ∃ e : Nat, e ≤ d ∧ F[k]? = some (e : Int) ∧ Dk ar p e k ∧ ∀ e', e' < e → ¬ Dk ar p e' k
structure Lvm (ar : List Arc3) (p : Int) (n d j : Nat) (f : Bool) (F : List Int) : Prop where
  len : F.length = n
  val : ∀ k : Nat, k < n → (F[k]? = some (-1) ∧ (∀ e, e ≤ d → ¬ Dk ar p e k) ∧ ∀ i, (hi : i < j) → ∀ a, ar[i]? = some a → a.src = k → F[a.dst.toNat]? ≠ some (d : Int)) ∨ (∃ e : Nat, e ≤ d ∧ F[k]? = some (e : Int) ∧ Dk ar p e k ∧ ∀ e', e' < e → ¬ Dk ar p e' k) ∨ (f = true ∧ F[k]? = some ((d + 1 : Nat) : Int) ∧ Dk ar p (d + 1) k ∧ ∀ e', e' < d + 1 → ¬ Dk ar p e' k)
section
variable {ar : List Arc3} {p : Int} {n d : Nat} {F : List Int}
theorem Lvl.start (hp : 0 ≤ p ∧ p < n) : Lvl ar p n 0 ((List.replicate n (-1)).set p.toNat 0) := by
  refine ⟨by simp, fun k hk => ?_⟩
  by_cases e : k = p.toNat
  · subst e
    refine .inr ⟨0, Nat.le_refl _, ?_, by simp only [Dk]; omega, fun e' h => by omega⟩
    rw [List.getElem?_set_self (by simpa using hk)]; rfl
  · refine .inl ⟨?_, fun e' he hd => ?_⟩
    · rw [List.getElem?_set_ne (fun h => e h.symm), List.getElem?_replicate, if_pos hk]
    · obtain rfl : e' = 0 := by omega
      simp only [Dk] at hd
      omega
theorem Lvl.mid (h : Lvl ar p n d F) : Lvm ar p n d 0 false F := ⟨h.len, fun k hk => by
  rcases h.val k hk with ⟨h1, h2⟩ | h1
  · exact .inl ⟨h1, h2, fun i hi => by omega⟩
  · exact .inr (.inl h1)⟩
theorem Lvm.up {j : Nat} {f : Bool} (h : Lvm ar p n d j f F) : Lvm ar p n d j true F := ⟨h.len, fun k hk => by
  rcases h.val k hk with h1 | h1 | h1
  · exact .inl h1
  · exact .inr (.inl h1)
  · exact .inr (.inr ⟨rfl, h1.2⟩)⟩
theorem Lvm.two {j : Nat} {f : Bool} (h : Lvm ar p n d j f F) {k : Nat} (hk : k < n) {v : Int} (hv : F[k]? = some v) : v = -1 ∨ 0 ≤ v := by
  rcases h.val k hk with ⟨h1, _⟩ | ⟨e, _, h1, _⟩ | ⟨_, h1, _⟩
  · rw [h1] at hv; exact .inl (Option.some.inj hv).symm
  · rw [h1] at hv; have := Option.some.inj hv; exact .inr (by omega)
  · rw [h1] at hv; have := Option.some.inj hv; exact .inr (by omega)
theorem Lvm.old {j : Nat} {f : Bool} (h : Lvm ar p n d j f F) (hj : j < ar.length) (hin : z44 ar n) (hc : ¬ (F[ar[j].dst.toNat]? = some (d : Int) ∧ F[ar[j].src.toNat]? = some (-1))) : Lvm ar p n d (j + 1) f F := ⟨h.len, fun k hk => by
  rcases h.val k hk with ⟨h1, h2, h3⟩ | h1 | h1
  · refine .inl ⟨h1, h2, fun i hi a ha hs => ?_⟩
    by_cases e : i = j
    · subst e
      rw [List.getElem?_eq_getElem hj] at ha
      cases ha
      intro hd
      refine hc ⟨hd, ?_⟩
      rw [hs, Int.toNat_natCast]; exact h1
    · exact h3 i (by omega) a ha hs
  · exact .inr (.inl h1)
  · exact .inr (.inr h1)⟩
theorem Lvm.dk {j : Nat} {f : Bool} (h : Lvm ar p n d j f F) {k : Nat} (hk : k < n) (he : F[k]? = some (d : Int)) : Dk ar p d k := by
  rcases h.val k hk with ⟨h1, _⟩ | ⟨e, _, h2, h3, _⟩ | ⟨_, h2, _⟩
  · rw [h1] at he; have := Option.some.inj he; omega
  · rw [h2] at he
    have : e = d := by have := Option.some.inj he; omega
    rwa [← this]
  · rw [h2] at he; have := Option.some.inj he; omega
theorem Lvm.new {j : Nat} {f : Bool} (h : Lvm ar p n d j f F) (hj : j < ar.length) (hin : z44 ar n) (h1 : F[ar[j].dst.toNat]? = some (d : Int)) (h2 : F[ar[j].src.toNat]? = some (-1)) : Lvm ar p n d (j + 1) true (F.set ar[j].src.toNat ((d + 1 : Nat) : Int)) := by
  obtain ⟨a1, a2, a3, a4⟩ := hin _ (List.getElem_mem hj)
  have hx : ar[j].src.toNat < F.length := by rw [h.len]; omega
  have hdk : Dk ar p (d + 1) (ar[j].src.toNat : Nat) := ⟨ar[j], List.getElem_mem hj, (Int.toNat_of_nonneg a1).symm, by
    have := h.dk (k := ar[j].dst.toNat) (by omega) h1
    rwa [Int.toNat_of_nonneg a3] at this⟩
  refine ⟨by simpa using h.len, fun k hk => ?_⟩
  by_cases e : k = ar[j].src.toNat
  · subst e
    refine .inr (.inr ⟨rfl, by rw [List.getElem?_set_self hx], hdk, ?_⟩)
    rcases h.val _ hk with ⟨_, g2, _⟩ | ⟨e, _, g2, _⟩ | ⟨_, g2, _⟩
    · exact fun e' he => g2 e' (by omega)
    · rw [g2] at h2; have := Option.some.inj h2; omega
    · rw [g2] at h2; have := Option.some.inj h2; omega
  · have hs : (F.set ar[j].src.toNat ((d + 1 : Nat) : Int))[k]? = F[k]? := List.getElem?_set_ne (fun h => e h.symm)
    rw [hs]
    rcases h.val k hk with ⟨g1, g2, g3⟩ | g1 | g1
    · refine .inl ⟨g1, g2, fun i hi a ha hsr => ?_⟩
      by_cases ei : i = j
      · subst ei
        rw [List.getElem?_eq_getElem hj] at ha
        cases ha
        exact absurd (by omega) e
      · by_cases hh : ar[j].src.toNat = a.dst.toNat
        · rw [← hh, List.getElem?_set_self hx]
          intro hc; have := Option.some.inj hc; omega
        · rw [List.getElem?_set_ne hh]
          exact g3 i (by omega) a ha hsr
    · exact .inr (.inl g1)
    · exact .inr (.inr ⟨rfl, g1.2⟩)
theorem Lvm.end_ {f : Bool} (h : Lvm ar p n d ar.length f F) (hin : z44 ar n) : Lvl ar p n (d + 1) F := ⟨h.len, fun k hk => by
  rcases h.val k hk with ⟨h1, h2, h3⟩ | ⟨e, he, h1⟩ | ⟨_, h1⟩
  · refine .inl ⟨h1, fun e he hd => ?_⟩
    by_cases e1 : e ≤ d
    · exact h2 e e1 hd
    · obtain rfl : e = d + 1 := by omega
      obtain ⟨a, ha, hs, hd2⟩ := hd
      obtain ⟨i, hi, rfl⟩ := List.mem_iff_getElem.1 ha
      obtain ⟨a1, a2, a3, a4⟩ := hin _ ha
      have hd3 : Dk ar p d (ar[i].dst.toNat : Nat) := by rw [Int.toNat_of_nonneg a3]; exact hd2
      rcases h.val ar[i].dst.toNat (by omega) with ⟨_, g2, _⟩ | ⟨e, g0, g1, g2, g3⟩ | ⟨_, _, _, g3⟩
      · exact g2 d (Nat.le_refl _) hd3
      · by_cases ed : e = d
        · subst ed
          exact h3 i hi _ (List.getElem?_eq_getElem hi) hs g1
        · rw [Int.toNat_of_nonneg a3] at g2
          exact h2 (e + 1) (by omega) ⟨ar[i], ha, hs, g2⟩
      · exact g3 d (by omega) hd3
  · exact .inr ⟨e, by omega, h1⟩
  · exact .inr ⟨d + 1, Nat.le_refl _, h1⟩⟩
theorem Lvm.done (h : Lvm ar p n d ar.length false F) (hin : z44 ar n) (hp : 0 ≤ p ∧ p < n) : isFar ar p n F := by
  have hl := h.end_ hin
  have key : ∀ (e k : Nat), k < n → Dk ar p e k → ∃ e' : Nat, e' ≤ d ∧ F[k]? = some (e' : Int) ∧ Dk ar p e' k := by
    intro e
    induction e with
    | zero =>
      intro k hk hd
      rcases h.val k hk with ⟨_, g2, _⟩ | ⟨e, g0, g1, g2, _⟩ | ⟨g, _⟩
      · exact absurd hd (g2 0 (by omega))
      · exact ⟨e, g0, g1, g2⟩
      · cases g
    | succ e ih =>
      rintro k hk ⟨a, ha, hs, hd⟩
      obtain ⟨a1, a2, a3, a4⟩ := hin a ha
      obtain ⟨e', e1, _, e3⟩ := ih a.dst.toNat (by omega) (by rw [Int.toNat_of_nonneg a3]; exact hd)
      rw [Int.toNat_of_nonneg a3] at e3
      have hd2 : Dk ar p (e' + 1) k := ⟨a, ha, hs, e3⟩
      rcases h.val k hk with ⟨g1, _, _⟩ | ⟨e, g0, g1, g2, _⟩ | ⟨g, _⟩
      · rcases hl.val k hk with ⟨_, q2⟩ | ⟨q, _, q1, _⟩
        · exact absurd hd2 (q2 _ (by omega))
        · rw [g1] at q1; have := Option.some.inj q1; omega
      · exact ⟨e, g0, g1, g2⟩
      · cases g
  refine ⟨h.len, fun k hk => ?_⟩
  rcases h.val k hk with ⟨h1, h2, _⟩ | ⟨e, _, h1, h2, h3⟩ | ⟨g, _⟩
  · refine .inl ⟨h1, fun e hd => ?_⟩
    obtain ⟨e', _, g1, _⟩ := key e k hk hd
    rw [h1] at g1; have := Option.some.inj g1; omega
  · exact .inr ⟨e, h1, h2, h3⟩
  · cases g
end
/-! ### Certificates -/
structure Crt where
  mks : List (List Int)
  stp : List Int
  rnk : List Int
def sortT (ms : List (List Int)) : List (List Int) := ms.foldl inOrd []
def vals (ms : List (List Int)) (S : List Int) : List Int := (sortT ms).map fun m => S.getD (findM ms m).toNat 0
end Go.Proofs.YtbaclnecajkknaaGreat.Pi
namespace Go.Proofs.YtbaclnecajkknaaGreat.Pi
open Go
set_option linter.all false

def negB (l : List Int) : Bool := l.any fun x => decide (x < 0)
def okAt (p : Int) (M : List (List Int)) (i : Nat) : Bool := goodM p (M.getD i []) && (decide (i = 0) || decide (cmpL (M.getD (i - 1) []) (M.getD i []) < 0))
def formB (p : Int) (c : Crt) : Bool := inB 1 400 c.mks.length && decide (c.stp.length = c.mks.length) && decide (c.rnk.length = c.mks.length) && !negB c.stp && !negB c.rnk && (List.range c.mks.length).all (okAt p c.mks)
/-! ### What arcs say of each place of a row -/
end Go.Proofs.YtbaclnecajkknaaGreat.Pi
namespace Go.Proofs.YtbaclnecajkknaaGreat.Pi
open Go
set_option linter.all false

def svC (c : Crt) (m : List Int) : Int := c.stp.getD (findM c.mks m).toNat 0
def rvC (c : Crt) (m : List Int) : Int := c.rnk.getD (findM c.mks m).toNat 0
structure Tkn (f : Fl) (c : Crt) : Prop where
  form : formB f.net.pl c = true
  start : oneM f.net.pl.toNat f.src ∈ c.mks
  step : ∀ m ∈ c.mks, ∀ t ∈ enabL f.net m, zg1 (trAt f.net t) m ∈ c.mks
  sv0 : svC c (oneM f.net.pl.toNat f.src) = 0
  reach : ∀ m ∈ c.mks, m ≠ oneM f.net.pl.toNat f.src → ∃ m' ∈ c.mks, ∃ t ∈ enabL f.net m', zg1 (trAt f.net t) m' = m ∧ svC c m' < svC c m
  sink : ∀ m ∈ c.mks, m ≠ oneM f.net.pl.toNat f.dst → ∃ t ∈ enabL f.net m, rvC c (zg1 (trAt f.net t) m) < rvC c m
  over : ∀ m ∈ c.mks, overB m (oneM f.net.pl.toNat f.dst) = false
  fin : oneM f.net.pl.toNat f.dst ∈ c.mks
  rv0 : rvC c (oneM f.net.pl.toNat f.dst) = 0
  used : ∀ t : Nat, t < f.net.tr.length → ∃ m ∈ c.mks, (t : Int) ∈ enabL f.net m
theorem zuo {T : List (List Int)} {m : List Int} (h : m ∈ T) : ∃ i, i < T.length ∧ T.getD i [] = m := by
  obtain ⟨i, hi, rfl⟩ := List.mem_iff_getElem.1 h
  exact ⟨i, hi, (zi5 hi).symm⟩
section
variable {n : Net} {c : Crt}
end
end Go.Proofs.YtbaclnecajkknaaGreat.Pi
namespace Go.Proofs.YtbaclnecajkknaaGreat.Pi
open Go
set_option linter.all false

/-! ### The own verdict shows that a flow is unsound -/
def stays (n : Net) (Z : List (List Int)) : Prop := ∀ z ∈ Z, ∀ t ∈ enabL n z, (zg1 (trAt n t) z).all (inB 0 50) = true ∧ zg1 (trAt n t) z ∈ Z
section
variable {n : Net} {Z : List (List Int)} {start : List Int} {b : Int}
end
end Go.Proofs.YtbaclnecajkknaaGreat.Pi
namespace Go.Proofs.YtbaclnecajkknaaGreat.Pi
open Go
set_option linter.all false

inductive Rch (n : Net) (s : List Int) : List Int → Prop
  | base : Rch n s s
  | step {m : List Int} {t : Int} (h : Rch n s m) (ht : t ∈ enabL n m) : Rch n s (zg1 (trAt n t) m)
theorem Rch.trans {n : Net} {a b c : List Int} (h : Rch n a b) (h' : Rch n b c) : Rch n a c := by
  induction h' with
  | base => exact h
  | step _ ht ih => exact ih.step ht
theorem Rch.head {n : Net} {m e : List Int} {t : Int} (ht : t ∈ enabL n m) (h : Rch n (zg1 (trAt n t) m) e) : Rch n m e := (Rch.base.step ht).trans h
structure Snd (f : Fl) : Prop where
  ends : ∀ m, Rch f.net (oneM f.net.pl.toNat f.src) m → Rch f.net m (oneM f.net.pl.toNat f.dst)
  over : ∀ m, Rch f.net (oneM f.net.pl.toNat f.src) m → overB m (oneM f.net.pl.toNat f.dst) = false
  used : ∀ t : Nat, t < f.net.tr.length → ∃ m, Rch f.net (oneM f.net.pl.toNat f.src) m ∧ (t : Int) ∈ enabL f.net m
section
variable {n : Net} {start : List Int} {b : Int}
theorem z1b3 (hm : zrn n start = true) (hb : 1 ≤ b) (hc : (exAll n start b).code = 0) : stays n (exAll n start b).sp.ms := by
  have h := (zdf hm hb).2 hc
  intro z hz t ht
  obtain ⟨k, hk, rfl⟩ := zuo hz
  exact h k hk hk t ht
end
/-! ### Two flows, marking by marking -/
structure Sim (f g : Fl) (R : List Int → List Int → Prop) : Prop where
  start : R (oneM f.net.pl.toNat f.src) (oneM g.net.pl.toNat g.src)
  step : ∀ m m' t, Rch f.net (oneM f.net.pl.toNat f.src) m → Rch g.net (oneM g.net.pl.toNat g.src) m' → R m m' → t ∈ enabL f.net m → ∃ m₂, Rch g.net m' m₂ ∧ R (zg1 (trAt f.net t) m) m₂
theorem Sim.from {f g : Fl} {R : List Int → List Int → Prop} (h : Sim f g R) {a a' m : List Int} (ha : Rch f.net (oneM f.net.pl.toNat f.src) a) (ha' : Rch g.net (oneM g.net.pl.toNat g.src) a') (hr : R a a') (hm : Rch f.net a m) : ∃ m', Rch g.net a' m' ∧ R m m' := by
  induction hm with
  | base => exact ⟨_, .base, hr⟩
  | step hm ht ih =>
    obtain ⟨m', h1, h2⟩ := ih
    obtain ⟨m₂, h3, h4⟩ := h.step _ m' _ (ha.trans hm) (ha'.trans h1) h2 ht
    exact ⟨m₂, h1.trans h3, h4⟩
end Go.Proofs.YtbaclnecajkknaaGreat.Pi
namespace Go.Proofs.YtbaclnecajkknaaGreat.Pi
open Go
set_option linter.all false

def stpK (n : Net) (x : List Int) (k : Nat) : List (List Int) := (n.tr.take k).filterMap fun t => if okB t x then some (backM t x) else none
def stpL (n : Net) (x : List Int) : List (List Int) := stpK n x n.tr.length
theorem z1cl (n : Net) (x : List Int) : stpK n x 0 = [] := rfl
theorem z1ck {n : Net} {x : List Int} {k : Nat} (hk : k < n.tr.length) (h : okB n.tr[k] x = true) : stpK n x (k + 1) = stpK n x k ++ [backM n.tr[k] x] := by
  unfold stpK; rw [z1e0 hk, List.filterMap_append]; simp [h]
theorem z1ci {n : Net} {x : List Int} {k : Nat} (hk : k < n.tr.length) (h : okB n.tr[k] x = false) : stpK n x (k + 1) = stpK n x k := by
  unfold stpK; rw [z1e0 hk, List.filterMap_append]; simp [h]
theorem z1cj (n : Net) (x : List Int) (k : Nat) : (stpK n x k).length ≤ k := by
  unfold stpK
  have := List.length_filterMap_le (fun t => if okB t x then some (backM t x) else none) (n.tr.take k)
  have := List.length_take_le k n.tr
  omega
theorem z1cm {n : Net} {x y : List Int} : y ∈ stpL n x ↔ ∃ t ∈ n.tr, okB t x = true ∧ backM t x = y := by
  unfold stpL stpK
  rw [List.take_length, List.mem_filterMap]
  constructor
  · rintro ⟨t, h1, h2⟩
    split at h2
    · rename_i h; exact ⟨t, h1, h, by simpa using h2⟩
    · cases h2
  · rintro ⟨t, h1, h2, h3⟩
    exact ⟨t, h1, by rw [if_pos h2, h3]⟩
def allS (n : Net) (l : List (List Int)) : List (List Int) := l.flatMap (stpL n)
theorem z2x {n : Net} {l : List (List Int)} {k : Nat} (hk : k < l.length) : allS n (l.take (k + 1)) = allS n (l.take k) ++ stpL n l[k] := by
  unfold allS; rw [z1e0 hk, List.flatMap_append]; simp
theorem z2v (n : Net) (l : List (List Int)) : (allS n l).length ≤ l.length * n.tr.length := by
  unfold allS
  induction l with
  | nil => simp
  | cons x l ih =>
    rw [List.flatMap_cons, List.length_append, List.length_cons, Nat.add_mul]
    have := z1cj n x n.tr.length
    have e : stpL n x = stpK n x n.tr.length := rfl
    rw [e]; omega
theorem z2w {n : Net} {l : List (List Int)} {y : List Int} : y ∈ allS n l ↔ ∃ x ∈ l, y ∈ stpL n x := by
  unfold allS; rw [List.mem_flatMap]
def inBox (l : List (List Int)) : Bool := l.all fun y => y.all (inB 0 50)
def nextB (n : Net) (l : List (List Int)) : List (List Int) := zow (l ++ allS n l)
abbrev upI (r : Int) : Int := IntKind.i64.wrap (r + 1)
def runB (n : Net) (b : Int) : Nat → List (List Int) → Int → Option (Option (List (List Int) × Int))
  | 0, _, _ => none
  | f + 1, l, r => if inBox (allS n l) = false then some none else if b < (nextB n l).length then some none else if nextB n l = l then some (some (l, r)) else runB n b f (nextB n l) (upI r)
theorem z16e {n : Net} {b : Int} {f : Nat} {l : List (List Int)} {r : Int} (h : inBox (allS n l) = false) : runB n b (f + 1) l r = some none := by
  rw [runB, if_pos h]
theorem z16d {n : Net} {b : Int} {f : Nat} {l : List (List Int)} {r : Int} (h : inBox (allS n l) = true) (h2 : b < (nextB n l).length) : runB n b (f + 1) l r = some none := by
  rw [runB, if_neg (by simp [h]), if_pos h2]
theorem z16f {n : Net} {b : Int} {f : Nat} {l : List (List Int)} {r : Int} (h : inBox (allS n l) = true) (h2 : ¬ b < (nextB n l).length) (h3 : nextB n l = l) : runB n b (f + 1) l r = some (some (l, r)) := by
  rw [runB, if_neg (by simp [h]), if_neg h2, if_pos h3]
theorem z16h {n : Net} {b : Int} {f : Nat} {l : List (List Int)} {r : Int} (h : inBox (allS n l) = true) (h2 : ¬ b < (nextB n l).length) (h3 : nextB n l ≠ l) : runB n b (f + 1) l r = runB n b f (nextB n l) (upI r) := by
  rw [runB, if_neg (by simp [h]), if_neg h2, if_neg h3]
structure Bas (n : Net) (l : List (List Int)) : Prop where
  lst : zow l = l
  good : ∀ x ∈ l, goodM n.pl x = true
  len : l.length ≤ 60
theorem zp2 (m : List Int) : zow [m] = [m] := by
  simp [zow, zot, zor, inOrd]
theorem Bas.first {n : Net} {m : List Int} (h : zrn n m = true) : Bas n [m] := ⟨zp2 m, by simpa using (zro h).2, by simp⟩
theorem zp0 (l : List (List Int)) : zow (zow l) = zow l := by
  obtain ⟨f1, f2, _⟩ := zoy l
  obtain ⟨g1, g2, _⟩ := zoy (zow l)
  refine z1b0 g1 f1 fun x => ?_
  rw [g2]
  refine ⟨fun h => h.1, fun h => ⟨h, ?_⟩⟩
  have := ((f2 x).1 h).2
  unfold zor at this ⊢
  rw [List.all_eq_true] at this ⊢
  exact fun y hy => this y ((f2 y).1 hy).1
theorem Bas.all {n : Net} {l : List (List Int)} (h : Bas n l) (hb : inBox (allS n l) = true) : ∀ x ∈ l ++ allS n l, goodM n.pl x = true := by
  intro x hx
  rcases List.mem_append.1 hx with hx | hx
  · exact h.good x hx
  · have h1 : x.all (inB 0 50) = true := by
      unfold inBox at hb; rw [List.all_eq_true] at hb; exact hb x hx
    obtain ⟨y, hy, hx2⟩ := z2w.1 hx
    obtain ⟨t, _, _, rfl⟩ := z1cm.1 hx2
    have := zim (h.good y hy)
    have e : inB 1 16 n.pl = true := by simp [inB]; omega
    simp only [goodM, e, h1, z54, Bool.true_and, Bool.and_true, beq_iff_eq]
    omega
theorem Bas.next {n : Net} {b : Int} {l : List (List Int)} (h : Bas n l) (hb : inBox (allS n l) = true) (h2 : ¬ b < (nextB n l).length) (h3 : b ≤ 60) : Bas n (nextB n l) :=
  ⟨zp0 _, fun x hx => h.all hb x (((zoy _).2.1 x).1 hx).1, by omega⟩
def above (l : List (List Int)) (d : List Int) : Bool := l.any fun x => zbg d x
theorem z1v {l : List (List Int)} {d : List Int} : above l d = true ↔ ∃ x ∈ l, zbg d x = true := by unfold above; rw [List.any_eq_true]
theorem z1w {n : Net} {l : List (List Int)} (hl : ∀ x ∈ l, goodM n.pl x = true) {d : List Int} (hd : d.length = n.pl.toNat) : above (zow l) d = above l d := by
  have hlen : ∀ x ∈ l, x.length = n.pl.toNat := fun x hx => by have := zim (hl x hx); omega
  rw [Bool.eq_iff_iff, z1v, z1v]
  constructor
  · rintro ⟨x, hx, hc⟩; exact ⟨x, (((zoy l).2.1 x).1 hx).1, hc⟩
  · rintro ⟨x, hx, hc⟩
    have := zp1 hlen (fun x hx y hy => ((zim (hl x hx)).2.2.2.2 y hy).1) hx
    obtain ⟨y, hy, hy2⟩ := List.any_eq_true.1 this
    have hyl := (((zoy l).2.1 y).1 hy).1
    exact ⟨y, hy, zbm (by rw [hd, hlen x hx]) (by rw [hlen x hx, hlen y hyl]) hc hy2⟩
theorem zp3 {n : Net} {l : List (List Int)} (h : Bas n l) (hb : inBox (allS n l) = true) (hc : ∀ y ∈ allS n l, above l y = true) : nextB n l = l := by
  obtain ⟨f1, f2, _⟩ := zoy (l ++ allS n l)
  obtain ⟨g1, g2, _⟩ := zoy l
  rw [h.lst] at g1 g2
  refine z1b0 f1 g1 fun x => ?_
  have hall := h.all hb
  have hlen : ∀ x ∈ l ++ allS n l, x.length = n.pl.toNat := fun x hx => by have := zim (hall x hx); omega
  unfold nextB
  rw [f2]
  constructor
  · rintro ⟨h1, h2⟩
    rcases List.mem_append.1 h1 with h1 | h1
    · exact h1
    · obtain ⟨y, hy, hy2⟩ := z1v.1 (hc x h1)
      unfold zor at h2
      rw [List.all_eq_true] at h2
      have := h2 y (List.mem_append.2 (.inl hy))
      simp only [hy2, Bool.not_true, Bool.false_or, decide_eq_true_eq] at this
      exact this ▸ hy
  · intro hx
    refine ⟨List.mem_append.2 (.inl hx), ?_⟩
    have hx2 := ((g2 x).1 hx).2
    unfold zor at hx2 ⊢
    rw [List.all_eq_true] at hx2 ⊢
    intro y hy
    rcases List.mem_append.1 hy with hy | hy
    · exact hx2 y hy
    · cases hxy : zbg x y with
      | false => simp
      | true =>
        obtain ⟨z, hz, hz2⟩ := z1v.1 (hc y hy)
        have hxz := zbm (by rw [hlen x (List.mem_append.2 (.inl hx)), hlen y (List.mem_append.2 (.inr hy))]) (by rw [hlen y (List.mem_append.2 (.inr hy)), hlen z (List.mem_append.2 (.inl hz))]) hxy hz2
        have := hx2 z hz
        simp only [hxz, Bool.not_true, Bool.false_or, decide_eq_true_eq] at this
        subst this
        have e : x = y := z4q (by rw [hlen x (List.mem_append.2 (.inl hx)), hlen y (List.mem_append.2 (.inr hy))]) fun p h0 hp => by
          have a1 := (zbi (by rw [hlen x (List.mem_append.2 (.inl hx)), hlen y (List.mem_append.2 (.inr hy))])).1 hxy p h0 hp
          have a2 := (zbi (by rw [hlen x (List.mem_append.2 (.inl hx)), hlen y (List.mem_append.2 (.inr hy))])).1 hz2 p h0 (by rw [hlen y (List.mem_append.2 (.inr hy)), ← hlen x (List.mem_append.2 (.inl hx))]; exact hp)
          omega
        simp [e]
def boxL : Nat → List (List Int)
  | 0 => [[]]
  | k + 1 => (boxL k).flatMap fun m => (List.range 51).map fun (i : Nat) => (i : Int) :: m
theorem z79 : ∀ {k : Nat} {m : List Int}, m.length = k → m.all (inB 0 50) = true → m ∈ boxL k
  | 0, [], _, _ => by simp [boxL]
  | 0, _ :: _, h, _ => by simp at h
  | _ + 1, [], h, _ => by simp at h
  | k + 1, x :: m, h, h2 => by
    rw [List.all_cons, Bool.and_eq_true] at h2
    have hx : 0 ≤ x ∧ x ≤ 50 := by simpa [inB] using h2.1
    unfold boxL
    rw [List.mem_flatMap]
    refine ⟨m, z79 (by simpa using h) h2.2, ?_⟩
    rw [List.mem_map]
    exact ⟨x.toNat, by simp; omega, by simp; omega⟩
theorem z78 : ∀ {k : Nat} {m : List Int}, m ∈ boxL k → m.length = k
  | 0, m, h => by simp [boxL] at h; simp [h]
  | k + 1, m, h => by
    unfold boxL at h
    rw [List.mem_flatMap] at h
    obtain ⟨m', h1, h2⟩ := h
    rw [List.mem_map] at h2
    obtain ⟨i, _, rfl⟩ := h2
    simp [z78 h1]
def outs (p : Nat) (l : List (List Int)) : Nat := ((boxL p).filter fun d => !above l d).length
theorem zfo {α : Type} {l : List α} {p q : α → Bool} (h : ∀ x ∈ l, q x = true → p x = true) : (l.filter q).length ≤ (l.filter p).length ∧ ∀ x ∈ l, p x = true → q x = false → (l.filter q).length < (l.filter p).length := by
  induction l with
  | nil => simp
  | cons a l ih =>
    obtain ⟨i1, i2⟩ := ih fun x hx => h x (by simp [hx])
    have ha := h a (by simp)
    rw [List.filter_cons, List.filter_cons]
    cases hq : q a with
    | true =>
      rw [ha hq]
      simp only [if_true, List.length_cons]
      refine ⟨by omega, fun x hx h1 h2 => ?_⟩
      rcases List.mem_cons.1 hx with rfl | hx
      · rw [hq] at h2; cases h2
      · have := i2 x hx h1 h2; omega
    | false =>
      cases hp : p a with
      | true =>
        simp only [if_true, Bool.false_eq_true, if_false, List.length_cons]
        exact ⟨by omega, fun _ _ _ _ => by omega⟩
      | false =>
        simp only [Bool.false_eq_true, if_false]
        refine ⟨i1, fun x hx h1 h2 => ?_⟩
        rcases List.mem_cons.1 hx with rfl | hx
        · rw [hp] at h1; cases h1
        · exact i2 x hx h1 h2
theorem zys {n : Net} {l : List (List Int)} (h : Bas n l) (hb : inBox (allS n l) = true) (hn : nextB n l ≠ l) : outs n.pl.toNat (nextB n l) < outs n.pl.toNat l := by
  have hall := h.all hb
  obtain ⟨y, hy, hy2⟩ : ∃ y ∈ allS n l, above l y = false := Classical.byContradiction fun hc => hn (zp3 h hb fun y hy => by
    cases e : above l y with
    | true => rfl
    | false => exact absurd ⟨y, hy, e⟩ hc)
  have hyg := zim (hall y (List.mem_append.2 (.inr hy)))
  have hsub : ∀ d : List Int, d.length = n.pl.toNat → above l d = true → above (nextB n l) d = true := by
    intro d hd ha
    unfold nextB
    rw [z1w hall hd, z1v]
    obtain ⟨x, hx, hc⟩ := z1v.1 ha
    exact ⟨x, List.mem_append.2 (.inl hx), hc⟩
  unfold outs
  refine (zfo fun d hd hq => ?_).2 y (z79 (by omega) ?_) (by simp [hy2]) ?_
  · simp only [Bool.not_eq_true'] at hq ⊢
    cases e : above l d with
    | false => rfl
    | true => rw [hsub d (z78 hd) e] at hq; cases hq
  · rw [List.all_eq_true]; intro x hx
    have := hyg.2.2.2.2 x hx
    simp [inB]; omega
  · have : above (nextB n l) y = true := by
      unfold nextB
      rw [z1w hall (by omega), z1v]
      exact ⟨y, List.mem_append.2 (.inr hy), zbk y⟩
    simp [this]
theorem z16i {n : Net} {b : Int} (h3 : b ≤ 60) : ∀ (f : Nat) (l : List (List Int)) (r : Int), Bas n l → outs n.pl.toNat l < f → ∃ v, runB n b f l r = some v
  | 0, _, _, _, h => by omega
  | f + 1, l, r, hl, hf => by
    cases hb : inBox (allS n l) with
    | false => exact ⟨_, z16e hb⟩
    | true =>
      by_cases h2 : b < (nextB n l).length
      · exact ⟨_, z16d hb h2⟩
      · by_cases hn : nextB n l = l
        · exact ⟨_, z16f hb h2 hn⟩
        · rw [z16h hb h2 hn]
          have := zys hl hb hn
          exact z16i h3 f _ _ (hl.next hb h2 h3) (by omega)
theorem z16g {n : Net} {b : Int} {m : List Int} (h3 : b ≤ 60) (Z : List (List Int)) (hZ : ∀ d ∈ Z, ∀ t ∈ n.tr, ∀ x, goodM n.pl x = true → okB t x = true → zbg d (backM t x) = true → ∃ e ∈ Z, zbg e x = true) : ∀ (f : Nat) (l : List (List Int)) (r : Int) (l' : List (List Int)) (r' : Int), Bas n l → runB n b f l r = some (some (l', r')) → above l m = true → (∀ d ∈ Z, d.length = n.pl.toNat) → m.length = n.pl.toNat → (∀ d ∈ Z, above l d = true → ∃ e ∈ Z, zbg e m = true) →
    Bas n l' ∧ above l' m = true ∧ nextB n l' = l' ∧ inBox (allS n l') = true ∧ (∀ d ∈ Z, above l' d = true → ∃ e ∈ Z, zbg e m = true)
  | 0, _, _, _, _, _, h, _, _, _, _ => by cases h
  | f + 1, l, r, l', r', hl, h, ha, hz, hm, hc => by
    cases hb : inBox (allS n l) with
    | false => rw [z16e hb] at h; cases h
    | true =>
      by_cases h2 : b < (nextB n l).length
      · rw [z16d hb h2] at h; cases h
      · by_cases hn : nextB n l = l
        · rw [z16f hb h2 hn] at h
          cases h
          exact ⟨hl, ha, hn, hb, hc⟩
        · rw [z16h hb h2 hn] at h
          have hall := hl.all hb
          refine z16g h3 Z hZ f _ _ l' r' (hl.next hb h2 h3) h ?_ hz hm ?_
          · unfold nextB
            rw [z1w hall hm, z1v]
            obtain ⟨x, hx, hx2⟩ := z1v.1 ha
            exact ⟨x, List.mem_append.2 (.inl hx), hx2⟩
          · intro d hd hda
            unfold nextB at hda
            rw [z1w hall (hz d hd), z1v] at hda
            obtain ⟨x, hx, hx2⟩ := hda
            rcases List.mem_append.1 hx with hx | hx
            · exact hc d hd (z1v.2 ⟨x, hx, hx2⟩)
            · obtain ⟨y, hy, hx3⟩ := z2w.1 hx
              obtain ⟨t, ht, hok, rfl⟩ := z1cm.1 hx3
              obtain ⟨e, he, he2⟩ := hZ d hd t ht y (hl.good y hy) hok hx2
              exact hc e he (z1v.2 ⟨y, hy, he2⟩)
theorem z1u {t : Tr} {p : Int} {x d : List Int} (ht : goodT p t = true) (hx : goodM p x = true) (hd : goodM p d = true) (ho : okB t x = true) (hc : zbg d (backM t x) = true) : canT t d = true ∧ zbg (zg1 t d) x = true := by
  have lx := zim hx
  have ld := zim hd
  rw [zbi (by rw [z54]; omega)] at hc
  have key : ∀ q : Int, 0 ≤ q → q.toNat < x.length → at_ (backM t x) q ≤ at_ d q := fun q hq hl => hc q hq (by omega)
  have lt := zj2 ht (by omega : (d.length : Int) = p)
  constructor
  · unfold canT
    rw [List.all_eq_true]
    intro q hq
    obtain ⟨h0, h1⟩ := lt.1 q hq
    have := key q h0 (by omega)
    rw [z4j h0 (by omega), zjk, zjk, if_pos hq] at this
    simp only [Bool.not_eq_true', beq_eq_false_iff_ne, ne_eq]
    omega
  · rw [zbi (by rw [zg3]; omega)]
    intro q hq hl
    rw [zg3] at hl
    have k1 := key q hq (by omega)
    rw [z4j hq (by omega), zjk, zjk] at k1
    rw [z4t ht ld.2.2.1 hq]
    have hs := zuq ho (k := q.toNat) (by omega)
    simp only [z1cp, zjk, Int.toNat_of_nonneg hq] at hs
    by_cases hr : q ∈ t.rst
    · simp only [hasB, hr, decide_true, Bool.true_and, decide_eq_false_iff_not] at hs
      simp only [hr, if_true]; omega
    · simp only [hr, if_false]
      split <;> split <;> simp_all <;> omega
theorem z1x {n : Net} {start : List Int} {b : Int} {l : List (List Int)} (ho : ExOk n start b (exAll n start b)) (hl : Bas n l) (hbx : inBox (allS n l) = true) (hn : nextB n l = l) :
    ∀ (K k : Nat), k < K → k < (exAll n start b).sp.ms.length → above l ((exAll n start b).sp.ms.getD k []) = true → above l start = true
  | 0, _, h, _, _ => by omega
  | K + 1, k, hkK, hk, ha => by
    rcases Nat.eq_zero_or_pos k with rfl | h0
    · have := ho.first
      rw [List.getD_eq_getElem?_getD, this] at ha; exact ha
    · obtain ⟨i, hi, e1, e2, _⟩ := ho.back k h0 hk
      obtain ⟨a1, a2, a3, a4, a5, a6⟩ := ho.arcs _ (List.getElem_mem hi)
      generalize (exAll n start b).sp.ar[i] = a at *
      refine z1x ho hl hbx hn K a.src.toNat (by omega) a2 ?_
      rw [e1, Int.toNat_natCast] at a6
      rw [a6] at ha
      obtain ⟨y, hy, hc⟩ := z1v.1 ha
      obtain ⟨h1, h2⟩ := Bool.and_eq_true .. ▸ a5
      obtain ⟨g1, g2, g3, g4, g5, g6⟩ := z8e h1
      have hmy : zrn n y = true := by simp only [zrn, g1, hl.good y hy, Bool.and_self]
      obtain ⟨s1, s2⟩ := z1bh hmy a5 hc
      obtain ⟨_, _, _, _, _, s3, _⟩ := zvu s1
      have hin : backM (trAt n a.by_) y ∈ allS n l := z2w.2 ⟨y, hy, z1cm.2 ⟨trAt n a.by_, by rw [← z1ed g4]; exact List.getElem_mem _, s3, rfl⟩⟩
      have hall := hl.all hbx
      have hgm := zim (hall _ (List.mem_append.2 (.inr hin)))
      have h4 : above (nextB n l) (backM (trAt n a.by_) y) = true := by
        unfold nextB
        rw [z1w hall (by omega), z1v]
        exact ⟨_, List.mem_append.2 (.inr hin), zbk _⟩
      rw [hn] at h4
      obtain ⟨z, hz, hz2⟩ := z1v.1 h4
      have l1 := zim g2
      have l2 := zim (hl.good y hy)
      have l3 := zim (hl.good z hz)
      exact z1v.2 ⟨z, hz, zbm (by omega) (by omega) s2 hz2⟩
theorem z55 {n : Net} {start m : List Int} {b B : Int} {f : Nat} {l : List (List Int)} {r : Int} (h : runB n b f [m] 0 = some (some (l, r))) (hb : b ≤ 60) (hm : zrn n m = true) (hs : zrn n start = true) (hB : 1 ≤ B) (hc : (exAll n start B).code = 0) :
    ((exAll n start B).sp.ms.any fun x => zbg x m) = above l start := by
  have hst := z1b3 hs hB hc
  have ho := (zdf hs hB).1
  have lm := zim (zro hm).2
  have hgn := (zro hm).1
  have hlen : ∀ d ∈ (exAll n start B).sp.ms, d.length = n.pl.toNat := fun d hd => by have := zim (zro (ho.good d hd)).2; omega
  obtain ⟨f1, f2, f3, f4, f5⟩ := z16g hb (exAll n start B).sp.ms (fun d hd t ht x hx ho2 hcv => by
    obtain ⟨k, hk, rfl⟩ := List.mem_iff_getElem.1 ht
    have hgd := (zro (ho.good d hd)).2
    obtain ⟨c1, c2⟩ := z1u ((ziv hgn).2.2.2 _ ht) hx hgd ho2 hcv
    have e : n.tr[k] = trAt n (k : Int) := by rw [← z1ed (by simpa using hk)]; simp
    rw [e] at c1 c2
    exact ⟨_, (hst d hd (k : Int) (zcu.2 ⟨by omega, by simpa using hk, c1⟩)).2, c2⟩) f [m] 0 l r (Bas.first hm) h (m := m) (by simp [above, zbk]) hlen (by omega) (fun d hd ha => ⟨d, hd, by simpa [above] using ha⟩)
  rw [Bool.eq_iff_iff, List.any_eq_true]
  constructor
  · rintro ⟨e, he, hce⟩
    obtain ⟨k, hk, rfl⟩ := List.mem_iff_getElem.1 he
    refine z1x ho f1 f4 f3 (k + 1) k (by omega) hk ?_
    rw [← zi5 hk]
    obtain ⟨x, hx, hx2⟩ := z1v.1 f2
    have l1 := hlen _ he
    have l2 := zim (f1.good x hx)
    exact z1v.2 ⟨x, hx, zbm (by omega) (by omega) hce hx2⟩
  · intro ha
    refine f5 start ?_ ha
    exact List.mem_iff_getElem?.2 ⟨0, ho.first⟩
end Go.Proofs.YtbaclnecajkknaaGreat.Pi
