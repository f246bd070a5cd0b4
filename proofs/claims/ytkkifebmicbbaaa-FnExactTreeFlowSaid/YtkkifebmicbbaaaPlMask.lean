/- Plain laws of sets as masks. -/
import Derived.Test.YtkkifebmicbbaaaPlFlow
import Derived.Laws.BitsLemmas
namespace Go.Proofs.Ytkkifebmicbbaaa.Pi
open Go
set_option linter.all false

@[go_sem] theorem bin_andNot {bl : Bool} {k : IntKind} {x y : Int} : binV bl .andNot (.int k x) (.int k y) = some (.int k (bits .andNot k x y)) := by simp [binV, binI]
/-- Places as a mask. -/

def maskN (l : List Int) : Nat := l.foldl (fun a p => a ||| 2 ^ p.toNat) 0
theorem maskN_take {l : List Int} {k : Nat} (hk : k < l.length) : maskN (l.take (k + 1)) = maskN (l.take k) ||| 2 ^ l[k].toNat := by
  unfold maskN; rw [foldl_snoc _ _ hk]
theorem maskF_bit {l : List Int} (h : ∀ p ∈ l, 0 ≤ p) (i : Nat) : ∀ a : Nat, (l.foldl (fun a p => a ||| 2 ^ p.toNat) a).testBit i = (a.testBit i || hasB l i) := by
  induction l with
  | nil => intro a; simp [hasB]
  | cons p l ih =>
    intro a
    rw [List.foldl_cons, ih (fun q hq => h q (by simp [hq])), Nat.testBit_or, Nat.testBit_two_pow]
    have hp := h p (by simp)
    have e : decide (p.toNat = i) = decide ((i : Int) = p) := by rw [decide_eq_decide]; omega
    rw [e]
    simp only [hasB, List.mem_cons]
    by_cases h1 : (i : Int) = p <;> simp [h1]
theorem maskN_bit {l : List Int} (h : ∀ p ∈ l, 0 ≤ p) (i : Nat) : (maskN l).testBit i = hasB l i := by
  unfold maskN; rw [maskF_bit h]; simp
theorem maskN_lt {l : List Int} {q : Nat} (h : ∀ p ∈ l, 0 ≤ p ∧ p < q) : maskN l < 2 ^ q := by
  apply Nat.lt_pow_two_of_testBit
  intro i hi
  rw [maskN_bit (fun p hp => (h p hp).1)]
  unfold hasB
  rw [decide_eq_false_iff_not]
  intro hm
  have := (h _ hm).2; omega
theorem incr_ext : ∀ {a b : List Int}, a.Pairwise (· < ·) → b.Pairwise (· < ·) → (∀ x, x ∈ a ↔ x ∈ b) → a = b
  | [], [], _, _, _ => rfl
  | [], y :: b, _, _, h => by have := (h y).2 (by simp); simp at this
  | x :: a, [], _, _, h => by have := (h x).1 (by simp); simp at this
  | x :: a, y :: b, ha, hb, h => by
    rw [List.pairwise_cons] at ha hb
    have hxy : x = y := by
      have h1 := (h x).1 (by simp)
      have h2 := (h y).2 (by simp)
      rcases List.mem_cons.1 h1 with h1 | h1
      · exact h1
      · rcases List.mem_cons.1 h2 with h2 | h2
        · exact h2.symm
        · have := hb.1 x h1; have := ha.1 y h2; omega
    subst hxy
    congr 1
    refine incr_ext ha.2 hb.2 (fun z => ?_)
    constructor
    · intro hz
      rcases List.mem_cons.1 ((h z).1 (by simp [hz])) with h1 | h1
      · have := ha.1 z hz; omega
      · exact h1
    · intro hz
      rcases List.mem_cons.1 ((h z).2 (by simp [hz])) with h1 | h1
      · have := hb.1 z hz; omega
      · exact h1
theorem maskN_inj {a b : List Int} (ha : incr a = true) (hb : incr b = true) (ha0 : ∀ p ∈ a, 0 ≤ p) (hb0 : ∀ p ∈ b, 0 ≤ p) (h : maskN a = maskN b) : a = b := by
  refine incr_ext (by simpa [incr] using ha) (by simpa [incr] using hb) (fun x => ?_)
  have key : ∀ i : Nat, hasB a i = hasB b i := fun i => by rw [← maskN_bit ha0, ← maskN_bit hb0, h]
  constructor
  · intro hx
    have := key x.toNat
    rw [show ((x.toNat : Nat) : Int) = x by have := ha0 x hx; omega] at this
    have h2 : hasB a x = true := by simp [hasB, hx]
    rw [h2] at this
    simpa [hasB] using this.symm
  · intro hx
    have := key x.toNat
    rw [show ((x.toNat : Nat) : Int) = x by have := hb0 x hx; omega] at this
    have h2 : hasB b x = true := by simp [hasB, hx]
    rw [h2] at this
    simpa [hasB] using this
theorem mask_meet {a b : List Int} (ha : ∀ p ∈ a, 0 ≤ p) (hb : ∀ p ∈ b, 0 ≤ p) : meetB a b = decide ((maskN a &&& maskN b) ≠ 0) := by
  rw [Bool.eq_iff_iff]
  simp only [decide_eq_true_eq, meetB, List.any_eq_true]
  constructor
  · rintro ⟨x, hx, hy⟩ h0
    have h1 : (maskN a &&& maskN b).testBit x.toNat = true := by
      rw [Nat.testBit_and, maskN_bit ha, maskN_bit hb, show ((x.toNat : Nat) : Int) = x by have := ha x hx; omega, hy]
      simp [hasB, hx]
    rw [h0] at h1; simp at h1
  · intro h0
    obtain ⟨i, hi⟩ := Nat.exists_testBit_of_ne_zero h0
    rw [Nat.testBit_and, maskN_bit ha, maskN_bit hb, Bool.and_eq_true] at hi
    exact ⟨i, by simpa [hasB] using hi.1, hi.2⟩
theorem wraps_i62 (n : Int) (h0 : 0 ≤ n) (h1 : n < 2 ^ 62) : IntKind.i64.wrap n = n := by rw [IntKind.wrap_i64]; omega
theorem and_i64 {a b : Nat} (ha : a < 2 ^ 62) (hb : b < 2 ^ 62) : bits .and .i64 (a : Int) (b : Int) = ((a &&& b : Nat) : Int) := (bits_nat .i64 62 (by decide) wraps_i62 a b ha hb).1
theorem or_i64 {a b : Nat} (ha : a < 2 ^ 62) (hb : b < 2 ^ 62) : bits .or .i64 (a : Int) (b : Int) = ((a ||| b : Nat) : Int) := (bits_nat .i64 62 (by decide) wraps_i62 a b ha hb).2
theorem andNot_i64 {a b : Nat} (ha : a < 2 ^ 62) (hb : b < 2 ^ 62) : bits .andNot .i64 (a : Int) (b : Int) = ((a &&& (2 ^ 64 - (b + 1)) : Nat) : Int) := by
  have hx : a &&& (2 ^ 64 - (b + 1)) ≤ a := Nat.and_le_left
  show IntKind.i64.wrap ((BitVec.ofInt 64 (a : Int) &&& ~~~BitVec.ofInt 64 (b : Int)).toNat : Int) = _
  rw [BitVec.toNat_and, BitVec.toNat_not, BitVec.ofInt_natCast, BitVec.ofInt_natCast, BitVec.toNat_ofNat, BitVec.toNat_ofNat, Nat.mod_eq_of_lt (by omega : a < 2 ^ 64), Nat.mod_eq_of_lt (by omega : b < 2 ^ 64), show 2 ^ 64 - 1 - b = 2 ^ 64 - (b + 1) by omega]
  exact wraps_i62 _ (by omega) (by omega)
/-- A set without some places. -/
def wout (set l : List Int) : List Int := set.filter fun p => !hasB l p
theorem wout_sub {set l : List Int} : ∀ p ∈ wout set l, p ∈ set := fun p hp => (List.mem_filter.1 hp).1
theorem wout_incr {set l : List Int} (h : incr set = true) : incr (wout set l) = true := by
  simp only [incr, decide_eq_true_eq] at h ⊢
  exact h.filter _
theorem wout_mask {set l : List Int} (hs : ∀ p ∈ set, 0 ≤ p ∧ p < 62) (hl : ∀ p ∈ l, 0 ≤ p ∧ p < 62) : maskN set &&& (2 ^ 64 - (maskN l + 1)) = maskN (wout set l) := by
  apply Nat.eq_of_testBit_eq
  intro i
  have hlt : maskN l < 2 ^ 64 := Nat.lt_of_lt_of_le (maskN_lt (q := 62) hl) (by decide)
  rw [Nat.testBit_and, Nat.testBit_two_pow_sub_succ hlt, maskN_bit (fun p hp => (hs p hp).1), maskN_bit (fun p hp => (hl p hp).1), maskN_bit (fun p hp => (hs p (wout_sub p hp)).1)]
  simp only [hasB, wout, List.mem_filter]
  by_cases h1 : (i : Int) ∈ set
  · have := (hs _ h1).2
    have h2 : i < 64 := by omega
    by_cases h3 : (i : Int) ∈ l <;> simp [h1, h2, h3]
  · simp [h1]
theorem wout_lt {set l : List Int} (h : meetB l set = true) : (wout set l).length < set.length := by
  have h1 : (wout set l).length ≤ set.length := List.length_filter_le _ _
  rcases Nat.lt_or_ge (wout set l).length set.length with h2 | h2
  · exact h2
  · exfalso
    have h3 := List.length_filter_eq_length_iff.1 (show (set.filter fun p => !hasB l p).length = set.length from Nat.le_antisymm h1 h2)
    simp only [meetB, List.any_eq_true] at h
    obtain ⟨x, hx, hy⟩ := h
    have h4 := h3 x (by simpa [hasB] using hy)
    simp [hasB, hx] at h4
/-- The elements below a bound. -/
def below (l : List Int) (k : Nat) : List Int := l.filter fun p => decide (p < k)
theorem below_zero {l : List Int} (h : ∀ p ∈ l, 0 ≤ p) : below l 0 = [] := by
  unfold below
  rw [List.filter_eq_nil_iff]
  intro p hp
  have := h p hp
  simp; omega
theorem below_succ : ∀ {l : List Int} {k : Nat}, l.Pairwise (· < ·) → below l (k + 1) = below l k ++ (if (k : Int) ∈ l then [(k : Int)] else [])
  | [], k, _ => by simp [below]
  | x :: l, k, h => by
    rw [List.pairwise_cons] at h
    have ih := below_succ (l := l) (k := k) h.2
    unfold below at ih ⊢
    rcases Int.lt_trichotomy x k with h1 | h1 | h1
    · have a1 : decide (x < ((k + 1 : Nat) : Int)) = true := by simp; omega
      have a2 : decide (x < (k : Int)) = true := by simp; omega
      have a3 : (k : Int) ∈ x :: l ↔ (k : Int) ∈ l := by simp; omega
      simp only [List.filter_cons, a1, a2, if_true, ih, a3, List.cons_append]
    · have a1 : decide (x < ((k + 1 : Nat) : Int)) = true := by simp; omega
      have a2 : decide (x < (k : Int)) = false := by simp; omega
      have a4 : l.filter (fun p => decide (p < (k : Int))) = [] := by
        rw [List.filter_eq_nil_iff]; intro p hp; have := h.1 p hp; simp; omega
      have a5 : (k : Int) ∉ l := fun hk => by have := h.1 _ hk; omega
      simp only [List.filter_cons, a1, a2, if_true, ih, Bool.false_eq_true, if_false, a4, a5]
      simp [h1]
    · have a1 : decide (x < ((k + 1 : Nat) : Int)) = false := by simp; omega
      have a2 : decide (x < (k : Int)) = false := by simp; omega
      have a3 : (k : Int) ∈ x :: l ↔ (k : Int) ∈ l := by simp; omega
      simp only [List.filter_cons, a1, a2, Bool.false_eq_true, if_false, ih, a3]
theorem below_all {l : List Int} {k : Nat} (h : ∀ p ∈ l, p < k) : below l k = l := by
  unfold below
  rw [List.filter_eq_self]
  intro p hp
  have := h p hp
  simp; omega
theorem below_len (l : List Int) (k : Nat) : (below l k).length ≤ l.length := List.length_filter_le _ _
theorem mask_shift {l : List Int} (h : ∀ p ∈ l, 0 ≤ p) (k : Nat) (h0 : maskN l / 2 ^ k = 0) : ∀ p ∈ l, p < k := by
  intro p hp
  have h1 : maskN l < 2 ^ k := Nat.lt_of_div_eq_zero (Nat.two_pow_pos k) h0
  rcases Int.lt_or_le p k with h2 | h2
  · exact h2
  · exfalso
    have h3 := maskN_bit h p.toNat
    rw [show ((p.toNat : Nat) : Int) = p by have := h p hp; omega, Nat.testBit_lt_two_pow (Nat.lt_of_lt_of_le h1 (Nat.pow_le_pow_right (by decide) (by omega)))] at h3
    simp [hasB, hp] at h3
theorem mask_odd {l : List Int} (h : ∀ p ∈ l, 0 ≤ p) (k : Nat) : hasB l k = decide (maskN l / 2 ^ k % 2 = 1) := by
  rw [← maskN_bit h, Nat.testBit_eq_decide_div_mod_eq]
end Go.Proofs.Ytkkifebmicbbaaa.Pi
