/- Plain laws of counted bits. -/
import Derived.Test.YtldlbpdbbbajfaaPlKept
namespace Go.Proofs.Ytldlbpdbbbajfaa.Pi
open Go
set_option linter.all false

theorem wraps_u63 (n : Int) (h0 : 0 ≤ n) (h1 : n < 2 ^ 63) : IntKind.u64.wrap n = n := by rw [IntKind.wrap_u64]; omega
theorem and_u64 {a b : Nat} (ha : a < 2 ^ 63) (hb : b < 2 ^ 63) : bits .and .u64 (a : Int) (b : Int) = ((a &&& b : Nat) : Int) := (bits_nat .u64 63 (by decide) wraps_u63 a b ha hb).1
/-- What the bit trick computes. -/
def pop1 (v : Nat) : Nat := (v / 2 &&& 6148914691236517205) + (v &&& 6148914691236517205)
def pop2 (v : Nat) : Nat := (v / 4 &&& 3689348814741910323) + (v &&& 3689348814741910323)
def pop4 (v : Nat) : Nat := (v / 16 + v) &&& 1085102592571150095
def pop8 (v : Nat) : Nat := v + v / 256
def pop16 (v : Nat) : Nat := v + v / 65536
def pop32 (v : Nat) : Nat := v + v / 4294967296
def popN (v : Nat) : Nat := pop32 (pop16 (pop8 (pop4 (pop2 (pop1 v))))) &&& 127
/-- The bits below 10 that are set. -/
def cntB (v : Nat) : Nat := ((List.range 10).filter v.testBit).length
theorem popN_cnt : ∀ v, v < 1024 → popN v = cntB v := by decide +kernel
theorem pop_small : ∀ v, v < 1024 → pop1 v < 1024 ∧ pop2 (pop1 v) < 1024 ∧ pop4 (pop2 (pop1 v)) < 1024 ∧ pop8 (pop4 (pop2 (pop1 v))) < 1024 ∧ pop16 (pop8 (pop4 (pop2 (pop1 v)))) < 1024 ∧ pop32 (pop16 (pop8 (pop4 (pop2 (pop1 v))))) < 1024 := by decide +kernel
theorem and_c {u : Nat} (hu : u < 2 ^ 63) (c : Nat) (hc : c < 2 ^ 63) : bits .and .u64 (u : Int) (c : Int) = ((u &&& c : Nat) : Int) := and_u64 hu hc
theorem and_le {u c : Nat} : u &&& c ≤ u := Nat.and_le_left
theorem st1 {u : Nat} (hu : u < 1024) : IntKind.u64.wrap (bits .and .u64 ((u : Int) / 2 ^ min (Int.toNat 1) 64) 6148914691236517205 + bits .and .u64 (u : Int) 6148914691236517205) = (pop1 u : Int) := by
  rw [show (u : Int) / 2 ^ min (Int.toNat 1) 64 = ((u / 2 : Nat) : Int) from rfl, show (6148914691236517205 : Int) = ((6148914691236517205 : Nat) : Int) from rfl, and_c (by omega) _ (by decide), and_c (by omega) _ (by decide)]
  have h1 := @and_le (u / 2) 6148914691236517205
  have h2 := @and_le u 6148914691236517205
  unfold pop1
  rw [IntKind.wrap_u64]; omega
theorem st2 {u : Nat} (hu : u < 1024) : IntKind.u64.wrap (bits .and .u64 ((u : Int) / 2 ^ min (Int.toNat 2) 64) 3689348814741910323 + bits .and .u64 (u : Int) 3689348814741910323) = (pop2 u : Int) := by
  rw [show (u : Int) / 2 ^ min (Int.toNat 2) 64 = ((u / 4 : Nat) : Int) from rfl, show (3689348814741910323 : Int) = ((3689348814741910323 : Nat) : Int) from rfl, and_c (by omega) _ (by decide), and_c (by omega) _ (by decide)]
  have h1 := @and_le (u / 4) 3689348814741910323
  have h2 := @and_le u 3689348814741910323
  unfold pop2
  rw [IntKind.wrap_u64]; omega
theorem st4 {u : Nat} (hu : u < 1024) : bits .and .u64 (IntKind.u64.wrap ((u : Int) / 2 ^ min (Int.toNat 4) 64 + (u : Int))) 1085102592571150095 = (pop4 u : Int) := by
  rw [show (u : Int) / 2 ^ min (Int.toNat 4) 64 = ((u / 16 : Nat) : Int) from rfl, show IntKind.u64.wrap (((u / 16 : Nat) : Int) + (u : Int)) = ((u / 16 + u : Nat) : Int) by rw [IntKind.wrap_u64]; omega, show (1085102592571150095 : Int) = ((1085102592571150095 : Nat) : Int) from rfl, and_c (by omega) _ (by decide)]
  rfl
theorem st8 {u : Nat} (hu : u < 1024) : IntKind.u64.wrap ((u : Int) + (u : Int) / 2 ^ min (Int.toNat 8) 64) = (pop8 u : Int) := by
  rw [show (u : Int) / 2 ^ min (Int.toNat 8) 64 = ((u / 256 : Nat) : Int) from rfl, IntKind.wrap_u64]; unfold pop8; omega
theorem st16 {u : Nat} (hu : u < 1024) : IntKind.u64.wrap ((u : Int) + (u : Int) / 2 ^ min (Int.toNat 16) 64) = (pop16 u : Int) := by
  rw [show (u : Int) / 2 ^ min (Int.toNat 16) 64 = ((u / 65536 : Nat) : Int) from rfl, IntKind.wrap_u64]; unfold pop16; omega
theorem st32 {u : Nat} (hu : u < 1024) : IntKind.u64.wrap ((u : Int) + (u : Int) / 2 ^ min (Int.toNat 32) 64) = (pop32 u : Int) := by
  rw [show (u : Int) / 2 ^ min (Int.toNat 32) 64 = ((u / 4294967296 : Nat) : Int) from rfl, IntKind.wrap_u64]; unfold pop32; omega
/-- Bits in a list of places and a row of bits. -/
theorem cntB_zero : ∀ v, v < 1 → cntB v = 0 := by decide
theorem cntB_len {v : Nat} (hv : v < 1024) : cntB v = (setN v).length := by
  unfold cntB setN
  rw [List.length_map, show List.range 20 = List.range 10 ++ (List.range 10).map (10 + ·) by decide, List.filter_append, List.length_append]
  have : ((List.range 10).map (10 + ·)).filter v.testBit = [] := by
    rw [List.filter_eq_nil_iff]
    intro x hx
    simp only [List.mem_map, List.mem_range] at hx
    obtain ⟨i, hi, rfl⟩ := hx
    rw [Nat.testBit_lt_two_pow (Nat.lt_of_lt_of_le hv (show 1024 ≤ 2 ^ (10 + i) from Nat.pow_le_pow_right (n := 2) (i := 10) (by decide) (by omega)))]
    decide
  rw [this]; rfl
theorem rowF_at {l : List Int} : ∀ {x : List Int} {p : Int}, inside x l → 0 ≤ p → at_ (l.foldl (fun a p => a.set p.toNat 1) x) p = if p ∈ l then 1 else at_ x p := by
  induction l with
  | nil => intros; simp
  | cons q l ih =>
    intro x p hx hp
    rw [List.foldl_cons, ih (fun r hr => by simp; exact hx r (by simp [hr])) hp, at_set (hx q (by simp)) hp]
    by_cases h1 : p ∈ l
    · simp [h1]
    · by_cases h2 : p = q
      · simp [h2]
      · simp [h1, h2]
theorem at_rowW {n : Net} {r : Nat} (hr : r < 2 ^ n.pl.toNat) {p : Int} (hp : 0 ≤ p ∧ p < 20) : at_ (rowW n r) p = if r.testBit p.toNat then 1 else 0 := by
  unfold rowW
  rw [rowF_at (fun q hq => by have := setN_lt hr q hq; simp; omega) hp.1]
  have h1 := setN_has (r := r) p.toNat (by omega)
  rw [show ((p.toNat : Nat) : Int) = p by omega] at h1
  have h2 : at_ (List.replicate n.pl.toNat 0) p = 0 := by
    simp [at_, List.getD_eq_getElem?_getD, List.getElem?_replicate]; split <;> rfl
  rw [h2, ← h1]
  simp [hasB]
theorem sumA_row {n : Net} {r : Nat} (hr : r < 2 ^ n.pl.toNat) : ∀ {l : List Int}, (∀ p ∈ l, 0 ≤ p ∧ p < 20) → sumA (rowW n r) l = ((l.filter fun p => r.testBit p.toNat).length : Nat)
  | [], _ => by simp [sumA]
  | p :: l, h => by
    rw [sumA_cons, sumA_row hr (fun q hq => h q (by simp [hq])), at_rowW hr (h p (by simp)), List.filter_cons]
    cases r.testBit p.toNat with
    | true => simp; omega
    | false => simp
theorem setN_and {r : Nat} {l : List Int} (hi : incr l = true) (h : ∀ p ∈ l, 0 ≤ p ∧ p < 20) : setN (maskN l &&& r) = l.filter fun p => r.testBit p.toNat := by
  have h1 := setN_incr (maskN l &&& r)
  refine incr_ext (by simpa [incr] using h1) ((by simpa [incr] using hi : l.Pairwise (· < ·)).filter _) fun x => ?_
  rw [List.mem_filter]
  by_cases hx : 0 ≤ x ∧ x < 20
  · have h2 := setN_has (r := maskN l &&& r) x.toNat (by omega)
    have h3 := maskN_bit (fun p hp => (h p hp).1) x.toNat
    rw [Nat.testBit_and, h3, show ((x.toNat : Nat) : Int) = x by omega] at h2
    have h4 : (x ∈ setN (maskN l &&& r)) ↔ hasB (setN (maskN l &&& r)) x = true := by simp [hasB]
    rw [h4, h2]; simp [hasB]
  · constructor
    · intro h2; exact absurd (setN_in _ x h2) hx
    · intro h2; exact absurd (h x h2.1) hx
theorem cnt_row {n : Net} {r : Nat} (h10 : n.pl ≤ 10) (hr : r < 2 ^ n.pl.toNat) {l : List Int} (hp : places n.pl l = true) : (cntB (maskN l &&& r) : Int) = sumA (rowW n r) l := by
  have h1 := places_in hp
  have h2 : ∀ p ∈ l, 0 ≤ p ∧ p < 20 := fun p hp => by have := h1 p hp; omega
  have h3 : maskN l &&& r < 1024 := by
    have h4 : 2 ^ n.pl.toNat ≤ 2 ^ 10 := Nat.pow_le_pow_right (by decide) (by omega)
    have h5 : maskN l &&& r ≤ r := Nat.and_le_right
    omega
  rw [cntB_len h3, setN_and (places_incr hp) h2, sumA_row hr h2]
theorem andNot_zero {x r : Nat} (hx : x < 2 ^ 62) (hr : r < 2 ^ 62) : (x &&& (2 ^ 64 - (r + 1)) = 0) ↔ (x &&& r = x) := by
  constructor
  · intro h
    apply Nat.eq_of_testBit_eq
    intro i
    have h1 : (x &&& (2 ^ 64 - (r + 1))).testBit i = false := by rw [h]; simp
    rw [Nat.testBit_and, Nat.testBit_two_pow_sub_succ (by omega)] at h1
    rw [Nat.testBit_and]
    by_cases hi : i < 64
    · simp [hi] at h1
      cases hb : x.testBit i with
      | false => simp
      | true => simp [h1 hb]
    · rw [Nat.testBit_lt_two_pow (Nat.lt_of_lt_of_le hx (Nat.pow_le_pow_right (by decide) (by omega)))]; simp
  · intro h
    apply Nat.eq_of_testBit_eq
    intro i
    rw [Nat.testBit_and, Nat.testBit_two_pow_sub_succ (by omega)]
    have h1 : (x &&& r).testBit i = x.testBit i := by rw [h]
    rw [Nat.testBit_and] at h1
    cases hx : x.testBit i with
    | false => simp
    | true => rw [hx] at h1; simp at h1; simp [h1]
/-- All places of some sets. -/
def orL (L : List Nat) : Nat := L.foldl (fun a r => a ||| r) 0
theorem orL_take {L : List Nat} {k : Nat} (hk : k < L.length) : orL (L.take (k + 1)) = orL (L.take k) ||| L[k] := by
  unfold orL; rw [foldl_snoc _ _ hk]
theorem orF_bit {L : List Nat} (i : Nat) : ∀ a : Nat, (L.foldl (fun a r => a ||| r) a).testBit i = (a.testBit i || L.any fun r => r.testBit i) := by
  induction L with
  | nil => intro a; simp
  | cons r L ih => intro a; rw [List.foldl_cons, ih, Nat.testBit_or, List.any_cons, Bool.or_assoc]
theorem orL_bit (L : List Nat) (i : Nat) : (orL L).testBit i = L.any fun r => r.testBit i := by
  unfold orL; rw [orF_bit]; simp
theorem orF_lt {q : Nat} : ∀ {L : List Nat} {a : Nat}, a < 2 ^ q → (∀ r ∈ L, r < 2 ^ q) → L.foldl (fun a r => a ||| r) a < 2 ^ q
  | [], _, ha, _ => ha
  | r :: L, a, ha, h => by
    rw [List.foldl_cons]
    exact orF_lt (Nat.or_lt_two_pow ha (h r (by simp))) (fun u hu => h u (by simp [hu]))
theorem orL_lt {q : Nat} {L : List Nat} (h : ∀ r ∈ L, r < 2 ^ q) : orL L < 2 ^ q := orF_lt (Nat.pow_pos (by decide)) h
theorem markB_at {l : List Int} : ∀ {P : List Bool} {i : Nat}, (∀ p ∈ l, 0 ≤ p ∧ p.toNat < P.length) → (markB P l).getD i false = (P.getD i false || hasB l i) := by
  unfold markB
  induction l with
  | nil => intros; simp [hasB]
  | cons q l ih =>
    intro P i h
    have hq := h q (by simp)
    rw [List.foldl_cons, ih (fun p hp => by simp; exact h p (by simp [hp]))]
    by_cases e : i = q.toNat
    · subst e
      have e2 : ((q.toNat : Nat) : Int) = q := by omega
      have : (P.set q.toNat true).getD q.toNat false = true := by simp [hq.2]
      rw [this]; simp [hasB, e2]
    · have : (P.set q.toNat true).getD i false = P.getD i false := by simp [List.getElem?_set, Ne.symm e]
      rw [this]
      have h3 : hasB (q :: l) i = hasB l i := by
        have : ¬ ((i : Int) = q) := by omega
        simp [hasB, this]
      rw [h3]
def inL (n : Net) (L : List Nat) : List Bool := L.foldl (fun a r => markB a (setN r)) (List.replicate n.pl.toNat false)
theorem inF_len (L : List Nat) : ∀ P : List Bool, (L.foldl (fun a r => markB a (setN r)) P).length = P.length := by
  induction L with
  | nil => intro P; rfl
  | cons r L ih => intro P; rw [List.foldl_cons, ih, markB_len]
theorem inL_len (n : Net) (L : List Nat) : (inL n L).length = n.pl.toNat := by unfold inL; rw [inF_len]; simp
theorem inL_take {n : Net} {L : List Nat} {k : Nat} (hk : k < L.length) : inL n (L.take (k + 1)) = markB (inL n (L.take k)) (setN L[k]) := by
  unfold inL; rw [foldl_snoc _ _ hk]
theorem inF_at {q : Nat} {L : List Nat} (h : ∀ r ∈ L, r < 2 ^ q) {i : Nat} (hi : i < 20) : ∀ {P : List Bool}, P.length = q → (L.foldl (fun a r => markB a (setN r)) P).getD i false = (P.getD i false || L.any fun r => r.testBit i) := by
  induction L with
  | nil => intros; simp
  | cons r L ih =>
    intro P hP
    rw [List.foldl_cons, ih (fun u hu => h u (by simp [hu])) (by rw [markB_len, hP]), markB_at (fun p hp => by have := setN_lt (h r (by simp)) p hp; omega), setN_has i hi, List.any_cons, Bool.or_assoc]
def keptB (n : Net) : Bool := decide (orL (smallI n) = 2 ^ n.pl.toNat - 1)
theorem inL_all {n : Net} {L : List Nat} (hp : n.pl ≤ 20) (h : ∀ r ∈ L, r < 2 ^ n.pl.toNat) : (inL n L).all id = decide (orL L = 2 ^ n.pl.toNat - 1) := by
  have key : ∀ i, i < n.pl.toNat → (inL n L).getD i false = (orL L).testBit i := fun i hi => by
    unfold inL
    rw [inF_at h (by omega) (by simp), orL_bit]
    have : (List.replicate n.pl.toNat false).getD i false = false := by
      simp [List.getD_eq_getElem?_getD, List.getElem?_replicate]; split <;> rfl
    rw [this]; simp
  have hlen := inL_len n L
  by_cases e : orL L = 2 ^ n.pl.toNat - 1
  · rw [decide_eq_true e, List.all_eq_true]
    intro x hx
    obtain ⟨i, hi, rfl⟩ := List.getElem_of_mem hx
    have := key i (by omega)
    rw [e, Nat.testBit_two_pow_sub_one] at this
    rw [getD_eq hi, this]; simp; omega
  · rw [decide_eq_false e]
    cases ha : (inL n L).all id with
    | false => rfl
    | true =>
      exfalso; apply e
      apply Nat.eq_of_testBit_eq
      intro i
      rw [Nat.testBit_two_pow_sub_one]
      by_cases hi : i < n.pl.toNat
      · rw [← key i hi, decide_eq_true hi]
        rw [List.all_eq_true] at ha
        have := ha _ (List.getElem_mem (show i < (inL n L).length by omega))
        rw [getD_eq] at this
        simpa using this
      · rw [decide_eq_false hi]
        exact Nat.testBit_lt_two_pow (Nat.lt_of_lt_of_le (orL_lt h) (Nat.pow_le_pow_right (by decide) (by omega)))
theorem smK_min {f : Nat → Bool} : ∀ (k : Nat), (smK f k).Pairwise fun x r => x < r ∧ ¬ (x &&& r = x)
  | 0 => by simp [smK]
  | k + 1 => by
    rw [smK_succ]; unfold smStep
    split
    · rename_i h
      rw [List.pairwise_append]
      refine ⟨smK_min k, by simp, fun x hx y hy => ?_⟩
      simp only [List.mem_cons, List.not_mem_nil, or_false] at hy
      subst hy
      have h1 := smK_in f k x hx
      have h2 := List.all_eq_true.1 (Bool.and_eq_true_iff.1 h).2 x hx
      exact ⟨by omega, by simpa using h2⟩
    · exact smK_min k
theorem smK_has {f : Nat → Bool} : ∀ (k : Nat), ∀ r ∈ smK f k, f r = true
  | 0, r, h => by simp [smK] at h
  | k + 1, r, h => by
    rw [smK_succ] at h; unfold smStep at h
    split at h
    · rename_i h0
      rw [List.mem_append] at h
      rcases h with h | h
      · exact smK_has k r h
      · simp only [List.mem_cons, List.not_mem_nil, or_false] at h
        subst h; exact (Bool.and_eq_true_iff.1 h0).1
    · exact smK_has k r h
theorem smK_within {f : Nat → Bool} {k i j : Nat} (hi : i < (smK f k).length) (hj : j < (smK f k).length) (hij : i ≠ j) : ¬ ((smK f k)[j] &&& (smK f k)[i] = (smK f k)[j]) := by
  have h := List.pairwise_iff_getElem.1 (smK_min (f := f) k)
  rcases Nat.lt_or_gt_of_ne hij with h1 | h1
  · have h2 := h i j hi hj h1
    have h3 : (smK f k)[j] &&& (smK f k)[i] ≤ (smK f k)[i] := Nat.and_le_right
    omega
  · exact (h j i hj hi h1).2
theorem within_and {x r : Nat} (hx : x < 2 ^ 20) (h : withinB (setN x) (setN r) = true) : x &&& r = x := by
  apply Nat.eq_of_testBit_eq
  intro i
  rw [Nat.testBit_and]
  by_cases hi : i < 20
  · cases hb : x.testBit i with
    | false => simp
    | true =>
      have h1 := setN_has (r := x) i hi
      rw [hb] at h1
      have h2 := List.all_eq_true.1 h (i : Int) (by simpa [hasB] using h1)
      rw [setN_has i hi] at h2
      simp [h2]
  · rw [Nat.testBit_lt_two_pow (Nat.lt_of_lt_of_le hx (Nat.pow_le_pow_right (by decide) (by omega)))]; simp
theorem setN_ne {r : Nat} (h : 1 ≤ r ∧ r < 2 ^ 20) : setN r ≠ [] := by
  intro e
  have := setN_mask h.2
  rw [e] at this
  simp [maskN] at this; omega
/-- A weighed marking of 0/1 weights is at most the total, and at least each weighed place. -/
theorem wt_le {w m : List Int} (hw : ∀ x ∈ w, 0 ≤ x ∧ x ≤ 1) (hm : ∀ x ∈ m, 0 ≤ x) (hl : w.length = m.length) : wt w m ≤ sumI m ∧ 0 ≤ wt w m := by
  unfold wt
  induction w generalizing m with
  | nil => cases m with
    | nil => simp [sumI]
    | cons b m => simp at hl
  | cons a w ih => cases m with
    | nil => simp at hl
    | cons b m =>
      rw [List.zipWith_cons_cons, sumI_cons, sumI_cons]
      have h1 := ih (m := m) (fun x hx => hw x (by simp [hx])) (fun x hx => hm x (by simp [hx])) (by simpa using hl)
      have h2 := hw a (by simp)
      have h3 := hm b (by simp)
      rcases (by omega : a = 0 ∨ a = 1) with rfl | rfl
      · simp; omega
      · simp; omega
theorem wt_ge {w m : List Int} (hw : ∀ x ∈ w, 0 ≤ x ∧ x ≤ 1) (hm : ∀ x ∈ m, 0 ≤ x) (hl : w.length = m.length) {i : Nat} (hi : i < m.length) (h1 : w.getD i 0 = 1) : m[i] ≤ wt w m := by
  have h2 := wt_set hl hi 0
  have h3 := (wt_le (m := m.set i 0) hw (fun x hx => by
    rcases mem_set' hx with hx | hx
    · exact hm x hx
    · omega) (by simpa using hl)).2
  rw [h1] at h2
  have h4 : m.getD i 0 = m[i] := by simp [hi]
  omega
theorem kept_total {n : Net} {m l : List Int} (hs : okSm n = true) (hk : keptB n = true) (hg : goodN n = true) (hr : hasR n = false) (hm : m.length = n.pl.toNat) (hm0 : ∀ x ∈ m, 0 ≤ x) (hx0 : ∀ x ∈ fsq n m l, 0 ≤ x) (hl : ∀ t ∈ l, 0 ≤ t ∧ t.toNat < n.tr.length) : ∀ x ∈ fsq n m l, x ≤ sumI m := by
  intro x hx
  obtain ⟨i, hi, rfl⟩ := List.getElem_of_mem hx
  have hxl := fsq_len n m l
  have hp10 : n.pl ≤ 10 := by simp [okSm] at hs; exact hs.2
  have hb : (orL (smallI n)).testBit i = true := by
    rw [of_decide_eq_true hk, Nat.testBit_two_pow_sub_one]; simp; omega
  rw [orL_bit, List.any_eq_true] at hb
  obtain ⟨r, hr1, hr2⟩ := hb
  have hin := smK_in (fun r => isInv n (rowW n r)) (2 ^ n.pl.toNat - 1) r hr1
  have hiv : isInv n (rowW n r) = true := smK_has (2 ^ n.pl.toNat - 1) r hr1
  have hrl : r < 2 ^ n.pl.toNat := by have : 0 < 2 ^ n.pl.toNat := Nat.pow_pos (by decide); omega
  have hrw := rowW_in n r
  have e := wt_fsq hg hr (w := rowW n r) hrw.1 hiv hm hl
  have h1 := wt_le (w := rowW n r) (m := m) hrw.2 hm0 (by omega)
  have ha := at_rowW hrl (p := i) (by omega)
  have h2 := wt_ge (w := rowW n r) (m := fsq n m l) hrw.2 hx0 (by omega) hi (by
    rw [show ((i : Int)).toNat = i from rfl, hr2, if_pos rfl] at ha
    exact ha)
  omega
theorem and_one {x : Int} (h0 : 0 ≤ x) (h1 : x < 2 ^ 62) : 0 ≤ bits .and .i64 x 1 ∧ bits .and .i64 x 1 ≤ 1 := by
  obtain ⟨y, rfl⟩ : ∃ y : Nat, x = y := ⟨x.toNat, by omega⟩
  have h := and_i64 (a := y) (b := 1) (by omega) (by decide)
  have h2 : y &&& 1 ≤ 1 := Nat.and_le_right
  rw [show ((1 : Nat) : Int) = 1 from rfl] at h
  rw [h]; omega
theorem shr_le {z : Int} (k : Nat) (h0 : 0 ≤ z) : 0 ≤ z / 2 ^ k ∧ z / 2 ^ k ≤ z :=
  ⟨Int.ediv_nonneg h0 (by exact Int.le_of_lt (Int.pow_pos (by decide))), Int.ediv_le_self _ h0⟩
def smallS (n : Net) : List Nat := smK (fun r => isS n true (setN r)) (2 ^ n.pl.toNat - 1)
theorem smK_least {f : Nat → Bool} : ∀ (k : Nat) {r : Nat}, 1 ≤ r → r ≤ k → f r = true → ∃ x ∈ smK f k, x &&& r = x
  | 0, r, h1, h2, _ => by omega
  | k + 1, r, h1, h2, hf => by
    rw [smK_succ]; unfold smStep
    by_cases h : r ≤ k
    · obtain ⟨x, hx, hx2⟩ := smK_least k h1 h hf
      refine ⟨x, ?_, hx2⟩
      split
      · exact List.mem_append.2 (.inl hx)
      · exact hx
    · have : r = k + 1 := by omega
      subst this
      cases ha : (smK f k).all (fun x => !decide (x &&& (k + 1) = x)) with
      | true => exact ⟨k + 1, by simp [hf], Nat.and_self _⟩
      | false =>
        rw [List.all_eq_false] at ha
        obtain ⟨x, hx, hx2⟩ := ha
        exact ⟨x, by simp [hf, hx], by simpa using hx2⟩
theorem smallI_in {n : Net} (h10 : n.pl ≤ 10) : (∀ r ∈ smallI n, 1 ≤ r ∧ r < 2 ^ n.pl.toNat ∧ r < 2 ^ 20) ∧ (smallI n).length < 2 ^ 20 := by
  have h1 := smK_in (fun r => isInv n (rowW n r)) (2 ^ n.pl.toNat - 1)
  have h2 := smK_len (fun r => isInv n (rowW n r)) (2 ^ n.pl.toNat - 1)
  have h3 : 2 ^ n.pl.toNat ≤ 2 ^ 10 := Nat.pow_le_pow_right (by decide) (by omega)
  have h4 : 0 < 2 ^ n.pl.toNat := Nat.pow_pos (by decide)
  unfold smallI
  exact ⟨fun r hr => by have := h1 r hr; omega, by omega⟩
theorem okSm_parts {n : Net} (h : okSm n = true) : goodN n = true ∧ hasR n = false ∧ n.pl ≤ 10 := by
  simp [okSm, plainN] at h; exact ⟨h.1.1, h.1.2, h.2⟩
end Go.Proofs.Ytldlbpdbbbajfaa.Pi
