/- Plain laws of invariants: weights that firings keep, and what counted firings change. -/
import Derived.Test.YtblolnhajgmbdaaPlSiph
namespace Go.Proofs.Ytblolnhajgmbdaa.Pi
open Go
set_option linter.all false

/-- A list adds c on each of its places. -/
def addL (c : Int) (x l : List Int) : List Int := l.foldl (fun a p => a.set p.toNat (at_ a p + c)) x
theorem addL_take {c : Int} {x l : List Int} {k : Nat} (hk : k < l.length) : addL c x (l.take (k + 1)) = (addL c x (l.take k)).set l[k].toNat (at_ (addL c x (l.take k)) l[k] + c) := by
  unfold addL; rw [foldl_snoc _ _ hk]
theorem addL_len (c : Int) (x l : List Int) : (addL c x l).length = x.length := by
  unfold addL
  induction l generalizing x with
  | nil => rfl
  | cons p l ih => rw [List.foldl_cons, ih]; simp
theorem at_addL {c : Int} {l : List Int} : ∀ {x : List Int} {p : Int}, inside x l → 0 ≤ p → at_ (addL c x l) p = at_ x p + c * (l.count p : Nat) := by
  unfold addL
  induction l with
  | nil => intros; simp
  | cons q l ih =>
    intro x p hm hp
    rw [List.foldl_cons, ih (fun r hr => by simp; exact hm r (by simp [hr])) hp, at_set (hm q (by simp)) hp, List.count_cons]
    by_cases h : p = q
    · subst h; simp [Int.mul_add]; omega
    · have : (q == p) = false := by simp; omega
      simp [h, this]
theorem addL_bound {x l : List Int} {c B C : Int} (h : ∀ y ∈ x, -B ≤ y ∧ y ≤ B) (hc : -C ≤ c ∧ c ≤ C) (hl : ∀ p ∈ l, p.toNat < x.length) : ∀ y ∈ addL c x l, -(B + C * l.length) ≤ y ∧ y ≤ B + C * l.length := by
  unfold addL
  induction l generalizing x B with
  | nil => intro y hy; have := h y hy; simp; omega
  | cons p l ih =>
    rw [List.foldl_cons]
    have hp := at_bound h (hl p (by simp))
    intro y hy
    have h2 := ih (x := x.set p.toNat (at_ x p + c)) (B := B + C) (by
      intro z hz
      rcases mem_set' hz with hz | hz
      · have := h z hz; omega
      · omega) (by intro q hq; simp; exact hl q (by simp [hq])) y hy
    have e : C * ((p :: l).length : Nat) = C * (l.length : Nat) + C := by rw [List.length_cons, Int.natCast_add, Int.mul_add]; simp
    omega
/-- What a transition changes on a place. -/
def dT (t : Tr) (p : Int) : Int := (t.out.count p : Nat) - (t.inn.count p : Nat)
def chStep (c : Int) (t : Tr) (x : List Int) : List Int := addL c (addL (-c) x t.inn) t.out
def chStep2 (c : Int) (t : Tr) (x : List Int) : List Int := addL (-c) (addL c x t.out) t.inn
theorem chStep_len (c : Int) (t : Tr) (x : List Int) : (chStep c t x).length = x.length := by unfold chStep; rw [addL_len, addL_len]
theorem at_chStep {c : Int} {t : Tr} {x : List Int} {p : Int} (h1 : inside x t.inn) (h2 : inside x t.out) (hp : 0 ≤ p) : at_ (chStep c t x) p = at_ x p + c * dT t p := by
  unfold chStep dT
  rw [at_addL (inside_mono h2 (addL_len ..)) hp, at_addL h1 hp, Int.neg_mul, Int.mul_sub]; omega
theorem at_chStep2 {c : Int} {t : Tr} {x : List Int} {p : Int} (h1 : inside x t.inn) (h2 : inside x t.out) (hp : 0 ≤ p) : at_ (chStep2 c t x) p = at_ x p + c * dT t p := by
  unfold chStep2 dT
  rw [at_addL (inside_mono h1 (addL_len ..)) hp, at_addL h2 hp, Int.neg_mul, Int.mul_sub]; omega
theorem chStep_eq {c : Int} {t : Tr} {x : List Int} (h1 : inside x t.inn) (h2 : inside x t.out) : chStep2 c t x = chStep c t x := by
  refine at_ext (by unfold chStep2 chStep; simp [addL_len]) fun p hp _ => ?_
  rw [at_chStep h1 h2 hp, at_chStep2 h1 h2 hp]
def chK (n : Net) (c : List Int) (k : Nat) : List Int := (List.range k).foldl (fun (x : List Int) (i : Nat) => chStep (at_ c i) (trN n i) x) (List.replicate n.pl.toNat 0)
def chN (n : Net) (c : List Int) : List Int := chK n c n.tr.length
theorem chK_succ (n : Net) (c : List Int) (k : Nat) : chK n c (k + 1) = chStep (at_ c k) (trN n k) (chK n c k) := by
  unfold chK; rw [List.range_succ, List.foldl_append]; rfl
theorem chK_len (n : Net) (c : List Int) (k : Nat) : (chK n c k).length = n.pl.toNat := by
  induction k with
  | zero => simp [chK]
  | succ k ih => rw [chK_succ, chStep_len, ih]
theorem trN_good {n : Net} (hg : goodN n = true) {k : Nat} (hk : k < n.tr.length) : goodT n.pl (trN n k) = true := by
  rw [trN_eq hk]; exact (goodN_parts hg).2.2.2 _ (List.getElem_mem hk)
theorem trN_in {n : Net} (hg : goodN n = true) {k : Nat} (hk : k < n.tr.length) {x : List Int} (hx : x.length = n.pl.toNat) : inside x (trN n k).inn ∧ inside x (trN n k).out := by
  have h1 := goodN_parts hg
  have h2 := goodT_inside (m := x) (trN_good hg hk) (by omega)
  exact ⟨h2.1, h2.2.1⟩
theorem chK_bound {n : Net} (hg : goodN n = true) {c : List Int} (hc : ∀ x ∈ c, 0 ≤ x ∧ x ≤ 1000) (hl : c.length = n.tr.length) {k : Nat} (hk : k ≤ n.tr.length) : ∀ x ∈ chK n c k, -(32000 * k : Int) ≤ x ∧ x ≤ 32000 * k := by
  induction k with
  | zero => intro x hx; simp [chK] at hx; omega
  | succ k ih =>
    have hi := trN_in hg (show k < n.tr.length by omega) (chK_len n c k)
    have h1 := goodN_parts hg
    have hs := goodT_lens (trN_good hg (show k < n.tr.length by omega)) (by omega)
    have hck := at_bound (p := k) hc (by simp; omega)
    have b1 := addL_bound (l := (trN n k).inn) (c := -at_ c k) (C := 1000) (ih (by omega)) (by omega) (fun p hp => (hi.1 p hp).2)
    have b2 := addL_bound (l := (trN n k).out) (c := at_ c k) (C := 1000) b1 (by omega) (fun p hp => by rw [addL_len]; exact (hi.2 p hp).2)
    rw [chK_succ]
    intro x hx
    have := b2 x hx
    omega
/-- The change of a place by counted firings. -/
def chS (n : Net) (f : Nat → Int) (p : Int) : Nat → Int
  | 0 => 0
  | k + 1 => chS n f p k + f k * dT (trN n k) p
theorem at_chK {n : Net} (hg : goodN n = true) {c : List Int} {p : Int} (hp : 0 ≤ p) : ∀ {k : Nat}, k ≤ n.tr.length → at_ (chK n c k) p = chS n (fun i => at_ c i) p k
  | 0, _ => by simp [chK, chS, at_, List.getD_eq_getElem?_getD, List.getElem?_replicate]; split <;> rfl
  | k + 1, hk => by
    have hi := trN_in hg (show k < n.tr.length by omega) (chK_len n c k)
    rw [chK_succ, at_chStep hi.1 hi.2 hp, at_chK hg hp (by omega)]; rfl
theorem chS_add (n : Net) (f g : Nat → Int) (p : Int) : ∀ k, chS n (fun i => f i + g i) p k = chS n f p k + chS n g p k
  | 0 => rfl
  | k + 1 => by
    show chS n (fun i => f i + g i) p k + (f k + g k) * dT (trN n k) p = (chS n f p k + f k * dT (trN n k) p) + (chS n g p k + g k * dT (trN n k) p)
    rw [chS_add n f g p k, Int.add_mul]; omega
theorem chS_zero (n : Net) (p : Int) : ∀ k, chS n (fun _ => 0) p k = 0
  | 0 => rfl
  | k + 1 => by show chS n (fun _ => 0) p k + 0 * _ = 0; rw [chS_zero n p k]; simp
theorem chS_ext {n : Net} {f g : Nat → Int} {p : Int} : ∀ {k : Nat}, (∀ i, i < k → f i = g i) → chS n f p k = chS n g p k
  | 0, _ => rfl
  | k + 1, h => by
    show chS n f p k + f k * _ = chS n g p k + g k * _
    rw [chS_ext (fun i hi => h i (by omega)), h k (by omega)]
theorem chS_one (n : Net) (t : Nat) (p : Int) : ∀ k, chS n (fun i => if i = t then 1 else 0) p k = if t < k then dT (trN n t) p else 0
  | 0 => rfl
  | k + 1 => by
    show chS n _ p k + (if k = t then 1 else 0) * dT (trN n k) p = _
    rw [chS_one n t p k]
    by_cases h : k = t
    · subst h; simp
    · have h2 : (t < k + 1) ↔ t < k := by omega
      simp [h, h2]
def seqD (n : Net) (p : Int) : List Int → Int
  | [] => 0
  | t :: l => dT (trAt n t) p + seqD n p l
theorem chS_seq (n : Net) (p : Int) : ∀ {l : List Int}, (∀ t ∈ l, 0 ≤ t ∧ t.toNat < n.tr.length) → chS n (fun i => ((l.count (i : Int) : Nat) : Int)) p n.tr.length = seqD n p l
  | [], _ => by simp only [List.count_nil]; exact chS_zero n p _
  | t :: l, h => by
    have ht := h t (by simp)
    rw [chS_ext (g := fun i => ((l.count (i : Int) : Nat) : Int) + (if i = t.toNat then 1 else 0)) (fun i _ => by
      rw [List.count_cons]
      by_cases e : i = t.toNat
      · subst e
        have : (t == ((t.toNat : Nat) : Int)) = true := by simp; omega
        rw [if_pos this, if_pos rfl]; simp
      · have : (t == (i : Int)) = false := by simp; omega
        rw [if_neg (by simp [this]), if_neg e]; simp)]
    rw [chS_add n (fun i => ((l.count (i : Int) : Nat) : Int)) (fun i => if i = t.toNat then 1 else 0), chS_seq n p (fun u hu => h u (by simp [hu])), chS_one, if_pos ht.2]
    show _ = dT (trN n t.toNat) p + seqD n p l
    omega
theorem at_fire {t : Tr} {m : List Int} {p : Int} (h1 : inside m t.inn) (h2 : inside m t.out) (hr : t.rst = []) (hp : 0 ≤ p) : at_ (firedM t m) p = at_ m p + dT t p := by
  unfold firedM dT
  rw [hr]
  show at_ (incL (decL m t.inn) t.out) p = _
  rw [at_incL (inside_mono h2 (decL_len ..)) hp, at_decL h1 hp]; omega
theorem trAt_facts {n : Net} (hg : goodN n = true) (hr : hasR n = false) {t : Int} (ht : 0 ≤ t ∧ t.toNat < n.tr.length) {m : List Int} (hm : m.length = n.pl.toNat) : inside m (trAt n t).inn ∧ inside m (trAt n t).out ∧ (trAt n t).rst = [] := by
  have h1 := trN_in (x := m) hg ht.2 hm
  refine ⟨h1.1, h1.2, ?_⟩
  rw [← trAt_eq ht.2]; exact hasR_no hr ht.2
theorem at_fsq {n : Net} (hg : goodN n = true) (hr : hasR n = false) {p : Int} (hp : 0 ≤ p) : ∀ {l m : List Int}, m.length = n.pl.toNat → (∀ t ∈ l, 0 ≤ t ∧ t.toNat < n.tr.length) → at_ (fsq n m l) p = at_ m p + seqD n p l
  | [], m, _, _ => by simp [fsq, seqD]
  | t :: l, m, hm, h => by
    have hf := trAt_facts hg hr (h t (by simp)) hm
    show at_ (fsq n (firedM (trAt n t) m) l) p = _
    rw [at_fsq hg hr hp (by rw [firedM_len, hm]) (fun u hu => h u (by simp [hu])), at_fire hf.1 hf.2.1 hf.2.2 hp]
    show _ = at_ m p + (dT (trAt n t) p + seqD n p l)
    omega
/-- How often each transition is in a list. -/
def cntN (n : Net) (l : List Int) : List Int := incL (List.replicate n.tr.length 0) l
theorem cntN_len (n : Net) (l : List Int) : (cntN n l).length = n.tr.length := by unfold cntN; rw [incL_len]; simp
theorem at_cntN {n : Net} {l : List Int} (h : ∀ t ∈ l, 0 ≤ t ∧ t.toNat < n.tr.length) (i : Nat) : at_ (cntN n l) i = ((l.count (i : Int) : Nat) : Int) := by
  unfold cntN
  rw [at_incL (fun q hq => by simp; exact h q hq) (by omega)]
  have : at_ (List.replicate n.tr.length 0) (i : Int) = 0 := by
    simp [at_, List.getD_eq_getElem?_getD, List.getElem?_replicate]; split <;> rfl
  omega
theorem cntN_bound {n : Net} {l : List Int} (h : ∀ t ∈ l, 0 ≤ t ∧ t.toNat < n.tr.length) : ∀ x ∈ cntN n l, 0 ≤ x ∧ x ≤ l.length := by
  have := incL_bound (m := List.replicate n.tr.length 0) (l := l) (lo := 0) (hi := 0) (fun x hx => by simp at hx; omega) (fun p hp => by simp; exact (h p hp).2)
  intro x hx
  have := this x hx
  omega
theorem fsq_change {n : Net} {m l : List Int} (hg : goodN n = true) (hr : hasR n = false) (hm : m.length = n.pl.toNat) (hl : ∀ t ∈ l, 0 ≤ t ∧ t.toNat < n.tr.length) {p : Int} (hp : 0 ≤ p) : at_ (fsq n m l) p = at_ m p + at_ (chN n (cntN n l)) p := by
  unfold chN
  rw [at_fsq hg hr hp hm hl, at_chK hg hp (Nat.le_refl _), chS_ext (fun i _ => at_cntN hl i), chS_seq n p hl]
theorem change_zero {m x d : List Int} (h1 : m.length = x.length) (h2 : d.length = m.length) (h : ∀ p : Int, 0 ≤ p → at_ x p = at_ m p + at_ d p) : (!d.any fun y => !decide (y = 0)) = decide (x = m) := by
  by_cases e : x = m
  · rw [decide_eq_true e]
    simp only [Bool.not_eq_true', List.any_eq_false]
    intro y hy
    obtain ⟨i, hi, rfl⟩ := List.getElem_of_mem hy
    have := h i (by omega)
    rw [e] at this
    have h3 : at_ d (i : Int) = d[i] := by simp [at_, hi]
    simp; omega
  · rw [decide_eq_false e]
    cases hd : d.any fun y => !decide (y = 0) with
    | true => rfl
    | false =>
      exfalso; apply e
      refine at_ext h1.symm fun p hp hl => ?_
      rw [h p hp]
      have hi : p.toNat < d.length := by omega
      rw [List.any_eq_false] at hd
      have h4 := hd _ (List.getElem_mem hi)
      have h5 : at_ d p = d[p.toNat] := (at_eq hi).symm
      have h6 : d[p.toNat] = 0 := by simpa using h4
      omega
/-- Weights. -/
def wt (w m : List Int) : Int := sumI (List.zipWith (· * ·) w m)
theorem wt_set {w m : List Int} (hl : w.length = m.length) {i : Nat} (hi : i < m.length) (x : Int) : wt w (m.set i x) = wt w m + (x - m.getD i 0) * w.getD i 0 := by
  unfold wt
  induction w generalizing m i with
  | nil => simp at hl; omega
  | cons a w ih =>
    cases m with
    | nil => simp at hi
    | cons b m =>
      cases i with
      | zero =>
        simp only [List.set_cons_zero, List.zipWith_cons_cons, sumI_cons, List.getD_cons_zero]
        rw [Int.sub_mul, Int.mul_comm a x, Int.mul_comm a b]; omega
      | succ i =>
        simp only [List.set_cons_succ, List.zipWith_cons_cons, sumI_cons, List.getD_cons_succ]
        rw [ih (by simpa using hl) (by simpa using hi)]; omega
theorem wt_decL {w : List Int} {l : List Int} : ∀ {m : List Int}, w.length = m.length → inside m l → wt w (decL m l) = wt w m - sumA w l := by
  induction l with
  | nil => intros; simp [decL, sumA]
  | cons p l ih =>
    intro m hl hi
    have hp := hi p (by simp)
    show wt w (decL (decS m p) l) = _
    rw [ih (by simp [decS, hl]) (fun q hq => by simp [decS]; exact hi q (by simp [hq])), sumA_cons]
    unfold decS
    rw [wt_set hl hp.2]
    show wt w m + (at_ m p - 1 - at_ m p) * at_ w p - _ = _
    rw [show at_ m p - 1 - at_ m p = -1 by omega]; omega
theorem wt_incL {w : List Int} {l : List Int} : ∀ {m : List Int}, w.length = m.length → inside m l → wt w (incL m l) = wt w m + sumA w l := by
  induction l with
  | nil => intros; simp [incL, sumA]
  | cons p l ih =>
    intro m hl hi
    have hp := hi p (by simp)
    show wt w (incL (incS m p) l) = _
    rw [ih (by simp [incS, hl]) (fun q hq => by simp [incS]; exact hi q (by simp [hq])), sumA_cons]
    unfold incS
    rw [wt_set hl hp.2]
    show wt w m + (at_ m p + 1 - at_ m p) * at_ w p + _ = _
    rw [show at_ m p + 1 - at_ m p = 1 by omega]; omega
def isInv (n : Net) (w : List Int) : Bool := n.tr.all fun t => decide (sumA w t.inn = sumA w t.out)
def okW (n : Net) (w : List Int) : Bool := plainN n && decide ((w.length : Int) = n.pl) && w.all (inB (-9) 9)
def okC (n : Net) (c : List Int) : Bool := plainN n && decide ((c.length : Int) = n.tr.length) && c.all (inB 0 1000)
theorem wt_fire {n : Net} (hg : goodN n = true) (hr : hasR n = false) {w m : List Int} (hw : w.length = n.pl.toNat) (hm : m.length = n.pl.toNat) (hI : isInv n w = true) {t : Int} (ht : 0 ≤ t ∧ t.toNat < n.tr.length) : wt w (firedM (trAt n t) m) = wt w m := by
  have hf := trAt_facts hg hr ht hm
  unfold firedM
  rw [hf.2.2]
  show wt w (incL (decL m (trAt n t).inn) (trAt n t).out) = _
  rw [wt_incL (by rw [decL_len]; omega) (inside_mono hf.2.1 (decL_len ..)), wt_decL (by omega) hf.1]
  have h := List.all_eq_true.1 hI _ (List.getElem_mem ht.2)
  rw [trAt_eq ht.2] at h
  have := of_decide_eq_true h
  omega
theorem wt_fsq {n : Net} (hg : goodN n = true) (hr : hasR n = false) {w : List Int} (hw : w.length = n.pl.toNat) (hI : isInv n w = true) : ∀ {l m : List Int}, m.length = n.pl.toNat → (∀ t ∈ l, 0 ≤ t ∧ t.toNat < n.tr.length) → wt w (fsq n m l) = wt w m
  | [], _, _, _ => rfl
  | t :: l, m, hm, h => by
    show wt w (fsq n (firedM (trAt n t) m) l) = _
    rw [wt_fsq hg hr hw hI (by rw [firedM_len, hm]) (fun u hu => h u (by simp [hu])), wt_fire hg hr hw hm hI (h t (by simp))]
theorem at9 {w : List Int} (hw : ∀ x ∈ w, -9 ≤ x ∧ x ≤ 9) (p : Int) : -9 ≤ at_ w p ∧ at_ w p ≤ 9 := by
  by_cases h : p.toNat < w.length
  · exact at_bound hw h
  · simp [at_, List.getD_eq_getElem?_getD, List.getElem?_eq_none (show w.length ≤ p.toNat by omega)]
theorem sumA9 {w l : List Int} (hw : ∀ x ∈ w, -9 ≤ x ∧ x ≤ 9) {k : Nat} (hk : k ≤ l.length) : -(9 * k : Int) ≤ sumA w (l.take k) ∧ sumA w (l.take k) ≤ 9 * k := by
  induction k with
  | zero => simp [sumA]
  | succ k ih =>
    rw [sumA_take hk]
    have := ih (by omega)
    have := at9 hw l[k]
    omega
theorem mulB {a b A B : Int} (ha : -A ≤ a ∧ a ≤ A) (hb : 0 ≤ b ∧ b ≤ B) : -(A * B) ≤ a * b ∧ a * b ≤ A * B := by
  have h0 : 0 ≤ A := by omega
  have h1 : a * b ≤ A * b := Int.mul_le_mul_of_nonneg_right ha.2 hb.1
  have h2 : A * b ≤ A * B := Int.mul_le_mul_of_nonneg_left hb.2 h0
  have h3 : -A * b ≤ a * b := Int.mul_le_mul_of_nonneg_right ha.1 hb.1
  rw [Int.neg_mul] at h3
  omega
theorem sumI_B {l : List Int} {B : Int} (h : ∀ x ∈ l, -B ≤ x ∧ x ≤ B) : ∀ k, k ≤ l.length → -(B * k) ≤ sumI (l.take k) ∧ sumI (l.take k) ≤ B * k
  | 0, _ => by simp [sumI]
  | k + 1, hk => by
    have h1 := sumI_B h k (by omega)
    have h2 := h _ (List.getElem_mem (show k < l.length by omega))
    rw [sumI_take (by omega)]
    have e : B * ((k + 1 : Nat) : Int) = B * k + B := by rw [Int.natCast_add, Int.mul_add]; simp
    omega
theorem zip_bound {w m : List Int} (hw : ∀ x ∈ w, -9 ≤ x ∧ x ≤ 9) (hm : ∀ x ∈ m, 0 ≤ x ∧ x ≤ 50) : ∀ x ∈ List.zipWith (· * ·) w m, -450 ≤ x ∧ x ≤ 450 := by
  intro x hx
  obtain ⟨i, hi, rfl⟩ := List.getElem_of_mem hx
  rw [List.getElem_zipWith]
  simp only [List.length_zipWith] at hi
  have := mulB (A := 9) (B := 50) (hw _ (List.getElem_mem (show i < w.length by omega))) (hm _ (List.getElem_mem (show i < m.length by omega)))
  omega
theorem okW_parts {n : Net} {w : List Int} (h : okW n w = true) : goodN n = true ∧ hasR n = false ∧ w.length = n.pl.toNat ∧ (w.length : Int) = n.pl ∧ ∀ x ∈ w, -9 ≤ x ∧ x ≤ 9 := by
  simp only [okW, plainN, Bool.and_eq_true, decide_eq_true_eq, List.all_eq_true, inB, Bool.not_eq_true'] at h
  exact ⟨h.1.1.1, h.1.1.2, by omega, h.1.2, h.2⟩
theorem okC_parts {n : Net} {c : List Int} (h : okC n c = true) : goodN n = true ∧ hasR n = false ∧ c.length = n.tr.length ∧ ∀ x ∈ c, 0 ≤ x ∧ x ≤ 1000 := by
  simp only [okC, plainN, Bool.and_eq_true, decide_eq_true_eq, List.all_eq_true, inB, Bool.not_eq_true'] at h
  exact ⟨h.1.1.1, h.1.1.2, by omega, h.2⟩
/-- Rows of bits. -/
def setN (r : Nat) : List Int := ((List.range 20).filter r.testBit).map Int.ofNat
theorem setN_in (r : Nat) : ∀ p ∈ setN r, 0 ≤ p ∧ p < 20 := by
  intro p hp
  simp only [setN, List.mem_map, List.mem_filter, List.mem_range] at hp
  obtain ⟨i, ⟨h1, _⟩, rfl⟩ := hp
  constructor <;> simp only [Int.ofNat_eq_natCast] <;> omega
theorem setN_incr (r : Nat) : incr (setN r) = true := by
  refine decide_eq_true ?_
  exact List.Pairwise.map _ (fun a b h => by show (a : Int) < b; omega) (List.Pairwise.filter _ List.pairwise_lt_range)
theorem setN_has {r : Nat} (i : Nat) (hi : i < 20) : hasB (setN r) i = r.testBit i := by
  cases h : r.testBit i with
  | true =>
    refine decide_eq_true ?_
    simp only [setN, List.mem_map, List.mem_filter, List.mem_range]
    exact ⟨i, ⟨hi, h⟩, rfl⟩
  | false =>
    refine decide_eq_false ?_
    simp only [setN, List.mem_map, List.mem_filter, List.mem_range]
    rintro ⟨j, ⟨_, h2⟩, h3⟩
    have : j = i := by simp only [Int.ofNat_eq_natCast] at h3; omega
    subst this; simp [h] at h2
theorem setN_mask {r : Nat} (hr : r < 2 ^ 20) : maskN (setN r) = r := by
  apply Nat.eq_of_testBit_eq
  intro i
  rw [maskN_bit (fun p hp => (setN_in r p hp).1)]
  by_cases hi : i < 20
  · exact setN_has i hi
  · rw [Nat.testBit_lt_two_pow (Nat.lt_of_lt_of_le hr (Nat.pow_le_pow_right (by decide) (by omega)))]
    cases h : hasB (setN r) i with
    | false => rfl
    | true =>
      have := setN_in r i (by simpa [hasB] using h)
      omega
theorem setN_lt {r q : Nat} (hr : r < 2 ^ q) : ∀ p ∈ setN r, 0 ≤ p ∧ p < q := by
  intro p hp
  have h0 := setN_in r p hp
  have h1 := setN_has (r := r) p.toNat (by omega)
  have e : ((p.toNat : Nat) : Int) = p := by omega
  rw [e] at h1
  refine ⟨h0.1, ?_⟩
  by_cases hq : p < q
  · exact hq
  · rw [Nat.testBit_lt_two_pow (Nat.lt_of_lt_of_le hr (Nat.pow_le_pow_right (by decide) (by omega)))] at h1
    simp [hasB] at h1
    exact absurd hp h1
theorem setN_len (r : Nat) : (setN r).length ≤ 20 := by
  simp only [setN, List.length_map]
  exact Nat.le_trans (List.length_filter_le _ _) (by simp)
def rowW (n : Net) (r : Nat) : List Int := (setN r).foldl (fun a p => a.set p.toNat 1) (List.replicate n.pl.toNat 0)
theorem rowF_in (l x : List Int) (h : ∀ y ∈ x, 0 ≤ y ∧ y ≤ 1) : (l.foldl (fun a p => a.set p.toNat 1) x).length = x.length ∧ ∀ y ∈ l.foldl (fun a p => a.set p.toNat 1) x, 0 ≤ y ∧ y ≤ 1 := by
  induction l generalizing x with
  | nil => exact ⟨rfl, h⟩
  | cons p l ih =>
    rw [List.foldl_cons]
    have := ih (x.set p.toNat 1) (fun y hy => by
      rcases mem_set' hy with hy | hy
      · exact h y hy
      · omega)
    simpa using this
theorem rowW_in (n : Net) (r : Nat) : (rowW n r).length = n.pl.toNat ∧ ∀ y ∈ rowW n r, 0 ≤ y ∧ y ≤ 1 := by
  have := rowF_in (setN r) (List.replicate n.pl.toNat 0) (fun y hy => by simp at hy; omega)
  simpa [rowW] using this
/-- The least rows with a property, up to k. -/
def smStep (f : Nat → Bool) (a : List Nat) (r : Nat) : List Nat := if f r && a.all (fun x => !decide (x &&& r = x)) then a ++ [r] else a
def smK (f : Nat → Bool) (k : Nat) : List Nat := (List.range k).foldl (fun a i => smStep f a (i + 1)) []
theorem smK_succ (f : Nat → Bool) (k : Nat) : smK f (k + 1) = smStep f (smK f k) (k + 1) := by
  unfold smK; rw [List.range_succ, List.foldl_append]; rfl
theorem smK_t {f : Nat → Bool} {k : Nat} (h : f (k + 1) = true) (h2 : (smK f k).all (fun x => !decide (x &&& (k + 1) = x)) = true) : smK f (k + 1) = smK f k ++ [k + 1] := by
  rw [smK_succ]; unfold smStep; rw [h, h2]; rfl
theorem smK_f {f : Nat → Bool} {k : Nat} (h : (f (k + 1) && (smK f k).all (fun x => !decide (x &&& (k + 1) = x))) = false) : smK f (k + 1) = smK f k := by
  rw [smK_succ]; unfold smStep; rw [h]; rfl
theorem smK_in (f : Nat → Bool) (k : Nat) : ∀ r ∈ smK f k, 1 ≤ r ∧ r ≤ k := by
  induction k with
  | zero => intro r hr; simp [smK] at hr
  | succ k ih =>
    rw [smK_succ]; unfold smStep
    intro r hr
    split at hr
    · rw [List.mem_append] at hr
      rcases hr with hr | hr
      · have := ih r hr; omega
      · simp at hr; omega
    · have := ih r hr; omega
theorem smK_len (f : Nat → Bool) (k : Nat) : (smK f k).length ≤ k := by
  induction k with
  | zero => simp [smK]
  | succ k ih => rw [smK_succ]; unfold smStep; split; (simp; omega); omega
def smallI (n : Net) : List Nat := smK (fun r => isInv n (rowW n r)) (2 ^ n.pl.toNat - 1)
def okSm (n : Net) : Bool := plainN n && decide (n.pl ≤ 10)
theorem addL_at {x l : List Int} {c p : Int} (h : ∀ y ∈ x, -1000000 ≤ y ∧ y ≤ 1000000) (hc : -1000 ≤ c ∧ c ≤ 1000) (hl : ∀ p ∈ l, p.toNat < x.length) (hp : p.toNat < x.length) (hn : l.length ≤ 16) : -1016000 ≤ at_ (addL c x l) p ∧ at_ (addL c x l) p ≤ 1016000 := by
  have h1 := addL_bound (B := 1000000) (C := 1000) h hc hl
  have h2 := at_bound (p := p) h1 (by rw [addL_len]; exact hp)
  omega
end Go.Proofs.Ytblolnhajgmbdaa.Pi
