/- Plain laws of guarded nets: a trap in each siphon keeps them alive. -/
import Derived.Test.YtldlbpdbbbajfaaPlBits
import Derived.Test.YtldlbpdbbbajfaaPlWay
namespace Go.Proofs.Ytldlbpdbbbajfaa.Pi
open Go
set_option linter.all false

theorem okSet_setN {n : Net} {r : Nat} (hs : okSm n = true) (hr : r < 2 ^ n.pl.toNat) : okSet n (setN r) = true := by
  have h1 := setN_lt hr
  have h2 := setN_incr r
  have h3 : plainN n = true := by simp [okSm] at hs; exact hs.1
  simp only [okSet, h3, places, h2, Bool.true_and, List.all_eq_true, inB, Bool.and_eq_true, decide_eq_true_eq]
  exact fun x hx => by have := h1 x hx; omega
theorem smallS_in {n : Net} (h10 : n.pl ≤ 10) : (∀ r ∈ smallS n, 1 ≤ r ∧ r < 2 ^ n.pl.toNat ∧ r < 2 ^ 20) ∧ (smallS n).length < 2 ^ 20 := by
  have h1 := smK_in (fun r => isS n true (setN r)) (2 ^ n.pl.toNat - 1)
  have h2 := smK_len (fun r => isS n true (setN r)) (2 ^ n.pl.toNat - 1)
  have h3 : 2 ^ n.pl.toNat ≤ 2 ^ 10 := Nat.pow_le_pow_right (by decide) (by omega)
  have h4 : 0 < 2 ^ n.pl.toNat := Nat.pow_pos (by decide)
  unfold smallS
  exact ⟨fun r hr => by have := h1 r hr; omega, by omega⟩
def guardB (n : Net) (m : List Int) : Bool := (smallS n).all fun r => (bigS n false (setN r)).any fun p => decide (0 < at_ m p)
theorem any_sum {m T : List Int} (h : ∀ p ∈ T, 0 ≤ at_ m p ∧ at_ m p ≤ 50) : (T.any fun p => decide (0 < at_ m p)) = decide (0 < sumA m T) := by
  cases ha : T.any fun p => decide (0 < at_ m p) with
  | true =>
    rw [List.any_eq_true] at ha
    obtain ⟨q, hq, h1⟩ := ha
    rw [decide_eq_true (sumA_pos h hq (of_decide_eq_true h1))]
  | false =>
    rw [List.any_eq_false] at ha
    rw [sumA_all0 (fun p hp => by have h1 := ha p hp; have h2 := h p hp; simp at h1; omega)]; rfl
theorem guard_fire {n : Net} {m : List Int} {t : Int} (hs : okSm n = true) (hf : okFire n m t = true) (hg : guardB n m = true) : guardB n (firedM (trAt n t) m) = true := by
  have h10 : n.pl ≤ 10 := by simp [okSm] at hs; exact hs.2
  have hin := (smallS_in h10).1
  unfold guardB at hg ⊢
  rw [List.all_eq_true] at hg ⊢
  intro r hr
  have h1 := hg r hr
  have ho := okSet_big (sp := false) (okSet_setN hs (hin r hr).2.1)
  obtain ⟨f1, f2, _, _, _, _⟩ := fire_facts hf ho
  rw [any_sum f1] at h1
  rw [any_sum f2]
  exact decide_eq_true (trap_marked hf ho (bigS_isS ..) (of_decide_eq_true h1))
/-- The empty places, as a row of bits. -/
def zeroL (n : Net) (m : List Int) : List Int := ((List.range n.pl.toNat).map Int.ofNat).filter fun p => decide (at_ m p = 0)
theorem zeroL_mem {n : Net} {m : List Int} {p : Int} : p ∈ zeroL n m ↔ (0 ≤ p ∧ p < n.pl) ∧ at_ m p = 0 := by
  simp only [zeroL, List.mem_filter, List.mem_map, List.mem_range, decide_eq_true_eq]
  constructor
  · rintro ⟨⟨i, hi, rfl⟩, h⟩
    exact ⟨⟨by simp, by simp only [Int.ofNat_eq_natCast]; omega⟩, h⟩
  · rintro ⟨h1, h2⟩
    exact ⟨⟨p.toNat, by omega, by simp only [Int.ofNat_eq_natCast]; omega⟩, h2⟩
theorem zeroL_incr (n : Net) (m : List Int) : incr (zeroL n m) = true := by
  refine decide_eq_true (List.Pairwise.filter _ ?_)
  exact List.Pairwise.map _ (fun a b h => by show (a : Int) < b; omega) List.pairwise_lt_range
theorem guard_live {n : Net} {m : List Int} (hs : okSm n = true) (hm : goodM n.pl m = true) (hg : guardB n m = true) (ht : 0 < n.tr.length) : ∃ t : Int, 0 ≤ t ∧ t.toNat < n.tr.length ∧ canT (trAt n t) m = true := by
  have h10 : n.pl ≤ 10 := by simp [okSm] at hs; exact hs.2
  have hgn : goodN n = true := by simp [okSm, plainN] at hs; exact hs.1.1
  have hgp := goodN_parts hgn
  apply Classical.byContradiction
  intro hno
  have hdead : ∀ k, (hk : k < n.tr.length) → canT n.tr[k] m = false := fun k hk => by
    cases hc : canT n.tr[k] m with
    | false => rfl
    | true => exact absurd ⟨(k : Int), by omega, by simpa using hk, by rw [← trAt_eq (t := (k : Int)) (by simpa using hk)]; exact hc⟩ hno
  have hempty : ∀ k, (hk : k < n.tr.length) → ∃ p ∈ n.tr[k].inn, p ∈ zeroL n m := fun k hk => by
    have h1 := hdead k hk
    have h2 := (goodT_parts (hgp.2.2.2 _ (List.getElem_mem hk))).2.1
    unfold canT at h1
    rw [List.all_eq_false] at h1
    obtain ⟨p, hp, h3⟩ := h1
    exact ⟨p, hp, zeroL_mem.2 ⟨places_in h2 p hp, by simpa using h3⟩⟩
  have hz0 : ∀ p ∈ zeroL n m, 0 ≤ p ∧ p < n.pl := fun p hp => (zeroL_mem.1 hp).1
  have hz20 : ∀ p ∈ zeroL n m, 0 ≤ p ∧ p < 20 := fun p hp => by have := hz0 p hp; omega
  have hlt : maskN (zeroL n m) < 2 ^ n.pl.toNat := maskN_lt (fun p hp => by have := hz0 p hp; omega)
  have hle : 2 ^ n.pl.toNat ≤ 2 ^ 10 := Nat.pow_le_pow_right (by decide) (by omega)
  have hset : setN (maskN (zeroL n m)) = zeroL n m := by
    refine maskN_inj (setN_incr _) (zeroL_incr n m) (fun p hp => (setN_in _ p hp).1) (fun p hp => (hz0 p hp).1) ?_
    rw [setN_mask (by omega)]
  have hsi : isS n true (setN (maskN (zeroL n m))) = true := by
    rw [hset, isS, List.all_eq_true]
    intro t htm
    obtain ⟨k, hk, rfl⟩ := List.getElem_of_mem htm
    obtain ⟨p, hp, hp2⟩ := hempty k hk
    have : meetB n.tr[k].inn (zeroL n m) = true := List.any_eq_true.2 ⟨p, hp, by simp [hasB, hp2]⟩
    simp [badS, sideI, sideO, this]
  have h1 : 1 ≤ maskN (zeroL n m) := by
    obtain ⟨p, _, hp2⟩ := hempty 0 ht
    rcases Nat.eq_zero_or_pos (maskN (zeroL n m)) with h | h
    · have := maskN_bit (fun p hp => (hz0 p hp).1) (l := zeroL n m) p.toNat
      rw [h, show ((p.toNat : Nat) : Int) = p by have := hz0 p hp2; omega] at this
      simp [hasB, hp2] at this
    · exact h
  obtain ⟨x, hx, hx2⟩ := smK_least (f := fun r => isS n true (setN r)) (2 ^ n.pl.toNat - 1) h1 (by omega) hsi
  have hxi := (smallS_in h10).1 x hx
  have hgx := List.all_eq_true.1 hg x hx
  rw [List.any_eq_true] at hgx
  obtain ⟨p, hp, hp2⟩ := hgx
  have hps := bigS_sub n false (setN x) p hp
  have hpi := setN_in x p hps
  have hb := setN_has (r := x) p.toNat (by omega)
  rw [show ((p.toNat : Nat) : Int) = p by omega, show hasB (setN x) p = true by simp [hasB, hps]] at hb
  have hb2 : (maskN (zeroL n m)).testBit p.toNat = true := by
    have h3 : (x &&& maskN (zeroL n m)).testBit p.toNat = true := by rw [hx2]; exact hb.symm
    rw [Nat.testBit_and] at h3
    exact (Bool.and_eq_true_iff.1 h3).2
  rw [maskN_bit (fun p hp => (hz0 p hp).1), show ((p.toNat : Nat) : Int) = p by omega] at hb2
  have h4 := (zeroL_mem.1 (by simpa [hasB] using hb2)).2
  have h5 := of_decide_eq_true hp2
  omega
theorem guard_enab {n : Net} {m : List Int} (hs : okSm n = true) (hm : goodM n.pl m = true) (hg : guardB n m = true) (ht : 0 < n.tr.length) : enabL n m ≠ [] := by
  obtain ⟨t, h1, h2, h3⟩ := guard_live hs hm hg ht
  intro e
  have := enabL_mem.2 ⟨h1, h2, h3⟩
  rw [e] at this
  simp at this
/-- Guarded marks are all that a space has. -/
theorem guard_space {n : Net} {start : List Int} {b : Int} {s : Ex} (hs : okSm n = true) (h : ExOk n start b s) (hg : guardB n start = true) : ∀ (j : Nat), j < s.sp.ms.length → guardB n (s.sp.ms.getD j []) = true := by
  intro j
  induction j using Nat.strongRecOn with
  | ind j ih =>
    intro hj
    rcases Nat.eq_zero_or_pos j with rfl | h0
    · rw [List.getD_eq_getElem?_getD, h.first]; exact hg
    · obtain ⟨i, hi, h1, h2, _⟩ := h.back j h0 hj
      obtain ⟨a1, a2, a3, a4, a5, a6⟩ := h.arcs _ (List.getElem_mem hi)
      have e : s.sp.ar[i].dst.toNat = j := by omega
      rw [e] at a6
      rw [a6]
      exact guard_fire hs a5 (ih _ (by omega) a2)
theorem guard_spaceE {n : Net} {start : List Int} {b : Int} {s : Ex} (hs : okSm n = true) (h : ExOk n start b s) (hg : guardB n start = true) (ht : 0 < n.tr.length) : ∀ m ∈ s.sp.ms, enabL n m ≠ [] := by
  intro m hm
  obtain ⟨j, hj, rfl⟩ := List.getElem_of_mem hm
  have hgm := (marked_parts (h.good _ hm)).2
  have hgd := guard_space hs h hg j hj
  rw [← getD_ms hj] at hgd
  exact guard_enab hs hgm hgd ht
end Go.Proofs.Ytldlbpdbbbajfaa.Pi
