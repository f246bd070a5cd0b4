/- Plain laws of siphons and traps. -/
import Derived.Test.YtkkifebmicbbaaaPlMask
namespace Go.Proofs.Ytkkifebmicbbaaa.Pi
open Go
set_option linter.all false

/-- Does a transition lead out of a set (sp: siphons, else traps)? -/
def badS (sp : Bool) (t : Tr) (set : List Int) : Bool := meetB (sideI sp t) set && !meetB (sideO sp t) set
def isS (n : Net) (sp : Bool) (set : List Int) : Bool := n.tr.all fun t => !badS sp t set
structure Sh where
  set : List Int
  ch : Bool
def shStep (n : Net) (sp : Bool) (s : Sh) (k : Nat) : Sh := if badS sp (trN n k) s.set then ⟨wout s.set (sideI sp (trN n k)), true⟩ else s
def shK (n : Net) (sp : Bool) (set : List Int) (k : Nat) : Sh := (List.range k).foldl (shStep n sp) ⟨set, false⟩
def shRound (n : Net) (sp : Bool) (set : List Int) : Sh := shK n sp set n.tr.length
theorem shK_succ (n : Net) (sp : Bool) (set : List Int) (k : Nat) : shK n sp set (k + 1) = shStep n sp (shK n sp set k) k := by
  simp [shK, List.range_succ, List.foldl_append]
theorem shStep_no {n : Net} {sp : Bool} {s : Sh} {k : Nat} (h : badS sp (trN n k) s.set = false) : shStep n sp s k = s := by
  unfold shStep; rw [h]; rfl
theorem shStep_yes {n : Net} {sp : Bool} {s : Sh} {k : Nat} (h : badS sp (trN n k) s.set = true) : shStep n sp s k = ⟨wout s.set (sideI sp (trN n k)), true⟩ := by
  unfold shStep; rw [h]; rfl
theorem shK_sub (n : Net) (sp : Bool) (set : List Int) (k : Nat) : (∀ p ∈ (shK n sp set k).set, p ∈ set) ∧ (incr set = true → incr (shK n sp set k).set = true) := by
  induction k with
  | zero => exact ⟨fun p hp => hp, fun h => h⟩
  | succ k ih =>
    rw [shK_succ]
    cases h : badS sp (trN n k) (shK n sp set k).set with
    | false => rw [shStep_no h]; exact ih
    | true =>
      rw [shStep_yes h]
      exact ⟨fun p hp => ih.1 p (wout_sub p hp), fun hi => wout_incr (ih.2 hi)⟩
theorem shK_len (n : Net) (sp : Bool) (set : List Int) (k : Nat) : (shK n sp set k).set.length ≤ set.length ∧ ((shK n sp set k).ch = true → (shK n sp set k).set.length < set.length) ∧ ((shK n sp set k).ch = false → (shK n sp set k).set = set) := by
  induction k with
  | zero => exact ⟨Nat.le_refl _, fun h => by simp [shK] at h, fun _ => rfl⟩
  | succ k ih =>
    rw [shK_succ]
    cases h : badS sp (trN n k) (shK n sp set k).set with
    | false => rw [shStep_no h]; exact ih
    | true =>
      rw [shStep_yes h]
      have h1 := wout_lt (set := (shK n sp set k).set) (l := sideI sp (trN n k)) (by unfold badS at h; rw [Bool.and_eq_true] at h; exact h.1)
      exact ⟨by simp only; omega, fun _ => by simp only; omega, fun hh => by simp at hh⟩
theorem shK_is {n : Net} {sp : Bool} {set : List Int} (h : isS n sp set = true) {k : Nat} (hk : k ≤ n.tr.length) : shK n sp set k = ⟨set, false⟩ := by
  induction k with
  | zero => rfl
  | succ k ih =>
    rw [shK_succ, ih (by omega)]
    refine shStep_no ?_
    simp only [isS, List.all_eq_true] at h
    have := h (trN n k) (by rw [trN_eq (by omega)]; exact List.getElem_mem _)
    simpa using this
theorem shRound_not {n : Net} {sp : Bool} {set : List Int} (h : isS n sp set = false) : (shRound n sp set).ch = true := by
  cases e : (shRound n sp set).ch with
  | true => rfl
  | false =>
    exfalso
    have key : ∀ k, k ≤ n.tr.length → (shK n sp set k).ch = false := by
      intro k hk
      have : ∀ d, k + d ≤ n.tr.length → (shK n sp set (k + d)).ch = false → (shK n sp set k).ch = false := by
        intro d
        induction d with
        | zero => intro _ h; exact h
        | succ d ih =>
          intro hd h2
          refine ih (by omega) ?_
          rw [show k + (d + 1) = (k + d) + 1 by omega, shK_succ] at h2
          cases hb : badS sp (trN n (k + d)) (shK n sp set (k + d)).set with
          | false => rwa [shStep_no hb] at h2
          | true => rw [shStep_yes hb] at h2; simp at h2
      exact this (n.tr.length - k) (by omega) (by rw [show k + (n.tr.length - k) = n.tr.length by omega]; exact e)
    have : isS n sp set = true := by
      simp only [isS, List.all_eq_true]
      intro t ht
      obtain ⟨k, hk, rfl⟩ := List.mem_iff_getElem.1 ht
      have h1 := key (k + 1) (by omega)
      have h2 := key k (by omega)
      have h3 := (shK_len n sp set k).2.2 h2
      rw [shK_succ] at h1
      cases hb : badS sp (trN n k) (shK n sp set k).set with
      | false => rw [h3, trN_eq hk] at hb; simp [hb]
      | true => rw [shStep_yes hb] at h1; simp at h1
    rw [this] at h; cases h
def bigRun (n : Net) (sp : Bool) : Nat → List Int → List Int
  | 0, s => s
  | f + 1, s => if isS n sp s then s else bigRun n sp f (shRound n sp s).set
theorem bigRun_more {n : Net} {sp : Bool} : ∀ {f : Nat} {s : List Int}, s.length < f → bigRun n sp f s = bigRun n sp (f + 1) s
  | 0, _, h => by omega
  | f + 1, s, h => by
    show (if isS n sp s then s else bigRun n sp f (shRound n sp s).set) = if isS n sp s then s else bigRun n sp (f + 1) (shRound n sp s).set
    cases e : isS n sp s with
    | true => rfl
    | false =>
      simp only [Bool.false_eq_true, if_false]
      have h1 := (shK_len n sp s n.tr.length).2.1 (shRound_not e)
      exact bigRun_more (by unfold shRound; omega)
theorem bigRun_le {n : Net} {sp : Bool} {s : List Int} : ∀ {d f : Nat}, s.length < f → bigRun n sp f s = bigRun n sp (f + d) s
  | 0, _, _ => rfl
  | d + 1, f, h => by rw [bigRun_le (d := d) h, bigRun_more (by omega)]; rfl
/-- The greatest siphon or trap within a set. -/
def bigS (n : Net) (sp : Bool) (s : List Int) : List Int := bigRun n sp (s.length + 1) s
theorem bigS_is {n : Net} {sp : Bool} {s : List Int} (h : isS n sp s = true) : bigS n sp s = s := by
  unfold bigS
  show (if isS n sp s then s else _) = s
  rw [h]; rfl
theorem bigS_next {n : Net} {sp : Bool} {s : List Int} (h : isS n sp s = false) : bigS n sp s = bigS n sp (shRound n sp s).set := by
  have h1 := (shK_len n sp s n.tr.length).2.1 (shRound_not h)
  unfold bigS
  show (if isS n sp s then s else bigRun n sp s.length (shRound n sp s).set) = _
  rw [h]
  simp only [Bool.false_eq_true, if_false]
  rw [bigRun_le (d := s.length - ((shRound n sp s).set.length + 1)) (f := (shRound n sp s).set.length + 1) (by omega)]
  congr 1
  unfold shRound at h1 ⊢; omega
theorem bigS_facts {n : Net} {sp : Bool} : ∀ (d : Nat) (s : List Int), s.length < d → isS n sp (bigS n sp s) = true ∧ (∀ p ∈ bigS n sp s, p ∈ s) ∧ (incr s = true → incr (bigS n sp s) = true)
  | 0, _, h => by omega
  | d + 1, s, h => by
    cases e : isS n sp s with
    | true => rw [bigS_is e]; exact ⟨e, fun p hp => hp, fun hi => hi⟩
    | false =>
      have h1 := (shK_len n sp s n.tr.length).2.1 (shRound_not e)
      have h2 := shK_sub n sp s n.tr.length
      rw [bigS_next e]
      obtain ⟨h3, h4, h5⟩ := bigS_facts (n := n) (sp := sp) d (shRound n sp s).set (by unfold shRound; omega)
      exact ⟨h3, fun p hp => h2.1 p (h4 p hp), fun hi => h5 (h2.2 hi)⟩
theorem bigS_isS (n : Net) (sp : Bool) (s : List Int) : isS n sp (bigS n sp s) = true := (bigS_facts (s.length + 1) s (by omega)).1
theorem bigS_sub (n : Net) (sp : Bool) (s : List Int) : ∀ p ∈ bigS n sp s, p ∈ s := (bigS_facts (s.length + 1) s (by omega)).2.1
theorem bigS_incr {n : Net} {sp : Bool} {s : List Int} (h : incr s = true) : incr (bigS n sp s) = true := (bigS_facts (s.length + 1) s (by omega)).2.2 h
theorem bigS_eq (n : Net) (sp : Bool) (s : List Int) : decide (bigS n sp s = s) = isS n sp s := by
  cases e : isS n sp s with
  | true => simp [bigS_is e]
  | false =>
    rw [decide_eq_false_iff_not]
    intro h
    have := bigS_isS n sp s
    rw [h, e] at this; cases this
/-- A plain net, a set of its places. -/
def plainN (n : Net) : Bool := goodN n && !hasR n
def okSet (n : Net) (s : List Int) : Bool := plainN n && places n.pl s
theorem okSet_parts {n : Net} {s : List Int} (h : okSet n s = true) : goodN n = true ∧ hasR n = false ∧ incr s = true ∧ ∀ p ∈ s, 0 ≤ p ∧ p < n.pl := by
  simp only [okSet, plainN, Bool.and_eq_true, Bool.not_eq_true'] at h
  exact ⟨h.1.1, h.1.2, places_incr h.2, places_in h.2⟩
theorem okSet_of {n : Net} {s r : List Int} (h : okSet n s = true) (hi : incr r = true) (hs : ∀ p ∈ r, p ∈ s) : okSet n r = true := by
  simp only [okSet, Bool.and_eq_true] at h ⊢
  refine ⟨h.1, ?_⟩
  have h2 := places_in h.2
  simp only [places, hi, Bool.true_and, List.all_eq_true]
  intro p hp
  have := h2 p (hs p hp)
  simp [inB]; omega
theorem okSet_big {n : Net} {sp : Bool} {s : List Int} (h : okSet n s = true) : okSet n (bigS n sp s) = true := okSet_of h (bigS_incr (okSet_parts h).2.2.1) (bigS_sub n sp s)
theorem okSet_len {n : Net} {s : List Int} (h : okSet n s = true) : s.length ≤ 16 := by
  have h1 := okSet_parts h
  have h2 := goodN_parts h1.1
  have h3 := incr_len (lo := 0) (hi := n.pl) (by simpa [incr] using h1.2.2.1) h1.2.2.2 (by omega)
  omega
/-- Tokens on some places. -/
def sumA (m s : List Int) : Int := s.foldl (fun a p => a + at_ m p) 0
theorem sumA_take {m s : List Int} {k : Nat} (hk : k < s.length) : sumA m (s.take (k + 1)) = sumA m (s.take k) + at_ m s[k] := by
  unfold sumA; rw [foldl_snoc _ _ hk]
theorem sumF {m : List Int} : ∀ {s : List Int} {a : Int}, s.foldl (fun a p => a + at_ m p) a = a + sumA m s
  | [], a => by simp [sumA]
  | p :: s, a => by
    have h1 := sumF (m := m) (s := s) (a := a + at_ m p)
    have h2 := sumF (m := m) (s := s) (a := 0 + at_ m p)
    unfold sumA at h2 ⊢
    rw [List.foldl_cons, h1, List.foldl_cons, h2]
    unfold sumA; omega
theorem sumA_cons (m : List Int) (p : Int) (s : List Int) : sumA m (p :: s) = at_ m p + sumA m s := by
  show (p :: s).foldl (fun a p => a + at_ m p) 0 = _
  rw [List.foldl_cons, sumF]; omega
theorem sumA_bounds {m : List Int} : ∀ {s : List Int}, (∀ p ∈ s, 0 ≤ at_ m p ∧ at_ m p ≤ 50) → 0 ≤ sumA m s ∧ sumA m s ≤ 50 * s.length
  | [], _ => by simp [sumA]
  | p :: s, h => by
    have h1 := h p (by simp)
    have h2 := sumA_bounds (m := m) (s := s) (fun q hq => h q (by simp [hq]))
    rw [sumA_cons, List.length_cons]; omega
theorem sumA_zero {m : List Int} : ∀ {s : List Int}, (∀ p ∈ s, 0 ≤ at_ m p ∧ at_ m p ≤ 50) → sumA m s = 0 → ∀ p ∈ s, at_ m p = 0
  | [], _, _ => by simp
  | p :: s, h, h0 => by
    have h1 := h p (by simp)
    have h2 := sumA_bounds (m := m) (s := s) (fun q hq => h q (by simp [hq]))
    rw [sumA_cons] at h0
    intro q hq
    rcases List.mem_cons.1 hq with rfl | hq
    · omega
    · exact sumA_zero (fun q hq => h q (by simp [hq])) (by omega) q hq
theorem sumA_all0 {m : List Int} : ∀ {s : List Int}, (∀ p ∈ s, at_ m p = 0) → sumA m s = 0
  | [], _ => rfl
  | p :: s, h => by rw [sumA_cons, h p (by simp), sumA_all0 (fun q hq => h q (by simp [hq]))]; rfl
theorem sumA_pos {m : List Int} : ∀ {s : List Int}, (∀ p ∈ s, 0 ≤ at_ m p ∧ at_ m p ≤ 50) → ∀ {q : Int}, q ∈ s → 0 < at_ m q → 0 < sumA m s
  | [], _, _, hq, _ => by simp at hq
  | p :: s, h, q, hq, h0 => by
    have h1 := h p (by simp)
    have h2 := sumA_bounds (m := m) (s := s) (fun q hq => h q (by simp [hq]))
    rw [sumA_cons]
    rcases List.mem_cons.1 hq with rfl | hq
    · omega
    · have := sumA_pos (fun q hq => h q (by simp [hq])) hq h0
      omega
theorem meet_no {a b : List Int} (h : meetB a b = false) {p : Int} (ha : p ∈ a) : p ∉ b := by
  simp only [meetB, List.any_eq_false] at h
  have := h p ha
  simpa [hasB] using this
theorem fire_facts {n : Net} {m s : List Int} {t : Int} (hf : okFire n m t = true) (ho : okSet n s = true) :
    (∀ p ∈ s, 0 ≤ at_ m p ∧ at_ m p ≤ 50) ∧ (∀ p ∈ s, 0 ≤ at_ (firedM (trAt n t) m) p ∧ at_ (firedM (trAt n t) m) p ≤ 50) ∧ (trAt n t) ∈ n.tr ∧ (∀ p ∈ (trAt n t).inn, at_ m p ≠ 0) ∧ (∀ p ∈ s, p.toNat < m.length) ∧ (∀ p : Int, 0 ≤ p → at_ (firedM (trAt n t) m) p = at_ m p - (if p ∈ (trAt n t).inn then 1 else 0) + (if p ∈ (trAt n t).out then 1 else 0)) := by
  have hmk := (marked_parts (okFire_marked hf)).2
  have hml := goodM_len hmk
  rw [firedM_len] at hml
  obtain ⟨h1, _⟩ := Bool.and_eq_true .. ▸ hf
  obtain ⟨h3, h4, h5, h6, h7, h8⟩ := canN_parts h1
  have hm := goodM_len h4
  obtain ⟨_, hr, _, hs⟩ := okSet_parts ho
  have hrs : (trAt n t).rst = [] := by rw [← trAt_eq h6]; exact hasR_no hr _
  refine ⟨fun p hp => at_bound hm.2.2.2.2 (by have := hs p hp; omega), fun p hp => at_bound hml.2.2.2.2 (by rw [firedM_len]; have := hs p hp; omega), by rw [← trAt_eq h6]; exact List.getElem_mem _, fun p hp => canT_at h7 hp, fun p hp => by have := hs p hp; omega, fun p hp => ?_⟩
  rw [at_firedG h8 hm.2.2.1 hp, hrs]
  simp
/-- An empty siphon stays so. -/
theorem siphon_empty {n : Net} {m s : List Int} {t : Int} (hf : okFire n m t = true) (ho : okSet n s = true) (hS : isS n true s = true) (h0 : sumA m s = 0) : sumA (firedM (trAt n t) m) s = 0 := by
  obtain ⟨f1, f2, f3, f4, f5, f6⟩ := fire_facts hf ho
  have hz := sumA_zero f1 h0
  simp only [isS, List.all_eq_true] at hS
  have hb := hS _ f3
  have hin : meetB (trAt n t).inn s = false := by
    cases e : meetB (trAt n t).inn s with
    | false => rfl
    | true =>
      simp only [meetB, List.any_eq_true] at e
      obtain ⟨x, hx, hy⟩ := e
      exact absurd (hz x (by simpa [hasB] using hy)) (f4 x hx)
  have hout : meetB (trAt n t).out s = false := by
    simp only [badS, sideI, sideO, if_true, hin] at hb
    simpa using hb
  refine sumA_all0 (fun p hp => ?_)
  have hp0 := (okSet_parts ho).2.2.2 p hp
  have h1 : p ∉ (trAt n t).inn := fun h => (meet_no hin h) hp
  have h2 : p ∉ (trAt n t).out := fun h => (meet_no hout h) hp
  rw [f6 p hp0.1, hz p hp]
  simp [h1, h2]
/-- A marked trap stays so. -/
theorem trap_marked {n : Net} {m s : List Int} {t : Int} (hf : okFire n m t = true) (ho : okSet n s = true) (hS : isS n false s = true) (h0 : 0 < sumA m s) : 0 < sumA (firedM (trAt n t) m) s := by
  obtain ⟨f1, f2, f3, f4, f5, f6⟩ := fire_facts hf ho
  simp only [isS, List.all_eq_true] at hS
  have hb := hS _ f3
  cases hin : meetB (trAt n t).inn s with
  | true =>
    have hout : meetB (trAt n t).out s = true := by
      simp only [badS, sideI, sideO, Bool.false_eq_true, if_false, hin] at hb
      simpa using hb
    simp only [meetB, List.any_eq_true] at hout
    obtain ⟨q, hq, hq2⟩ := hout
    have hqs : q ∈ s := by simpa [hasB] using hq2
    have hq0 := (okSet_parts ho).2.2.2 q hqs
    refine sumA_pos f2 hqs ?_
    have b := f1 q hqs
    rw [f6 q hq0.1]
    simp only [hq, if_true]
    by_cases hi : q ∈ (trAt n t).inn
    · have := f4 q hi; simp only [hi, if_true]; omega
    · simp only [hi, if_false]; omega
  | false =>
    obtain ⟨q, hq, hq2⟩ : ∃ q ∈ s, 0 < at_ m q := by
      refine Classical.byContradiction fun hne => ?_
      have : ∀ p ∈ s, at_ m p = 0 := fun p hp => by
        have := f1 p hp
        rcases Int.lt_or_le 0 (at_ m p) with h | h
        · exact absurd ⟨p, hp, h⟩ hne
        · omega
      rw [sumA_all0 this] at h0; omega
    have hq0 := (okSet_parts ho).2.2.2 q hq
    refine sumA_pos f2 hq ?_
    have h1 : q ∉ (trAt n t).inn := fun h => (meet_no hin h) hq
    rw [f6 q hq0.1]
    simp only [h1, if_false]
    split <;> omega
def withinB (a b : List Int) : Bool := a.all (hasB b)
theorem withinB_of {a b : List Int} (h : ∀ p ∈ a, p ∈ b) : withinB a b = true := by
  simp only [withinB, List.all_eq_true, hasB, decide_eq_true_eq]; exact h
end Go.Proofs.Ytkkifebmicbbaaa.Pi
