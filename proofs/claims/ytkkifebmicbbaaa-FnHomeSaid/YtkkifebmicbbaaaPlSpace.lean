/- Plain laws of spaces: all markings that can be come to. -/
import Derived.Test.YtkkifebmicbbaaaPlFlow
namespace Go.Proofs.Ytkkifebmicbbaaa.Pi
open Go
set_option linter.all false

structure Arc3 where
  src : Int
  by_ : Int
  dst : Int
structure Sp where
  ms : List (List Int)
  ar : List Arc3
/-- A space under way; why it stopped (0: it did not). -/
structure Ex where
  sp : Sp
  code : Int
def findM (l : List (List Int)) (m : List Int) : Int := idxI l (fun x => decide (x = m))
def exStep (n : Net) (b : Int) (k : Nat) (s : Ex) (t : Int) : Ex :=
  if s.code ≠ 0 then s else
  let m := firedM (trAt n t) (s.sp.ms.getD k [])
  if m.all (inB 0 50) = false then ⟨s.sp, 3⟩
  else if 0 ≤ findM s.sp.ms m then ⟨⟨s.sp.ms, s.sp.ar ++ [⟨k, t, findM s.sp.ms m⟩]⟩, 0⟩
  else if b ≤ s.sp.ms.length then ⟨s.sp, 2⟩
  else ⟨⟨s.sp.ms ++ [m], s.sp.ar ++ [⟨k, t, s.sp.ms.length⟩]⟩, 0⟩
def exL (n : Net) (b : Int) (k : Nat) (s : Ex) (l : List Int) : Ex := l.foldl (exStep n b k) s
def exRun (n : Net) (b : Int) : Nat → Nat → Ex → Ex
  | 0, _, s => s
  | f + 1, k, s => if s.code ≠ 0 then s else if k < s.sp.ms.length then exRun n b f (k + 1) (exL n b k s (enabL n (s.sp.ms.getD k []))) else s
def exAll (n : Net) (start : List Int) (b : Int) : Ex := exRun n b (b.toNat + 2) 0 ⟨⟨[start], []⟩, 0⟩
theorem exStep_stop {n : Net} {b : Int} {k : Nat} {s : Ex} {t : Int} (h : s.code ≠ 0) : exStep n b k s t = s := by
  unfold exStep; rw [if_pos h]
theorem exL_stop {n : Net} {b : Int} {k : Nat} {l : List Int} {s : Ex} (h : s.code ≠ 0) : exL n b k s l = s := by
  unfold exL
  induction l with
  | nil => rfl
  | cons t l ih => rw [List.foldl_cons, exStep_stop h]; exact ih
theorem exRun_stop {n : Net} {b : Int} {f k : Nat} {s : Ex} (h : s.code ≠ 0) : exRun n b f k s = s := by
  cases f with
  | zero => rfl
  | succ f => show (if s.code ≠ 0 then s else _) = s; rw [if_pos h]
theorem exL_drop {n : Net} {b : Int} {k : Nat} {s : Ex} {l : List Int} {j : Nat} (hj : j < l.length) : exL n b k s (l.drop j) = exL n b k (exStep n b k s l[j]) (l.drop (j + 1)) := by
  rw [List.drop_eq_getElem_cons hj]; rfl
theorem exStep_tok {n : Net} {b : Int} {k : Nat} {s : Ex} {t : Int} (h0 : s.code = 0) (h : (firedM (trAt n t) (s.sp.ms.getD k [])).all (inB 0 50) = false) : exStep n b k s t = ⟨s.sp, 3⟩ := by
  unfold exStep; rw [if_neg (by omega)]; simp only [h, if_true]
theorem exStep_old {n : Net} {b : Int} {k : Nat} {s : Ex} {t : Int} (h0 : s.code = 0) (h : (firedM (trAt n t) (s.sp.ms.getD k [])).all (inB 0 50) = true) (h2 : 0 ≤ findM s.sp.ms (firedM (trAt n t) (s.sp.ms.getD k []))) : exStep n b k s t = ⟨⟨s.sp.ms, s.sp.ar ++ [⟨k, t, findM s.sp.ms (firedM (trAt n t) (s.sp.ms.getD k []))⟩]⟩, 0⟩ := by
  unfold exStep; rw [if_neg (by omega)]; simp only [h]; rw [if_neg (by simp), if_pos h2]
theorem exStep_full {n : Net} {b : Int} {k : Nat} {s : Ex} {t : Int} (h0 : s.code = 0) (h : (firedM (trAt n t) (s.sp.ms.getD k [])).all (inB 0 50) = true) (h2 : ¬ 0 ≤ findM s.sp.ms (firedM (trAt n t) (s.sp.ms.getD k []))) (h3 : b ≤ s.sp.ms.length) : exStep n b k s t = ⟨s.sp, 2⟩ := by
  unfold exStep; rw [if_neg (by omega)]; simp only [h]; rw [if_neg (by simp), if_neg h2, if_pos h3]
theorem exStep_new {n : Net} {b : Int} {k : Nat} {s : Ex} {t : Int} (h0 : s.code = 0) (h : (firedM (trAt n t) (s.sp.ms.getD k [])).all (inB 0 50) = true) (h2 : ¬ 0 ≤ findM s.sp.ms (firedM (trAt n t) (s.sp.ms.getD k []))) (h3 : ¬ b ≤ s.sp.ms.length) : exStep n b k s t = ⟨⟨s.sp.ms ++ [firedM (trAt n t) (s.sp.ms.getD k [])], s.sp.ar ++ [⟨k, t, s.sp.ms.length⟩]⟩, 0⟩ := by
  unfold exStep; rw [if_neg (by omega)]; simp only [h]; rw [if_neg (by simp), if_neg h2, if_neg h3]
theorem findM_mem {l : List (List Int)} {m : List Int} : 0 ≤ findM l m ↔ m ∈ l := by
  have := idxI_any l (fun x => decide (x = m))
  unfold findM
  constructor
  · intro h
    rw [decide_eq_true h] at this
    rw [List.any_eq_true] at this
    obtain ⟨x, hx, hy⟩ := this
    have : x = m := by simpa using hy
    exact this ▸ hx
  · intro h
    have h2 : (l.any fun x => decide (x = m)) = true := by rw [List.any_eq_true]; exact ⟨m, h, by simp⟩
    rw [h2] at this
    exact of_decide_eq_true this.symm
theorem findM_get {l : List (List Int)} {m : List Int} (h : 0 ≤ findM l m) : (findM l m).toNat < l.length ∧ l[(findM l m).toNat]? = some m := by
  unfold findM idxI at h ⊢
  cases e : l.findIdx? (fun x => decide (x = m)) with
  | none => rw [e] at h; simp at h
  | some k =>
    rw [List.findIdx?_eq_some_iff_getElem] at e
    obtain ⟨h1, h2, _⟩ := e
    refine ⟨by simpa using h1, ?_⟩
    have : l[k] = m := by simpa using h2
    simp [List.getElem?_eq_getElem h1, this]
/-- What holds of a space under way. -/
structure ExOk (n : Net) (start : List Int) (b : Int) (s : Ex) : Prop where
  first : s.sp.ms[0]? = some start
  good : ∀ m ∈ s.sp.ms, marked n m = true
  lenb : s.sp.ms.length ≤ b.toNat
  nodup : s.sp.ms.Nodup
  arcs : ∀ a ∈ s.sp.ar, 0 ≤ a.src ∧ a.src.toNat < s.sp.ms.length ∧ 0 ≤ a.dst ∧ a.dst.toNat < s.sp.ms.length ∧ okFire n (s.sp.ms.getD a.src.toNat []) a.by_ = true ∧ s.sp.ms.getD a.dst.toNat [] = firedM (trAt n a.by_) (s.sp.ms.getD a.src.toNat [])
  back : ∀ j : Nat, 0 < j → j < s.sp.ms.length → ∃ i, ∃ h : i < s.sp.ar.length, s.sp.ar[i].dst = j ∧ s.sp.ar[i].src < j ∧ ∀ i', (h' : i' < i) → (s.sp.ar[i']'(by omega)).dst ≠ j
theorem ExOk.sp {n : Net} {start : List Int} {b : Int} {s : Ex} (h : ExOk n start b s) (c : Int) : ExOk n start b ⟨s.sp, c⟩ := ⟨h.first, h.good, h.lenb, h.nodup, h.arcs, h.back⟩
theorem getD_mem {l : List (List Int)} {k : Nat} (hk : k < l.length) : l.getD k [] ∈ l := by
  rw [List.getD_eq_getElem?_getD, List.getElem?_eq_getElem hk]; exact List.getElem_mem hk
theorem getD_ms {l : List (List Int)} {k : Nat} (hk : k < l.length) : l[k] = l.getD k [] := by
  rw [List.getD_eq_getElem?_getD, List.getElem?_eq_getElem hk]; rfl
theorem getD_app {l : List (List Int)} {m : List Int} {k : Nat} (hk : k < l.length) : (l ++ [m]).getD k [] = l.getD k [] := by
  rw [List.getD_eq_getElem?_getD, List.getD_eq_getElem?_getD, List.getElem?_append_left hk]
theorem getD_last {l : List (List Int)} {m : List Int} : (l ++ [m]).getD l.length [] = m := by
  rw [List.getD_eq_getElem?_getD, List.getElem?_append_right (Nat.le_refl _)]; simp
theorem enab_fire {n : Net} {m : List Int} {t : Int} (hm : marked n m = true) (ht : t ∈ enabL n m) (ha : (firedM (trAt n t) m).all (inB 0 50) = true) : okFire n m t = true := by
  obtain ⟨h1, h2, h3⟩ := enabL_mem.1 ht
  have h4 : inB 0 (n.tr.length - 1) t = true := by simp [inB]; omega
  simp only [okFire, canN, hm, h3, h4, ha, Bool.and_self]
theorem exStep_ok {n : Net} {start : List Int} {b : Int} {k : Nat} {s : Ex} {t : Int} (h : ExOk n start b s) (hk : k < s.sp.ms.length) (ht : t ∈ enabL n (s.sp.ms.getD k [])) : ExOk n start b (exStep n b k s t) := by
  by_cases h0 : s.code = 0
  case neg => rw [exStep_stop h0]; exact h
  cases ha : (firedM (trAt n t) (s.sp.ms.getD k [])).all (inB 0 50) with
  | false => rw [exStep_tok h0 ha]; exact h.sp 3
  | true =>
    have hf := enab_fire (h.good _ (getD_mem hk)) ht ha
    by_cases h2 : 0 ≤ findM s.sp.ms (firedM (trAt n t) (s.sp.ms.getD k []))
    · rw [exStep_old h0 ha h2]
      obtain ⟨g1, g2⟩ := findM_get h2
      refine ⟨h.first, h.good, h.lenb, h.nodup, fun a hm => ?_, fun j hj hl => ?_⟩
      · rcases List.mem_append.1 hm with hm | hm
        · exact h.arcs a hm
        · simp only [List.mem_singleton] at hm
          subst hm
          refine ⟨by simp, by simpa using hk, h2, g1, by simpa using hf, ?_⟩
          simp only [Int.toNat_natCast]
          rw [List.getD_eq_getElem?_getD, g2]; rfl
      · obtain ⟨i, hi, e1, e2, e3⟩ := h.back j hj hl
        refine ⟨i, by simp; omega, by simp only; rw [List.getElem_append_left hi]; exact e1, by simp only; rw [List.getElem_append_left hi]; exact e2, fun i' h' => ?_⟩
        simp only
        rw [List.getElem_append_left (by omega)]; exact e3 i' h'
    · by_cases h3 : b ≤ s.sp.ms.length
      · rw [exStep_full h0 ha h2 h3]; exact h.sp 2
      · rw [exStep_new h0 ha h2 h3]
        have hnm : firedM (trAt n t) (s.sp.ms.getD k []) ∉ s.sp.ms := fun hm => h2 (findM_mem.2 hm)
        generalize hM : firedM (trAt n t) (s.sp.ms.getD k []) = M at *
        refine ⟨?_, fun m hm => ?_, by simp; omega, ?_, fun a hm => ?_, fun j hj hl => ?_⟩
        · simp only
          rw [List.getElem?_append_left (by omega)]; exact h.first
        · rcases List.mem_append.1 hm with hm | hm
          · exact h.good m hm
          · simp only [List.mem_singleton] at hm
            subst hm; rw [← hM]; exact okFire_marked hf
        · simp only
          rw [List.nodup_append]
          refine ⟨h.nodup, by simp, fun x hx y hy => ?_⟩
          simp only [List.mem_singleton] at hy
          subst hy
          intro e; subst e; exact hnm hx
        · rcases List.mem_append.1 hm with hm | hm
          · obtain ⟨a1, a2, a3, a4, a5, a6⟩ := h.arcs a hm
            refine ⟨a1, by simp; omega, a3, by simp; omega, ?_, ?_⟩
            · simp only; rw [getD_app a2]; exact a5
            · simp only; rw [getD_app a2, getD_app a4]; exact a6
          · simp only [List.mem_singleton] at hm
            subst hm
            refine ⟨by simp, by simp; omega, by simp, by simp, ?_, ?_⟩
            · simp only [Int.toNat_natCast]; rw [getD_app hk]; exact hf
            · simp only [Int.toNat_natCast]; rw [getD_app hk, getD_last]; exact hM.symm
        · simp only [List.length_append, List.length_cons, List.length_nil] at hl
          by_cases hj2 : j < s.sp.ms.length
          · obtain ⟨i, hi, e1, e2, e3⟩ := h.back j hj hj2
            refine ⟨i, by simp; omega, by simp only; rw [List.getElem_append_left hi]; exact e1, by simp only; rw [List.getElem_append_left hi]; exact e2, fun i' h' => ?_⟩
            simp only
            rw [List.getElem_append_left (by omega)]; exact e3 i' h'
          · have : j = s.sp.ms.length := by omega
            subst this
            refine ⟨s.sp.ar.length, by simp, by simp, by simp; omega, fun i' h' => ?_⟩
            simp only
            rw [List.getElem_append_left h']
            have := h.arcs _ (List.getElem_mem h')
            omega
/-- Markings are only added. -/
theorem exStep_pre {n : Net} {b : Int} {k : Nat} {s : Ex} {t : Int} : ∃ l, (exStep n b k s t).sp.ms = s.sp.ms ++ l := by
  by_cases h0 : s.code = 0
  case neg => rw [exStep_stop h0]; exact ⟨[], by simp⟩
  cases ha : (firedM (trAt n t) (s.sp.ms.getD k [])).all (inB 0 50) with
  | false => rw [exStep_tok h0 ha]; exact ⟨[], by simp⟩
  | true =>
    by_cases h2 : 0 ≤ findM s.sp.ms (firedM (trAt n t) (s.sp.ms.getD k []))
    · rw [exStep_old h0 ha h2]; exact ⟨[], by simp⟩
    · by_cases h3 : b ≤ s.sp.ms.length
      · rw [exStep_full h0 ha h2 h3]; exact ⟨[], by simp⟩
      · rw [exStep_new h0 ha h2 h3]; exact ⟨_, rfl⟩
theorem exStep_in {n : Net} {b : Int} {k : Nat} {s : Ex} {t : Int} (h0 : s.code = 0) (h : (exStep n b k s t).code = 0) : (firedM (trAt n t) (s.sp.ms.getD k [])).all (inB 0 50) = true ∧ firedM (trAt n t) (s.sp.ms.getD k []) ∈ (exStep n b k s t).sp.ms := by
  cases ha : (firedM (trAt n t) (s.sp.ms.getD k [])).all (inB 0 50) with
  | false => rw [exStep_tok h0 ha] at h; simp at h
  | true =>
    refine ⟨rfl, ?_⟩
    by_cases h2 : 0 ≤ findM s.sp.ms (firedM (trAt n t) (s.sp.ms.getD k []))
    · rw [exStep_old h0 ha h2]; exact findM_mem.1 h2
    · by_cases h3 : b ≤ s.sp.ms.length
      · rw [exStep_full h0 ha h2 h3] at h; simp at h
      · rw [exStep_new h0 ha h2 h3]; simp
theorem getD_pre {l l' : List (List Int)} {k : Nat} (hk : k < l.length) : (l ++ l').getD k [] = l.getD k [] := by
  rw [List.getD_eq_getElem?_getD, List.getD_eq_getElem?_getD, List.getElem?_append_left hk]
theorem exL_facts {n : Net} {start : List Int} {b : Int} {k : Nat} : ∀ (l : List Int) (s : Ex), ExOk n start b s → k < s.sp.ms.length → (∀ t ∈ l, t ∈ enabL n (s.sp.ms.getD k [])) →
    ExOk n start b (exL n b k s l) ∧ (∃ l', (exL n b k s l).sp.ms = s.sp.ms ++ l') ∧ ((exL n b k s l).code = 0 → s.code = 0 ∧ ∀ t ∈ l, (firedM (trAt n t) (s.sp.ms.getD k [])).all (inB 0 50) = true ∧ firedM (trAt n t) (s.sp.ms.getD k []) ∈ (exL n b k s l).sp.ms)
  | [], s, h, hk, _ => ⟨h, ⟨[], by simp [exL]⟩, fun hc => ⟨hc, by simp⟩⟩
  | t :: l, s, h, hk, hl => by
    have h1 := exStep_ok h hk (hl t (by simp))
    obtain ⟨p, hp⟩ := exStep_pre (n := n) (b := b) (k := k) (s := s) (t := t)
    have e : (exStep n b k s t).sp.ms.getD k [] = s.sp.ms.getD k [] := by rw [hp, getD_pre hk]
    obtain ⟨f1, ⟨p2, f2⟩, f3⟩ := exL_facts (k := k) l (exStep n b k s t) h1 (by rw [hp]; simp; omega) (fun u hu => by rw [e]; exact hl u (by simp [hu]))
    refine ⟨f1, ⟨p ++ p2, by show (exL n b k (exStep n b k s t) l).sp.ms = _; rw [f2, hp, List.append_assoc]⟩, fun hc => ?_⟩
    obtain ⟨c1, c2⟩ := f3 hc
    have h0 : s.code = 0 := by
      by_cases h0 : s.code = 0
      · exact h0
      · rw [exStep_stop h0] at c1; exact c1
    refine ⟨h0, fun u hu => ?_⟩
    rcases List.mem_cons.1 hu with rfl | hu
    · obtain ⟨d1, d2⟩ := exStep_in h0 c1
      refine ⟨d1, ?_⟩
      show _ ∈ (exL n b k (exStep n b k s u) l).sp.ms
      rw [f2]; exact List.mem_append_left _ d2
    · have := c2 u hu
      rw [e] at this; exact this
/-- What is whole is closed. -/
def closedTo (n : Net) (s : Ex) (k : Nat) : Prop := ∀ i, i < k → i < s.sp.ms.length → ∀ t ∈ enabL n (s.sp.ms.getD i []), (firedM (trAt n t) (s.sp.ms.getD i [])).all (inB 0 50) = true ∧ firedM (trAt n t) (s.sp.ms.getD i []) ∈ s.sp.ms
theorem exRun_facts {n : Net} {start : List Int} {b : Int} : ∀ (f k : Nat) (s : Ex), ExOk n start b s → closedTo n s k → b.toNat < k + f → k ≤ s.sp.ms.length →
    ExOk n start b (exRun n b f k s) ∧ ((exRun n b f k s).code = 0 → closedTo n (exRun n b f k s) (exRun n b f k s).sp.ms.length)
  | 0, k, s, h, hc, hb, hk => by have := h.lenb; omega
  | f + 1, k, s, h, hc, hb, hk => by
    by_cases h0 : s.code ≠ 0
    · rw [exRun_stop h0]; exact ⟨h, fun e => absurd e h0⟩
    · show ExOk n start b (if s.code ≠ 0 then s else if k < s.sp.ms.length then exRun n b f (k + 1) (exL n b k s (enabL n (s.sp.ms.getD k []))) else s) ∧ _
      have er : exRun n b (f + 1) k s = if s.code ≠ 0 then s else if k < s.sp.ms.length then exRun n b f (k + 1) (exL n b k s (enabL n (s.sp.ms.getD k []))) else s := rfl
      rw [er, if_neg h0]
      by_cases hl : k < s.sp.ms.length
      · rw [if_pos hl]
        obtain ⟨f1, ⟨p, f2⟩, f3⟩ := exL_facts (start := start) (k := k) (enabL n (s.sp.ms.getD k [])) s h hl (fun t ht => ht)
        by_cases hc0 : (exL n b k s (enabL n (s.sp.ms.getD k []))).code = 0
        · refine exRun_facts f (k + 1) (exL n b k s (enabL n (s.sp.ms.getD k []))) f1 (fun i hi hl2 t ht => ?_) (by omega) (by rw [f2, List.length_append]; omega)
          by_cases hik : i < k
          · have e : (exL n b k s (enabL n (s.sp.ms.getD k []))).sp.ms.getD i [] = s.sp.ms.getD i [] := by rw [f2, getD_pre (l := s.sp.ms) (by omega)]
            rw [e] at ht ⊢
            obtain ⟨d1, d2⟩ := hc i hik (by omega) t ht
            exact ⟨d1, by rw [f2]; exact List.mem_append_left _ d2⟩
          · have : i = k := by omega
            subst this
            have e : (exL n b i s (enabL n (s.sp.ms.getD i []))).sp.ms.getD i [] = s.sp.ms.getD i [] := by rw [f2, getD_pre hl]
            rw [e] at ht ⊢
            exact (f3 hc0).2 t ht
        · rw [exRun_stop hc0]; exact ⟨f1, fun e => absurd e hc0⟩
      · rw [if_neg hl]
        refine ⟨h, fun _ i hi hl2 t ht => hc i (by omega) hl2 t ht⟩
theorem exAll_facts {n : Net} {start : List Int} {b : Int} (hm : marked n start = true) (hb : 1 ≤ b) : ExOk n start b (exAll n start b) ∧ ((exAll n start b).code = 0 → closedTo n (exAll n start b) (exAll n start b).sp.ms.length) := by
  unfold exAll
  refine exRun_facts _ 0 _ ⟨rfl, fun m hm2 => ?_, by simp; omega, by simp, fun a ha => by simp at ha, fun j hj hl => ?_⟩ (fun i hi => by omega) (by omega) (by omega)
  · simp only [List.mem_singleton] at hm2; subst hm2; exact hm
  · simp only [List.length_cons, List.length_nil] at hl; omega
end Go.Proofs.Ytkkifebmicbbaaa.Pi
