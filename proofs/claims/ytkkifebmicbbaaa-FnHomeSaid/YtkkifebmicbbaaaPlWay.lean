/- Plain laws of ways through a space. -/
import Derived.Test.YtkkifebmicbbaaaPlSpace
namespace Go.Proofs.Ytkkifebmicbbaaa.Pi
open Go
set_option linter.all false

def okEx (n : Net) (start : List Int) (b : Int) : Bool := marked n start && inB 1 400 b
theorem okEx_parts {n : Net} {start : List Int} {b : Int} (h : okEx n start b = true) : marked n start = true ∧ 1 ≤ b ∧ b ≤ 400 := by
  simp only [okEx, inB, Bool.and_eq_true, decide_eq_true_eq] at h
  exact ⟨h.1, by omega, by omega⟩
/-- Firings lead from one marking to another. -/
def pathOk (n : Net) (m l m' : List Int) : Prop := many n m l = l.length ∧ fsq n m l = m'
theorem pathOk_nil (n : Net) (m : List Int) : pathOk n m [] m := ⟨rfl, rfl⟩
theorem pathOk_cons {n : Net} {m l m' : List Int} {t : Int} (hf : okFire n m t = true) (h : pathOk n (firedM (trAt n t) m) l m') : pathOk n m (t :: l) m' := by
  refine ⟨?_, h.2⟩
  simp only [many, hf, if_true, List.length_cons, h.1]
theorem okFire_tr {n : Net} {m : List Int} {t : Int} (h : okFire n m t = true) : inB 0 (n.tr.length - 1) t = true := by
  obtain ⟨h1, _⟩ := Bool.and_eq_true .. ▸ h
  simp only [canN, Bool.and_eq_true] at h1
  exact h1.1.2
def arcTo (ar : List Arc3) (p : Int) : Int := idxI ar (fun a => decide (a.dst = p))
theorem arcTo_back {n : Net} {start : List Int} {b : Int} {s : Ex} (h : ExOk n start b s) {j : Nat} (h0 : 0 < j) (hj : j < s.sp.ms.length) : ∃ i : Nat, ∃ hi : i < s.sp.ar.length, arcTo s.sp.ar j = i ∧ 0 ≤ s.sp.ar[i].src ∧ s.sp.ar[i].src < j ∧ okFire n (s.sp.ms.getD s.sp.ar[i].src.toNat []) s.sp.ar[i].by_ = true ∧ s.sp.ms.getD j [] = firedM (trAt n s.sp.ar[i].by_) (s.sp.ms.getD s.sp.ar[i].src.toNat []) := by
  obtain ⟨i, hi, e1, e2, e3⟩ := h.back j h0 hj
  obtain ⟨a1, a2, a3, a4, a5, a6⟩ := h.arcs _ (List.getElem_mem hi)
  refine ⟨i, hi, ?_, a1, e2, a5, ?_⟩
  · unfold arcTo
    refine idxI_some hi ?_ (decide_eq_true e1)
    rw [List.any_eq_false]
    intro x hx
    obtain ⟨i', h1, rfl⟩ := List.mem_iff_getElem.1 hx
    have h2 : i' < i := by simp at h1; omega
    have := e3 i' h2
    simpa using this
  · rw [e1] at a6; simpa using a6
theorem findM_at {l : List (List Int)} (hn : l.Nodup) {k : Nat} (hk : k < l.length) : findM l (l.getD k []) = k := by
  unfold findM
  refine idxI_some hk ?_ (by rw [getD_ms hk]; simp)
  rw [List.any_eq_false]
  intro x hx
  obtain ⟨i, h1, rfl⟩ := List.mem_iff_getElem.1 hx
  have h2 : i < k := by simp at h1; omega
  have h3 := List.pairwise_iff_getElem.1 hn i k (by omega) hk h2
  rw [List.getElem_take, ← getD_ms hk]
  simpa using h3
/-- There are not many arcs. -/
theorem exStep_arcs (n : Net) (b : Int) (k : Nat) (s : Ex) (t : Int) : (exStep n b k s t).sp.ar.length ≤ s.sp.ar.length + 1 := by
  by_cases h0 : s.code = 0
  case neg => rw [exStep_stop h0]; omega
  cases ha : (firedM (trAt n t) (s.sp.ms.getD k [])).all (inB 0 50) with
  | false => rw [exStep_tok h0 ha]; simp only; omega
  | true =>
    by_cases h2 : 0 ≤ findM s.sp.ms (firedM (trAt n t) (s.sp.ms.getD k []))
    · rw [exStep_old h0 ha h2]; simp
    · by_cases h3 : b ≤ s.sp.ms.length
      · rw [exStep_full h0 ha h2 h3]; simp only; omega
      · rw [exStep_new h0 ha h2 h3]; simp
theorem exL_arcs (n : Net) (b : Int) (k : Nat) : ∀ (l : List Int) (s : Ex), (exL n b k s l).sp.ar.length ≤ s.sp.ar.length + l.length
  | [], s => by simp [exL]
  | t :: l, s => by
    have h1 := exStep_arcs n b k s t
    have h2 := exL_arcs n b k l (exStep n b k s t)
    show (exL n b k (exStep n b k s t) l).sp.ar.length ≤ _
    simp only [List.length_cons]; omega
theorem exRun_arcs {n : Net} {b : Int} (hn : n.tr.length ≤ 24) : ∀ (f k : Nat) (s : Ex), (exRun n b f k s).sp.ar.length ≤ s.sp.ar.length + 24 * f
  | 0, k, s => by simp [exRun]
  | f + 1, k, s => by
    show (if s.code ≠ 0 then s else if k < s.sp.ms.length then exRun n b f (k + 1) (exL n b k s (enabL n (s.sp.ms.getD k []))) else s).sp.ar.length ≤ _
    split
    · omega
    · split
      · have h1 := exL_arcs n b k (enabL n (s.sp.ms.getD k [])) s
        have h2 : (enabL n (s.sp.ms.getD k [])).length ≤ n.tr.length := enabK_len ..
        have h3 := exRun_arcs (b := b) hn f (k + 1) (exL n b k s (enabL n (s.sp.ms.getD k [])))
        omega
      · omega
theorem exAll_arcs {n : Net} {start : List Int} {b : Int} (hn : n.tr.length ≤ 24) (hb : b ≤ 400) : (exAll n start b).sp.ar.length ≤ 20000 := by
  have := exRun_arcs (b := b) hn (b.toNat + 2) 0 ⟨⟨[start], []⟩, 0⟩
  unfold exAll
  simp only [List.length_nil] at this
  omega
/-- Why a space stopped. -/
theorem exStep_code (n : Net) (b : Int) (k : Nat) (s : Ex) (t : Int) (h : s.code = 0 ∨ s.code = 2 ∨ s.code = 3) : (exStep n b k s t).code = 0 ∨ (exStep n b k s t).code = 2 ∨ (exStep n b k s t).code = 3 := by
  by_cases h0 : s.code = 0
  case neg => rw [exStep_stop h0]; exact h
  cases ha : (firedM (trAt n t) (s.sp.ms.getD k [])).all (inB 0 50) with
  | false => rw [exStep_tok h0 ha]; simp
  | true =>
    by_cases h2 : 0 ≤ findM s.sp.ms (firedM (trAt n t) (s.sp.ms.getD k []))
    · rw [exStep_old h0 ha h2]; simp
    · by_cases h3 : b ≤ s.sp.ms.length
      · rw [exStep_full h0 ha h2 h3]; simp
      · rw [exStep_new h0 ha h2 h3]; simp
theorem exL_code (n : Net) (b : Int) (k : Nat) : ∀ (l : List Int) (s : Ex), (s.code = 0 ∨ s.code = 2 ∨ s.code = 3) → (exL n b k s l).code = 0 ∨ (exL n b k s l).code = 2 ∨ (exL n b k s l).code = 3
  | [], s, h => h
  | t :: l, s, h => exL_code n b k l (exStep n b k s t) (exStep_code n b k s t h)
theorem exRun_code {n : Net} {b : Int} : ∀ (f k : Nat) (s : Ex), (s.code = 0 ∨ s.code = 2 ∨ s.code = 3) → (exRun n b f k s).code = 0 ∨ (exRun n b f k s).code = 2 ∨ (exRun n b f k s).code = 3
  | 0, k, s, h => h
  | f + 1, k, s, h => by
    have er : exRun n b (f + 1) k s = if s.code ≠ 0 then s else if k < s.sp.ms.length then exRun n b f (k + 1) (exL n b k s (enabL n (s.sp.ms.getD k []))) else s := rfl
    rw [er]
    split
    · exact h
    · split
      · exact exRun_code f (k + 1) _ (exL_code n b k _ s h)
      · exact h
theorem exAll_code (n : Net) (start : List Int) (b : Int) : (exAll n start b).code = 0 ∨ (exAll n start b).code = 2 ∨ (exAll n start b).code = 3 := exRun_code _ _ _ (.inl rfl)
/-- A row turned around, pair by pair. -/
def revI (l c : List Int) (i : Nat) : Prop := ∃ h : c.length = l.length, ∀ p, (hp : p < l.length) → c[p]'(by omega) = if p < i ∨ l.length ≤ p + i then l[l.length - 1 - p]'(by omega) else l[p]
theorem revI_zero (l : List Int) : revI l l 0 := ⟨rfl, fun p hp => by rw [if_neg (by omega)]⟩
theorem revI_step {l c : List Int} {i : Nat} (h : revI l c i) (hi : 2 * i + 1 < l.length) : revI l ((c.set i (c[l.length - 1 - i]'(by have := h.1; omega))).set (l.length - 1 - i) (c[i]'(by have := h.1; omega))) (i + 1) := by
  obtain ⟨h1, h2⟩ := h
  refine ⟨by simp [h1], fun p hp => ?_⟩
  have hi1 := h2 i (by omega)
  have hi2 := h2 (l.length - 1 - i) (by omega)
  rw [if_neg (by omega)] at hi1 hi2
  rw [List.getElem_set]
  by_cases e1 : l.length - 1 - i = p
  · rw [if_pos e1, if_pos (by omega), hi1]
    congr 1; omega
  · rw [if_neg e1, List.getElem_set]
    by_cases e2 : i = p
    · rw [if_pos e2, if_pos (by omega), hi2]
      congr 1; omega
    · rw [if_neg e2, h2 p hp]
      by_cases e3 : p < i ∨ l.length ≤ p + i
      · rw [if_pos e3, if_pos (by omega)]
      · rw [if_neg e3, if_neg (by omega)]
theorem revI_end {l c : List Int} {i : Nat} (h : revI l c i) (hi : l.length ≤ 2 * i + 1) : c = l.reverse := by
  obtain ⟨h1, h2⟩ := h
  refine List.ext_getElem (by simp [h1]) (fun p hp hp2 => ?_)
  rw [h2 p (by omega), List.getElem_reverse]
  split
  · rfl
  · congr 1; omega
end Go.Proofs.Ytkkifebmicbbaaa.Pi
