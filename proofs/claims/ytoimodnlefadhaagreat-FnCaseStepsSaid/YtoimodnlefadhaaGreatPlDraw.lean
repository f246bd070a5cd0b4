/- Specifications as they are drawn: small ones. Plain Lean. No condition. -/
import Derived.Test.YtoimodnlefadhaaGreatPlSpec
namespace Go.Proofs.YtoimodnlefadhaaGreat.Pi
open Go
set_option linter.all false
def smk (q : Nat) (l : List Tk) : Prop := ∀ t ∈ l, t.inn.length ≤ q ∧ t.out.length ≤ q ∧ t.cut.length ≤ q ∧ t.stop.length ≤ q
theorem smk_nil {q : Nat} : smk q [] := by intro t ht; cases ht
theorem smk_cons {q : Nat} {t : Tk} {l : List Tk} (ht : t.inn.length ≤ q ∧ t.out.length ≤ q ∧ t.cut.length ≤ q ∧ t.stop.length ≤ q) (h : smk q l) : smk q (t :: l) := by
  intro u hu
  rcases List.mem_cons.1 hu with rfl | hu
  · exact ht
  · exact h u hu
theorem smk_set {q : Nat} {l : List Tk} {i : Nat} {t : Tk} (h : smk q l) (ht : t.inn.length ≤ q ∧ t.out.length ≤ q ∧ t.cut.length ≤ q ∧ t.stop.length ≤ q) : smk q (l.set i t) := by
  intro u hu
  rcases List.mem_or_eq_of_mem_set hu with hu | rfl
  · exact h u hu
  · exact ht
theorem smk_mono {p q : Nat} {l : List Tk} (hpq : p ≤ q) (h : smk p l) : smk q l := fun t ht => by
  have := h t ht
  exact ⟨Nat.le_trans this.1 hpq, Nat.le_trans this.2.1 hpq, Nat.le_trans this.2.2.1 hpq, Nat.le_trans this.2.2.2 hpq⟩
/-- A specification as it is drawn. -/
def drS (s : Spc) : Prop := (1 ≤ s.tasks.length ∧ s.tasks.length ≤ 4) ∧ (0 ≤ s.conds ∧ s.conds ≤ 20) ∧ smk 20 s.tasks
theorem drS.sm {s : Spc} (h : drS s) : smSpc s := ⟨by have := h.1; omega, fun t ht => by have := h.2.2 t ht; exact ⟨by omega, by omega, by omega, by omega⟩⟩

/-! ### Moves are distinct, and what their transitions have -/
theorem mvK_task {s : Spc} {k : Nat} {m : Mv} (h : m ∈ mvK s k) : m.task = k := by
  simp only [mvK, List.mem_append, mvB, mvE, List.mem_map] at h
  rcases h with ⟨i, _, rfl⟩ | ⟨i, _, rfl⟩ <;> rfl
theorem mvK_nodup (s : Spc) (k : Nat) : (mvK s k).Nodup := by
  unfold mvK
  rw [List.nodup_append]
  refine ⟨?_, ?_, ?_⟩
  · unfold mvB
    refine List.Pairwise.map _ (fun a b hab => ?_) List.nodup_range
    intro h; simp at h; omega
  · unfold mvE
    refine List.Pairwise.map _ (fun a b hab => ?_) List.nodup_range
    intro h; simp at h; omega
  · intro x hx y hy h
    subst h
    simp only [mvB, mvE, List.mem_map] at hx hy
    obtain ⟨i, _, rfl⟩ := hx
    obtain ⟨j, _, h⟩ := hy
    simp at h
theorem mvU_task {s : Spc} {k : Nat} {m : Mv} (h : m ∈ mvU s k) : m.task < k := by
  simp only [mvU, List.mem_flatMap, List.mem_range] at h
  obtain ⟨i, hi, hm⟩ := h
  rw [mvK_task hm]; omega
theorem mvU_nodup (s : Spc) : ∀ k, (mvU s k).Nodup
  | 0 => by simp [mvU]
  | k + 1 => by
    rw [mvU_succ, List.nodup_append]
    refine ⟨mvU_nodup s k, mvK_nodup s k, ?_⟩
    intro x hx y hy h
    subst h
    have h1 := mvU_task hx
    have h2 := mvK_task hy
    omega
theorem idx_nodup {l : List Mv} (h : l.Nodup) {k : Nat} (hk : k < l.length) : idxI l (fun y => y == l[k]) = k := by
  refine idxI_some hk ?_ (by simp)
  rw [List.any_eq_false]
  intro x hx
  rw [List.mem_take_iff_getElem] at hx
  obtain ⟨j, hj, rfl⟩ := hx
  have := List.pairwise_iff_getElem.1 h j k (by omega) hk (by omega)
  simpa using this
theorem moveNo_get {s : Spc} (hg : goodS s = true) {k : Nat} (hk : k < (mvS s).length) : moveNo s (mvS s)[k] = ((k : Int), true) := by
  have h := idx_nodup (mvU_nodup s s.tasks.length) (k := k) hk
  have h' : idxI (mvS s) (fun y => y == (mvS s)[k]) = k := h
  unfold moveNo
  rw [h', if_pos ⟨hg, by omega⟩]
theorem trS_len (s : Spc) : (trS s).length = (mvS s).length := trU_len s s.tasks.length
theorem trS_get {s : Spc} {k : Nat} (hk : k < (mvS s).length) : (trS s)[k]'(by rw [trS_len]; exact hk) = trM s (mvS s)[k] := by
  have h : (mvS s).map (trM s) = trS s := trM_U s s.tasks.length
  have := List.getElem_map (trM s) (l := mvS s) (i := k) (h := by rw [List.length_map]; exact hk)
  rw [← this]
  congr 1
  exact h.symm
theorem at_mem {l : List Int} {p : Int} (h : p.toNat < l.length) : at_ l p ∈ l := by rw [← at_eq h]; exact List.getElem_mem h
theorem trM_has {s : Spc} {m : Mv} (h : okTasks s = true) (hm : isMv s m) : decide (s.conds + m.task ∈ (trM s m).out) = m.begin_ ∧ decide (s.conds + m.task ∈ (trM s m).inn) = !m.begin_ := by
  obtain ⟨k, hk, e1, hb, he⟩ := hm
  obtain ⟨_, _, hg⟩ := okTasks_parts h
  obtain ⟨hj, hs, h1, h2, h5, h6, -, -, -, -⟩ := goodK_parts (hg k hk)
  obtain ⟨mt, mb, mp⟩ := m
  simp only at e1 hb he
  subst e1
  have eT : tkN s ((k : Int)).toNat = tkN s k := by simp
  unfold trM
  simp only [eT]
  have hb2 : (beginL (tkN s k)).length = if (tkN s k).join = 2 then (tkN s k).inn.length else 1 := by unfold beginL; split <;> simp
  have hE : (endL (tkN s k)).length = if (tkN s k).split = 2 then (tkN s k).out.length else if (tkN s k).split = 3 then 2 ^ (tkN s k).out.length - 1 else 1 := by unfold endL; (repeat' split) <;> simp
  have hF : endF (tkN s k) = if (tkN s k).split = 2 then 0 else if (tkN s k).split = 3 then 1 else 0 := rfl
  have notin : ∀ l : List Int, (∀ x ∈ l, 0 ≤ x ∧ x < s.conds) → decide (s.conds + (k : Int) ∈ l) = false := by
    intro l hl
    rw [decide_eq_false_iff_not]
    intro hx
    have := hl _ hx; omega
  generalize tkN s k = t at *
  cases mb with
  | true =>
    obtain ⟨hp0, hp1⟩ := hb rfl
    rcases hj with hj | hj
    · simp only [hj, if_true]
      exact ⟨by simp, notin _ h5⟩
    · simp only [hj, if_true] at hb2 ⊢
      refine ⟨by simp, notin _ ?_⟩
      intro x hx
      simp only [List.mem_singleton] at hx
      subst hx
      exact h5 _ (at_mem (by omega))
  | false =>
    obtain ⟨hp0, hp1⟩ := he rfl
    refine ⟨?_, by simp⟩
    simp only [Bool.false_eq_true, if_false]
    rcases hs with hs | hs | hs
    · simp only [hs]; exact notin _ h6
    · simp only [hs, if_true] at hE hF ⊢
      refine notin _ ?_
      intro x hx
      simp only [List.mem_singleton] at hx
      subst hx
      exact h6 _ (at_mem (by omega))
    · simp [hs] at hE hF
      have hpp := pow_le h2.1 h2.2
      obtain ⟨d1, d2, d3, d4, d5⟩ := setB_ok mp.toNat (by omega)
      have d6 := d5 t.out.length h2.1 h2.2 (by omega)
      simp only [hs]
      refine notin _ ?_
      intro x hx
      simp only [show ¬ ((3 : Int) = 2) by decide, if_false, if_true, someL, List.mem_map] at hx
      obtain ⟨i, hi, rfl⟩ := hx
      have := d6 i hi
      have := d3 i hi
      exact h6 _ (at_mem (by omega))
theorem trM_rst {s : Spc} {m : Mv} (hg : goodS s = true) (hm : isMv s m) : regV s m.task = (regL s (tkN s m.task.toNat), true) ∧ (m.begin_ = false → (trM s m).rst = regL s (tkN s m.task.toNat)) := by
  obtain ⟨k, hk, e1, -, -⟩ := hm
  refine ⟨?_, fun h => ?_⟩
  · unfold regV
    rw [if_pos ⟨hg, by rw [e1]; simp [inB]; omega⟩]
  · unfold trM; simp only [h, Bool.false_eq_true, if_false]
end Go.Proofs.YtoimodnlefadhaaGreat.Pi
