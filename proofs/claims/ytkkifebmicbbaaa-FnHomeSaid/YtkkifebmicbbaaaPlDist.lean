/- Shortest ways in a space, and the first of them. Plain Lean. No condition. -/
import Derived.Test.YtkkifebmicbbaaaPlReach
namespace Go.Proofs.Ytkkifebmicbbaaa.Pi
open Go
set_option linter.all false

/-! ### How a space is laid out -/
structure Bfs (ar : List Arc3) (n : Nat) : Prop where
  inn : arcsIn ar n
  srt : ∀ i j, i ≤ j → ∀ (hi : i < ar.length) (hj : j < ar.length), ar[i].src ≤ ar[j].src
  pre : ∀ i, (hi : i < ar.length) → ∀ q : Nat, 1 ≤ q → (q : Int) < ar[i].dst → ∃ j, ∃ hj : j < i, (ar[j]'(by omega)).dst = q
  back : ∀ q : Nat, 0 < q → q < n → ∃ i, ∃ h : i < ar.length, ar[i].dst = q ∧ ar[i].src < q ∧ ∀ i', (h' : i' < i) → (ar[i']'(by omega)).dst ≠ q
structure ExB (s : Ex) (k : Nat) : Prop where
  le : ∀ a ∈ s.sp.ar, a.src ≤ k
  srt : ∀ i j, i ≤ j → ∀ (hi : i < s.sp.ar.length) (hj : j < s.sp.ar.length), s.sp.ar[i].src ≤ s.sp.ar[j].src
  pre : ∀ i, (hi : i < s.sp.ar.length) → ∀ q : Nat, 1 ≤ q → (q : Int) < s.sp.ar[i].dst → ∃ j, ∃ hj : j < i, (s.sp.ar[j]'(by omega)).dst = q
theorem ExB.add {s : Ex} {k : Nat} {ms : List (List Int)} {t d c : Int} (h : ExB s k) (hd : ∀ q : Nat, 1 ≤ q → (q : Int) < d → ∃ j, ∃ hj : j < s.sp.ar.length, s.sp.ar[j].dst = q) : ExB ⟨⟨ms, s.sp.ar ++ [⟨k, t, d⟩]⟩, c⟩ k := by
  refine ⟨fun a ha => ?_, fun i j hij hi hj => ?_, fun i hi q h1 h2 => ?_⟩
  · rcases List.mem_append.1 ha with ha | ha
    · exact h.le a ha
    · rw [List.mem_singleton] at ha; subst ha; exact Int.le_refl _
  · simp only [List.length_append, List.length_cons, List.length_nil] at hi hj
    simp only [List.getElem_append]
    by_cases hj2 : j < s.sp.ar.length
    · rw [dif_pos (show i < s.sp.ar.length by omega), dif_pos hj2]; exact h.srt i j hij _ _
    · rw [dif_neg hj2]
      by_cases hi2 : i < s.sp.ar.length
      · rw [dif_pos hi2]
        simp only [List.getElem_singleton]
        exact h.le _ (List.getElem_mem hi2)
      · rw [dif_neg hi2]; simp
  · simp only [List.length_append, List.length_cons, List.length_nil] at hi
    by_cases hi2 : i < s.sp.ar.length
    · simp only [List.getElem_append, dif_pos hi2] at h2
      obtain ⟨j, hj, e⟩ := h.pre i hi2 q h1 h2
      exact ⟨j, hj, by simp only [List.getElem_append, dif_pos (show j < s.sp.ar.length by omega)]; exact e⟩
    · have : i = s.sp.ar.length := by omega
      subst this
      simp only [List.getElem_append, dif_neg hi2, List.getElem_singleton] at h2
      obtain ⟨j, hj, e⟩ := hd q h1 h2
      exact ⟨j, hj, by simp only [List.getElem_append, dif_pos hj]; exact e⟩
theorem ExB.stop {s : Ex} {k : Nat} (h : ExB s k) (c : Int) : ExB ⟨s.sp, c⟩ k := ⟨h.le, h.srt, h.pre⟩
theorem exStep_bfs {n : Net} {start : List Int} {b : Int} {k : Nat} {s : Ex} {t : Int} (ho : ExOk n start b s) (h : ExB s k) : ExB (exStep n b k s t) k := by
  have all : ∀ q : Nat, 1 ≤ q → q < s.sp.ms.length → ∃ j, ∃ hj : j < s.sp.ar.length, s.sp.ar[j].dst = q := fun q h1 h2 => by
    obtain ⟨i, hi, e, _⟩ := ho.back q (by omega) h2
    exact ⟨i, hi, e⟩
  by_cases h0 : s.code = 0
  case neg => rw [exStep_stop h0]; exact h
  cases ha : (firedM (trAt n t) (s.sp.ms.getD k [])).all (inB 0 50) with
  | false => rw [exStep_tok h0 ha]; exact h.stop 3
  | true =>
    by_cases h2 : 0 ≤ findM s.sp.ms (firedM (trAt n t) (s.sp.ms.getD k []))
    · rw [exStep_old h0 ha h2]
      have := (findM_get h2).1
      exact h.add fun q h3 h4 => all q h3 (by omega)
    · by_cases h3 : b ≤ s.sp.ms.length
      · rw [exStep_full h0 ha h2 h3]; exact h.stop 2
      · rw [exStep_new h0 ha h2 h3]
        exact h.add fun q h3 h4 => all q h3 (by omega)
theorem exL_bfs {n : Net} {start : List Int} {b : Int} {k : Nat} : ∀ (l : List Int) (s : Ex), ExOk n start b s → ExB s k → k < s.sp.ms.length → (∀ t ∈ l, t ∈ enabL n (s.sp.ms.getD k [])) → ExB (exL n b k s l) k
  | [], s, _, h, _, _ => h
  | t :: l, s, ho, h, hk, hl => by
    have h1 := exStep_ok ho hk (hl t (by simp))
    obtain ⟨p, hp⟩ := exStep_pre (n := n) (b := b) (k := k) (s := s) (t := t)
    have e : (exStep n b k s t).sp.ms.getD k [] = s.sp.ms.getD k [] := by rw [hp, getD_pre hk]
    exact exL_bfs l (exStep n b k s t) h1 (exStep_bfs ho h) (by rw [hp]; simp; omega) (fun u hu => by rw [e]; exact hl u (by simp [hu]))
theorem ExB.up {s : Ex} {k k' : Nat} (h : ExB s k) (hk : k ≤ k') : ExB s k' := ⟨fun a ha => by have := h.le a ha; omega, h.srt, h.pre⟩
theorem exRun_bfs {n : Net} {start : List Int} {b : Int} : ∀ (f k : Nat) (s : Ex), ExOk n start b s → ExB s k → ∃ k', ExB (exRun n b f k s) k'
  | 0, k, s, _, h => ⟨k, h⟩
  | f + 1, k, s, ho, h => by
    have er : exRun n b (f + 1) k s = if s.code ≠ 0 then s else if k < s.sp.ms.length then exRun n b f (k + 1) (exL n b k s (enabL n (s.sp.ms.getD k []))) else s := rfl
    rw [er]
    split
    · exact ⟨k, h⟩
    · split
      · rename_i hl
        exact exRun_bfs f (k + 1) _ (exL_facts (start := start) (k := k) _ s ho hl (fun t ht => ht)).1 ((exL_bfs _ s ho h hl (fun t ht => ht)).up (by omega))
      · exact ⟨k, h⟩
theorem exAll_bfs {n : Net} {start : List Int} {b : Int} (hm : marked n start = true) (hb : 1 ≤ b) : Bfs (exAll n start b).sp.ar (exAll n start b).sp.ms.length := by
  have ho := (exAll_facts hm hb).1
  obtain ⟨k, h⟩ : ∃ k, ExB (exAll n start b) k := by
    unfold exAll
    refine exRun_bfs (start := start) _ 0 _ ⟨rfl, fun m hm2 => ?_, by simp; omega, by simp, fun a ha => by simp at ha, fun j hj hl => ?_⟩ ⟨fun a ha => by simp at ha, fun i j _ hi => by simp at hi, fun i hi => by simp at hi⟩
    · simp only [List.mem_singleton] at hm2; subst hm2; exact hm
    · simp only [List.length_cons, List.length_nil] at hl; omega
  refine ⟨fun a ha => ?_, h.srt, h.pre, ho.back⟩
  have := ho.arcs a ha
  omega

/-! ### Ways of some arcs -/
def Dk (ar : List Arc3) (p : Int) : Nat → Int → Prop
  | 0, k => k = p
  | d + 1, k => ∃ a ∈ ar, a.src = k ∧ Dk ar p d a.dst
/-- The least numbers of arcs. -/
structure isFar (ar : List Arc3) (p : Int) (n : Nat) (F : List Int) : Prop where
  len : F.length = n
  val : ∀ k : Nat, k < n → (F[k]? = some (-1) ∧ ∀ e, ¬ Dk ar p e k) ∨ ∃ d : Nat, F[k]? = some (d : Int) ∧ Dk ar p d k ∧ ∀ e, e < d → ¬ Dk ar p e k
/-- The way by the first arcs. -/
def treeW (ar : List Arc3) : Nat → Nat → List Int
  | 0, _ => []
  | f + 1, k => if k = 0 then [] else match ar[(arcTo ar k).toNat]? with
    | some a => treeW ar f a.src.toNat ++ [a.by_]
    | none => []
def tw (ar : List Arc3) (k : Nat) : List Int := treeW ar (k + 1) k
section
variable {ar : List Arc3} {n : Nat}
theorem Bfs.arc (h : Bfs ar n) {q : Nat} (h0 : 0 < q) (hq : q < n) : ∃ i, ∃ hi : i < ar.length, arcTo ar q = i ∧ ar[i].dst = q ∧ 0 ≤ ar[i].src ∧ ar[i].src < q ∧ ∀ i', (h' : i' < i) → (ar[i']'(by omega)).dst ≠ q := by
  obtain ⟨i, hi, e1, e2, e3⟩ := h.back q h0 hq
  refine ⟨i, hi, ?_, e1, (h.inn _ (List.getElem_mem hi)).1, e2, e3⟩
  unfold arcTo
  refine idxI_some hi ?_ (decide_eq_true e1)
  rw [List.any_eq_false]
  intro x hx
  obtain ⟨i', h1, rfl⟩ := List.mem_iff_getElem.1 hx
  have h2 : i' < i := by simp at h1; omega
  have := e3 i' h2
  simpa using this
theorem treeW_fuel (h : Bfs ar n) : ∀ (f g k : Nat), k < n → k < f → k < g → treeW ar f k = treeW ar g k
  | 0, _, k, _, hf, _ => by omega
  | f + 1, 0, k, _, _, hg => by omega
  | f + 1, g + 1, k, hn, hf, hg => by
    unfold treeW
    split
    · rfl
    · rename_i h0
      obtain ⟨i, hi, e, _, e2, e3, _⟩ := h.arc (by omega) hn
      rw [e, Int.toNat_natCast, List.getElem?_eq_getElem hi]
      simp only
      rw [treeW_fuel h f g _ (by omega) (by omega) (by omega)]
theorem tw_zero : tw ar 0 = [] := rfl
theorem tw_step (h : Bfs ar n) {k i : Nat} (h0 : 0 < k) (hk : k < n) (hi : i < ar.length) (e : arcTo ar k = i) : tw ar k = tw ar ar[i].src.toNat ++ [ar[i].by_] := by
  obtain ⟨j, hj, e1, _, e2, e3, _⟩ := h.arc h0 hk
  have hij : j = i := by rw [e] at e1; omega
  subst hij
  show (if k = 0 then [] else match ar[(arcTo ar k).toNat]? with | some a => treeW ar k a.src.toNat ++ [a.by_] | none => []) = _
  rw [if_neg (by omega), e, Int.toNat_natCast, List.getElem?_eq_getElem hj]
  simp only
  rw [treeW_fuel h k (ar[j].src.toNat + 1) _ (by omega) (by omega) (by omega)]; rfl
theorem tw_mono (h : Bfs ar n) : ∀ (k k' : Nat), k ≤ k' → k' < n → (tw ar k).length ≤ (tw ar k').length
  | 0, k', _, _ => by simp [tw_zero]
  | k + 1, k', hk, hn => by
    obtain ⟨i, hi, a1, a2, a3, a4, a5⟩ := h.arc (q := k + 1) (by omega) (by omega)
    obtain ⟨j, hj, b1, b2, b3, b4, b5⟩ := h.arc (q := k') (by omega) hn
    rw [tw_step h (by omega) (by omega) hi a1, tw_step h (by omega) hn hj b1]
    have hij : i ≤ j := by
      by_cases e : k + 1 = k'
      · subst e; rw [a1] at b1; omega
      · obtain ⟨j', hj', e'⟩ := h.pre j hj (k + 1) (by omega) (by omega)
        have : ¬ j' < i := fun hlt => a5 j' hlt e'
        omega
    have hs := h.srt i j hij hi hj
    have := tw_mono h ar[i].src.toNat ar[j].src.toNat (by omega) (by omega)
    simp only [List.length_append, List.length_cons, List.length_nil]; omega
termination_by k => k
decreasing_by all_goals omega
/-- No way is shorter than that by the first arcs. -/
theorem tw_short (h : Bfs ar n) {p : Nat} (hp : p < n) : ∀ (r k : Nat), k < n → Dk ar p r k → (tw ar p).length ≤ (tw ar k).length + r
  | 0, k, _, hd => by have : k = p := by simp only [Dk] at hd; omega
                      subst this; omega
  | r + 1, k, hk, ⟨a, hm, e, hd⟩ => by
    obtain ⟨a1, a2, a3, a4⟩ := h.inn a hm
    have hd2 : Dk ar p r (a.dst.toNat : Nat) := by rw [Int.toNat_of_nonneg a3]; exact hd
    have ih := tw_short h hp r a.dst.toNat (by omega) hd2
    by_cases h0 : a.dst.toNat = 0
    · rw [h0, tw_zero, List.length_nil] at ih; omega
    · obtain ⟨i, hi, b1, b2, b3, b4, b5⟩ := h.arc (q := a.dst.toNat) (by omega) (by omega)
      obtain ⟨j, hj, rfl⟩ := List.mem_iff_getElem.1 hm
      have hij : i ≤ j := by
        have : ¬ j < i := fun hlt => b5 j hlt (by omega)
        omega
      have hs := h.srt i j hij hi hj
      rw [tw_step h (by omega) (by omega) hi b1, List.length_append, List.length_cons, List.length_nil] at ih
      have := tw_mono h ar[i].src.toNat k (by omega) hk
      omega
/-- A part of the way by the first arcs, from its begin. -/
inductive Tp (ar : List Arc3) (p : Nat) : Nat → List Int → Prop
  | refl : Tp ar p p []
  | step {c i : Nat} {U : List Int} (hi : i < ar.length) (e : arcTo ar c = i) (h0 : 0 < c) (t : Tp ar p c U) : Tp ar p ar[i].src.toNat (ar[i].by_ :: U)
theorem Tp.path (h : Bfs ar n) {p t : Nat} {U : List Int} (hp : p < n) (ht : Tp ar p t U) : t < n ∧ Dk ar p U.length t := by
  induction ht with
  | refl => exact ⟨hp, rfl⟩
  | step hi e h0 t ih =>
    rename_i c i U
    obtain ⟨j, hj, e1, e2, e3, e4, _⟩ := h.arc h0 ih.1
    have : j = i := by rw [e] at e1; omega
    subst this
    refine ⟨by omega, _, List.getElem_mem hi, (Int.toNat_of_nonneg e3).symm, ?_⟩
    rw [e2]; exact ih.2
theorem tw_tp (h : Bfs ar n) {p : Nat} (hp : p < n) : ∀ (k : Nat) (U : List Int), k < n → Tp ar p k U → Tp ar p 0 (tw ar k ++ U)
  | 0, U, _, ht => by rw [tw_zero]; exact ht
  | k + 1, U, hk, ht => by
    obtain ⟨i, hi, e1, e2, e3, e4, _⟩ := h.arc (q := k + 1) (by omega) hk
    rw [tw_step h (by omega) hk hi e1, List.append_assoc]
    exact tw_tp h hp ar[i].src.toNat _ (by omega) (.step hi e1 (by omega) ht)
termination_by k => k
decreasing_by all_goals omega
/-- What comes first is not come to later. -/
theorem no_less (h : Bfs ar n) {p : Nat} (hp : p < n) : ∀ (U : List Int) (x c : Nat), x < c → Tp ar p c U → Dk ar p U.length x → False
  | [], x, c, hx, ht, hd => by
    cases ht
    simp only [List.length_nil, Dk] at hd; omega
  | b :: U, x, c, hx, ht, hd => by
    cases ht
    rename_i c' i hi e h0 t
    obtain ⟨a, hm, e2, hd2⟩ := hd
    obtain ⟨j, hj, rfl⟩ := List.mem_iff_getElem.1 hm
    obtain ⟨a1, a2, a3, a4⟩ := h.inn _ hm
    have hc := (Tp.path h hp t).1
    obtain ⟨i2, hi2, f1, f2, f3, f4, f5⟩ := h.arc h0 hc
    have : i2 = i := by rw [e] at f1; omega
    subst this
    have hji : j < i2 := by
      apply Decidable.byContradiction
      intro hn
      have := h.srt i2 j (by omega) hi hj
      omega
    have hlt : ar[j].dst.toNat < c' := by
      apply Decidable.byContradiction
      intro hn
      by_cases he : ar[j].dst.toNat = c'
      · exact f5 j hji (by omega)
      · obtain ⟨j', hj', e'⟩ := h.pre j hj c' h0 (by omega)
        exact f5 j' (by omega) e'
    exact no_less h hp U _ c' hlt t (by rw [Int.toNat_of_nonneg a3]; exact hd2)
/-- The way that takes the first arc that comes nearer. -/
inductive Gd (ar : List Arc3) (F : List Int) (p : Nat) : Nat → List Int → Prop
  | refl : Gd ar F p p []
  | step {t i : Nat} {W : List Int} (hne : t ≠ p) (hi : i < ar.length) (hs : ar[i].src = t) (hf : ∀ u v, F[ar[i].dst.toNat]? = some u → F[t]? = some v → u = v - 1) (hm : ∀ j, (hj : j < i) → (ar[j]'(by omega)).src = t → ∀ u v, F[(ar[j]'(by omega)).dst.toNat]? = some u → F[t]? = some v → u ≠ v - 1)
      (g : Gd ar F p ar[i].dst.toNat W) : Gd ar F p t (ar[i].by_ :: W)
theorem isFar.at_ {p : Nat} {F : List Int} (hF : isFar ar p n F) {k d : Nat} (hk : k < n) (hd : Dk ar p d k) (hm : ∀ e, e < d → ¬ Dk ar p e k) : F[k]? = some (d : Int) := by
  rcases hF.val k hk with ⟨_, h⟩ | ⟨d', h1, h2, h3⟩
  · exact (h d hd).elim
  · have : d' = d := by
      rcases Nat.lt_trichotomy d d' with h | h | h
      · exact (h3 d h hd).elim
      · exact h.symm
      · exact (hm d' h h2).elim
    rw [h1, this]
theorem gd_tree (h : Bfs ar n) {p : Nat} (hp : p < n) {F : List Int} (hF : isFar ar p n F) : ∀ {t : Nat} {W : List Int}, Gd ar F p t W → ∀ {U : List Int}, Tp ar p t U → (∀ e, e < U.length → ¬ Dk ar p e t) → W = U := by
  intro t W hg
  induction hg with
  | refl =>
    intro U ht hm
    cases U with
    | nil => rfl
    | cons b U => exact (hm 0 (by simp) rfl).elim
  | step hne hi hs hf hm g ih =>
    intro U ht hmin
    cases ht with
    | refl => exact (hne rfl).elim
    | step hj e h0 t' =>
      rename_i i W c j U
      obtain ⟨hcn, hdc⟩ := Tp.path h hp t'
      obtain ⟨j2, hj2, f1, f2, f3, f4, f5⟩ := h.arc h0 hcn
      have : j2 = j := by rw [e] at f1; omega
      subst this
      -- the marking that comes next lies one nearer
      have hminc : ∀ e, e < U.length → ¬ Dk ar p e c := fun e he hd => hmin (e + 1) (by simp; omega) ⟨_, List.getElem_mem hj, (Int.toNat_of_nonneg f3).symm, by rw [f2]; exact hd⟩
      have hFc := hF.at_ hcn hdc hminc
      have htn : ar[j2].src.toNat < n := by omega
      have hFt := hF.at_ htn (d := U.length + 1) ⟨_, List.getElem_mem hj, (Int.toNat_of_nonneg f3).symm, by rw [f2]; exact hdc⟩ (by simpa using hmin)
      have hij : i ≤ j2 := by
        apply Decidable.byContradiction
        intro hn
        refine hm j2 (by omega) (Int.toNat_of_nonneg f3).symm U.length (U.length + 1 : Nat) ?_ hFt (by omega)
        rw [f2, Int.toNat_natCast]; exact hFc
      have hieq : i = j2 := by
        apply Decidable.byContradiction
        intro hn
        have hlt : i < j2 := by omega
        obtain ⟨a1, a2, a3, a4⟩ := h.inn _ (List.getElem_mem hi)
        have hxn : ar[i].dst.toNat < n := by omega
        obtain ⟨u, hu⟩ : ∃ u, F[ar[i].dst.toNat]? = some u := ⟨_, List.getElem?_eq_getElem (by rw [hF.len]; exact hxn)⟩
        have hux := hf u _ hu hFt
        have hDx : Dk ar p U.length (ar[i].dst.toNat : Nat) := by
          rcases hF.val _ hxn with ⟨h1, _⟩ | ⟨d, h1, h2, _⟩
          · rw [h1] at hu; have := Option.some.inj hu; omega
          · rw [h1] at hu
            have : d = U.length := by have := Option.some.inj hu; omega
            rw [← this]; exact h2
        have hxc : ar[i].dst.toNat < c := by
          apply Decidable.byContradiction
          intro hn2
          by_cases he : ar[i].dst.toNat = c
          · exact f5 i hlt (by omega)
          · obtain ⟨j', hj', e'⟩ := h.pre i hi c h0 (by omega)
            exact f5 j' (by omega) e'
        exact no_less h hp U _ c hxc t' hDx
      subst hieq
      have hdst : ar[i].dst.toNat = c := by omega
      rw [ih (hdst ▸ t') (by rw [hdst]; exact hminc)]
/-- The first of the shortest ways is that by the first arcs. -/
theorem gd_tw (h : Bfs ar n) {p : Nat} (hp : p < n) {F : List Int} (hF : isFar ar p n F) {W : List Int} (hg : Gd ar F p 0 W) : W = tw ar p := by
  have ht := tw_tp h hp p [] hp .refl
  rw [List.append_nil] at ht
  refine gd_tree h hp hF hg ht fun e he hd => ?_
  have := tw_short h hp e 0 (by omega) hd
  rw [tw_zero, List.length_nil] at this
  omega
end
end Go.Proofs.Ytkkifebmicbbaaa.Pi
