/- Least numbers of arcs, found with a row that is worked off. Plain Lean. No condition. -/
import Derived.Test.YtkkifebmicbbaaaPlDist
namespace Go.Proofs.Ytkkifebmicbbaaa.Pi
open Go
set_option linter.all false

/-- A search under way: what is still to be looked at. 'w': the marking that is looked at. -/
structure FQ (ar : List Arc3) (p : Int) (n : Nat) (F q : List Int) (w : Int → Prop) : Prop where
  len : F.length = n
  val : ∀ k : Nat, ∀ u, F[k]? = some u → u = -1 ∨ ∃ d : Nat, u = d ∧ Dk ar p d k
  zero : F[p.toNat]? = some 0
  inn : ∀ x ∈ q, 0 ≤ x ∧ ∃ d : Nat, F[x.toNat]? = some (d : Int)
  srt : q.Pairwise fun x y => ∀ u v, F[x.toNat]? = some u → F[y.toNat]? = some v → u ≤ v
  bnd : ∀ k : Nat, ∀ u, F[k]? = some u → ∀ x ∈ q, ∀ v, F[x.toNat]? = some v → u ≤ v + 1
  cls : ∀ a ∈ ar, ∀ u, F[a.dst.toNat]? = some u → 0 ≤ u → a.dst ∉ q → ¬ w a.dst → ∃ v, F[a.src.toNat]? = some v ∧ 0 ≤ v ∧ v ≤ u + 1
def cntU (F : List Int) : Nat := F.countP fun x => decide (x < 0)
theorem cntU_set {F : List Int} {k : Nat} {v : Int} (h : F[k]? = some (-1)) (hv : 0 ≤ v) : cntU (F.set k v) < cntU F := by
  induction F generalizing k with
  | nil => simp at h
  | cons x F ih =>
    cases k with
    | zero =>
      simp at h; subst h
      simp [cntU, List.countP_cons, show ¬ v < 0 by omega]
    | succ k =>
      have := ih (k := k) (by simpa using h)
      simp only [cntU, List.set_cons_succ, List.countP_cons] at this ⊢
      omega
section
variable {ar : List Arc3} {p : Int} {n : Nat} {F q : List Int}
theorem FQ.end_ (h : FQ ar p n F [] fun _ => False) (ha : arcsIn ar n) (hp : 0 ≤ p ∧ p < n) : isFar ar p n F := by
  have key : ∀ (e k : Nat), k < n → Dk ar p e k → ∃ u, F[k]? = some u ∧ 0 ≤ u ∧ u ≤ e := by
    intro e
    induction e with
    | zero =>
      intro k hk hd
      simp only [Dk] at hd
      refine ⟨0, ?_, by omega, by omega⟩
      have := h.zero
      rwa [← hd, Int.toNat_natCast] at this
    | succ e ih =>
      rintro k hk ⟨a, hm, e1, hd⟩
      obtain ⟨a1, a2, a3, a4⟩ := ha a hm
      obtain ⟨u, h1, h2, h3⟩ := ih a.dst.toNat (by omega) (by rw [Int.toNat_of_nonneg a3]; exact hd)
      obtain ⟨v, h4, h5, h6⟩ := h.cls a hm u h1 h2 (by simp) (by simp)
      rw [e1, Int.toNat_natCast] at h4
      exact ⟨v, h4, h5, by omega⟩
  refine ⟨h.len, fun k hk => ?_⟩
  have hkl : k < F.length := by rw [h.len]; exact hk
  rcases h.val k _ (List.getElem?_eq_getElem hkl) with h1 | ⟨d, h1, h2⟩
  · refine .inl ⟨by rw [List.getElem?_eq_getElem hkl, h1], fun e hd => ?_⟩
    obtain ⟨u, g1, g2, _⟩ := key e k hk hd
    rw [List.getElem?_eq_getElem hkl, h1] at g1
    have := Option.some.inj g1
    omega
  · refine .inr ⟨d, by rw [List.getElem?_eq_getElem hkl, h1], h2, fun e he hd => ?_⟩
    obtain ⟨u, g1, _, g3⟩ := key e k hk hd
    rw [List.getElem?_eq_getElem hkl, h1] at g1
    have := Option.some.inj g1
    omega
theorem FQ.start (ha : arcsIn ar n) (hp : 0 ≤ p ∧ p < n) : FQ ar p n ((List.replicate n (-1)).set p.toNat 0) [p] fun _ => False := by
  have hl : p.toNat < (List.replicate n (-1 : Int)).length := by simp; omega
  have hz : ((List.replicate n (-1 : Int)).set p.toNat 0)[p.toNat]? = some 0 := by rw [List.getElem?_set_self hl]
  have hall : ∀ (k : Nat) (u : Int), ((List.replicate n (-1 : Int)).set p.toNat 0)[k]? = some u → (k = p.toNat ∧ u = 0) ∨ u = -1 := by
    intro k u h
    rw [List.getElem?_set] at h
    split at h
    · rename_i e
      exact .inl ⟨e.symm, (Option.some.inj h).symm⟩
    · rw [List.getElem?_replicate] at h
      split at h
      · exact .inr (Option.some.inj h).symm
      · cases h
  refine ⟨by simp, fun k u h => ?_, hz, fun x hx => ?_, by simp, fun k u h x hx v hv => ?_, fun a hm u h h0 hq _ => ?_⟩
  · rcases hall k u h with ⟨h1, h2⟩ | h1
    · exact .inr ⟨0, h2, by simp only [Dk]; omega⟩
    · exact .inl h1
  · rw [List.mem_singleton] at hx; subst hx; exact ⟨hp.1, 0, hz⟩
  · rw [List.mem_singleton] at hx; subst hx
    rw [hz] at hv
    have := Option.some.inj hv
    rcases hall k u h with ⟨_, h2⟩ | h1 <;> omega
  · rcases hall _ u h with ⟨h1, _⟩ | h1
    · refine (hq ?_).elim
      rw [List.mem_singleton]
      have := (ha a hm).2.2.1
      omega
    · omega
/-- Looking at the first of the row. -/
structure FW (ar : List Arc3) (p : Int) (n : Nat) (x : Int) (d : Nat) (m : Nat) (F q : List Int) : Prop extends FQ ar p n F q (fun y => y = x) where
  at_ : F[x.toNat]? = some (d : Int)
  pos : 0 ≤ x ∧ x < n
  dk : Dk ar p d x
  low : ∀ y ∈ q, ∀ v, F[y.toNat]? = some v → (d : Int) ≤ v
  top : ∀ k : Nat, ∀ u, F[k]? = some u → u ≤ d + 1
  up : ∀ j, j < m → ∀ a, ar[j]? = some a → a.dst = x → ∃ v, F[a.src.toNat]? = some v ∧ 0 ≤ v ∧ v ≤ d + 1
theorem FQ.look {x : Int} (h : FQ ar p n F (x :: q) fun _ => False) : ∃ d : Nat, FW ar p n x d 0 F q := by
  obtain ⟨h0, d, hd⟩ := h.inn x (by simp)
  have hlt := (List.getElem?_eq_some_iff.1 hd).1
  have hs := List.pairwise_cons.1 h.srt
  refine ⟨d, ⟨h.len, h.val, h.zero, fun y hy => h.inn y (by simp [hy]), hs.2, fun k u hu y hy => h.bnd k u hu y (by simp [hy]), fun a hm u hu h1 hq hw => h.cls a hm u hu h1 (by simp; exact ⟨hw, hq⟩) (by simp)⟩, hd, ⟨h0, by have := h.len; omega⟩, ?_, fun y hy v hv => hs.1 y hy _ v hd hv, fun k u hu => by have := h.bnd k u hu x (by simp) _ hd; omega, fun j hj => by omega⟩
  rcases h.val _ _ hd with h1 | ⟨d', h1, h2⟩
  · omega
  · have : d' = d := by omega
    rw [← this, ← Int.toNat_of_nonneg h0]; exact h2
theorem FW.next {x : Int} {d : Nat} (h : FW ar p n x d ar.length F q) : FQ ar p n F q fun _ => False := by
  refine ⟨h.len, h.val, h.zero, h.inn, h.srt, h.bnd, fun a hm u hu h1 hq _ => ?_⟩
  by_cases e : a.dst = x
  · obtain ⟨j, hj, he⟩ := List.mem_iff_getElem.1 hm
    obtain ⟨v, g1, g2, g3⟩ := h.up j hj a (by rw [List.getElem?_eq_getElem hj, he]) e
    rw [e, h.at_] at hu
    have := Option.some.inj hu
    exact ⟨v, g1, g2, by omega⟩
  · exact h.cls a hm u hu h1 hq e
theorem FW.old {x : Int} {d m : Nat} (h : FW ar p n x d m F q) (hm : m < ar.length) (hc : ar[m].dst = x → ∃ v, F[ar[m].src.toNat]? = some v ∧ 0 ≤ v) : FW ar p n x d (m + 1) F q := by
  refine ⟨h.toFQ, h.at_, h.pos, h.dk, h.low, h.top, fun j hj a ha e => ?_⟩
  by_cases ej : j = m
  · subst ej
    rw [List.getElem?_eq_getElem hm] at ha
    cases ha
    obtain ⟨v, g1, g2⟩ := hc e
    exact ⟨v, g1, g2, h.top _ v g1⟩
  · exact h.up j (by omega) a ha e
theorem FW.new {x : Int} {d m : Nat} (h : FW ar p n x d m F q) (ha : arcsIn ar n) (hm : m < ar.length) (hd : ar[m].dst = x) (hc : F[ar[m].src.toNat]? = some (-1)) : FW ar p n x d (m + 1) (F.set ar[m].src.toNat (d + 1)) (q ++ [ar[m].src]) := by
  have hmm := List.getElem_mem hm
  obtain ⟨a1, a2, a3, a4⟩ := ha _ hmm
  have hup := h.up
  have hdk : Dk ar p (d + 1) ar[m].src := ⟨ar[m], hmm, rfl, by rw [hd]; exact h.dk⟩
  generalize hy : ar[m].src = y at *
  have hyl : y.toNat < F.length := (List.getElem?_eq_some_iff.1 hc).1
  have hself : (F.set y.toNat ((d : Int) + 1))[y.toNat]? = some ((d : Int) + 1) := by rw [List.getElem?_set_self hyl]
  have get : ∀ (k : Nat) (u : Int), (F.set y.toNat ((d : Int) + 1))[k]? = some u → (k = y.toNat ∧ u = d + 1) ∨ (k ≠ y.toNat ∧ F[k]? = some u) := by
    intro k u hu
    rw [List.getElem?_set] at hu
    split at hu
    · rename_i e
      exact .inl ⟨e.symm, (Option.some.inj hu).symm⟩
    · rename_i e; exact .inr ⟨fun h => e h.symm, hu⟩
  have keep : ∀ (k : Nat) (u : Int), F[k]? = some u → 0 ≤ u → (F.set y.toNat ((d : Int) + 1))[k]? = some u := by
    intro k u hu h0
    rw [List.getElem?_set_ne]; exact hu
    rintro rfl
    rw [hc] at hu
    have := Option.some.inj hu
    omega
  have hqy : ∀ z ∈ q, z.toNat ≠ y.toNat := by
    intro z hz e
    obtain ⟨_, d', h1⟩ := h.inn z hz
    rw [e, hc] at h1
    have := Option.some.inj h1
    omega
  refine ⟨⟨by simp [h.len], fun k u hu => ?_, keep _ _ h.zero (by omega), fun z hz => ?_, ?_, fun k u hu z hz v hv => ?_, fun a hma u hu h1 hq hw => ?_⟩, keep _ _ h.at_ (by omega), h.pos, h.dk, fun z hz v hv => ?_, fun k u hu => ?_, fun j hj a hja e => ?_⟩
  · rcases get k u hu with ⟨rfl, rfl⟩ | ⟨_, h1⟩
    · exact .inr ⟨d + 1, by omega, by rw [Int.toNat_of_nonneg a1]; exact hdk⟩
    · exact h.val k u h1
  · rcases List.mem_append.1 hz with hz | hz
    · obtain ⟨h0, d', h1⟩ := h.inn z hz
      exact ⟨h0, d', keep _ _ h1 (by omega)⟩
    · rw [List.mem_singleton] at hz; subst hz
      exact ⟨a1, d + 1, by rw [hself]; congr 1⟩
  · rw [List.pairwise_append]
    refine ⟨h.srt.imp_of_mem fun {z z'} hz hz' hp u v hu hv => ?_, by simp, fun z hz z' hz' u v hu hv => ?_⟩
    · rcases get _ u hu with ⟨e, _⟩ | ⟨_, g1⟩
      · exact (hqy z hz e).elim
      rcases get _ v hv with ⟨e, _⟩ | ⟨_, g2⟩
      · exact (hqy z' hz' e).elim
      exact hp u v g1 g2
    · rw [List.mem_singleton] at hz'; subst hz'
      rcases get _ u hu with ⟨e, _⟩ | ⟨_, g1⟩
      · exact (hqy z hz e).elim
      rw [hself] at hv
      have := Option.some.inj hv
      have := h.top _ u g1
      omega
  · have hku : u ≤ d + 1 := by
      rcases get k u hu with ⟨_, rfl⟩ | ⟨_, g1⟩
      · omega
      · exact h.top k u g1
    have hvd : (d : Int) ≤ v := by
      rcases get _ v hv with ⟨_, rfl⟩ | ⟨e, g1⟩
      · omega
      · rcases List.mem_append.1 hz with hz | hz
        · exact h.low z hz v g1
        · rw [List.mem_singleton] at hz; subst hz; exact (e rfl).elim
    omega
  · rcases get _ u hu with ⟨e, _⟩ | ⟨_, g1⟩
    · refine (hq (List.mem_append.2 (.inr ?_))).elim
      rw [List.mem_singleton]
      have := (ha a hma).2.2.1
      omega
    · obtain ⟨v, g2, g3, g4⟩ := h.cls a hma u g1 h1 (fun hz => hq (List.mem_append.2 (.inl hz))) hw
      exact ⟨v, keep _ _ g2 g3, g3, g4⟩
  · rcases List.mem_append.1 hz with hz | hz
    · rcases get _ v hv with ⟨_, rfl⟩ | ⟨_, g1⟩
      · omega
      · exact h.low z hz v g1
    · rw [List.mem_singleton] at hz; subst hz
      rw [hself] at hv
      have := Option.some.inj hv
      omega
  · rcases get k u hu with ⟨_, rfl⟩ | ⟨_, g1⟩
    · omega
    · exact h.top k u g1
  · by_cases ej : j = m
    · subst ej
      rw [List.getElem?_eq_getElem hm] at hja
      cases hja
      rw [hy]
      exact ⟨d + 1, hself, by omega, by omega⟩
    · obtain ⟨v, g1, g2, g3⟩ := hup j (by omega) a hja e
      exact ⟨v, keep _ _ g1 g2, g2, g3⟩
theorem tw_len (h : Bfs ar n) : ∀ k : Nat, k < n → (tw ar k).length ≤ k
  | 0, _ => by simp [tw_zero]
  | k + 1, hk => by
    obtain ⟨i, hi, e1, e2, e3, e4, _⟩ := h.arc (q := k + 1) (by omega) hk
    rw [tw_step h (by omega) hk hi e1, List.length_append, List.length_cons, List.length_nil]
    have := tw_len h ar[i].src.toNat (by omega)
    omega
termination_by k => k
decreasing_by all_goals omega
/-- From the begin one comes to a marking, and not by more arcs than there are markings. -/
theorem isFar.begin_ (h : Bfs ar n) {p : Nat} (hp : p < n) {F : List Int} (hF : isFar ar p n F) : ∃ d : Nat, F[0]? = some (d : Int) ∧ d < n := by
  have hd := (Tp.path h hp (tw_tp h hp p [] hp .refl)).2
  rw [List.append_nil] at hd
  rcases hF.val 0 (by omega) with ⟨_, h1⟩ | ⟨d, h1, _, h3⟩
  · exact (h1 _ hd).elim
  · refine ⟨d, h1, ?_⟩
    have := tw_len h p hp
    apply Decidable.byContradiction
    intro hn
    exact h3 _ (by omega) hd
/-- An arc comes nearer. -/
theorem isFar.near {p : Nat} {F : List Int} (ha : arcsIn ar n) (hF : isFar ar p n F) {t j : Nat} (ht : t < n) (htp : t ≠ p) (hFt : F[t]? = some (j : Int)) : ∃ i, ∃ hi : i < ar.length, ar[i].src = t ∧ F[ar[i].dst.toNat]? = some ((j : Int) - 1) := by
  rcases hF.val t ht with ⟨h1, _⟩ | ⟨d, h1, h2, h3⟩
  · rw [hFt] at h1; have := Option.some.inj h1; omega
  · have hdj : d = j := by rw [hFt] at h1; have := Option.some.inj h1; omega
    subst hdj
    cases d with
    | zero => simp only [Dk] at h2; omega
    | succ d =>
      obtain ⟨a, hm, e, hd⟩ := h2
      obtain ⟨i, hi, rfl⟩ := List.mem_iff_getElem.1 hm
      obtain ⟨a1, a2, a3, a4⟩ := ha _ hm
      refine ⟨i, hi, e, ?_⟩
      have := hF.at_ (k := ar[i].dst.toNat) (d := d) (by omega) (by rw [Int.toNat_of_nonneg a3]; exact hd) (fun e' he' hd' => h3 (e' + 1) (by omega) ⟨_, hm, e, by rw [Int.toNat_of_nonneg a3] at hd'; exact hd'⟩)
      rw [this]; congr 1; omega
theorem isFar.pos {p : Nat} {F : List Int} (hF : isFar ar p n F) {t j : Nat} (ht : t < n) (htp : t ≠ p) (hFt : F[t]? = some (j : Int)) : 0 < j := by
  rcases hF.val t ht with ⟨h1, _⟩ | ⟨d, h1, h2, _⟩
  · rw [hFt] at h1; have := Option.some.inj h1; omega
  · rw [hFt] at h1
    have e := Option.some.inj h1
    cases d with
    | zero => simp only [Dk] at h2; omega
    | succ d => omega
/-- Each number is less than there are markings. -/
def bndF (n : Nat) (F : List Int) : Prop := ∀ (k : Nat) (u : Int), F[k]? = some u → u + cntU F + 1 ≤ n
theorem cntU_le (F : List Int) : cntU F ≤ F.length := List.countP_le_length
theorem bndF_start {p : Nat} (hp : p < n) : bndF n ((List.replicate n (-1)).set p 0) := by
  have h1 := cntU_set (F := List.replicate n (-1)) (k := p) (v := 0) (by rw [List.getElem?_replicate, if_pos hp]) (by omega)
  have h2 := cntU_le (List.replicate n (-1))
  rw [List.length_replicate] at h2
  intro k u hu
  have : u ≤ 0 := by
    rw [List.getElem?_set] at hu
    split at hu
    · rename_i e
      subst e
      rw [List.length_replicate] at hu
      simp only [hp, if_true] at hu
      have := Option.some.inj hu; omega
    · rw [List.getElem?_replicate] at hu
      split at hu
      · have := Option.some.inj hu; omega
      · cases hu
  omega
theorem bndF_set {x y : Nat} {d : Nat} (h : bndF n F) (hx : F[x]? = some (d : Int)) (hy : F[y]? = some (-1)) : bndF n (F.set y (d + 1)) := by
  have h1 := cntU_set (F := F) (k := y) (v := (d : Int) + 1) hy (by omega)
  have h2 := h x _ hx
  intro k u hu
  rw [List.getElem?_set] at hu
  split at hu
  · rename_i e
    subst e
    have hyl := (List.getElem?_eq_some_iff.1 hy).1
    have hu' : u = d + 1 := by
      first
        | exact (Option.some.inj hu).symm
        | (simp only [hyl, if_true] at hu; exact (Option.some.inj hu).symm)
    omega
  · have := h k u hu; omega
theorem isFar.nonneg {p : Nat} {F : List Int} (hF : isFar ar p n F) : ∀ (k : Nat) (u : Int), F[k]? = some u → -1 ≤ u ∧ (u = -1 ∨ 0 ≤ u) := by
  intro k u hu
  have hk : k < n := by rw [← hF.len]; exact (List.getElem?_eq_some_iff.1 hu).1
  rcases hF.val k hk with ⟨h1, _⟩ | ⟨d, h1, _⟩ <;> (rw [h1] at hu; have := Option.some.inj hu; omega)
end
end Go.Proofs.Ytkkifebmicbbaaa.Pi
