/- From where one can come to some markings of a space. Plain Lean. No condition. -/
import Derived.Test.YtkkifebmicbbaaaPlWay
namespace Go.Proofs.Ytkkifebmicbbaaa.Pi
open Go
set_option linter.all false

/-- One can come from a marking to one of some. -/
inductive Rk (ar : List Arc3) (S : List Int) : Int → Prop
  | base {k : Int} (h : k ∈ S) : Rk ar S k
  | step {a : Arc3} (h : a ∈ ar) (r : Rk ar S a.dst) : Rk ar S a.src
/-- The arcs lie between markings. -/
def arcsIn (ar : List Arc3) (n : Nat) : Prop := ∀ a ∈ ar, 0 ≤ a.src ∧ a.src < n ∧ 0 ≤ a.dst ∧ a.dst < n
open Classical in
noncomputable def toL (ar : List Arc3) (n : Nat) (S : List Int) : List Bool := (List.range n).map fun (k : Nat) => decide (Rk ar S (k : Int))
theorem toL_len (ar : List Arc3) (n : Nat) (S : List Int) : (toL ar n S).length = n := by simp [toL]
theorem toL_get {ar : List Arc3} {n : Nat} {S : List Int} {k : Nat} (hk : k < n) : (toL ar n S)[k]'(by rw [toL_len]; exact hk) = true ↔ Rk ar S k := by simp [toL]
/-- What is right of marks under way. -/
def sndB (ar : List Arc3) (S : List Int) (c : List Bool) : Prop := ∀ k : Nat, c[k]? = some true → Rk ar S k
def hasS (S : List Int) (c : List Bool) : Prop := ∀ k ∈ S, c[k.toNat]? = some true
def clsB (ar : List Arc3) (c : List Bool) : Prop := ∀ a ∈ ar, c[a.dst.toNat]? = some true → c[a.src.toNat]? = some true
theorem toL_of {ar : List Arc3} {n : Nat} {S : List Int} {c : List Bool} (hl : c.length = n) (hS : ∀ k ∈ S, 0 ≤ k ∧ k < n) (hs : sndB ar S c) (hb : hasS S c) (hc : clsB ar c) : c = toL ar n S := by
  have h : ∀ k, Rk ar S k → c[k.toNat]? = some true := by
    intro k hk
    induction hk with
    | base h => exact hb _ h
    | step h _ ih => exact hc _ h ih
  apply List.ext_getElem?
  intro k
  by_cases hk : k < n
  · rw [List.getElem?_eq_getElem (by omega), List.getElem?_eq_getElem (by rw [toL_len]; exact hk)]
    congr 1
    cases e : c[k]'(by omega) with
    | true => exact ((toL_get hk).2 (hs k (by rw [List.getElem?_eq_getElem (by omega), e]))).symm
    | false =>
      cases e2 : (toL ar n S)[k]'(by rw [toL_len]; exact hk) with
      | false => rfl
      | true =>
        have := h _ ((toL_get hk).1 e2)
        rw [Int.toNat_natCast, List.getElem?_eq_getElem (by omega), e] at this
        cases this
  · rw [List.getElem?_eq_none (by omega), List.getElem?_eq_none (by rw [toL_len]; omega)]
theorem sndB_set {ar : List Arc3} {S : List Int} {c : List Bool} {k : Int} (h : sndB ar S c) (h0 : 0 ≤ k) (hk : Rk ar S k) : sndB ar S (c.set k.toNat true) := by
  intro j hj
  rw [List.getElem?_set] at hj
  split at hj
  · rename_i e
    rw [← e, Int.toNat_of_nonneg h0]; exact hk
  · exact h j hj
theorem set_true {c : List Bool} {k j : Nat} (h : c[j]? = some true) : (c.set k true)[j]? = some true := by
  rw [List.getElem?_set]
  split
  · rename_i e; subst e
    rw [if_pos (List.getElem?_eq_some_iff.1 h).1]
  · exact h
theorem hasS_set {S : List Int} {c : List Bool} {k : Nat} (h : hasS S c) : hasS S (c.set k true) := fun x hx => set_true (h x hx)
/-- Some marked. -/
def putS (c : List Bool) (S : List Int) : List Bool := S.foldl (fun c k => c.set k.toNat true) c
theorem putS_len : ∀ {S : List Int} {c : List Bool}, (putS c S).length = c.length
  | [], c => rfl
  | k :: S, c => by unfold putS; rw [List.foldl_cons]; have := putS_len (S := S) (c := c.set k.toNat true); unfold putS at this; rw [this, List.length_set]
theorem putS_take {c : List Bool} {S : List Int} {k : Nat} (h : k < S.length) : putS c (S.take (k + 1)) = (putS c (S.take k)).set S[k].toNat true := by
  unfold putS; rw [List.take_succ_eq_append_getElem h, List.foldl_append]; rfl
theorem putS_true : ∀ {S : List Int} {c : List Bool} {j : Nat}, c[j]? = some true → (putS c S)[j]? = some true
  | [], c, j, h => h
  | k :: S, c, j, h => by unfold putS; rw [List.foldl_cons]; exact putS_true (S := S) (set_true h)
theorem putS_has : ∀ {S : List Int} {c : List Bool}, (∀ k ∈ S, 0 ≤ k ∧ k.toNat < c.length) → hasS S (putS c S)
  | [], c, _ => by intro k hk; cases hk
  | k :: S, c, h => by
    have h1 := h k (by simp)
    have key : (c.set k.toNat true)[k.toNat]? = some true := by rw [List.getElem?_set_self h1.2]
    intro j hj
    unfold putS
    rw [List.foldl_cons]
    rcases List.mem_cons.1 hj with rfl | hj
    · exact putS_true (S := S) key
    · exact putS_has (S := S) (c := c.set k.toNat true) (fun x hx => by have := h x (by simp [hx]); simpa using this) j hj
theorem putS_snd {ar : List Arc3} {S0 : List Int} : ∀ {S : List Int} {c : List Bool}, (∀ k ∈ S, 0 ≤ k ∧ k ∈ S0) → sndB ar S0 c → sndB ar S0 (putS c S)
  | [], c, _, h => h
  | k :: S, c, hS, h => by
    unfold putS; rw [List.foldl_cons]
    exact putS_snd (S := S) (fun x hx => hS x (by simp [hx])) (sndB_set h (hS k (by simp)).1 (.base (hS k (by simp)).2))
theorem snd_none {ar : List Arc3} {S : List Int} {n : Nat} : sndB ar S (List.replicate n false) := by
  intro k hk
  rw [List.getElem?_replicate] at hk
  split at hk <;> cases hk
/-- One arc of a pass: marks, and whether something came anew. -/
def passK (ar : List Arc3) (c : List Bool) : Nat → List Bool × Bool
  | 0 => (c, false)
  | k + 1 => let p := passK ar c k
    match ar[k]? with
    | some a => if p.1[a.dst.toNat]? = some true ∧ p.1[a.src.toNat]? = some false then (p.1.set a.src.toNat true, true) else p
    | none => p
theorem passK_len {ar : List Arc3} {c : List Bool} : ∀ k, (passK ar c k).1.length = c.length
  | 0 => rfl
  | k + 1 => by
    unfold passK
    simp only
    split
    · split
      · simp [passK_len k]
      · exact passK_len k
    · exact passK_len k
theorem passK_yes {ar : List Arc3} {c : List Bool} {k : Nat} (hk : k < ar.length) (h1 : (passK ar c k).1[ar[k].dst.toNat]? = some true) (h2 : (passK ar c k).1[ar[k].src.toNat]? = some false) : passK ar c (k + 1) = ((passK ar c k).1.set ar[k].src.toNat true, true) := by
  rw [passK]; simp only [List.getElem?_eq_getElem hk, h1, h2]; simp
theorem passK_no {ar : List Arc3} {c : List Bool} {k : Nat} (hk : k < ar.length) (h : ¬ ((passK ar c k).1[ar[k].dst.toNat]? = some true ∧ (passK ar c k).1[ar[k].src.toNat]? = some false)) : passK ar c (k + 1) = passK ar c k := by
  rw [passK]; simp only [List.getElem?_eq_getElem hk, h]; simp
theorem passK_end {ar : List Arc3} {c : List Bool} {k : Nat} (hk : ar.length ≤ k) : passK ar c (k + 1) = passK ar c k := by
  rw [passK]; simp only [List.getElem?_eq_none hk]
theorem passK_snd {ar : List Arc3} {S : List Int} {c : List Bool} {n : Nat} (ha : arcsIn ar n) (h : sndB ar S c) : ∀ k, sndB ar S (passK ar c k).1
  | 0 => h
  | k + 1 => by
    have ih := passK_snd ha h k
    by_cases hk : k < ar.length
    · by_cases hc : (passK ar c k).1[ar[k].dst.toNat]? = some true ∧ (passK ar c k).1[ar[k].src.toNat]? = some false
      · rw [passK_yes hk hc.1 hc.2]
        have hm := List.getElem_mem hk
        have hr := ih _ hc.1
        rw [Int.toNat_of_nonneg (ha _ hm).2.2.1] at hr
        exact sndB_set ih (ha _ hm).1 (.step hm hr)
      · rw [passK_no hk hc]; exact ih
    · rw [passK_end (by omega)]; exact ih
theorem passK_has {ar : List Arc3} {S : List Int} {c : List Bool} (h : hasS S c) : ∀ k, hasS S (passK ar c k).1
  | 0 => h
  | k + 1 => by
    have ih := passK_has (ar := ar) h k
    unfold passK
    simp only
    split
    · split
      · exact hasS_set ih
      · exact ih
    · exact ih
theorem passK_cnt {ar : List Arc3} {c : List Bool} : ∀ k, (cntF (passK ar c k).1 ≤ cntF c) ∧ ((passK ar c k).2 = true → cntF (passK ar c k).1 < cntF c) ∧ ((passK ar c k).2 = false → (passK ar c k).1 = c)
  | 0 => ⟨Nat.le_refl _, fun h => (by cases h), fun _ => rfl⟩
  | k + 1 => by
    have ih := passK_cnt (ar := ar) (c := c) k
    by_cases hk : k < ar.length
    · by_cases hc : (passK ar c k).1[ar[k].dst.toNat]? = some true ∧ (passK ar c k).1[ar[k].src.toNat]? = some false
      · rw [passK_yes hk hc.1 hc.2]
        have hl := (List.getElem?_eq_some_iff.1 hc.2).1
        have := cntF_set hl (by rw [List.getD_eq_getElem?_getD, hc.2]; rfl)
        refine ⟨by simp only; omega, fun _ => by simp only; omega, fun h => by cases h⟩
      · rw [passK_no hk hc]; exact ih
    · rw [passK_end (by omega)]; exact ih
theorem passK_cls {ar : List Arc3} {c : List Bool} {n : Nat} (hl : c.length = n) (ha : arcsIn ar n) (h : (passK ar c ar.length).2 = false) : clsB ar c := by
  have key : ∀ k, k ≤ ar.length → (passK ar c k).2 = false → ∀ i, (hi : i < k) → ∀ hi2 : i < ar.length, c[ar[i].dst.toNat]? = some true → c[ar[i].src.toNat]? = some true := by
    intro k
    induction k with
    | zero => intro _ _ i hi; omega
    | succ k ih =>
      intro hk h2 i hi hi2 hd
      have hkl : k < ar.length := by omega
      by_cases hc : (passK ar c k).1[ar[k].dst.toNat]? = some true ∧ (passK ar c k).1[ar[k].src.toNat]? = some false
      · rw [passK_yes hkl hc.1 hc.2] at h2; cases h2
      · rw [passK_no hkl hc] at h2
        have he := (passK_cnt k).2.2 h2
        by_cases e : i = k
        · subst e
          rw [he] at hc
          have hm := ha _ (List.getElem_mem hi2)
          cases e2 : c[ar[i].src.toNat]? with
          | none => rw [List.getElem?_eq_none_iff] at e2; omega
          | some b =>
            cases b with
            | true => rfl
            | false => exact (hc ⟨hd, e2⟩).elim
        · exact ih (by omega) h2 i (by omega) hi2 hd
  intro a hm hd
  obtain ⟨i, hi, rfl⟩ := List.mem_iff_getElem.1 hm
  exact key ar.length (Nat.le_refl _) h i hi hi hd

/-! ### From where arcs come to a marking -/
def befs (ar : List Arc3) (j : Int) : List Int := (ar.filter fun a => decide (a.dst = j)).map (·.src)
def pvB (l : List Int) : PV := if l = [] then .nil true 1 else ints l
def befP (ar : List Arc3) (n : Nat) : List PV := (List.range n).map fun (j : Nat) => pvB (befs ar j)
theorem befP_len (ar : List Arc3) (n : Nat) : (befP ar n).length = n := by simp [befP]
theorem befP_get {ar : List Arc3} {n : Nat} {j : Int} (h0 : 0 ≤ j) (h : j < n) : (befP ar n)[j.toNat]? = some (pvB (befs ar j)) := by
  simp only [befP, List.getElem?_map]
  rw [List.getElem?_range (by omega)]
  simp [Int.toNat_of_nonneg h0]
theorem befP_zero (n : Nat) : befP [] n = List.replicate n (.nil true 1) := by
  apply List.ext_getElem
  · simp [befP]
  · intro i h1 h2
    simp [befP, befs, pvB]
theorem befs_take {ar : List Arc3} {k : Nat} {j : Int} (hk : k < ar.length) : befs (ar.take (k + 1)) j = if ar[k].dst = j then befs (ar.take k) j ++ [ar[k].src] else befs (ar.take k) j := by
  unfold befs
  rw [List.take_succ_eq_append_getElem hk, List.filter_append, List.map_append]
  split
  · rename_i h; simp [h]
  · rename_i h; simp [h]
theorem befP_step {ar : List Arc3} {n k : Nat} (hk : k < ar.length) (h0 : 0 ≤ ar[k].dst) : befP (ar.take (k + 1)) n = (befP (ar.take k) n).set ar[k].dst.toNat (ints (befs (ar.take k) ar[k].dst ++ [ar[k].src])) := by
  apply List.ext_getElem?
  intro j
  rw [List.getElem?_set, befP_len]
  by_cases hj : j < n
  · simp only [befP, List.getElem?_map, List.getElem?_range hj, Option.map_some]
    rw [befs_take hk]
    by_cases e : ar[k].dst = (j : Int)
    · rw [if_pos e, if_pos (by omega), if_pos (by omega), e]
      simp [pvB]
    · rw [if_neg e, if_neg (by omega)]
  · simp only [befP, List.getElem?_map]
    rw [List.getElem?_eq_none (by simp; omega)]
    split
    · rw [if_neg (by omega)]; rfl
    · rfl
theorem befs_mem {ar : List Arc3} {j x : Int} : x ∈ befs ar j ↔ ∃ a ∈ ar, a.dst = j ∧ a.src = x := by
  simp only [befs, List.mem_map, List.mem_filter, decide_eq_true_eq]
  constructor
  · rintro ⟨a, ⟨h1, h2⟩, h3⟩; exact ⟨a, h1, h2, h3⟩
  · rintro ⟨a, h1, h2, h3⟩; exact ⟨a, ⟨h1, h2⟩, h3⟩
theorem befs_len (ar : List Arc3) (j : Int) : (befs ar j).length ≤ ar.length := by unfold befs; rw [List.length_map]; exact List.length_filter_le _ _
/-- A search under way: marks, the row of those that are marked, and how many of them are looked at. -/
structure BF (ar : List Arc3) (n : Nat) (S : List Int) (c : List Bool) (q : List Int) (i : Nat) : Prop where
  len : c.length = n
  snd : sndB ar S c
  has : hasS S c
  inn : ∀ x ∈ q, 0 ≤ x ∧ x < n
  mkd : ∀ x ∈ q, c[x.toNat]? = some true
  all : ∀ k : Nat, c[k]? = some true → (k : Int) ∈ q
  cnt : q.length + cntF c ≤ n
  le : i ≤ q.length
  done : ∀ j, (hj : j < i) → ∀ a ∈ ar, a.dst = q[j]'(by omega) → c[a.src.toNat]? = some true
theorem BF.end_ {ar : List Arc3} {n : Nat} {S : List Int} {c : List Bool} {q : List Int} (h : BF ar n S c q q.length) (ha : arcsIn ar n) (hS : ∀ k ∈ S, 0 ≤ k ∧ k < n) : c = toL ar n S := by
  refine toL_of h.len hS h.snd h.has fun a hm hd => ?_
  have := h.all _ hd
  rw [Int.toNat_of_nonneg (ha a hm).2.2.1] at this
  obtain ⟨j, hj, e⟩ := List.mem_iff_getElem.1 this
  exact h.done j hj a hm e.symm
/-- Looking at a marking, arc by arc. -/
structure BG (ar : List Arc3) (n : Nat) (S : List Int) (i : Nat) (L : List Int) (m : Nat) (x : Int) (c : List Bool) (q : List Int) : Prop extends BF ar n S c q i where
  lt : i < q.length
  at_ : q[i]? = some x
  up : ∀ j, j < m → ∀ y, L[j]? = some y → c[y.toNat]? = some true
theorem BG.next {ar : List Arc3} {n : Nat} {S : List Int} {i : Nat} {x : Int} {c : List Bool} {q : List Int} (h : BG ar n S i (befs ar x) (befs ar x).length x c q) : BF ar n S c q (i + 1) := by
  refine ⟨h.len, h.snd, h.has, h.inn, h.mkd, h.all, h.cnt, h.lt, fun j hj a hm e => ?_⟩
  by_cases hji : j = i
  · subst hji
    have hx := h.at_
    rw [List.getElem?_eq_getElem h.lt] at hx
    rw [Option.some.inj hx] at e
    obtain ⟨k, hk, he⟩ := List.mem_iff_getElem.1 (befs_mem.2 ⟨a, hm, e, rfl⟩)
    exact h.up k hk _ (by rw [List.getElem?_eq_getElem hk, he])
  · exact h.done j (by omega) a hm e
theorem BG.old {ar : List Arc3} {n : Nat} {S : List Int} {i : Nat} {L : List Int} {m : Nat} {x : Int} {c : List Bool} {q : List Int} (h : BG ar n S i L m x c q) (hm : m < L.length) (hc : c[L[m].toNat]? = some true) : BG ar n S i L (m + 1) x c q := by
  refine ⟨h.toBF, h.lt, h.at_, fun j hj y hy => ?_⟩
  by_cases e : j = m
  · subst e
    rw [List.getElem?_eq_getElem hm] at hy
    cases hy; exact hc
  · exact h.up j (by omega) y hy
theorem BG.new {ar : List Arc3} {n : Nat} {S : List Int} {i : Nat} {m : Nat} {x : Int} {c : List Bool} {q : List Int} (h : BG ar n S i (befs ar x) m x c q) (ha : arcsIn ar n) (hm : m < (befs ar x).length) (hc : c[(befs ar x)[m].toNat]? = some false) :
    BG ar n S i (befs ar x) (m + 1) x (c.set (befs ar x)[m].toNat true) (q ++ [(befs ar x)[m]]) := by
  obtain ⟨a, h1, h2, h3⟩ := befs_mem.1 (List.getElem_mem hm)
  obtain ⟨a1, a2, a3, a4⟩ := ha a h1
  have hl := h.len
  have hx := h.at_
  have hi := h.lt
  rw [List.getElem?_eq_getElem hi] at hx
  have hq : x ∈ q := by rw [← Option.some.inj hx]; exact List.getElem_mem hi
  generalize hy : (befs ar x)[m] = y at *
  subst h3
  have hcy : a.src.toNat < c.length := by omega
  have hRk : Rk ar S a.src := by
    refine .step h1 ?_
    have hr := h.snd _ (h.mkd x hq)
    rw [Int.toNat_of_nonneg (h.inn x hq).1] at hr
    rw [h2]; exact hr
  have hcnt := cntF_set hcy (by rw [List.getD_eq_getElem?_getD, hc]; rfl)
  have hcn := h.cnt
  refine ⟨⟨by simpa using hl, sndB_set h.snd a1 hRk, hasS_set h.has, fun z hz => ?_, fun z hz => ?_, fun k hk => ?_, by rw [List.length_append]; simp only [List.length_cons, List.length_nil]; omega, by rw [List.length_append]; have := h.le; omega, fun j hj a' hm' e => ?_⟩, by rw [List.length_append]; omega, ?_, fun j hj z hz => ?_⟩
  · rcases List.mem_append.1 hz with hz | hz
    · exact h.inn z hz
    · rw [List.mem_singleton] at hz; subst hz; exact ⟨a1, a2⟩
  · rcases List.mem_append.1 hz with hz | hz
    · exact set_true (h.mkd z hz)
    · rw [List.mem_singleton] at hz; subst hz; rw [List.getElem?_set_self hcy]
  · rw [List.getElem?_set] at hk
    split at hk
    · rename_i e
      refine List.mem_append.2 (.inr ?_)
      rw [List.mem_singleton]; omega
    · exact List.mem_append.2 (.inl (h.all k hk))
  · have hjq : j < q.length := by omega
    rw [List.getElem_append_left hjq] at e
    exact set_true (h.done j hj a' hm' e)
  · rw [List.getElem?_append_left hi, List.getElem?_eq_getElem hi]; exact hx
  · by_cases e : j = m
    · subst e
      rw [List.getElem?_eq_getElem hm, hy] at hz
      cases hz
      rw [List.getElem?_set_self hcy]
    · exact set_true (h.up j (by omega) z hz)
theorem BF.look {ar : List Arc3} {n : Nat} {S : List Int} {c : List Bool} {q : List Int} {i : Nat} (h : BF ar n S c q i) (hi : i < q.length) : BG ar n S i (befs ar q[i]) 0 q[i] c q := ⟨h, hi, List.getElem?_eq_getElem hi, fun j hj => by omega⟩
theorem BF.start {ar : List Arc3} {n : Nat} {p : Int} (h0 : 0 ≤ p) (h : p < n) : BF ar n [p] ((List.replicate n false).set p.toNat true) [p] 0 := by
  have hp : p.toNat < (List.replicate n false).length := by simp; omega
  have hc := cntF_set (l := List.replicate n false) (k := p.toNat) hp (by rw [List.getD_eq_getElem?_getD, List.getElem?_replicate]; split <;> rfl)
  have hl := cntF_le (List.replicate n false)
  rw [List.length_replicate] at hl
  refine ⟨by simp, sndB_set snd_none h0 (.base (by simp)), fun k hk => ?_, fun x hx => ?_, fun x hx => ?_, fun k hk => ?_, by simp only [List.length_cons, List.length_nil]; omega, Nat.zero_le _, fun j hj => by omega⟩
  · rw [List.mem_singleton] at hk; subst hk; rw [List.getElem?_set_self hp]
  · rw [List.mem_singleton] at hx; subst hx; exact ⟨h0, h⟩
  · rw [List.mem_singleton] at hx; subst hx; rw [List.getElem?_set_self hp]
  · rw [List.getElem?_set] at hk
    split at hk
    · rename_i e; rw [List.mem_singleton]; omega
    · rw [List.getElem?_replicate] at hk; split at hk <;> cases hk
end Go.Proofs.Ytkkifebmicbbaaa.Pi
