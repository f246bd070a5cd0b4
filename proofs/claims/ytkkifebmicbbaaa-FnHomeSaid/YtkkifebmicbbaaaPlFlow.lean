/- Plain laws of flows: what lies on the way, good flows, short nets. -/
import Derived.Test.YtkkifebmicbbaaaPlBack
namespace Go.Proofs.Ytkkifebmicbbaaa.Pi
open Go
set_option linter.all false

/-- A loop whose number falls. -/
theorem W_down {orc : Orc} {m : Nat} {st : St} {Q : Out → Prop} {keep : List Bool} {b : ICode} (Inv : Nat → St → Prop) (n : Nat) (h0 : Inv n (gc m ⟨clean keep st.fr, st.mem⟩))
    (step : ∀ k s, Inv k s → W orc m b s (fun o => match o with | .next s' => ∃ j, j < k ∧ Inv j (gc m ⟨clean keep s'.fr, s'.mem⟩) | o => Q o)) : W orc m (.loop keep b) st Q := by
  have key : ∀ (d k : Nat) (st : St), k < d → Inv k (gc m ⟨clean keep st.fr, st.mem⟩) → W orc m (.loop keep b) st Q := by
    intro d
    induction d with
    | zero => intro k st hk; omega
    | succ d ih =>
      intro k st hk hI
      obtain ⟨o, h1, h2⟩ := step k _ hI
      cases o with
      | next s' =>
        obtain ⟨j, hj, h5⟩ := h2
        obtain ⟨o', h3, h4⟩ := ih j s' (by omega) h5
        simp only [run] at h3
        exact ⟨o', by simp only [run]; rw [iterL_eq, h1]; exact h3, h4⟩
      | ret s' => exact ⟨_, by simp only [run]; rw [iterL_eq, h1], h2⟩
      | exit i s' => exact ⟨_, by simp only [run]; rw [iterL_eq, h1], h2⟩
  exact key (n + 1) n st (by omega) h0
theorem any_more {α : Type} {l : List α} {p : α → Bool} {k : Nat} (hk : k < l.length) (h : (l.take k).any p = true) : (l.take (k + 1)).any p = true := by
  rw [take_snoc hk, List.any_append, h]; rfl
theorem any_here {α : Type} {l : List α} {p : α → Bool} {k : Nat} (hk : k < l.length) (h : p l[k] = true) : (l.take (k + 1)).any p = true := by
  rw [take_snoc hk, List.any_append]; simp [h]
@[go_sem] theorem slice_nil {mem : List Blk} {sz sz' : Nat} {fl : Bool} {lo hi : Option PV} : sliceV mem sz (.nil fl sz') lo hi = if sz' = sz then (bound 0 lo).bind fun l => (bound 0 hi).bind fun h => if l = 0 ∧ h = 0 then some (.nil fl sz) else none else none := rfl
attribute [go_sem] List.getElem?_nil
/-- Rows of truth values. -/
abbrev bls (l : List Bool) : PV := .sl true 1 (l.map PV.bool)

/-! What can be come to: places and transitions are marked round by round. -/
structure Cl where
  pl : List Bool
  tr : List Bool
  ch : Bool
def hitB (P : List Bool) (l : List Int) : Bool := l.any fun p => P.getD p.toNat false
def markB (P : List Bool) (l : List Int) : List Bool := l.foldl (fun a p => a.set p.toNat true) P
theorem markB_len (P : List Bool) (l : List Int) : (markB P l).length = P.length := by
  unfold markB
  induction l generalizing P with
  | nil => rfl
  | cons p l ih => rw [List.foldl_cons, ih]; simp
theorem markB_take {P : List Bool} {l : List Int} {k : Nat} (hk : k < l.length) : markB P (l.take (k + 1)) = (markB P (l.take k)).set (l[k].toNat) true := by
  unfold markB; rw [foldl_snoc _ _ hk]
/-- The sides of a transition: forth or back. -/
def sideI (bk : Bool) (t : Tr) : List Int := if bk then t.out else t.inn
def sideO (bk : Bool) (t : Tr) : List Int := if bk then t.inn else t.out
def trN (n : Net) (k : Nat) : Tr := n.tr.getD k ⟨[], [], []⟩
theorem trN_eq {n : Net} {k : Nat} (hk : k < n.tr.length) : trN n k = n.tr[k] := by
  unfold trN; rw [List.getD_eq_getElem?_getD, List.getElem?_eq_getElem hk]; rfl
def clStep (n : Net) (bk : Bool) (s : Cl) (k : Nat) : Cl := if s.tr.getD k false || !hitB s.pl (sideI bk (trN n k)) then s else ⟨markB s.pl (sideO bk (trN n k)), s.tr.set k true, true⟩
def clK (n : Net) (bk : Bool) (s : Cl) (k : Nat) : Cl := (List.range k).foldl (clStep n bk) ⟨s.pl, s.tr, false⟩
def clRound (n : Net) (bk : Bool) (s : Cl) : Cl := clK n bk s n.tr.length
def clRun (n : Net) (bk : Bool) : Nat → Cl → Cl
  | 0, s => s
  | f + 1, s => if (clRound n bk s).ch then clRun n bk f (clRound n bk s) else clRound n bk s
theorem clK_succ (n : Net) (bk : Bool) (s : Cl) (k : Nat) : clK n bk s (k + 1) = clStep n bk (clK n bk s k) k := by
  simp [clK, List.range_succ, List.foldl_append]
theorem clStep_no {n : Net} {bk : Bool} {s : Cl} {k : Nat} (h : s.tr.getD k false = true ∨ hitB s.pl (sideI bk (trN n k)) = false) : clStep n bk s k = s := by
  unfold clStep
  rcases h with h | h
  · rw [h]; rfl
  · rw [h]; simp
theorem clStep_yes {n : Net} {bk : Bool} {s : Cl} {k : Nat} (h : s.tr.getD k false = false) (h2 : hitB s.pl (sideI bk (trN n k)) = true) : clStep n bk s k = ⟨markB s.pl (sideO bk (trN n k)), s.tr.set k true, true⟩ := by
  unfold clStep
  rw [h, h2]; rfl
theorem clStep_len (n : Net) (bk : Bool) (s : Cl) (k : Nat) : (clStep n bk s k).pl.length = s.pl.length ∧ (clStep n bk s k).tr.length = s.tr.length := by
  unfold clStep
  split
  · exact ⟨rfl, rfl⟩
  · exact ⟨markB_len .., by simp⟩
theorem clK_len (n : Net) (bk : Bool) (s : Cl) (k : Nat) : (clK n bk s k).pl.length = s.pl.length ∧ (clK n bk s k).tr.length = s.tr.length := by
  induction k with
  | zero => exact ⟨rfl, rfl⟩
  | succ k ih =>
    rw [clK_succ]
    have := clStep_len n bk (clK n bk s k) k
    omega
theorem clRun_len (n : Net) (bk : Bool) (f : Nat) : ∀ (s : Cl), (clRun n bk f s).pl.length = s.pl.length ∧ (clRun n bk f s).tr.length = s.tr.length := by
  induction f with
  | zero => intro s; exact ⟨rfl, rfl⟩
  | succ f ih =>
    intro s
    have h := clK_len n bk s n.tr.length
    have h2 := ih (clRound n bk s)
    unfold clRun
    unfold clRound at h2 ⊢
    split <;> omega
/-- How many are not marked. -/
def cntF (l : List Bool) : Nat := l.countP (!·)
theorem cntF_set {l : List Bool} {k : Nat} (hk : k < l.length) (h : l.getD k false = false) : cntF (l.set k true) < cntF l := by
  induction l generalizing k with
  | nil => simp at hk
  | cons x l ih =>
    cases k with
    | zero => simp at h; subst h; simp [cntF]
    | succ k =>
      have := ih (k := k) (by simpa using hk) (by simpa using h)
      simp only [cntF, List.set_cons_succ, List.countP_cons] at this ⊢
      omega
theorem clStep_cnt {n : Net} {bk : Bool} {s : Cl} {k : Nat} (hk : k < s.tr.length) : cntF (clStep n bk s k).tr ≤ cntF s.tr ∧ ((clStep n bk s k).ch = true → s.ch = true ∨ cntF (clStep n bk s k).tr < cntF s.tr) := by
  unfold clStep
  split
  · exact ⟨Nat.le_refl _, fun h => .inl h⟩
  · rename_i h
    have h1 : s.tr.getD k false = false := by
      cases e : s.tr.getD k false
      · rfl
      · rw [e] at h; simp at h
    have := cntF_set hk h1
    exact ⟨by simp only; omega, fun _ => .inr this⟩
theorem clK_cnt {n : Net} {bk : Bool} {s : Cl} {k : Nat} (hk : k ≤ s.tr.length) : cntF (clK n bk s k).tr ≤ cntF s.tr ∧ ((clK n bk s k).ch = true → cntF (clK n bk s k).tr < cntF s.tr) := by
  induction k with
  | zero => exact ⟨Nat.le_refl _, fun h => by simp [clK] at h⟩
  | succ k ih =>
    have h1 := ih (by omega)
    rw [clK_succ]
    have h2 := clStep_cnt (n := n) (bk := bk) (s := clK n bk s k) (k := k) (by rw [(clK_len ..).2]; omega)
    refine ⟨by omega, fun h => ?_⟩
    rcases h2.2 h with h3 | h3
    · have := h1.2 h3; omega
    · omega
theorem cntF_le (l : List Bool) : cntF l ≤ l.length := List.countP_le_length
/-- With rounds enough the answer is the same. -/
theorem clRun_fuel {n : Net} {bk : Bool} : ∀ {f : Nat} {s : Cl}, s.tr.length = n.tr.length → cntF s.tr < f → clRun n bk f s = clRun n bk (f + 1) s
  | 0, _, _, h => by omega
  | f + 1, s, hl, h => by
    show (if (clRound n bk s).ch then clRun n bk f (clRound n bk s) else clRound n bk s) = (if (clRound n bk s).ch then clRun n bk (f + 1) (clRound n bk s) else clRound n bk s)
    cases e : (clRound n bk s).ch with
    | false => rfl
    | true =>
      simp only [if_true]
      have h1 := (clK_cnt (n := n) (bk := bk) (s := s) (k := n.tr.length) (by omega)).2 e
      exact clRun_fuel (by rw [clRound, (clK_len ..).2, hl]) (by unfold clRound; omega)
theorem clRun_le {n : Net} {bk : Bool} {s : Cl} (hl : s.tr.length = n.tr.length) : ∀ {d f : Nat}, cntF s.tr < f → clRun n bk f s = clRun n bk (f + d) s
  | 0, _, _ => rfl
  | d + 1, f, h => by rw [clRun_le (d := d) hl h, clRun_fuel hl (by omega)]; rfl
theorem clRun_next {n : Net} {bk : Bool} {s : Cl} (hl : s.tr.length = n.tr.length) : clRun n bk (cntF s.tr + 1) s = if (clRound n bk s).ch then clRun n bk (cntF (clRound n bk s).tr + 1) (clRound n bk s) else clRound n bk s := by
  show (if (clRound n bk s).ch then clRun n bk (cntF s.tr) (clRound n bk s) else clRound n bk s) = _
  cases e : (clRound n bk s).ch with
  | false => rfl
  | true =>
    simp only [if_true]
    have h1 := (clK_cnt (n := n) (bk := bk) (s := s) (k := n.tr.length) (by omega)).2 e
    have h2 : (clRound n bk s).tr.length = n.tr.length := by rw [clRound, (clK_len ..).2, hl]
    have h3 := clRun_le (n := n) (bk := bk) h2 (d := cntF s.tr - (cntF (clRound n bk s).tr + 1)) (f := cntF (clRound n bk s).tr + 1) (by omega)
    rw [h3]
    congr 1
    unfold clRound; omega
theorem cntF_rep (k : Nat) : cntF (List.replicate k false) = k := by
  unfold cntF; rw [List.countP_replicate]; simp
/-- What can be come to from a place. -/
def reachC (n : Net) (bk : Bool) (p : Int) : Cl := clRun n bk (n.tr.length + 1) ⟨(List.replicate n.pl.toNat false).set p.toNat true, List.replicate n.tr.length false, true⟩
theorem reachC_len (n : Net) (bk : Bool) (p : Int) : (reachC n bk p).pl.length = n.pl.toNat ∧ (reachC n bk p).tr.length = n.tr.length := by
  have := clRun_len n bk (n.tr.length + 1) ⟨(List.replicate n.pl.toNat false).set p.toNat true, List.replicate n.tr.length false, true⟩
  simpa [reachC] using this
theorem reachC_eq (n : Net) (bk : Bool) (p : Int) : reachC n bk p = clRun n bk (cntF (List.replicate n.tr.length false) + 1) ⟨(List.replicate n.pl.toNat false).set p.toNat true, List.replicate n.tr.length false, true⟩ := by
  rw [cntF_rep]; rfl
theorem getD_eq {l : List Bool} {k : Nat} (hk : k < l.length) : l[k] = l.getD k false := by
  rw [List.getD_eq_getElem?_getD, List.getElem?_eq_getElem hk]; rfl
/-- Where two rows are both true. -/
def bothK (a b : List Bool) (k : Nat) : List Int := ((List.range k).filter fun i => a.getD i false && b.getD i false).map Int.ofNat
def bothL (a b : List Bool) : List Int := bothK a b a.length
theorem bothK_len (a b : List Bool) (k : Nat) : (bothK a b k).length ≤ k := by
  have := List.length_filter_le (fun i => a.getD i false && b.getD i false) (List.range k)
  simp only [bothK, List.length_map]; simp at this ⊢; omega
theorem bothK_t {a b : List Bool} {k : Nat} (h : a.getD k false = true) (h2 : b.getD k false = true) : bothK a b (k + 1) = bothK a b k ++ [(k : Int)] := by
  simp only [bothK, List.range_succ, List.filter_append, List.filter_cons, h, h2, Bool.and_self, if_true, List.filter_nil, List.map_append]; rfl
theorem bothK_f {a b : List Bool} {k : Nat} (h : (a.getD k false && b.getD k false) = false) : bothK a b (k + 1) = bothK a b k := by
  simp only [bothK, List.range_succ, List.filter_append, List.filter_cons, h, Bool.false_eq_true, if_false, List.filter_nil, List.append_nil]
def wayP (n : Net) (a b : Int) : List Int := bothL (reachC n false a).pl (reachC n true b).pl
def wayT (n : Net) (a b : Int) : List Int := bothL (reachC n false a).tr (reachC n true b).tr
def okWay (n : Net) (a b : Int) : Bool := goodN n && inB 0 (n.pl - 1) a && inB 0 (n.pl - 1) b

/-! Flows. -/
structure Fl where
  net : Net
  src : Int
  dst : Int
abbrev encF (f : Fl) : PV := .agg [I f.net.pl, trs f.net.tr, I f.src, I f.dst]
/-- Does a transition spoil a flow? -/
def spoils (f : Fl) (t : Tr) : Bool := hasB t.out f.src || hasB t.inn f.dst || hasB t.rst f.src || hasB t.rst f.dst
def goodFl (f : Fl) : Bool := okWay f.net f.src f.dst && !decide (f.src = f.dst) && f.net.tr.all (fun t => !spoils f t) && decide (((wayP f.net f.src f.dst).length : Int) = f.net.pl) && decide ((wayT f.net f.src f.dst).length = f.net.tr.length)
theorem goodFl_parts {f : Fl} (h : goodFl f = true) : goodN f.net = true ∧ (0 ≤ f.src ∧ f.src < f.net.pl) ∧ (0 ≤ f.dst ∧ f.dst < f.net.pl) ∧ f.src ≠ f.dst ∧ (∀ t ∈ f.net.tr, spoils f t = false) ∧ ((wayP f.net f.src f.dst).length : Int) = f.net.pl ∧ (wayT f.net f.src f.dst).length = f.net.tr.length := by
  simp only [goodFl, okWay, inB, Bool.and_eq_true, decide_eq_true_eq, Bool.not_eq_true', decide_eq_false_iff_not, List.all_eq_true] at h
  obtain ⟨⟨⟨⟨⟨⟨h1, h2⟩, h3⟩, h4⟩, h5⟩, h6⟩, h7⟩ := h
  exact ⟨h1, by omega, by omega, h4, h5, h6, h7⟩
/-! Drawn flows: how much grows. -/
def growT : Nat → Nat
  | 0 => 1
  | d + 1 => 2 + 2 * growT d
def growC : Nat → Nat
  | 0 => 0
  | d + 1 => 2 + 2 * growC d
theorem growT_ge (d : Nat) : d < growT d := by
  induction d with
  | zero => decide
  | succ d ih => have : growT (d + 1) = 2 + 2 * growT d := rfl; omega
theorem growT_le3 {d : Nat} (h : d ≤ 3) : growT d ≤ 22 ∧ growC d ≤ 14 := by
  rcases d with _ | _ | _ | _ | d <;> first | omega | decide
/-- Transitions with short sides. -/
def smq (q : Nat) (tr : List Tr) : Prop := ∀ t ∈ tr, t.inn.length ≤ q ∧ t.out.length ≤ q ∧ t.rst.length ≤ q
theorem smq_mono {q q' : Nat} {tr : List Tr} (hq : q ≤ q') (h : smq q tr) : smq q' tr := fun t ht => by have := h t ht; omega
theorem smq_snoc {q : Nat} {tr : List Tr} {t : Tr} (h : smq q tr) (ht : t.inn.length ≤ q ∧ t.out.length ≤ q ∧ t.rst.length ≤ q) : smq q (tr ++ [t]) := by
  intro u hu
  rcases List.mem_append.1 hu with hu | hu
  · exact h u hu
  · simp only [List.mem_singleton] at hu; subst hu; exact ht
theorem smq_set {q : Nat} {tr : List Tr} {t : Tr} {k : Nat} (h : smq q tr) (ht : t.inn.length ≤ q ∧ t.out.length ≤ q ∧ t.rst.length ≤ q) : smq q (tr.set k t) := by
  intro u hu
  rcases List.mem_or_eq_of_mem_set hu with hu | rfl
  · exact h u hu
  · exact ht
theorem smq_nil {q : Nat} : smq q [] := fun t ht => by simp at ht
/-- The marking with one token. -/
def oneM (n : Nat) (p : Int) : List Int := (List.replicate n 0).set p.toNat 1
def shortN (f : Fl) : Net := ⟨f.net.pl, f.net.tr ++ [⟨[f.dst], [f.src], []⟩]⟩
def smFl (f : Fl) : Prop := smN f.net
theorem oneM_good {n : Net} {p : Int} (hg : goodN n = true) (hp : 0 ≤ p ∧ p < n.pl) : goodM n.pl (oneM n.pl.toNat p) = true := by
  have := goodN_parts hg
  have h1 : inB 1 16 n.pl = true := by simp [inB]; omega
  have h2 : (((oneM n.pl.toNat p).length : Int) == n.pl) = true := by simp only [oneM, List.length_set, List.length_replicate, beq_iff_eq]; omega
  have h3 : (oneM n.pl.toNat p).all (inB 0 50) = true := by
    rw [List.all_eq_true]
    intro x hx
    rcases mem_set' hx with hx | hx
    · have := (List.mem_replicate.1 hx).2; subst this; rfl
    · subst hx; rfl
  simp [goodM, h1, h2, h3]
theorem at_oneM {n : Nat} {p q : Int} (hp : 0 ≤ p ∧ p.toNat < n) (hq : 0 ≤ q) : at_ (oneM n p) q = if q = p then 1 else 0 := by
  unfold oneM
  rw [at_set (by simpa using hp) hq]
  split
  · rfl
  · unfold at_
    rw [List.getD_eq_getElem?_getD, List.getElem?_replicate]
    split <;> rfl
/-- The short net fires from the end to the start. -/
theorem short_back {f : Fl} (h : goodFl f = true) (hs : goodN (shortN f) = true) : okFire (shortN f) (oneM f.net.pl.toNat f.dst) f.net.tr.length = true ∧ firedM (trAt (shortN f) f.net.tr.length) (oneM f.net.pl.toNat f.dst) = oneM f.net.pl.toNat f.src := by
  obtain ⟨g1, g2, g3, g4, _⟩ := goodFl_parts h
  have e : trAt (shortN f) f.net.tr.length = ⟨[f.dst], [f.src], []⟩ := by
    rw [← trAt_eq (by simp [shortN])]
    simp [shortN]
  have hT : goodT f.net.pl (trAt (shortN f) f.net.tr.length) = true := by
    have := (goodN_parts hs).2.2.2 (trAt (shortN f) f.net.tr.length) (by rw [← trAt_eq (by simp [shortN])]; exact List.getElem_mem _)
    exact this
  have hM := oneM_good g1 g3
  have hl : ((oneM f.net.pl.toNat f.dst).length : Int) = f.net.pl := (goodM_len hM).2.2.1
  have hk : firedM (trAt (shortN f) f.net.tr.length) (oneM f.net.pl.toNat f.dst) = oneM f.net.pl.toNat f.src := by
    refine at_ext (by rw [firedM_len]; simp [oneM]) (fun p hp hlp => ?_)
    rw [at_firedG hT hl hp, at_oneM (by omega) hp, at_oneM (by omega) hp, e]
    simp only [List.mem_singleton, List.not_mem_nil, if_false]
    by_cases h1 : p = f.dst
    · subst h1
      simp only [if_true]
      split <;> omega
    · simp only [h1, if_false]; split <;> omega
  refine ⟨?_, hk⟩
  have h1 : inB 0 ((shortN f).tr.length - 1) f.net.tr.length = true := by simp [inB, shortN]
  have h2 : marked (shortN f) (oneM f.net.pl.toNat f.dst) = true := by
    simp only [marked, hs, Bool.true_and]; exact hM
  have h3 : (oneM f.net.pl.toNat f.src).all (inB 0 50) = true := by
    have := oneM_good g1 g2
    simp only [goodM, Bool.and_eq_true] at this; exact this.2
  have h4 : canT (trAt (shortN f) f.net.tr.length) (oneM f.net.pl.toNat f.dst) = true := by
    refine canT_of (fun p hp => ?_)
    rw [e] at hp
    simp only [List.mem_singleton] at hp
    subst hp
    rw [at_oneM (by omega) (by omega)]
    simp
  simp only [okFire, canN, h1, h2, h4, hk, h3, Bool.and_self]
end Go.Proofs.Ytkkifebmicbbaaa.Pi
