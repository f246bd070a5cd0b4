/- Two transitions, or two places, made one. Plain Lean. No condition. -/
import Derived.Test.YtkkifebmicbbaaaPlDrop
namespace Go.Proofs.Ytkkifebmicbbaaa.Pi
open Go
set_option linter.all false

/-! ### Increasing lists as sets -/
theorem putI_memI : ∀ {l : List Int} {x y : Int}, y ∈ putI l x ↔ y ∈ l ∨ y = x
  | [], x, y => by simp [putI]
  | z :: l, x, y => by
    unfold putI
    split
    · have := putI_memI (l := l) (x := x) (y := y)
      simp only [List.mem_cons, this, or_assoc]
    · split
      · rename_i h1 h2
        subst h2
        simp only [List.mem_cons]
        constructor
        · intro h; exact .inl h
        · rintro (h | h)
          · exact h
          · exact .inl h
      · simp only [List.mem_cons]
        constructor
        · rintro (h | h | h)
          · exact .inr h
          · exact .inl (.inl h)
          · exact .inl (.inr h)
        · rintro ((h | h) | h)
          · exact .inr (.inl h)
          · exact .inr (.inr h)
          · exact .inl h
theorem putI_pair : ∀ {l : List Int} {x : Int}, l.Pairwise (· < ·) → (putI l x).Pairwise (· < ·)
  | [], x, _ => by simp [putI]
  | z :: l, x, h => by
    rw [List.pairwise_cons] at h
    unfold putI
    split
    · rename_i hz
      rw [List.pairwise_cons]
      refine ⟨fun y hy => ?_, putI_pair h.2⟩
      rcases putI_memI.1 hy with hy | rfl
      · exact h.1 y hy
      · exact hz
    · split
      · rw [List.pairwise_cons]; exact h
      · rename_i h1 h2
        rw [List.pairwise_cons, List.pairwise_cons]
        refine ⟨fun y hy => ?_, h⟩
        rcases List.mem_cons.1 hy with rfl | hy
        · omega
        · have := h.1 y hy; omega
theorem incr_pair {l : List Int} (h : incr l = true) : l.Pairwise (· < ·) := by simpa [incr] using h
theorem pair_incr {l : List Int} (h : l.Pairwise (· < ·)) : incr l = true := by simpa [incr] using h
/-- One set put to another. -/
def unionI (l b : List Int) : List Int := b.foldl putI l
theorem unionI_mem : ∀ {b l : List Int} {y : Int}, y ∈ unionI l b ↔ y ∈ l ∨ y ∈ b
  | [], l, y => by simp [unionI]
  | x :: b, l, y => by
    have := unionI_mem (b := b) (l := putI l x) (y := y)
    unfold unionI at this ⊢
    rw [List.foldl_cons, this, putI_memI, List.mem_cons, or_assoc]
theorem unionI_pair : ∀ {b l : List Int}, l.Pairwise (· < ·) → (unionI l b).Pairwise (· < ·)
  | [], _, h => h
  | x :: b, l, h => by unfold unionI; rw [List.foldl_cons]; exact unionI_pair (b := b) (putI_pair h)
theorem unionI_take {l b : List Int} {k : Nat} (h : k < b.length) : unionI l (b.take (k + 1)) = putI (unionI l (b.take k)) b[k] := by
  unfold unionI; rw [List.take_succ_eq_append_getElem h, List.foldl_append]; rfl
theorem unionI_len {l : List Int} : ∀ {b : List Int}, (unionI l b).length ≤ l.length + b.length
  | [] => by simp [unionI]
  | x :: b => by
    have h1 := unionI_len (l := putI l x) (b := b)
    have h2 := putI_len l x
    unfold unionI at h1 ⊢
    rw [List.foldl_cons]
    simp only [List.length_cons]
    omega
theorem unionI_mask {l b : List Int} (hl : ∀ p ∈ l, 0 ≤ p) (hb : ∀ p ∈ b, 0 ≤ p) : maskN (unionI l b) = maskN l ||| maskN b := by
  apply Nat.eq_of_testBit_eq
  intro i
  rw [Nat.testBit_or, maskN_bit hl, maskN_bit hb, maskN_bit (fun p hp => by
    rcases unionI_mem.1 hp with h | h
    · exact hl p h
    · exact hb p h)]
  simp only [hasB, unionI_mem, Bool.decide_or]
/-- A set of places, one left out, others put in. -/
def mixO (a b : List Int) (p : Int) : List Int := unionI (wout a [p]) b
theorem mixO_incr {a b : List Int} {p : Int} (ha : incr a = true) : incr (mixO a b p) = true := pair_incr (unionI_pair (incr_pair (wout_incr ha)))
theorem mixO_mem {a b : List Int} {p y : Int} (h : y ∈ mixO a b p) : y ∈ a ∨ y ∈ b := by
  rcases unionI_mem.1 h with h | h
  · exact .inl (wout_sub y h)
  · exact .inr h
theorem maskN_one {p : Int} : maskN [p] = 2 ^ p.toNat := by simp [maskN]
theorem mixO_mask {a b : List Int} {p : Int} (ha : ∀ x ∈ a, 0 ≤ x ∧ x < 62) (hb : ∀ x ∈ b, 0 ≤ x ∧ x < 62) (hp : 0 ≤ p ∧ p < 62) : maskN (mixO a b p) = (maskN a &&& (2 ^ 64 - (2 ^ p.toNat + 1))) ||| maskN b := by
  unfold mixO
  rw [unionI_mask (fun x hx => (ha x (wout_sub x hx)).1) (fun x hx => (hb x hx).1), ← maskN_one, wout_mask ha (by simpa using hp)]
theorem mixO_len (a b : List Int) (p : Int) : (mixO a b p).length ≤ a.length + b.length := by
  have h1 := unionI_len (l := wout a [p]) (b := b)
  have h2 : (wout a [p]).length ≤ a.length := by unfold wout; exact List.length_filter_le _ _
  unfold mixO; omega

/-! ### Leaving out a place and a transition -/
def keepT (tr : List Tr) (tq : Int) (i : Nat) : List Tr := if 0 ≤ tq ∧ tq < i then (tr.take i).eraseIdx tq.toNat else tr.take i
theorem keepT_zero (tr : List Tr) (tq : Int) : keepT tr tq 0 = [] := by
  unfold keepT; split
  · simp
  · simp
theorem keepT_skip {tr : List Tr} {tq : Int} {i : Nat} (hi : i < tr.length) (h : (i : Int) = tq) : keepT tr tq (i + 1) = keepT tr tq i := by
  unfold keepT
  rw [if_pos (by omega), if_neg (by omega), List.take_succ_eq_append_getElem hi, show tq.toNat = i by omega, List.eraseIdx_append_of_length_le (by simp; omega)]
  simp [show i - min i tr.length = 0 by omega]
theorem keepT_next {tr : List Tr} {tq : Int} {i : Nat} (hi : i < tr.length) (h : ¬ (i : Int) = tq) : keepT tr tq (i + 1) = keepT tr tq i ++ [tr[i]] := by
  unfold keepT
  by_cases h1 : 0 ≤ tq ∧ tq < i
  · rw [if_pos (by omega), if_pos h1, List.take_succ_eq_append_getElem hi, List.eraseIdx_append_of_lt_length (by simp; omega)]
  · rw [if_neg (by omega), if_neg h1, List.take_succ_eq_append_getElem hi]
theorem keepT_len (tr : List Tr) (tq : Int) (i : Nat) : (keepT tr tq i).length ≤ i := by
  unfold keepT
  split
  · exact Nat.le_trans (by rw [List.length_eraseIdx]; split <;> omega) (List.length_take_le i tr)
  · exact List.length_take_le i tr
theorem keepT_all (tr : List Tr) {tq : Int} (h : 0 ≤ tq ∧ tq < tr.length) : keepT tr tq tr.length = tr.eraseIdx tq.toNat := by
  unfold keepT; rw [if_pos h, List.take_length]
theorem keepT_none (tr : List Tr) : keepT tr (-1) tr.length = tr := by
  unfold keepT; rw [if_neg (by omega), List.take_length]
/-- A row of transitions as a result: nil where it is empty. -/
def resU (t : TypeId) (L : List Tr) : PV := if L = [] then .nil false 3 else .un t false 3 (L.map encT)
def resN (t : TypeId) (L : List Tr) : PV := if L = [] then .nil false 3 else .unn t 3 (L.map encT)
theorem resU_ne {t : TypeId} {L : List Tr} (h : L ≠ []) : resU t L = .un t false 3 (L.map encT) := by simp [resU, h]
theorem resN_ne {t : TypeId} {L : List Tr} (h : L ≠ []) : resN t L = .unn t 3 (L.map encT) := by simp [resN, h]
/-- What is needed of a flow to leave something out. -/
def smF (f : Fl) : Prop := (1 ≤ f.net.pl ∧ f.net.pl ≤ 16) ∧ f.net.tr.length ≤ 24 ∧ (0 ≤ f.src ∧ f.src < f.net.pl) ∧ (0 ≤ f.dst ∧ f.dst < f.net.pl) ∧ ∀ t ∈ f.net.tr, (t.inn.length ≤ 40 ∧ t.out.length ≤ 40 ∧ t.rst = []) ∧ (∀ x ∈ t.inn, 0 ≤ x ∧ x < f.net.pl) ∧ (∀ x ∈ t.out, 0 ≤ x ∧ x < f.net.pl)
theorem smF_of {f : Fl} (h : goodFl f = true) (hr : hasR f.net = false) : smF f := by
  obtain ⟨hgn, hs, hd, -, -, -, -⟩ := goodFl_parts h
  obtain ⟨hp1, hp2, hn, hT⟩ := goodN_parts hgn
  refine ⟨⟨hp1, hp2⟩, hn, hs, hd, fun t ht => ?_⟩
  have h1 := goodT_lens (hT t ht) ⟨by omega, hp2⟩
  have h2 := goodT_places (hT t ht)
  obtain ⟨i, hi, rfl⟩ := List.getElem_of_mem ht
  exact ⟨⟨by omega, by omega, hasR_no hr hi⟩, h2.1, h2.2.1⟩
def leaveF (f : Fl) (tr : List Tr) (q : Int) : Fl := ⟨⟨f.net.pl - 1, tr.map (dropT q)⟩, lessP q f.src, lessP q f.dst⟩
theorem leaveF_drop (f : Fl) (q : Int) : leaveF f f.net.tr q = dropF f q := rfl

/-! ### A flow with one transition -/
theorem goodFl_one {f : Fl} (h : goodFl f = true) (h1 : f.net.tr.length = 1) {p : Int} (hp : (trN f.net 0).inn = [p]) : p = f.src := by
  obtain ⟨hg, hs, hd, hne, -, -, hw⟩ := goodFl_parts h
  have ht0 : trN f.net 0 ∈ f.net.tr := by rw [trN_eq (by omega)]; exact List.getElem_mem _
  have hpl := (goodT_places ((goodN_parts hg).2.2.2 _ ht0)).1 p (by rw [hp]; simp)
  apply Decidable.byContradiction
  intro hps
  have hhit : hitB ((List.replicate f.net.pl.toNat false).set f.src.toNat true) (sideI false (trN f.net 0)) = false := by
    simp only [sideI, Bool.false_eq_true, if_false, hp, hitB, List.any_cons, List.any_nil, Bool.or_false, List.getD_eq_getElem?_getD]
    rw [List.getElem?_set_ne (by omega), List.getElem?_replicate]
    split <;> rfl
  have e : (reachC f.net false f.src).tr = [false] := by
    unfold reachC
    rw [h1]
    simp only [List.replicate_succ, List.replicate_zero]
    have e1 : clRound f.net false ⟨(List.replicate f.net.pl.toNat false).set f.src.toNat true, [false], true⟩ = ⟨(List.replicate f.net.pl.toNat false).set f.src.toNat true, [false], false⟩ := by
      unfold clRound
      rw [h1, clK_succ]
      simp only [clK, List.range_zero, List.foldl_nil]
      exact clStep_no (.inr hhit)
    simp only [clRun, e1]
    simp
  have hT : wayT f.net f.src f.dst = [] := by
    unfold wayT bothL bothK
    rw [e]
    simp
  rw [hT, h1] at hw
  simp at hw

/-! ### What is fused -/
def okFT (f : Fl) (p : Nat) : Bool :=
  innerP f p && (decide ((givI f.net p).length = 1) && (decide ((takI f.net p).length = 1) && (!(at_ (givI f.net p) 0 == at_ (takI f.net p) 0) &&
    (decide ((trAt f.net (at_ (takI f.net p) 0)).inn.length = 1) && (!decide ((trAt f.net (at_ (takI f.net p) 0)).out.length = 0) && !meetB (trAt f.net (at_ (givI f.net p) 0)).out (trAt f.net (at_ (takI f.net p) 0)).out)))))
def resFT (f : Fl) : Option Nat := (List.range f.net.pl.toNat).find? (okFT f)
def fusedT (f : Fl) (p : Nat) : List Tr :=
  let g := at_ (givI f.net p) 0
  let t := at_ (takI f.net p) 0
  (f.net.tr.set g.toNat ⟨(trAt f.net g).inn, mixO (trAt f.net g).out (trAt f.net t).out p, (trAt f.net g).rst⟩).eraseIdx t.toNat
def replO (p q : Int) (u : Tr) : Tr := if hasB u.out p = true then ⟨u.inn, mixO u.out [q] p, u.rst⟩ else u
def okFP (f : Fl) (i : Nat) : Bool :=
  decide ((trN f.net i).inn.length = 1) && (decide ((trN f.net i).out.length = 1) && (!(at_ (trN f.net i).inn 0 == f.src) && (!(at_ (trN f.net i).inn 0 == at_ (trN f.net i).out 0) &&
    (decide ((takI f.net (at_ (trN f.net i).inn 0)).length = 1) && !(f.net.tr.any fun u => hasB u.out (at_ (trN f.net i).inn 0) && hasB u.out (at_ (trN f.net i).out 0))))))
def resFP (f : Fl) : Option Nat := (List.range f.net.tr.length).find? (okFP f)
def fusedP (f : Fl) (i : Nat) : List Tr := (f.net.tr.map (replO (at_ (trN f.net i).inn 0) (at_ (trN f.net i).out 0))).eraseIdx i
theorem fnd_some {p : Nat → Bool} {n i : Nat} (hi : i < n) (h0 : ∀ j, j < i → p j = false) (h : p i = true) : (List.range n).find? p = some i := by
  rw [List.find?_eq_some_iff_getElem]
  refine ⟨h, i, by simpa using hi, by simp, fun j hj => ?_⟩
  simp only [List.getElem_range]
  rw [h0 j hj]; rfl
theorem fnd_none {p : Nat → Bool} {n : Nat} (h : ∀ j, j < n → p j = false) : (List.range n).find? p = none := by
  rw [List.find?_eq_none]
  intro j hj
  rw [List.mem_range] at hj
  rw [h j hj]; simp
theorem idxL_one {P : Tr → Bool} {n : Net} (h : (idxL P n).length = 1) : ∃ g : Nat, g < n.tr.length ∧ idxL P n = [(g : Int)] := by
  obtain ⟨x, hx⟩ := List.length_eq_one_iff.1 h
  have hm : x ∈ idxL P n := by rw [hx]; simp
  simp only [idxL, idxK, List.mem_map, List.mem_filter, List.mem_range] at hm
  obtain ⟨g, ⟨hg, -⟩, rfl⟩ := hm
  exact ⟨g, hg, hx⟩
/-- The flow that is left when the one giver and the one taker of a place are made one: before anything is left out. -/
def mixT (a b : Tr) (p : Int) : Tr := ⟨a.inn, mixO a.out b.out p, a.rst⟩
def okAB (f : Fl) (g t : Nat) : Bool := decide ((trN f.net t).inn.length = 1) && (!decide ((trN f.net t).out.length = 0) && !meetB (trN f.net g).out (trN f.net t).out)
theorem okFT_eq {f : Fl} {p g t : Nat} (hi : innerP f p = true) (hg : givI f.net p = [(g : Int)]) (ht : takI f.net p = [(t : Int)]) (hne : g ≠ t) : okFT f p = okAB f g t := by
  have e : ((at_ [(g : Int)] 0) == (at_ [(t : Int)] 0)) = false := by simp [at_]; omega
  have e1 : trAt f.net (g : Int) = trN f.net g := rfl
  have e2 : trAt f.net (t : Int) = trN f.net t := rfl
  simp [okFT, okAB, hi, hg, ht, at_, e1, e2]
  intros; omega
theorem fusedT_eq {f : Fl} {p g t : Nat} (hg : givI f.net p = [(g : Int)]) (ht : takI f.net p = [(t : Int)]) : fusedT f p = (f.net.tr.set g (mixT (trN f.net g) (trN f.net t) p)).eraseIdx t := by
  have e1 : trAt f.net (g : Int) = trN f.net g := rfl
  have e2 : trAt f.net (t : Int) = trN f.net t := rfl
  simp [fusedT, hg, ht, at_, e1, e2, mixT]
theorem okFT_inner {f : Fl} {p : Nat} (h : innerP f p = false) : okFT f p = false := by simp [okFT, h]
theorem okFT_giv {f : Fl} {p : Nat} (h : (givI f.net p).length ≠ 1) : okFT f p = false := by simp [okFT, h]
theorem okFT_tak {f : Fl} {p : Nat} (h : (takI f.net p).length ≠ 1) : okFT f p = false := by simp [okFT, h]
theorem okFT_same {f : Fl} {p g : Nat} (hg : givI f.net p = [(g : Int)]) (ht : takI f.net p = [(g : Int)]) : okFT f p = false := by simp [okFT, hg, ht]
theorem smF_mix {f : Fl} {g t p : Nat} (h : smF f) (hl : ∀ u ∈ f.net.tr, u.inn.length ≤ 16 ∧ u.out.length ≤ 16) (hg : g < f.net.tr.length) (ht : t < f.net.tr.length) : smF ⟨⟨f.net.pl, f.net.tr.set g (mixT (trN f.net g) (trN f.net t) p)⟩, f.src, f.dst⟩ := by
  obtain ⟨h1, h2, h3, h4, h5⟩ := h
  refine ⟨h1, by simpa using h2, h3, h4, fun u hu => ?_⟩
  rcases List.mem_or_eq_of_mem_set hu with hu | rfl
  · exact h5 u hu
  · have a := h5 _ (List.getElem_mem hg)
    have b := h5 _ (List.getElem_mem ht)
    have a2 := hl _ (List.getElem_mem hg)
    have b2 := hl _ (List.getElem_mem ht)
    rw [trN_eq hg, trN_eq ht]
    have c := mixO_len f.net.tr[g].out f.net.tr[t].out (p : Int)
    refine ⟨⟨a.1.1, by simp only [mixT]; omega, a.1.2.2⟩, a.2.1, fun x hx => ?_⟩
    rcases mixO_mem hx with hx | hx
    · exact a.2.2 x hx
    · exact b.2.2 x hx
end Go.Proofs.Ytkkifebmicbbaaa.Pi
