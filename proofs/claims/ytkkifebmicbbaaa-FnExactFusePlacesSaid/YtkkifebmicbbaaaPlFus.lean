/- A net whose transitions' places were mixed is still good. Plain Lean. No condition. -/
import Derived.Test.YtkkifebmicbbaaaPlFuse
namespace Go.Proofs.Ytkkifebmicbbaaa.Pi
open Go
set_option linter.all false
theorem places_mix {a b : List Int} {n p : Int} (ha : places n a = true) (hb : ∀ x ∈ b, 0 ≤ x ∧ x < n) : places n (mixO a b p) = true := by
  simp only [places, Bool.and_eq_true, List.all_eq_true]
  refine ⟨mixO_incr (places_incr ha), fun x hx => ?_⟩
  have : 0 ≤ x ∧ x < n := by
    rcases mixO_mem hx with hx | hx
    · exact places_in ha x hx
    · exact hb x hx
  simp only [inB, Bool.and_eq_true, decide_eq_true_eq]
  omega
theorem goodT_mix {a b : Tr} {n p : Int} (ha : goodT n a = true) (hb : goodT n b = true) : goodT n (mixT a b p) = true := by
  obtain ⟨h1, h2, h3, h4⟩ := goodT_parts ha
  obtain ⟨k1, k2, k3, k4⟩ := goodT_parts hb
  simp [goodT, mixT, h1, h2, h4, places_mix h3 (fun x hx => places_in k3 x hx)]
theorem goodN_of {n : Net} (h1 : 1 ≤ n.pl ∧ n.pl ≤ 16) (h2 : n.tr.length ≤ 24) (h3 : ∀ t ∈ n.tr, goodT n.pl t = true) : goodN n = true := by
  simp only [goodN, inB, Bool.and_eq_true, decide_eq_true_eq, List.all_eq_true]
  exact ⟨⟨h1, h2⟩, h3⟩
theorem goodN_mix {n : Net} {g t p : Nat} (h : goodN n = true) (hg : g < n.tr.length) (ht : t < n.tr.length) : goodN ⟨n.pl, n.tr.set g (mixT n.tr[g] n.tr[t] p)⟩ = true := by
  obtain ⟨h1, h2, h3, h4⟩ := goodN_parts h
  refine goodN_of ⟨h1, h2⟩ (by simpa using h3) (fun u hu => ?_)
  rcases List.mem_or_eq_of_mem_set hu with hu | rfl
  · exact h4 u hu
  · exact goodT_mix (h4 _ (List.getElem_mem hg)) (h4 _ (List.getElem_mem ht))
theorem goodT_repl {u : Tr} {n p q : Int} (h : goodT n u = true) (hq : 0 ≤ q ∧ q < n) : goodT n (replO p q u) = true := by
  unfold replO
  split
  · obtain ⟨h1, h2, h3, h4⟩ := goodT_parts h
    simp [goodT, h1, h2, h4, places_mix h3 (b := [q]) (p := p) (fun x hx => by simp at hx; subst hx; exact hq)]
  · exact h
theorem smF_erase {n : Net} {s d : Int} {i : Nat} (h : smF ⟨n, s, d⟩) : smF ⟨⟨n.pl, n.tr.eraseIdx i⟩, s, d⟩ := by
  obtain ⟨h1, h2, h3, h4, h5⟩ := h
  exact ⟨h1, Nat.le_trans (List.length_eraseIdx_le ..) h2, h3, h4, fun t ht => h5 t (List.mem_of_mem_eraseIdx ht)⟩
def fuseTV (f : Fl) : Option Fl := if okRed f = true then (resFT f).map fun (q : Nat) => leaveF f (fusedT f q) (q : Int) else none
def fusePV (f : Fl) : Option Fl := if okRed f = true then (resFP f).map fun (i : Nat) => leaveF f (fusedP f i) (at_ (trN f.net i).inn 0) else none
theorem okFP_inn {f : Fl} {k : Nat} (h : (trN f.net k).inn.length ≠ 1) : okFP f k = false := by simp [okFP, h]
theorem okFP_out {f : Fl} {k : Nat} (h : (trN f.net k).out.length ≠ 1) : okFP f k = false := by simp [okFP, h]
theorem okFP_eq {f : Fl} {k : Nat} {p q : Int} (h1 : (trN f.net k).inn = [p]) (h2 : (trN f.net k).out = [q]) : okFP f k = (!(p == f.src) && (!(p == q) && (decide ((takI f.net p).length = 1) && !(f.net.tr.any fun u => hasB u.out p && hasB u.out q)))) := by
  simp [okFP, h1, h2, at_]
theorem fusedP_eq {f : Fl} {k : Nat} {p q : Int} (h1 : (trN f.net k).inn = [p]) (h2 : (trN f.net k).out = [q]) : fusedP f k = (f.net.tr.map (replO p q)).eraseIdx k := by
  simp [fusedP, h1, h2, at_]
theorem smF_repl {f : Fl} {p q : Int} (h : smF f) (hl : ∀ u ∈ f.net.tr, u.inn.length ≤ 16 ∧ u.out.length ≤ 16) (hq : 0 ≤ q ∧ q < f.net.pl) : smF ⟨⟨f.net.pl, f.net.tr.map (replO p q)⟩, f.src, f.dst⟩ := by
  obtain ⟨h1, h2, h3, h4, h5⟩ := h
  refine ⟨h1, by simpa using h2, h3, h4, fun u hu => ?_⟩
  simp only [List.mem_map] at hu
  obtain ⟨v, hv, rfl⟩ := hu
  have a := h5 _ hv
  have a2 := hl _ hv
  unfold replO
  split
  · have c := mixO_len v.out [q] p
    simp only [List.length_cons, List.length_nil] at c
    refine ⟨⟨a.1.1, by show (mixO v.out [q] p).length ≤ 40; omega, a.1.2.2⟩, a.2.1, fun x hx => ?_⟩
    rcases mixO_mem hx with hx | hx
    · exact a.2.2 x hx
    · simp at hx; subst hx; exact hq
  · exact a
/-- The first ones changed. -/
theorem map_erase {α β : Type} (g : α → β) : ∀ (l : List α) (k : Nat), (l.map g).eraseIdx k = (l.eraseIdx k).map g
  | [], _ => by simp
  | x :: l, 0 => by simp
  | x :: l, k + 1 => by simp [map_erase g l k]
def mapK (g : Tr → Tr) (l : List Tr) (k : Nat) : List Tr := (l.take k).map g ++ l.drop k
theorem mapK_zero (g : Tr → Tr) (l : List Tr) : mapK g l 0 = l := by simp [mapK]
theorem mapK_all (g : Tr → Tr) (l : List Tr) : mapK g l l.length = l.map g := by simp [mapK]
theorem mapK_len (g : Tr → Tr) (l : List Tr) (k : Nat) : (mapK g l k).length = l.length := by simp [mapK]; omega
theorem mapK_get {g : Tr → Tr} {l : List Tr} {k : Nat} (hk : k < l.length) : (mapK g l k)[k]? = some l[k] := by
  unfold mapK
  rw [List.getElem?_append_right (by simp; omega)]
  simp [show min k l.length = k by omega, hk]
theorem mapK_set {g : Tr → Tr} {l : List Tr} {k : Nat} (hk : k < l.length) : mapK g l (k + 1) = (mapK g l k).set k (g l[k]) := by
  unfold mapK
  rw [List.set_append_right _ _ (by simp; omega), List.take_succ_eq_append_getElem hk, List.map_append, List.append_assoc]
  simp only [List.length_map, List.length_take, show min k l.length = k by omega, Nat.sub_self]
  rw [List.drop_eq_getElem_cons hk]
  rfl
theorem mapK_same {g : Tr → Tr} {l : List Tr} {k : Nat} (hk : k < l.length) (h : g l[k] = l[k]) : mapK g l (k + 1) = mapK g l k := by
  rw [mapK_set hk, h]
  have := mapK_get (g := g) hk
  rw [List.getElem?_eq_some_iff] at this
  obtain ⟨h1, h2⟩ := this
  rw [← h2, List.set_getElem_self]
theorem mixO_one {a : List Int} {p q : Int} : mixO a [q] p = putI (wout a [p]) q := rfl
theorem leave_small {f : Fl} {T : List Tr} {q : Int} (hL : T.length ≤ 24) (hl : ∀ t ∈ T, t.inn.length ≤ 40 ∧ t.out.length ≤ 40 ∧ t.rst.length ≤ 40) : (leaveF f T q).net.tr.length ≤ 24 ∧ ∀ t ∈ (leaveF f T q).net.tr, t.inn.length ≤ 40 ∧ t.out.length ≤ 40 ∧ t.rst.length ≤ 40 := by
  refine ⟨by simpa [leaveF] using hL, fun t ht => ?_⟩
  simp only [leaveF, List.mem_map] at ht
  obtain ⟨u, hu, rfl⟩ := ht
  have := hl u hu
  have a := dropL_len q u.inn
  have b := dropL_len q u.out
  have c := dropL_len q u.rst
  simp only [dropT]; omega
theorem smF_small {f : Fl} (h : smF f) : ∀ t ∈ f.net.tr, t.inn.length ≤ 40 ∧ t.out.length ≤ 40 ∧ t.rst.length ≤ 40 := by
  intro t ht
  have := (h.2.2.2.2 t ht).1
  exact ⟨this.1, this.2.1, by rw [this.2.2]; simp⟩
theorem fuseTV_small {f g : Fl} (h : fuseTV f = some g) : g.net.tr.length ≤ 24 ∧ ∀ t ∈ g.net.tr, t.inn.length ≤ 40 ∧ t.out.length ≤ 40 ∧ t.rst.length ≤ 40 := by
  unfold fuseTV at h
  split at h
  case isFalse => cases h
  rename_i ho
  simp only [okRed, Bool.and_eq_true, Bool.not_eq_true'] at ho
  simp only [Option.map_eq_some_iff] at h
  obtain ⟨p, hp, rfl⟩ := h
  have hgn := (goodFl_parts ho.1).1
  obtain ⟨hp1, hp2, hn, hT⟩ := goodN_parts hgn
  have hsm := smF_of ho.1 ho.2
  have hl : ∀ u ∈ f.net.tr, u.inn.length ≤ 16 ∧ u.out.length ≤ 16 := fun u hu => by have := goodT_lens (hT u hu) ⟨by omega, hp2⟩; omega
  have hok : okFT f p = true := by
    have := List.find?_some hp
    exact this
  simp only [okFT, Bool.and_eq_true, decide_eq_true_eq] at hok
  obtain ⟨gi, hgl, hG⟩ := idxL_one hok.2.1
  obtain ⟨ti, htl, hK⟩ := idxL_one hok.2.2.1
  rw [fusedT_eq hG hK]
  have h2 := smF_erase (i := ti) (smF_mix (p := p) hsm hl hgl htl)
  exact leave_small h2.2.1 (smF_small h2)
theorem fusePV_small {f g : Fl} (h : fusePV f = some g) : g.net.tr.length ≤ 24 ∧ ∀ t ∈ g.net.tr, t.inn.length ≤ 40 ∧ t.out.length ≤ 40 ∧ t.rst.length ≤ 40 := by
  unfold fusePV at h
  split at h
  case isFalse => cases h
  rename_i ho
  simp only [okRed, Bool.and_eq_true, Bool.not_eq_true'] at ho
  simp only [Option.map_eq_some_iff] at h
  obtain ⟨k, hk, rfl⟩ := h
  have hgn := (goodFl_parts ho.1).1
  obtain ⟨hp1, hp2, hn, hT⟩ := goodN_parts hgn
  have hsm := smF_of ho.1 ho.2
  have hl : ∀ u ∈ f.net.tr, u.inn.length ≤ 16 ∧ u.out.length ≤ 16 := fun u hu => by have := goodT_lens (hT u hu) ⟨by omega, hp2⟩; omega
  have hok : okFP f k = true := List.find?_some hk
  have hkl : k < f.net.tr.length := by
    have := List.mem_of_find?_eq_some hk
    simpa using this
  simp only [okFP, Bool.and_eq_true, decide_eq_true_eq] at hok
  obtain ⟨p, hp⟩ := List.length_eq_one_iff.1 hok.1
  obtain ⟨q, hq⟩ := List.length_eq_one_iff.1 hok.2.1
  rw [fusedP_eq hp hq]
  have hqq : 0 ≤ q ∧ q < f.net.pl := (goodT_places (hT _ (List.getElem_mem hkl))).2.1 q (by rw [← trN_eq hkl, hq]; simp)
  have h2 := smF_erase (i := k) (smF_repl (p := p) hsm hl hqq)
  exact leave_small h2.2.1 (smF_small h2)
end Go.Proofs.Ytkkifebmicbbaaa.Pi
