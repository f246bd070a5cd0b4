/- The plain laws. -/
import Derived.Test.YtkkifebmicbbaaaPiRy
import Derived.Sort.AssemblyPlain
import Derived.Laws.Bits64
import Derived.Laws.Bits64b
namespace Go.Proofs.Ytkkifebmicbbaaa.Pi
open Go
set_option linter.all false

abbrev bys (l : List Int) : PV := .sl true 1 (l.map (PV.int .u8))
abbrev rows (l : List (List Int)) : PV := .sl false 1 (l.map ints)

theorem z1a8 {α : Type} {l : List α} {k : Nat} (hk : k < l.length) : l.take (k + 1) = l.take k ++ [l[k]] := List.take_succ_eq_append_getElem hk
theorem z2s {α : Type} {l : List α} {p : α → Bool} {k : Nat} (hk : k < l.length) (h : (l.take k).all p = true) (hp : p l[k] = true) : (l.take (k + 1)).all p = true := by
  rw [z1a8 hk, List.all_append, h, List.all_cons, hp]; rfl
theorem z2r {α : Type} {l : List α} {p : α → Bool} {k : Nat} (hk : k < l.length) (hp : p l[k] = false) : l.all p = false := by
  rw [List.all_eq_false]; exact ⟨l[k], List.getElem_mem hk, by simp [hp]⟩
theorem z37 {α : Type} {l : List α} {p : α → Bool} {k : Nat} (hk : k < l.length) (h : (l.take k).any p = false) (hp : p l[k] = false) : (l.take (k + 1)).any p = false := by
  rw [z1a8 hk, List.any_append, h, List.any_cons, hp]; rfl
def inB (lo hi n : Int) : Bool := decide (lo ≤ n) && decide (n ≤ hi)
def goodM (p : Int) (m : List Int) : Bool := inB 1 16 p && (m.length : Int) == p && m.all (inB 0 50)
theorem zh2 {p : Int} {m : List Int} (h : goodM p m = true) : 1 ≤ p ∧ p ≤ 16 ∧ (m.length : Int) = p ∧ m.length ≤ 16 ∧ ∀ x ∈ m, 0 ≤ x ∧ x ≤ 50 := by
  simp [goodM, inB] at h
  refine ⟨h.1.1.1, h.1.1.2, h.1.2, by omega, fun x hx => h.2 x hx⟩

def sumI (l : List Int) : Int := l.foldl (· + ·) 0
def zaq (a b : List Int) : Bool := (a.zip b).all fun p => decide (p.2 ≤ p.1)

def idxI {α : Type} (l : List α) (p : α → Bool) : Int := match l.findIdx? p with
  | some k => k
  | none => -1
theorem zid {α : Type} {l : List α} {p : α → Bool} {k : Nat} (hk : k < l.length) (h : (l.take k).any p = false) (hp : p l[k] = true) : idxI l p = k := by
  have : l.findIdx? p = some k := by
    rw [List.findIdx?_eq_some_iff_getElem]
    refine ⟨hk, hp, fun j hj => ?_⟩
    rw [List.any_eq_false] at h
    have hjl : j < l.length := by omega
    have := h l[j] (by rw [List.mem_iff_getElem]; exact ⟨j, by simp; omega, by simp⟩)
    simpa using this
  simp [idxI, this]
theorem zic {α : Type} {l : List α} {p : α → Bool} (h : l.any p = false) : idxI l p = -1 := by
  have : l.findIdx? p = none := by
    rw [List.findIdx?_eq_none_iff]
    rw [List.any_eq_false] at h
    intro x hx; simpa using h x hx
  simp [idxI, this]
theorem zia {α : Type} (l : List α) (p : α → Bool) : l.any p = decide (0 ≤ idxI l p) := by
  unfold idxI
  cases h : l.findIdx? p with
  | none =>
    rw [List.findIdx?_eq_none_iff] at h
    simp only [List.any_eq_false.2 (fun x hx => by simpa using h x hx)]
    rfl
  | some k =>
    rw [List.findIdx?_eq_some_iff_getElem] at h
    obtain ⟨h1, h2, _⟩ := h
    rw [List.any_eq_true.2 ⟨l[k], List.getElem_mem h1, h2⟩]
    simp
theorem zh5 {p : Int} {a b : List Int} (h : (goodM p a && goodM p b) = true) : a.length = b.length ∧ a.length ≤ 16 := by
  simp only [Bool.and_eq_true] at h
  have h1 := zh2 h.1
  have h2 := zh2 h.2
  omega

theorem z19d (l : List Int) (x : Int) : l.foldl (· + ·) x = x + sumI l := by
  induction l generalizing x with
  | nil => simp [sumI]
  | cons y l ih =>
    have h1 : sumI (y :: l) = (0 + y) + sumI l := ih (0 + y)
    rw [List.foldl_cons, ih, h1]; omega
theorem z19g (x : Int) (l : List Int) : sumI (x :: l) = x + sumI l := by
  show (x :: l).foldl (· + ·) 0 = _
  rw [List.foldl_cons, z19d]; omega
attribute [go_sem] Bool.false_and Bool.and_false bne_self_eq_false

end Go.Proofs.Ytkkifebmicbbaaa.Pi
namespace Go.Proofs.Ytkkifebmicbbaaa.Pi
open Go
set_option linter.all false

structure Tr where
  inn : List Int
  out : List Int
  rst : List Int
structure Net where
  pl : Int
  tr : List Tr
def incr (l : List Int) : Bool := decide (l.Pairwise (· < ·))
def zy2 (p : Int) (l : List Int) : Bool := incr l && l.all (inB 0 (p - 1))
def goodT (p : Int) (t : Tr) : Bool := !t.inn.isEmpty && zy2 p t.inn && zy2 p t.out && zy2 p t.rst
def goodN (n : Net) : Bool := inB 1 16 n.pl && decide (n.tr.length ≤ 24) && n.tr.all (goodT n.pl)

def at_ (m : List Int) (p : Int) : Int := m.getD p.toNat 0
def canT (t : Tr) (m : List Int) : Bool := t.inn.all fun p => !(at_ m p == 0)
def decS (m : List Int) (p : Int) : List Int := m.set p.toNat (at_ m p - 1)
def zerS (m : List Int) (p : Int) : List Int := m.set p.toNat 0
def incS (m : List Int) (p : Int) : List Int := m.set p.toNat (at_ m p + 1)
def decL (m l : List Int) : List Int := l.foldl decS m
def zerL (m l : List Int) : List Int := l.foldl zerS m
def incL (m l : List Int) : List Int := l.foldl incS m
def zem (t : Tr) (m : List Int) : List Int := incL (zerL (decL m t.inn) t.rst) t.out
theorem zf8 {α β : Type} (f : β → α → β) (b : β) {l : List α} {k : Nat} (hk : k < l.length) : (l.take (k + 1)).foldl f b = f ((l.take k).foldl f b) l[k] := by
  rw [z1a8 hk, List.foldl_append]; rfl
def zpr (n : Net) (m : List Int) : Bool := goodN n && goodM n.pl m
def trAt (n : Net) (t : Int) : Tr := n.tr.getD t.toNat ⟨[], [], []⟩
def canN (n : Net) (m : List Int) (t : Int) : Bool := zpr n m && inB 0 (n.tr.length - 1) t && canT (trAt n t) m
def ztb (n : Net) (m : List Int) (t : Int) : Bool := canN n m t && (zem (trAt n t) m).all (inB 0 50)
/-! Firing is monotone. -/
end Go.Proofs.Ytkkifebmicbbaaa.Pi
namespace Go.Proofs.Ytkkifebmicbbaaa.Pi
open Go
set_option linter.all false

end Go.Proofs.Ytkkifebmicbbaaa.Pi
namespace Go.Proofs.Ytkkifebmicbbaaa.Pi
open Go
set_option linter.all false

/-! Tokens place by place. -/
/-! Nets turned. -/
/-! Transitions with a property. -/
/-! Free choice. -/
end Go.Proofs.Ytkkifebmicbbaaa.Pi
namespace Go.Proofs.Ytkkifebmicbbaaa.Pi
open Go
set_option linter.all false

def one (b : Bool) : Int := if b then 1 else 0
end Go.Proofs.Ytkkifebmicbbaaa.Pi
namespace Go.Proofs.Ytkkifebmicbbaaa.Pi
open Go
set_option linter.all false

theorem z1a {orc : Orc} {m : Nat} {st : St} {Q : Out → Prop} {keep : List Bool} {b : ICode} (Inv : Nat → St → Prop) (n : Nat) (h0 : Inv n (gc m ⟨clean keep st.fr, st.mem⟩))
    (step : ∀ k s, Inv k s → W orc m b s (fun o => match o with | .next s' => ∃ j, j < k ∧ Inv j (gc m ⟨clean keep s'.fr, s'.mem⟩) | o => Q o)) : W orc m (.loop keep b) st Q := by
  have key : ∀ (d k : Nat) (st : St), k < d → Inv k (gc m ⟨clean keep st.fr, st.mem⟩) → W orc m (.loop keep b) st Q := by
    intro d
    induction d with
    | zero => intro k st hk; omega
    | succ d ih =>
      intro k st hk hI
      obtain ⟨o, h1, h2⟩ := step k _ hI
      cases o with
      | next s' =>
        obtain ⟨j, hj, h5⟩ := h2
        obtain ⟨o', h3, h4⟩ := ih j s' (by omega) h5
        simp only [run] at h3
        exact ⟨o', by simp only [run]; rw [zl7, h1]; exact h3, h4⟩
      | ret s' => exact ⟨_, by simp only [run]; rw [zl7, h1], h2⟩
      | exit i s' => exact ⟨_, by simp only [run]; rw [zl7, h1], h2⟩
  exact key (n + 1) n st (by omega) h0
@[go_sem] theorem z16g {mem : List Blk} {sz sz' : Nat} {fl : Bool} {lo hi : Option PV} : z16f mem sz (.nil fl sz') lo hi = if sz' = sz then (bound 0 lo).bind fun l => (bound 0 hi).bind fun h => if l = 0 ∧ h = 0 then some (.nil fl sz) else none else none := rfl
attribute [go_sem] List.getElem?_nil
/-! What can be come to: zy2 and transitions are zpr round by round. -/
structure Cl where
  pl : List Bool
  tr : List Bool
  ch : Bool
def cntF (l : List Bool) : Nat := l.countP (!·)
theorem z9z {l : List Bool} {k : Nat} (hk : k < l.length) (h : l.getD k false = false) : cntF (l.set k true) < cntF l := by
  induction l generalizing k with
  | nil => simp at hk
  | cons x l ih =>
    cases k with
    | zero => simp at h; subst h; simp [cntF]
    | succ k =>
      have := ih (k := k) (by simpa using hk) (by simpa using h)
      simp only [cntF, List.set_cons_succ, List.countP_cons] at this ⊢
      omega
theorem z9x (l : List Bool) : cntF l ≤ l.length := List.countP_le_length
/-! Flows. -/
structure Fl where
  net : Net
  src : Int
  dst : Int
/-! Drawn flows: how much grows. -/
end Go.Proofs.Ytkkifebmicbbaaa.Pi
namespace Go.Proofs.Ytkkifebmicbbaaa.Pi
open Go
set_option linter.all false

def cmpI (a b : Int) : Int := if a < b then -1 else if b < a then 1 else 0
def cmpL : List Int → List Int → Int
  | [], [] => 0
  | [], _ :: _ => -1
  | _ :: _, [] => 1
  | a :: as, b :: bs => if a < b then -1 else if b < a then 1 else cmpL as bs
theorem z9t : ∀ (a b : List Int), cmpL a b = -1 ∨ cmpL a b = 0 ∨ cmpL a b = 1
  | [], [] => by simp [cmpL]
  | [], _ :: _ => by simp [cmpL]
  | _ :: _, [] => by simp [cmpL]
  | a :: as, b :: bs => by
    unfold cmpL
    split
    · simp
    · split
      · simp
      · exact z9t as bs
theorem z9q : ∀ {a b : List Int}, cmpL a b = 0 ↔ a = b
  | [], [] => by simp [cmpL]
  | [], _ :: _ => by simp [cmpL]
  | _ :: _, [] => by simp [cmpL]
  | a :: as, b :: bs => by
    unfold cmpL
    split
    · simp; omega
    · split
      · simp; omega
      · rw [z9q, List.cons.injEq]
        exact ⟨fun h => ⟨by omega, h⟩, fun h => h.2⟩
theorem z9s : ∀ (a b : List Int), cmpL b a = - cmpL a b
  | [], [] => by simp [cmpL]
  | [], _ :: _ => by simp [cmpL]
  | _ :: _, [] => by simp [cmpL]
  | a :: as, b :: bs => by
    unfold cmpL
    by_cases h1 : a < b
    · have h2 : ¬ b < a := by omega
      simp [h1, h2]
    · by_cases h2 : b < a
      · simp [h1, h2]
      · simp only [h1, h2, if_false]
        exact z9s as bs
theorem z9u : ∀ {a b c : List Int}, cmpL a b < 0 → cmpL b c < 0 → cmpL a c < 0
  | [], [], _, h, _ => by simp [cmpL] at h
  | _ :: _, [], _, h, _ => by simp [cmpL] at h
  | [], _ :: _, [], _, h => by simp [cmpL] at h
  | _ :: _, _ :: _, [], _, h => by simp [cmpL] at h
  | [], _ :: _, _ :: _, _, _ => by simp [cmpL]
  | a :: as, b :: bs, c :: cs, h1, h2 => by
    unfold cmpL at h1 h2 ⊢
    split at h1
    · split at h2
      · rw [if_pos (by omega)]; omega
      · split at h2
        · omega
        · rw [if_pos (by omega)]; omega
    · split at h1
      · omega
      · split at h2
        · rw [if_pos (by omega)]; omega
        · split at h2
          · omega
          · rw [if_neg (by omega), if_neg (by omega)]
            exact z9u h1 h2
def leL (a b : List Int) : Prop := cmpL a b ≤ 0
theorem zn1 {a b : List Int} (h : ¬ cmpL a b < 0) : leL b a := by
  unfold leL; rw [z9s]; omega
theorem zn2 {a b c : List Int} (h1 : leL a b) (h2 : leL b c) : leL a c := by
  unfold leL at *
  by_cases e1 : cmpL a b = 0
  · rw [z9q.1 e1]; exact h2
  · by_cases e2 : cmpL b c = 0
    · rw [← z9q.1 e2]; exact h1
    · have := z9u (a := a) (b := b) (c := c) (by omega) (by omega); omega

/-! ### Sorting by insertion -/
section
variable {α : Type} [Inhabited α] (le : α → α → Prop)
end

/-! ### Strictly sorted lists -/
def ltL (a b : List Int) : Prop := cmpL a b < 0
theorem zp5 {a : List Int} : ¬ ltL a a := by unfold ltL; rw [z9q.2 rfl]; omega
theorem z17i : ∀ {A B : List (List Int)}, A.Pairwise ltL → B.Pairwise ltL → (∀ x, x ∈ A ↔ x ∈ B) → A = B
  | [], [], _, _, _ => rfl
  | [], b :: B, _, _, h => by have := (h b).2 (by simp); simp at this
  | a :: A, [], _, _, h => by have := (h a).1 (by simp); simp at this
  | a :: A, b :: B, hA, hB, h => by
    rw [List.pairwise_cons] at hA hB
    have hab : a = b := by
      have h1 := (h a).1 (by simp)
      have h2 := (h b).2 (by simp)
      rw [List.mem_cons] at h1 h2
      rcases h1 with h1 | h1
      · exact h1
      · rcases h2 with h2 | h2
        · exact h2.symm
        · exact absurd (z9u (hB.1 a h1) (hA.1 b h2)) zp5
    subst hab
    rw [z17i hA.2 hB.2 fun x => ?_]
    have hx := h x
    rw [List.mem_cons, List.mem_cons] at hx
    constructor
    · intro hm
      rcases hx.1 (.inr hm) with rfl | h'
      · exact absurd (hA.1 _ hm) zp5
      · exact h'
    · intro hm
      rcases hx.2 (.inr hm) with rfl | h'
      · exact absurd (hB.1 _ hm) zp5
      · exact h'
def compL : List (List Int) → List (List Int)
  | [] => []
  | x :: xs => if xs.head? = some x then compL xs else x :: compL xs
theorem zai : ∀ (l : List (List Int)) (x : List Int), x ∈ compL l ↔ x ∈ l
  | [], x => by simp [compL]
  | y :: ys, x => by
    unfold compL
    split
    · rename_i h
      rw [zai ys x, List.mem_cons]
      constructor
      · exact .inr
      · rintro (rfl | h')
        · exact List.mem_of_head? h
        · exact h'
    · rw [List.mem_cons, List.mem_cons, zai ys x]
theorem zak : ∀ (l : List (List Int)), l.Pairwise leL → (compL l).Pairwise ltL
  | [], _ => by simp [compL]
  | y :: ys, h => by
    rw [List.pairwise_cons] at h
    unfold compL
    split
    · exact zak ys h.2
    · rename_i hn
      rw [List.pairwise_cons]
      refine ⟨fun x hx => ?_, zak ys h.2⟩
      rw [zai] at hx
      have h1 := h.1 x hx
      unfold leL at h1
      unfold ltL
      by_cases e : cmpL y x = 0
      · have e := z9q.1 e
        subst e
        cases ys with
        | nil => simp at hx
        | cons z zs =>
          exfalso
          apply hn
          have h2 := h.1 z (by simp)
          rw [List.mem_cons] at hx
          rcases hx with rfl | hx
          · rfl
          · have h3 := (List.pairwise_cons.1 h.2).1 y hx
            unfold leL at h2 h3
            rw [z9s] at h3
            have : cmpL y z = 0 := by omega
            rw [z9q.1 this]; rfl
      · omega
def inOrd : List (List Int) → List Int → List (List Int)
  | [], m => [m]
  | x :: xs, m => if cmpL m x = 0 then x :: xs else if cmpL m x < 0 then m :: x :: xs else x :: inOrd xs m
theorem zk8 : ∀ (l : List (List Int)) (m x : List Int), x ∈ inOrd l m ↔ x = m ∨ x ∈ l
  | [], m, x => by simp [inOrd]
  | y :: ys, m, x => by
    unfold inOrd
    split
    · rename_i h
      have := z9q.1 h; subst this
      rw [List.mem_cons]
      constructor
      · exact .inr
      · rintro (h | h)
        · exact .inl h
        · exact h
    · split
      · rw [List.mem_cons]
      · rw [List.mem_cons, zk8 ys m x, List.mem_cons]
        constructor
        · rintro (h | h | h)
          · exact .inr (.inl h)
          · exact .inl h
          · exact .inr (.inr h)
        · rintro (h | h | h)
          · exact .inr (.inl h)
          · exact .inl h
          · exact .inr (.inr h)
theorem zk9 : ∀ {l : List (List Int)} (m : List Int), l.Pairwise ltL → (inOrd l m).Pairwise ltL
  | [], m, _ => by simp [inOrd]
  | y :: ys, m, h => by
    have hh := List.pairwise_cons.1 h
    unfold inOrd
    split
    · exact h
    · rename_i h0
      split
      · rename_i h1
        rw [List.pairwise_cons]
        refine ⟨fun x hx => ?_, h⟩
        rw [List.mem_cons] at hx
        rcases hx with rfl | hx
        · exact h1
        · exact z9u h1 (hh.1 x hx)
      · rename_i h1
        rw [List.pairwise_cons]
        refine ⟨fun x hx => ?_, zk9 m hh.2⟩
        rw [zk8] at hx
        rcases hx with rfl | hx
        · unfold ltL; rw [z9s]; omega
        · exact hh.1 x hx
theorem zk7 : ∀ (l : List (List Int)) (m : List Int), (inOrd l m).length ≤ l.length + 1
  | [], m => by simp [inOrd]
  | y :: ys, m => by
    have := zk7 ys m
    unfold inOrd
    split
    · simp
    · split
      · simp
      · simp; omega
theorem zk5 {l : List (List Int)} {m : List Int} {j : Nat} (h1 : ∀ x ∈ l.take j, 0 < cmpL m x) (h2 : ∀ x, l[j]? = some x → cmpL m x < 0) : inOrd l m = l.take j ++ m :: l.drop j := by
  induction l generalizing j with
  | nil => simp [inOrd]
  | cons y ys ih =>
    cases j with
    | zero =>
      have := h2 y (by simp)
      simp only [List.take_zero, List.nil_append, List.drop_zero, inOrd]
      rw [if_neg (by omega), if_pos this]
    | succ j =>
      have := h1 y (by simp)
      simp only [List.take_succ_cons, List.drop_succ_cons, List.cons_append, inOrd]
      have hi := ih (j := j) (fun x hx => h1 x (by rw [List.take_succ_cons]; exact List.mem_cons_of_mem _ hx)) (fun x hx => h2 x (by simpa using hx))
      rw [if_neg (by omega), if_neg (by omega), hi]
theorem zk6 {l : List (List Int)} {m : List Int} (hs : l.Pairwise ltL) (h : m ∈ l) : inOrd l m = l := by
  induction l with
  | nil => simp at h
  | cons y ys ih =>
    rw [List.pairwise_cons] at hs
    unfold inOrd
    by_cases e : cmpL m y = 0
    · rw [if_pos e]
    · rw [if_neg e]
      rw [List.mem_cons] at h
      have hm : m ∈ ys := h.resolve_left fun e' => e (z9q.2 e')
      have := hs.1 m hm
      unfold ltL at this
      have h3 := z9s y m
      rw [if_neg (by omega), ih hs.2 hm]
/-! ### Least marks -/
def zn3 (l : List (List Int)) (m : List Int) : Bool := l.all fun x => !zaq m x || decide (m = x)
def zn5 (l : List (List Int)) (k : Nat) : List (List Int) := (l.take k).foldl (fun out m => if zn3 l m then inOrd out m else out) []
def zn8 (l : List (List Int)) : List (List Int) := zn5 l l.length
theorem zn4 (l : List (List Int)) : ∀ (k : List (List Int)) {out : List (List Int)}, out.Pairwise ltL → (k.foldl (fun out m => if zn3 l m then inOrd out m else out) out).Pairwise ltL ∧
    (∀ x, x ∈ k.foldl (fun out m => if zn3 l m then inOrd out m else out) out ↔ x ∈ out ∨ (x ∈ k ∧ zn3 l x = true)) ∧ (k.foldl (fun out m => if zn3 l m then inOrd out m else out) out).length ≤ out.length + k.length
  | [], out, h => ⟨h, by simp, by simp⟩
  | m :: k, out, h => by
    rw [List.foldl_cons]
    cases hm : zn3 l m with
    | false =>
      obtain ⟨f1, f2, f3⟩ := zn4 l k (out := out) h
      simp only [Bool.false_eq_true, if_false]
      refine ⟨f1, fun x => ?_, by simp; omega⟩
      rw [f2, List.mem_cons]
      constructor
      · rintro (h | ⟨h, h'⟩)
        · exact .inl h
        · exact .inr ⟨.inr h, h'⟩
      · rintro (h | ⟨rfl | h, h'⟩)
        · exact .inl h
        · rw [hm] at h'; cases h'
        · exact .inr ⟨h, h'⟩
    | true =>
      obtain ⟨f1, f2, f3⟩ := zn4 l k (out := inOrd out m) (zk9 m h)
      simp only [if_true]
      refine ⟨f1, fun x => ?_, by have := zk7 out m; simp; omega⟩
      rw [f2, zk8, List.mem_cons]
      constructor
      · rintro ((rfl | h) | ⟨h, h'⟩)
        · exact .inr ⟨.inl rfl, hm⟩
        · exact .inl h
        · exact .inr ⟨.inr h, h'⟩
      · rintro (h | ⟨rfl | h, h'⟩)
        · exact .inl (.inr h)
        · exact .inl (.inl rfl)
        · exact .inr ⟨h, h'⟩
theorem zn7 {l : List (List Int)} {k : Nat} (hk : k < l.length) : zn5 l (k + 1) = if zn3 l l[k] then inOrd (zn5 l k) l[k] else zn5 l k := by
  unfold zn5; rw [zf8 _ _ hk]
theorem zn6 (l : List (List Int)) (k : Nat) : (zn5 l k).Pairwise ltL ∧ (∀ x, x ∈ zn5 l k ↔ x ∈ l.take k ∧ zn3 l x = true) ∧ (zn5 l k).length ≤ k := by
  obtain ⟨f1, f2, f3⟩ := zn4 l (l.take k) (out := []) .nil
  refine ⟨f1, fun x => by rw [zn5, f2]; simp, ?_⟩
  have := List.length_take_le k l
  unfold zn5; simp at f3; omega
theorem zna (l : List (List Int)) : (zn8 l).Pairwise ltL ∧ (∀ x, x ∈ zn8 l ↔ x ∈ l ∧ zn3 l x = true) ∧ (zn8 l).length ≤ l.length := by
  have := zn6 l l.length
  rw [List.take_length] at this
  exact this
theorem zn9 {l R : List (List Int)} (hp : R.Perm l) (hs : R.Pairwise leL) : ((compL R).filter fun m => (compL R).all fun x => !zaq m x || decide (m = x)) = zn8 l := by
  obtain ⟨f1, f2, _⟩ := zna l
  have hm : ∀ x, x ∈ compL R ↔ x ∈ l := fun x => (zai R x).trans hp.mem_iff
  refine z17i ((zak R hs).filter _) f1 fun x => ?_
  rw [f2, List.mem_filter, hm]
  refine and_congr_right fun _ => ?_
  simp only [zn3, List.all_eq_true]
  exact ⟨fun h y hy => h y ((hm y).2 hy), fun h y hy => h y ((hm y).1 hy)⟩
theorem z9o : ∀ {k : Nat} {a b : List Int}, a.take k = b.take k → k ≤ a.length → k ≤ b.length → cmpL a b = cmpL (a.drop k) (b.drop k)
  | 0, a, b, _, _, _ => rfl
  | k + 1, [], b, _, h, _ => by simp at h
  | k + 1, x :: a, [], _, _, h => by simp at h
  | k + 1, x :: a, y :: b, h, h1, h2 => by
    simp only [List.take_succ_cons, List.cons.injEq] at h
    obtain ⟨rfl, h⟩ := h
    rw [List.drop_succ_cons, List.drop_succ_cons, ← z9o h (by simpa using h1) (by simpa using h2)]
    show (if x < x then _ else if x < x then _ else cmpL a b) = _
    rw [if_neg (by omega), if_neg (by omega)]
theorem z9n {k : Nat} {a b : List Int} (h : a.take k = b.take k) (h1 : k < a.length) (h2 : k < b.length) (hn : cmpI a[k] b[k] ≠ 0) : cmpL a b = cmpI a[k] b[k] := by
  rw [z9o h (by omega) (by omega), List.drop_eq_getElem_cons h1, List.drop_eq_getElem_cons h2]
  unfold cmpI at hn ⊢
  unfold cmpL
  by_cases h3 : a[k] < b[k]
  · simp [h3]
  · by_cases h4 : b[k] < a[k]
    · simp [h3, h4]
    · simp [h3, h4] at hn
theorem z9m {a b : Int} (h : cmpI a b = 0) : a = b := by
  unfold cmpI at h
  split at h
  · cases h
  · split at h
    · cases h
    · omega
theorem z9r {k : Nat} {a b : List Int} (h : a.take k = b.take k) (h1 : k < a.length) (h2 : k = b.length) : cmpL a b = 1 := by
  have e : b.drop k = [] := List.drop_eq_nil_of_le (by omega)
  rw [z9o h (by omega) (by omega), List.drop_eq_getElem_cons h1, e]; rfl
theorem z9p {a b : List Int} (h : a.take a.length = b.take a.length) (h2 : a.length ≤ b.length) : cmpL a b = if a.length < b.length then -1 else 0 := by
  rw [z9o h (by omega) h2, List.drop_eq_nil_of_le (Nat.le_refl _)]
  split
  · rename_i h3
    rw [List.drop_eq_getElem_cons h3]; rfl
  · rw [List.drop_eq_nil_of_le (by omega)]; rfl
/-! ### What stands next to its like, element by element -/
theorem zaj : ∀ (l : List (List Int)) (x : List Int), compL (l ++ [x]) = if l.getLast? = some x then compL l else compL l ++ [x]
  | [], x => by simp [compL]
  | [a], x => by
    by_cases h : a = x
    · subst h; simp [compL]
    · have h2 : ¬ x = a := fun e => h e.symm
      simp [compL, h, h2]
  | a :: b :: l, x => by
    have ih := zaj (b :: l) x
    have e : (a :: b :: l).getLast? = (b :: l).getLast? := by simp
    rw [e]
    show (if (b :: l ++ [x]).head? = some a then compL (b :: l ++ [x]) else a :: compL (b :: l ++ [x])) = _
    have e2 : compL (a :: b :: l) = if (b :: l).head? = some a then compL (b :: l) else a :: compL (b :: l) := rfl
    rw [ih, e2]
    simp only [List.cons_append, List.head?_cons]
    by_cases h1 : (b :: l).getLast? = some x
    · by_cases h2 : some b = some a
      · simp only [h1, h2, if_true]
      · simp only [h1, h2, if_true, if_false]
    · simp only [h1, if_false]
      by_cases h2 : some b = some a
      · simp only [h2, if_true]
      · simp only [h2, if_false]; rfl
def cK (l : List (List Int)) (k : Nat) : List (List Int) := compL (l.take k)
theorem zmg {l : List (List Int)} {k : Nat} (h : 0 < k) (hk : k ≤ l.length) : (l.take k).getLast? = some (l[k - 1]'(by omega)) := by
  obtain ⟨j, rfl⟩ : ∃ j, k = j + 1 := ⟨k - 1, by omega⟩
  rw [List.take_succ_eq_append_getElem (show j < l.length by omega), List.getLast?_append]
  rfl
theorem z7d {l : List (List Int)} {k : Nat} (h : 0 < k) (hk : k < l.length) (he : l[k] = l[k - 1]'(by omega)) : cK l (k + 1) = cK l k := by
  unfold cK
  rw [List.take_succ_eq_append_getElem hk, zaj, zmg h (by omega), if_pos (by rw [he])]
theorem z7a {l : List (List Int)} {k : Nat} (h : 0 < k) (hk : k < l.length) (he : l[k] ≠ l[k - 1]'(by omega)) : cK l (k + 1) = cK l k ++ [l[k]] := by
  unfold cK
  rw [List.take_succ_eq_append_getElem hk, zaj, zmg h (by omega), if_neg (fun e => he (Option.some.inj e).symm)]
theorem z7c {l : List (List Int)} (h : 0 < l.length) : cK l 1 = l.take 1 := by
  unfold cK
  cases l with
  | nil => simp at h
  | cons a l => simp [compL]
theorem z79 (l : List (List Int)) : cK l l.length = compL l := by unfold cK; rw [List.take_length]
theorem z15a {α : Type} {l : List α} {q : Nat} {x : α} (h : q < l.length) : (l.set q x).take (q + 1) = l.take q ++ [x] := by
  have hq : (l.take q).length = q := by simp; omega
  rw [List.set_eq_take_append_cons_drop, if_pos h, List.take_append, hq, List.take_of_length_le (by omega)]
  simp
end Go.Proofs.Ytkkifebmicbbaaa.Pi
namespace Go.Proofs.Ytkkifebmicbbaaa.Pi
open Go
set_option linter.all false

section
variable {α β : Type} [Inhabited α] (e : α → β)
abbrev rwA (d : Array α) : List β := d.toList.map e
theorem z14a (d : Array α) {i : Nat} (h : i < d.size) : (rwA e d)[i]? = some (e d[i]!) := by
  simp [h]
theorem z149 (d : Array α) {i : Nat} (h : i < d.size) : d.toList[i]? = some d[i]! := by
  simp [h]
theorem z14d (d : Array α) (i j : Nat) : (Sort.swp d i j).toList.map e = ((d.toList.map e).set i (e d[j]!)).set j (e d[i]!) := by
  simp [Sort.swp, List.map_set]
end
abbrev ltC {α : Type} (cm : α → α → Int) (x y : α) : Bool := decide (cm x y < 0)
theorem z19q {α : Type} {cm : α → α → Int} {g : α → List Int} (h : ∀ x y, cm x y = cmpL (g x) (g y)) : Sort.SWO (ltC cm) := by
  refine ⟨fun x => ?_, fun x y z => ?_, fun x y z => ?_⟩
  · simp only [ltC, h, decide_eq_false_iff_not]
    rw [z9q.2 rfl]; omega
  · simp only [ltC, h, decide_eq_true_eq]
    exact z9u
  · simp only [ltC, h, decide_eq_false_iff_not]
    intro h1 h2 h3
    have h4 := z9s (g x) (g y)
    have h5 := z9s (g y) (g z)
    have h6 : leL (g y) (g x) := zn1 h1
    have h7 : leL (g z) (g y) := zn1 h2
    have h8 := zn2 h7 h6
    unfold leL at h8
    have := z9s (g x) (g z)
    omega
theorem zxz {α : Type} [Inhabited α] {a b : Nat} {d d' : Array α} (h : Sort.PermIn a b d d') : d'.size = d.size := h.1
theorem zku {α : Type} [Inhabited α] (lt : α → α → Bool) {a b i : Nat} (d : Array α) (h : i < b) : Sort.insOuter lt a b i d = Sort.insOuter lt a b (i + 1) (Sort.insInner lt a i d) := by rw [Sort.insOuter, if_pos h]
theorem zkt {α : Type} [Inhabited α] (lt : α → α → Bool) {a b i : Nat} (d : Array α) (h : ¬ i < b) : Sort.insOuter lt a b i d = d := by rw [Sort.insOuter, if_neg h]
theorem zkp {α : Type} [Inhabited α] (lt : α → α → Bool) {a j : Nat} (d : Array α) (h : a < j) (hl : lt d[j]! d[j - 1]! = true) : Sort.insInner lt a j d = Sort.insInner lt a (j - 1) (Sort.swp d j (j - 1)) := by
  obtain ⟨k, rfl⟩ : ∃ k, j = k + 1 := ⟨j - 1, by omega⟩
  rw [Sort.insInner]
  simp only [Nat.add_sub_cancel] at hl ⊢
  rw [hl]
  simp
  intro h2; omega
theorem zko {α : Type} [Inhabited α] (lt : α → α → Bool) {a j : Nat} (d : Array α) (h : j ≤ a ∨ lt d[j]! d[j - 1]! = false) : Sort.insInner lt a j d = d := by
  cases j with
  | zero => rfl
  | succ k =>
    rw [Sort.insInner]
    simp only [Nat.add_sub_cancel] at h
    rcases h with h | h
    · rw [if_neg]; simp; omega
    · rw [h]; simp
theorem z14c {α β : Type} [Inhabited α] (e : α → β) (d : Array α) {i j : Nat} (y : α) (hi : i < d.size) (hj : j < d.size) : ((d.toList.map e).set i (e y))[j]? = some (e (if i = j then y else d[j]!)) := by
  rw [List.getElem?_set]
  by_cases h : i = j
  · rw [if_pos h, if_pos h]; simp [hi]
  · rw [if_neg h, if_neg h]
    exact z14a e d hj
theorem z165 {α : Type} [Inhabited α] (lt : α → α → Bool) {hi f r : Nat} (d : Array α) (h : hi ≤ 2 * r + 1) : Sort.siftDown lt hi f r d = d := by
  rw [Sort.siftDown, dif_pos h]
theorem z168 {α : Type} [Inhabited α] (lt : α → α → Bool) {hi f r c : Nat} (d : Array α) (h : 2 * r + 1 < hi) (hc : (c = 2 * r + 2 ∧ 2 * r + 2 < hi ∧ lt d[f + (2 * r + 1)]! d[f + (2 * r + 2)]! = true) ∨ (c = 2 * r + 1 ∧ ¬ (2 * r + 2 < hi ∧ lt d[f + (2 * r + 1)]! d[f + (2 * r + 2)]! = true))) (hs : lt d[f + r]! d[f + c]! = false) : Sort.siftDown lt hi f r d = d := by
  rw [Sort.siftDown, dif_neg (by omega)]
  rcases hc with ⟨rfl, h1, h2⟩ | ⟨rfl, h1⟩
  · rw [if_pos (by simp only [Bool.and_eq_true, decide_eq_true_eq]; exact ⟨h1, h2⟩), if_pos (by simp [hs])]
  · rw [if_neg (by simp only [Bool.and_eq_true, decide_eq_true_eq]; exact h1), if_pos (by simp [hs])]
theorem z166 {α : Type} [Inhabited α] (lt : α → α → Bool) {hi f r c : Nat} (d : Array α) (h : 2 * r + 1 < hi) (hc : (c = 2 * r + 2 ∧ 2 * r + 2 < hi ∧ lt d[f + (2 * r + 1)]! d[f + (2 * r + 2)]! = true) ∨ (c = 2 * r + 1 ∧ ¬ (2 * r + 2 < hi ∧ lt d[f + (2 * r + 1)]! d[f + (2 * r + 2)]! = true))) (hs : lt d[f + r]! d[f + c]! = true) : Sort.siftDown lt hi f r d = Sort.siftDown lt hi f c (Sort.swp d (f + r) (f + c)) := by
  rw [Sort.siftDown, dif_neg (by omega)]
  rcases hc with ⟨rfl, h1, h2⟩ | ⟨rfl, h1⟩
  · rw [if_pos (by simp only [Bool.and_eq_true, decide_eq_true_eq]; exact ⟨h1, h2⟩), if_neg (by simp [hs]), dif_pos h1]
  · rw [if_neg (by simp only [Bool.and_eq_true, decide_eq_true_eq]; exact h1), if_neg (by simp [hs])]
theorem z167 {α : Type} [Inhabited α] (lt : α → α → Bool) (hi f : Nat) : ∀ (n r : Nat) (d : Array α), hi - r ≤ n → (Sort.siftDown lt hi f r d).size = d.size
  | 0, r, d, hn => by rw [z165 lt d (by omega)]
  | n + 1, r, d, hn => by
    by_cases h : hi ≤ 2 * r + 1
    · rw [z165 lt d h]
    · obtain ⟨c, hc⟩ : ∃ c, (c = 2 * r + 2 ∧ 2 * r + 2 < hi ∧ lt d[f + (2 * r + 1)]! d[f + (2 * r + 2)]! = true) ∨ (c = 2 * r + 1 ∧ ¬ (2 * r + 2 < hi ∧ lt d[f + (2 * r + 1)]! d[f + (2 * r + 2)]! = true)) := by
        by_cases hh : 2 * r + 2 < hi ∧ lt d[f + (2 * r + 1)]! d[f + (2 * r + 2)]! = true
        · exact ⟨_, .inl ⟨rfl, hh⟩⟩
        · exact ⟨_, .inr ⟨rfl, hh⟩⟩
      cases hs : lt d[f + r]! d[f + c]! with
      | false => rw [z168 lt d (by omega) hc hs]
      | true =>
        rw [z166 lt d (by omega) hc hs, z167 lt hi f n c _ (by rcases hc with ⟨rfl, _⟩ | ⟨rfl, _⟩ <;> omega), Sort.size_swp]
@[go_sem] theorem z69 {bl : Bool} {k : IntKind} {x y : Int} : binV bl .xor (.int k x) (.int k y) = some (.int k (bits .xor k x y)) := by simp [binV, binI]
theorem z1cm {x y : Int} (hx : 0 ≤ x ∧ x < 18446744073709551616) (hy : 0 ≤ y ∧ y < 18446744073709551616) : 0 ≤ bits .xor .u64 x y ∧ bits .xor .u64 x y < 18446744073709551616 := by
  have h := bits_xor_u64_nat x.toNat y.toNat (by omega) (by omega)
  rw [show ((x.toNat : Nat) : Int) = x by omega, show ((y.toNat : Nat) : Int) = y by omega] at h
  have h2 : x.toNat ^^^ y.toNat < 2 ^ 64 := Nat.xor_lt_two_pow (by omega) (by omega)
  have h3 : bits .xor .u64 x y = ((x.toNat ^^^ y.toNat : Nat) : Int) := h
  omega
theorem z30 {x y : Int} (hx : 0 ≤ x ∧ x < 18446744073709551616) (hy : 0 ≤ y ∧ y < 18446744073709551616) : 0 ≤ bits .and .u64 x y ∧ bits .and .u64 x y ≤ y := by
  have h := bits_and_u64_nat x.toNat y.toNat (by omega) (by omega)
  rw [show ((x.toNat : Nat) : Int) = x by omega, show ((y.toNat : Nat) : Int) = y by omega] at h
  have h2 : x.toNat &&& y.toNat ≤ y.toNat := Nat.and_le_right
  have h3 : bits .and .u64 x y = ((x.toNat &&& y.toNat : Nat) : Int) := h
  omega
theorem z15z {x : Int} (k : Nat) (hx : 0 ≤ x ∧ x < 18446744073709551616) : 0 ≤ x / 2 ^ k ∧ x / 2 ^ k < 18446744073709551616 := by
  have h1 : (0 : Int) < 2 ^ k := Int.pow_pos (by decide)
  exact ⟨Int.ediv_nonneg hx.1 (by omega), Int.lt_of_le_of_lt (Int.ediv_le_self _ hx.1) hx.2⟩
theorem z6c {n : Nat} (h : 256 ≤ n) : Sort.bitsLen n = 8 + Sort.bitsLen (n / 256) := by
  have h1 := Sort.bitsLen_le_iff n (8 + Sort.bitsLen (n / 256))
  have h2 := Sort.lt_two_pow_bitsLen (n / 256)
  have h3 : n < 2 ^ (8 + Sort.bitsLen (n / 256)) := by
    rw [Nat.pow_add]
    have : n < 256 * 2 ^ Sort.bitsLen (n / 256) := by
      have := Nat.div_add_mod n 256
      have := Nat.mod_lt n (show 256 > 0 by decide)
      have : 256 * (n / 256 + 1) ≤ 256 * 2 ^ Sort.bitsLen (n / 256) := Nat.mul_le_mul_left _ h2
      omega
    exact this
  have h4 := h1.2 h3
  have h5 : 1 ≤ n / 256 := by omega
  have h6 := Sort.two_pow_bitsLen_le (n := n / 256) h5
  have h7 : 8 + Sort.bitsLen (n / 256) ≤ Sort.bitsLen n := by
    have h8 := Sort.lt_two_pow_bitsLen n
    apply Decidable.byContradiction
    intro hn
    have h9 : Sort.bitsLen n + 1 ≤ 8 + Sort.bitsLen (n / 256) := by omega
    have h10 : 2 ^ (Sort.bitsLen n + 1) ≤ 2 ^ (8 + Sort.bitsLen (n / 256)) := Nat.pow_le_pow_right (by decide) h9
    rw [Nat.pow_add, Nat.pow_add] at h10
    have h11 : 256 * 2 ^ Sort.bitsLen (n / 256) ≤ 256 * (2 * (n / 256)) := Nat.mul_le_mul_left _ h6
    have := Nat.div_mul_le_self n 256
    have h12 : (2 : Nat) ^ 8 = 256 := rfl
    rw [h12] at h10
    omega
  omega
section
variable {α : Type} [Inhabited α] (lt : α → α → Bool)
theorem z14p (d : Array α) {b i : Nat} (h : i < b) (hl : lt d[i]! d[i - 1]! = false) : Sort.scanSorted lt d b i = Sort.scanSorted lt d b (i + 1) := by
  rw [Sort.scanSorted, if_pos (by simp [h, hl])]
theorem z14o (d : Array α) {b i : Nat} (h : b ≤ i ∨ lt d[i]! d[i - 1]! = true) : Sort.scanSorted lt d b i = i := by
  rw [Sort.scanSorted]
  rcases h with h | h
  · rw [if_neg (by simp; omega)]
  · rw [if_neg (by simp [h])]
theorem z15m (d : Array α) {j : Nat} (h : 0 < j) (hl : lt d[j]! d[j - 1]! = true) : Sort.shiftDown lt j d = Sort.shiftDown lt (j - 1) (Sort.swp d j (j - 1)) := by
  obtain ⟨k, rfl⟩ : ∃ k, j = k + 1 := ⟨j - 1, by omega⟩
  simp only [Nat.add_sub_cancel] at hl ⊢
  rw [Sort.shiftDown, hl]; simp
theorem z15l (d : Array α) {j : Nat} (h : j = 0 ∨ lt d[j]! d[j - 1]! = false) : Sort.shiftDown lt j d = d := by
  cases j with
  | zero => rfl
  | succ k =>
    rcases h with h | h
    · omega
    · simp only [Nat.add_sub_cancel] at h
      rw [Sort.shiftDown, h]; simp
theorem z163 (d : Array α) {b j : Nat} (h : j < b) (hl : lt d[j]! d[j - 1]! = true) : Sort.shiftUp lt b j d = Sort.shiftUp lt b (j + 1) (Sort.swp d j (j - 1)) := by
  rw [Sort.shiftUp, if_pos h, hl]; simp
theorem z162 (d : Array α) {b j : Nat} (h : b ≤ j ∨ lt d[j]! d[j - 1]! = false) : Sort.shiftUp lt b j d = d := by
  rw [Sort.shiftUp]
  rcases h with h | h
  · rw [if_neg (by omega)]
  · split
    · rw [h]; simp
    · rfl
end
section
variable {α : Type} [Inhabited α]
theorem up_go (p : α → Bool) (d : Array α) {i j : Nat} (h : i ≤ j) (hp : p d[i]! = true) : Sort.scanUp p d j i = Sort.scanUp p d j (i + 1) := by
  rw [Sort.scanUp, if_pos (by simp only [Bool.and_eq_true, decide_eq_true_eq]; exact ⟨h, hp⟩)]
theorem z1bi (p : α → Bool) (d : Array α) {i j : Nat} (h : j < i ∨ p d[i]! = false) : Sort.scanUp p d j i = i := by
  rw [Sort.scanUp, if_neg]
  simp only [Bool.and_eq_true, decide_eq_true_eq]
  rintro ⟨h1, h2⟩
  rcases h with h | h
  · omega
  · rw [h] at h2; cases h2
theorem zbi (p : α → Bool) (d : Array α) {i j : Nat} (h : i ≤ j) (h0 : 0 < j) (hp : p d[j]! = true) : Sort.scanDown p d i j = Sort.scanDown p d i (j - 1) := by
  obtain ⟨k, rfl⟩ : ∃ k, j = k + 1 := ⟨j - 1, by omega⟩
  rw [Sort.scanDown, if_pos (by simp only [Bool.and_eq_true, decide_eq_true_eq]; exact ⟨h, hp⟩)]; rfl
theorem zbh (p : α → Bool) (d : Array α) {i j : Nat} (h : j < i ∨ p d[j]! = false) : Sort.scanDown p d i j = j := by
  cases j with
  | zero => rfl
  | succ k =>
    rw [Sort.scanDown, if_neg]
    simp only [Bool.and_eq_true, decide_eq_true_eq]
    rintro ⟨h1, h2⟩
    rcases h with h | h
    · omega
    · rw [h] at h2; cases h2
end
theorem zy0 {α : Type} [Inhabited α] {d E : Array α} (h : Sort.PermIn 0 d.size d E) : E.toList.Perm d.toList := by
  have h1 := h.2.2
  have h2 := h.1
  simpa [h2, Array.extract_eq_self_of_le] using h1
theorem zxm {α : Type} [Inhabited α] {lt : α → α → Bool} {E : Array α} (h : Sort.SortedIn lt 0 E.size E) : E.toList.Pairwise fun x y => lt y x = false := by
  rw [List.pairwise_iff_getElem]
  intro i j hi hj hij
  have := h i j (by omega) hij (by simpa using hj)
  simp only [Array.length_toList] at hi hj
  rw [getElem!_pos E i hi, getElem!_pos E j hj] at this
  simpa using this
end Go.Proofs.Ytkkifebmicbbaaa.Pi
namespace Go.Proofs.Ytkkifebmicbbaaa.Pi
open Go
set_option linter.all false

theorem zat (x y : Int) (a b : List Int) : zaq (x :: a) (y :: b) = (decide (y ≤ x) && zaq a b) := by simp [zaq]
theorem zau : ∀ a : List Int, zaq a a = true
  | [] => rfl
  | x :: a => by rw [zat, zau a]; simp
theorem zaw : ∀ {a b c : List Int}, a.length = b.length → b.length = c.length → zaq a b = true → zaq b c = true → zaq a c = true
  | [], [], [], _, _, _, _ => rfl
  | [], [], _ :: _, _, h, _, _ => by simp at h
  | [], _ :: _, _, h, _, _, _ => by simp at h
  | _ :: _, [], _, h, _, _, _ => by simp at h
  | _ :: _, _ :: _, [], _, h, _, _ => by simp at h
  | x :: a, y :: b, z :: c, h1, h2, h3, h4 => by
    rw [zat, Bool.and_eq_true, decide_eq_true_eq] at h3 h4 ⊢
    exact ⟨by omega, zaw (by simpa using h1) (by simpa using h2) h3.2 h4.2⟩
theorem zav : ∀ {a b : List Int}, a.length = b.length → zaq a b = true → sumI b ≤ sumI a ∧ (a ≠ b → sumI b < sumI a)
  | [], [], _, _ => ⟨Int.le_refl _, fun h => absurd rfl h⟩
  | [], _ :: _, h, _ => by simp at h
  | _ :: _, [], h, _ => by simp at h
  | x :: a, y :: b, h, hc => by
    rw [zat, Bool.and_eq_true, decide_eq_true_eq] at hc
    obtain ⟨h1, h2⟩ := zav (a := a) (b := b) (by simpa using h) hc.2
    rw [z19g, z19g]
    refine ⟨by omega, fun hn => ?_⟩
    by_cases e : x = y
    · subst e
      have := h2 (fun e => hn (by rw [e]))
      omega
    · omega
theorem z19i {l : List Int} (h : ∀ x ∈ l, 0 ≤ x) : 0 ≤ sumI l := by
  induction l with
  | nil => simp [sumI]
  | cons x l ih =>
    rw [z19g]
    have := ih fun y hy => h y (by simp [hy])
    have := h x (by simp)
    omega
theorem znd {l : List (List Int)} {n : Nat} (hl : ∀ x ∈ l, x.length = n) (h0 : ∀ x ∈ l, ∀ y ∈ x, (0 : Int) ≤ y) : ∀ (k : Nat) (x : List Int), x ∈ l → sumI x ≤ k → ∃ y ∈ zn8 l, zaq x y = true
  | k, x, hx, hk => by
    cases hb : zn3 l x with
    | true => exact ⟨x, ((zna l).2.1 x).2 ⟨hx, hb⟩, zau x⟩
    | false =>
      unfold zn3 at hb
      rw [List.all_eq_false] at hb
      obtain ⟨y, hy, hy2⟩ := hb
      simp only [Bool.or_eq_true, Bool.not_eq_true', decide_eq_true_eq, not_or, Bool.not_eq_false] at hy2
      have hs := (zav (a := x) (b := y) (by rw [hl x hx, hl y hy]) hy2.1).2 hy2.2
      have hy0 := z19i (h0 y hy)
      obtain ⟨j, rfl⟩ : ∃ j, k = j + 1 := ⟨k - 1, by omega⟩
      obtain ⟨z, hz, hz2⟩ := znd hl h0 j y hy (by omega)
      have hzl : z ∈ l := (((zna l).2.1 z).1 hz).1
      exact ⟨z, hz, zaw (by rw [hl x hx, hl y hy]) (by rw [hl y hy, hl z hzl]) hy2.1 hz2⟩
theorem znc {l : List (List Int)} {n : Nat} (hl : ∀ x ∈ l, x.length = n) (h0 : ∀ x ∈ l, ∀ y ∈ x, (0 : Int) ≤ y) {m : List Int} (hm : m ∈ l) : (zn8 l).any (fun x => zaq m x) = true := by
  obtain ⟨y, hy, h⟩ := znd hl h0 (sumI m).toNat m hm (by omega)
  exact List.any_eq_true.2 ⟨y, hy, h⟩
theorem znb {l : List (List Int)} {x y : List Int} (hx : x ∈ zn8 l) (hy : y ∈ zn8 l) (hn : x ≠ y) : zaq x y = false := by
  have h1 := (((zna l).2.1 x).1 hx).2
  have h2 := (((zna l).2.1 y).1 hy).1
  unfold zn3 at h1
  rw [List.all_eq_true] at h1
  have := h1 y h2
  simpa [hn] using this
end Go.Proofs.Ytkkifebmicbbaaa.Pi
namespace Go.Proofs.Ytkkifebmicbbaaa.Pi
open Go
set_option linter.all false

structure Arc3 where
  src : Int
  by_ : Int
  dst : Int
structure Sp where
  ms : List (List Int)
  ar : List Arc3
structure Ex where
  sp : Sp
  code : Int
structure ExOk (n : Net) (start : List Int) (b : Int) (s : Ex) : Prop where
  first : s.sp.ms[0]? = some start
  good : ∀ m ∈ s.sp.ms, zpr n m = true
  lenb : s.sp.ms.length ≤ b.toNat
  nodup : s.sp.ms.Nodup
  arcs : ∀ a ∈ s.sp.ar, 0 ≤ a.src ∧ a.src.toNat < s.sp.ms.length ∧ 0 ≤ a.dst ∧ a.dst.toNat < s.sp.ms.length ∧ ztb n (s.sp.ms.getD a.src.toNat []) a.by_ = true ∧ s.sp.ms.getD a.dst.toNat [] = zem (trAt n a.by_) (s.sp.ms.getD a.src.toNat [])
  back : ∀ j : Nat, 0 < j → j < s.sp.ms.length → ∃ i, ∃ h : i < s.sp.ar.length, s.sp.ar[i].dst = j ∧ s.sp.ar[i].src < j ∧ ∀ i', (h' : i' < i) → (s.sp.ar[i']'(by omega)).dst ≠ j
theorem ExOk.sp {n : Net} {start : List Int} {b : Int} {s : Ex} (h : ExOk n start b s) (c : Int) : ExOk n start b ⟨s.sp, c⟩ := ⟨h.first, h.good, h.lenb, h.nodup, h.arcs, h.back⟩
end Go.Proofs.Ytkkifebmicbbaaa.Pi
namespace Go.Proofs.Ytkkifebmicbbaaa.Pi
open Go
set_option linter.all false

def arcTo (ar : List Arc3) (p : Int) : Int := idxI ar (fun a => decide (a.dst = p))
end Go.Proofs.Ytkkifebmicbbaaa.Pi
namespace Go.Proofs.Ytkkifebmicbbaaa.Pi
open Go
set_option linter.all false

inductive Rk (ar : List Arc3) (S : List Int) : Int → Prop
  | base {k : Int} (h : k ∈ S) : Rk ar S k
  | step {a : Arc3} (h : a ∈ ar) (r : Rk ar S a.dst) : Rk ar S a.src
def z3v (ar : List Arc3) (n : Nat) : Prop := ∀ a ∈ ar, 0 ≤ a.src ∧ a.src < n ∧ 0 ≤ a.dst ∧ a.dst < n
open Classical in
def sndB (ar : List Arc3) (S : List Int) (c : List Bool) : Prop := ∀ k : Nat, c[k]? = some true → Rk ar S k
def hasS (S : List Int) (c : List Bool) : Prop := ∀ k ∈ S, c[k.toNat]? = some true
theorem z17f {ar : List Arc3} {S : List Int} {c : List Bool} {k : Int} (h : sndB ar S c) (h0 : 0 ≤ k) (hk : Rk ar S k) : sndB ar S (c.set k.toNat true) := by
  intro j hj
  rw [List.getElem?_set] at hj
  split at hj
  · rename_i e
    rw [← e, Int.toNat_of_nonneg h0]; exact hk
  · exact h j hj
theorem z15b {c : List Bool} {k j : Nat} (h : c[j]? = some true) : (c.set k true)[j]? = some true := by
  rw [List.getElem?_set]
  split
  · rename_i e; subst e
    rw [if_pos (List.getElem?_eq_some_iff.1 h).1]
  · exact h
theorem zi3 {S : List Int} {c : List Bool} {k : Nat} (h : hasS S c) : hasS S (c.set k true) := fun x hx => z15b (h x hx)
theorem z17g {ar : List Arc3} {S : List Int} {n : Nat} : sndB ar S (List.replicate n false) := by
  intro k hk
  rw [List.getElem?_replicate] at hk
  split at hk <;> cases hk
/-! ### From where arcs come to a marking -/
def befs (ar : List Arc3) (j : Int) : List Int := (ar.filter fun a => decide (a.dst = j)).map (·.src)
theorem z4y {ar : List Arc3} {j x : Int} : x ∈ befs ar j ↔ ∃ a ∈ ar, a.dst = j ∧ a.src = x := by
  simp only [befs, List.mem_map, List.mem_filter, decide_eq_true_eq]
  constructor
  · rintro ⟨a, ⟨h1, h2⟩, h3⟩; exact ⟨a, h1, h2, h3⟩
  · rintro ⟨a, h1, h2, h3⟩; exact ⟨a, ⟨h1, h2⟩, h3⟩
structure BF (ar : List Arc3) (n : Nat) (S : List Int) (c : List Bool) (q : List Int) (i : Nat) : Prop where
  len : c.length = n
  snd : sndB ar S c
  has : hasS S c
  inn : ∀ x ∈ q, 0 ≤ x ∧ x < n
  mkd : ∀ x ∈ q, c[x.toNat]? = some true
  all : ∀ k : Nat, c[k]? = some true → (k : Int) ∈ q
  cnt : q.length + cntF c ≤ n
  le : i ≤ q.length
  done : ∀ j, (hj : j < i) → ∀ a ∈ ar, a.dst = q[j]'(by omega) → c[a.src.toNat]? = some true
structure BG (ar : List Arc3) (n : Nat) (S : List Int) (i : Nat) (L : List Int) (m : Nat) (x : Int) (c : List Bool) (q : List Int) : Prop extends BF ar n S c q i where
  lt : i < q.length
  at_ : q[i]? = some x
  up : ∀ j, j < m → ∀ y, L[j]? = some y → c[y.toNat]? = some true
theorem BG.next {ar : List Arc3} {n : Nat} {S : List Int} {i : Nat} {x : Int} {c : List Bool} {q : List Int} (h : BG ar n S i (befs ar x) (befs ar x).length x c q) : BF ar n S c q (i + 1) := by
  refine ⟨h.len, h.snd, h.has, h.inn, h.mkd, h.all, h.cnt, h.lt, fun j hj a hm e => ?_⟩
  by_cases hji : j = i
  · subst hji
    have hx := h.at_
    rw [List.getElem?_eq_getElem h.lt] at hx
    rw [Option.some.inj hx] at e
    obtain ⟨k, hk, he⟩ := List.mem_iff_getElem.1 (z4y.2 ⟨a, hm, e, rfl⟩)
    exact h.up k hk _ (by rw [List.getElem?_eq_getElem hk, he])
  · exact h.done j (by omega) a hm e
theorem BG.old {ar : List Arc3} {n : Nat} {S : List Int} {i : Nat} {L : List Int} {m : Nat} {x : Int} {c : List Bool} {q : List Int} (h : BG ar n S i L m x c q) (hm : m < L.length) (hc : c[L[m].toNat]? = some true) : BG ar n S i L (m + 1) x c q := by
  refine ⟨h.toBF, h.lt, h.at_, fun j hj y hy => ?_⟩
  by_cases e : j = m
  · subst e
    rw [List.getElem?_eq_getElem hm] at hy
    cases hy; exact hc
  · exact h.up j (by omega) y hy
theorem BG.new {ar : List Arc3} {n : Nat} {S : List Int} {i : Nat} {m : Nat} {x : Int} {c : List Bool} {q : List Int} (h : BG ar n S i (befs ar x) m x c q) (ha : z3v ar n) (hm : m < (befs ar x).length) (hc : c[(befs ar x)[m].toNat]? = some false) :
    BG ar n S i (befs ar x) (m + 1) x (c.set (befs ar x)[m].toNat true) (q ++ [(befs ar x)[m]]) := by
  obtain ⟨a, h1, h2, h3⟩ := z4y.1 (List.getElem_mem hm)
  obtain ⟨a1, a2, a3, a4⟩ := ha a h1
  have hl := h.len
  have hx := h.at_
  have hi := h.lt
  rw [List.getElem?_eq_getElem hi] at hx
  have hq : x ∈ q := by rw [← Option.some.inj hx]; exact List.getElem_mem hi
  generalize hy : (befs ar x)[m] = y at *
  subst h3
  have hcy : a.src.toNat < c.length := by omega
  have hRk : Rk ar S a.src := by
    refine .step h1 ?_
    have hr := h.snd _ (h.mkd x hq)
    rw [Int.toNat_of_nonneg (h.inn x hq).1] at hr
    rw [h2]; exact hr
  have hcnt := z9z hcy (by rw [List.getD_eq_getElem?_getD, hc]; rfl)
  have hcn := h.cnt
  refine ⟨⟨by simpa using hl, z17f h.snd a1 hRk, zi3 h.has, fun z hz => ?_, fun z hz => ?_, fun k hk => ?_, by rw [List.length_append]; simp only [List.length_cons, List.length_nil]; omega, by rw [List.length_append]; have := h.le; omega, fun j hj a' hm' e => ?_⟩, by rw [List.length_append]; omega, ?_, fun j hj z hz => ?_⟩
  · rcases List.mem_append.1 hz with hz | hz
    · exact h.inn z hz
    · rw [List.mem_singleton] at hz; subst hz; exact ⟨a1, a2⟩
  · rcases List.mem_append.1 hz with hz | hz
    · exact z15b (h.mkd z hz)
    · rw [List.mem_singleton] at hz; subst hz; rw [List.getElem?_set_self hcy]
  · rw [List.getElem?_set] at hk
    split at hk
    · rename_i e
      refine List.mem_append.2 (.inr ?_)
      rw [List.mem_singleton]; omega
    · exact List.mem_append.2 (.inl (h.all k hk))
  · have hjq : j < q.length := by omega
    rw [List.getElem_append_left hjq] at e
    exact z15b (h.done j hj a' hm' e)
  · rw [List.getElem?_append_left hi, List.getElem?_eq_getElem hi]; exact hx
  · by_cases e : j = m
    · subst e
      rw [List.getElem?_eq_getElem hm, hy] at hz
      cases hz
      rw [List.getElem?_set_self hcy]
    · exact z15b (h.up j (by omega) z hz)
theorem BF.start {ar : List Arc3} {n : Nat} {p : Int} (h0 : 0 ≤ p) (h : p < n) : BF ar n [p] ((List.replicate n false).set p.toNat true) [p] 0 := by
  have hp : p.toNat < (List.replicate n false).length := by simp; omega
  have hc := z9z (l := List.replicate n false) (k := p.toNat) hp (by rw [List.getD_eq_getElem?_getD, List.getElem?_replicate]; split <;> rfl)
  have hl := z9x (List.replicate n false)
  rw [List.length_replicate] at hl
  refine ⟨by simp, z17f z17g h0 (.base (by simp)), fun k hk => ?_, fun x hx => ?_, fun x hx => ?_, fun k hk => ?_, by simp only [List.length_cons, List.length_nil]; omega, Nat.zero_le _, fun j hj => by omega⟩
  · rw [List.mem_singleton] at hk; subst hk; rw [List.getElem?_set_self hp]
  · rw [List.mem_singleton] at hx; subst hx; exact ⟨h0, h⟩
  · rw [List.mem_singleton] at hx; subst hx; rw [List.getElem?_set_self hp]
  · rw [List.getElem?_set] at hk
    split at hk
    · rename_i e; rw [List.mem_singleton]; omega
    · rw [List.getElem?_replicate] at hk; split at hk <;> cases hk
end Go.Proofs.Ytkkifebmicbbaaa.Pi
namespace Go.Proofs.Ytkkifebmicbbaaa.Pi
open Go
set_option linter.all false

/-! ### How a space is laid out -/
structure Bfs (ar : List Arc3) (n : Nat) : Prop where
  inn : z3v ar n
  srt : ∀ i j, i ≤ j → ∀ (hi : i < ar.length) (hj : j < ar.length), ar[i].src ≤ ar[j].src
  pre : ∀ i, (hi : i < ar.length) → ∀ q : Nat, 1 ≤ q → (q : Int) < ar[i].dst → ∃ j, ∃ hj : j < i, (ar[j]'(by omega)).dst = q
  back : ∀ q : Nat, 0 < q → q < n → ∃ i, ∃ h : i < ar.length, ar[i].dst = q ∧ ar[i].src < q ∧ ∀ i', (h' : i' < i) → (ar[i']'(by omega)).dst ≠ q
structure ExB (s : Ex) (k : Nat) : Prop where
  le : ∀ a ∈ s.sp.ar, a.src ≤ k
  srt : ∀ i j, i ≤ j → ∀ (hi : i < s.sp.ar.length) (hj : j < s.sp.ar.length), s.sp.ar[i].src ≤ s.sp.ar[j].src
  pre : ∀ i, (hi : i < s.sp.ar.length) → ∀ q : Nat, 1 ≤ q → (q : Int) < s.sp.ar[i].dst → ∃ j, ∃ hj : j < i, (s.sp.ar[j]'(by omega)).dst = q
theorem ExB.add {s : Ex} {k : Nat} {ms : List (List Int)} {t d c : Int} (h : ExB s k) (hd : ∀ q : Nat, 1 ≤ q → (q : Int) < d → ∃ j, ∃ hj : j < s.sp.ar.length, s.sp.ar[j].dst = q) : ExB ⟨⟨ms, s.sp.ar ++ [⟨k, t, d⟩]⟩, c⟩ k := by
  refine ⟨fun a ha => ?_, fun i j hij hi hj => ?_, fun i hi q h1 h2 => ?_⟩
  · rcases List.mem_append.1 ha with ha | ha
    · exact h.le a ha
    · rw [List.mem_singleton] at ha; subst ha; exact Int.le_refl _
  · simp only [List.length_append, List.length_cons, List.length_nil] at hi hj
    simp only [List.getElem_append]
    by_cases hj2 : j < s.sp.ar.length
    · rw [dif_pos (show i < s.sp.ar.length by omega), dif_pos hj2]; exact h.srt i j hij _ _
    · rw [dif_neg hj2]
      by_cases hi2 : i < s.sp.ar.length
      · rw [dif_pos hi2]
        simp only [List.getElem_singleton]
        exact h.le _ (List.getElem_mem hi2)
      · rw [dif_neg hi2]; simp
  · simp only [List.length_append, List.length_cons, List.length_nil] at hi
    by_cases hi2 : i < s.sp.ar.length
    · simp only [List.getElem_append, dif_pos hi2] at h2
      obtain ⟨j, hj, e⟩ := h.pre i hi2 q h1 h2
      exact ⟨j, hj, by simp only [List.getElem_append, dif_pos (show j < s.sp.ar.length by omega)]; exact e⟩
    · have : i = s.sp.ar.length := by omega
      subst this
      simp only [List.getElem_append, dif_neg hi2, List.getElem_singleton] at h2
      obtain ⟨j, hj, e⟩ := hd q h1 h2
      exact ⟨j, hj, by simp only [List.getElem_append, dif_pos hj]; exact e⟩
theorem ExB.up {s : Ex} {k k' : Nat} (h : ExB s k) (hk : k ≤ k') : ExB s k' := ⟨fun a ha => by have := h.le a ha; omega, h.srt, h.pre⟩
/-! ### Ways of some arcs -/
def Dk (ar : List Arc3) (p : Int) : Nat → Int → Prop
  | 0, k => k = p
  | d + 1, k => ∃ a ∈ ar, a.src = k ∧ Dk ar p d a.dst
structure isFar (ar : List Arc3) (p : Int) (n : Nat) (F : List Int) : Prop where
  len : F.length = n
  val : ∀ k : Nat, k < n → (F[k]? = some (-1) ∧ ∀ e, ¬ Dk ar p e k) ∨ ∃ d : Nat, F[k]? = some (d : Int) ∧ Dk ar p d k ∧ ∀ e, e < d → ¬ Dk ar p e k
def treeW (ar : List Arc3) : Nat → Nat → List Int
  | 0, _ => []
  | f + 1, k => if k = 0 then [] else match ar[(arcTo ar k).toNat]? with
    | some a => treeW ar f a.src.toNat ++ [a.by_]
    | none => []
def tw (ar : List Arc3) (k : Nat) : List Int := treeW ar (k + 1) k
section
variable {ar : List Arc3} {n : Nat}
inductive Tp (ar : List Arc3) (p : Nat) : Nat → List Int → Prop
  | refl : Tp ar p p []
  | step {c i : Nat} {U : List Int} (hi : i < ar.length) (e : arcTo ar c = i) (h0 : 0 < c) (t : Tp ar p c U) : Tp ar p ar[i].src.toNat (ar[i].by_ :: U)
inductive Gd (ar : List Arc3) (F : List Int) (p : Nat) : Nat → List Int → Prop
  | refl : Gd ar F p p []
  | step {t i : Nat} {W : List Int} (hne : t ≠ p) (hi : i < ar.length) (hs : ar[i].src = t) (hf : ∀ u v, F[ar[i].dst.toNat]? = some u → F[t]? = some v → u = v - 1) (hm : ∀ j, (hj : j < i) → (ar[j]'(by omega)).src = t → ∀ u v, F[(ar[j]'(by omega)).dst.toNat]? = some u → F[t]? = some v → u ≠ v - 1)
      (g : Gd ar F p ar[i].dst.toNat W) : Gd ar F p t (ar[i].by_ :: W)
theorem isFar.at_ {p : Nat} {F : List Int} (hF : isFar ar p n F) {k d : Nat} (hk : k < n) (hd : Dk ar p d k) (hm : ∀ e, e < d → ¬ Dk ar p e k) : F[k]? = some (d : Int) := by
  rcases hF.val k hk with ⟨_, h⟩ | ⟨d', h1, h2, h3⟩
  · exact (h d hd).elim
  · have : d' = d := by
      rcases Nat.lt_trichotomy d d' with h | h | h
      · exact (h3 d h hd).elim
      · exact h.symm
      · exact (hm d' h h2).elim
    rw [h1, this]
end
end Go.Proofs.Ytkkifebmicbbaaa.Pi
