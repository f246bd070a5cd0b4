/- Specifications of workflows: tasks, moves, the flow of a specification; sizes of arguments; marks. Plain Lean. No condition. -/
import Derived.Test.YtkkifebmicbbaaaPlMask
namespace Go.Proofs.Ytkkifebmicbbaaa.Pi
open Go
set_option linter.all false

structure Tk where
  join : Int
  split : Int
  inn : List Int
  out : List Int
  cut : List Int
  stop : List Int
  role : Int
  deriving DecidableEq
structure Spc where
  conds : Int
  tasks : List Tk
  deriving DecidableEq
abbrev encK (t : Tk) : PV := .agg [I t.join, I t.split, ints t.inn, ints t.out, ints t.cut, ints t.stop, I t.role]
abbrev tks (l : List Tk) : PV := .sl false 7 (l.map encK)
abbrev encS (s : Spc) : PV := .agg [I s.conds, tks s.tasks]
def smTk (t : Tk) : Prop := t.inn.length < 2^40 ∧ t.out.length < 2^40 ∧ t.cut.length < 2^40 ∧ t.stop.length < 2^40
def smSpc (s : Spc) : Prop := s.tasks.length < 2^40 ∧ ∀ t ∈ s.tasks, smTk t

/-- A loop that several ways lead to, its head alike. -/
theorem share {orc : Orc} {m : Nat} {G : Prop} (S0 : St) (k : List Bool) (b : ICode) (Q : Out → Prop) (h : (∀ st0 : St, gc m ⟨clean k st0.fr, st0.mem⟩ = S0 → W orc m (.loop k b) st0 Q) → G)
    (h2 : ∀ st0 : St, gc m ⟨clean k st0.fr, st0.mem⟩ = S0 → W orc m (.loop k b) st0 Q) : G := h h2

/-! ### Sizes -/
def szL : List Nat → Int → Int
  | [], l => l
  | n :: ns, l => if l - n < 0 then -1 else szL ns (l - n)
theorem szL_le : ∀ (ns : List Nat) (l : Int), -1 ≤ l → -1 ≤ szL ns l ∧ szL ns l ≤ l
  | [], l, h => ⟨h, Int.le_refl _⟩
  | n :: ns, l, h => by
    unfold szL
    split
    · omega
    · have := szL_le ns (l - n) (by omega); omega
theorem szL_app : ∀ (a b : List Nat) (l : Int), 0 ≤ l → szL (a ++ b) l = if szL a l < 0 then -1 else szL b (szL a l)
  | [], b, l, h => by simp [szL, show ¬ l < 0 by omega]
  | n :: a, b, l, h => by
    simp only [List.cons_append, szL]
    split
    · simp
    · exact szL_app a b (l - n) (by omega)
theorem szL_all : ∀ (ns : List Nat) (l : Int), 0 ≤ szL ns l → ∀ n ∈ ns, (n : Int) ≤ l
  | [], _, _, n, hn => by cases hn
  | m :: ns, l, h, n, hn => by
    unfold szL at h
    split at h
    · omega
    · rcases List.mem_cons.1 hn with rfl | hn
      · omega
      · have := szL_all ns (l - m) h n hn; omega
def lensK (t : Tk) : List Nat := [t.inn.length, t.out.length, t.cut.length, t.stop.length]
def szK (t : Tk) (l : Int) : Int := szL (lensK t) l
def szKs (ts : List Tk) (l : Int) : Int := szL (ts.flatMap lensK) l
theorem szKs_step {ts : List Tk} {k : Nat} (hk : k < ts.length) {l : Int} (h : 0 ≤ l) : szKs (ts.take (k + 1)) l = if szKs (ts.take k) l < 0 then -1 else szK ts[k] (szKs (ts.take k) l) := by
  unfold szKs szK
  rw [List.take_succ_eq_append_getElem hk, List.flatMap_append, szL_app _ _ _ h]
  simp
theorem szKs_neg {ts : List Tk} {k : Nat} {l : Int} (h : 0 ≤ l) (hn : szKs (ts.take k) l < 0) : szKs ts l = -1 := by
  unfold szKs at hn ⊢
  conv => lhs; rw [← List.take_append_drop k ts]
  rw [List.flatMap_append, szL_app _ _ _ h, if_pos hn]
def szS (s : Spc) (l : Int) : Int := szL (s.tasks.length :: s.tasks.flatMap lensK) l
theorem szS_eq (s : Spc) (l : Int) : szS s l = if l - s.tasks.length < 0 then -1 else szKs s.tasks (l - s.tasks.length) := rfl
theorem szS_small {s : Spc} {l : Int} (h : 0 ≤ szS s l) (hl : l ≤ 1048576) : s.tasks.length ≤ 1048576 ∧ ∀ t ∈ s.tasks, t.inn.length ≤ 1048576 ∧ t.out.length ≤ 1048576 ∧ t.cut.length ≤ 1048576 ∧ t.stop.length ≤ 1048576 := by
  have := szL_all _ _ h
  refine ⟨by have := this s.tasks.length (by simp); omega, fun t ht => ?_⟩
  have h4 : ∀ n ∈ lensK t, (n : Int) ≤ l := fun n hn => this n (List.mem_cons_of_mem _ (List.mem_flatMap.2 ⟨t, ht, hn⟩))
  have a1 := h4 t.inn.length (by simp [lensK])
  have a2 := h4 t.out.length (by simp [lensK])
  have a3 := h4 t.cut.length (by simp [lensK])
  have a4 := h4 t.stop.length (by simp [lensK])
  omega
theorem szS_smSpc {s : Spc} {l : Int} (h : 0 ≤ szS s l) (hl : l ≤ 1048576) : smSpc s := by
  obtain ⟨h1, h2⟩ := szS_small h hl
  refine ⟨by omega, fun t ht => ?_⟩
  obtain ⟨a, b, c, d⟩ := h2 t ht
  exact ⟨by omega, by omega, by omega, by omega⟩

/-! ### Copies, in part done -/
def padI (l : List Int) (k : Nat) : List Int := l.take k ++ List.replicate (l.length - k) 0
theorem padI_len {l : List Int} {k : Nat} (h : k ≤ l.length) : (padI l k).length = l.length := by simp [padI]; omega
theorem padI_zero (l : List Int) : padI l 0 = List.replicate l.length 0 := by simp [padI]
theorem padI_all (l : List Int) : padI l l.length = l := by simp [padI]
theorem set_pad {α : Type} {l : List α} {z x : α} {k n : Nat} (hk : k < n) (hl : l.length = k) : (l ++ List.replicate (n - k) z).set k x = l ++ [x] ++ List.replicate (n - (k + 1)) z := by
  obtain ⟨d, hd⟩ : ∃ d, n - k = d + 1 := ⟨n - k - 1, by omega⟩
  rw [hd, show n - (k + 1) = d by omega, List.replicate_succ]
  simp [List.set_append, hl]
theorem padI_step {l : List Int} {k : Nat} (hk : k < l.length) : (padI l k).set k l[k] = padI l (k + 1) := by
  unfold padI
  rw [set_pad hk (by simp; omega), List.take_succ_eq_append_getElem hk]
abbrev zeroK : PV := .agg [I 0, I 0, .nil true 1, .nil true 1, .nil true 1, .nil true 1, I 0]
def padK (l : List Tk) (k : Nat) : List PV := (l.take k).map encK ++ List.replicate (l.length - k) zeroK
theorem padK_len {l : List Tk} {k : Nat} (h : k ≤ l.length) : (padK l k).length = l.length := by simp [padK]; omega
theorem padK_zero (l : List Tk) : padK l 0 = List.replicate l.length zeroK := by simp [padK]
theorem padK_all (l : List Tk) : padK l l.length = l.map encK := by simp [padK]
theorem padK_at {l : List Tk} {k : Nat} (hk : k < l.length) : (padK l k)[k]? = some zeroK := by
  unfold padK
  have hl : ((l.take k).map encK).length = k := by simp; omega
  rw [List.getElem?_append_right (by omega), hl, Nat.sub_self]
  obtain ⟨d, hd⟩ : ∃ d, l.length - k = d + 1 := ⟨l.length - k - 1, by omega⟩
  rw [hd]; rfl
theorem padK_step {l : List Tk} {k : Nat} (hk : k < l.length) : (padK l k).set k (encK l[k]) = padK l (k + 1) := by
  unfold padK
  rw [set_pad hk (by simp; omega), List.take_succ_eq_append_getElem hk, List.map_append]
  rfl

/-! ### Equality, by steps -/
theorem dec_take {α : Type} [DecidableEq α] {a b : List α} {k : Nat} (ha : k < a.length) (hb : k < b.length) (h : a.take k = b.take k) (he : a[k] = b[k]) : a.take (k + 1) = b.take (k + 1) := by
  rw [List.take_succ_eq_append_getElem ha, List.take_succ_eq_append_getElem hb, h, he]
theorem dec_ne {α : Type} [DecidableEq α] {a b : List α} {k : Nat} (ha : k < a.length) (hb : k < b.length) (he : ¬ a[k] = b[k]) : decide (a = b) = false := by
  rw [decide_eq_false_iff_not]
  rintro rfl
  exact he rfl

/-! ### Marks -/
def markL (k : Int) (n : Nat) : List Int := (List.range n).map fun (i : Nat) => k + (i : Int)
theorem markL_len (k : Int) (n : Nat) : (markL k n).length = n := by simp [markL]
def markP (k : Int) (l : List Int) (i : Nat) : List Int := markL k i ++ l.drop i
theorem markP_len {k : Int} {l : List Int} {i : Nat} (h : i ≤ l.length) : (markP k l i).length = l.length := by simp [markP, markL_len]; omega
theorem markP_zero (k : Int) (l : List Int) : markP k l 0 = l := by simp [markP, markL]
theorem markP_all (k : Int) (l : List Int) : markP k l l.length = markL k l.length := by simp [markP]
theorem markP_step {k : Int} {l : List Int} {i : Nat} (h : i < l.length) : (markP k l i).set i (k + i) = markP k l (i + 1) := by
  unfold markP
  rw [List.drop_eq_getElem_cons h, List.set_append, markL_len, if_neg (by omega), Nat.sub_self, List.set_cons_zero]
  simp [markL, List.range_succ]

/-! ### What a specification lays out -/
structure Mv where
  task : Int
  begin_ : Bool
  pick : Int
  deriving DecidableEq
abbrev encM (m : Mv) : PV := .agg [I m.task, .bool m.begin_, I m.pick]
theorem mv_beq (x y : Mv) : (x == y) = (x.task == y.task && (x.begin_ == y.begin_ && x.pick == y.pick)) := by
  cases x; cases y
  rw [Bool.eq_iff_iff]
  simp
/-- A task as it must be. -/
def goodK (s : Spc) (k : Nat) (t : Tk) : Bool :=
  inB 1 2 t.join && inB 1 3 t.split && inB 0 3 t.role && inB 1 3 t.inn.length && inB 1 3 t.out.length &&
  (incr t.inn && t.inn.all (inB 0 (s.conds - 1))) && (incr t.out && t.out.all (inB 0 (s.conds - 1))) && (incr t.cut && t.cut.all (inB 2 (s.conds - 1))) &&
  (incr t.stop && t.stop.all (inB 0 ((s.tasks.length : Int) - 1))) && !hasB t.stop k
def regL (s : Spc) (t : Tk) : List Int := t.cut ++ t.stop.map (s.conds + ·)
theorem regL_step {s : Spc} {t : Tk} {k : Nat} (hk : k < t.stop.length) : t.cut ++ (t.stop.take (k + 1)).map (s.conds + ·) = t.cut ++ (t.stop.take k).map (s.conds + ·) ++ [s.conds + t.stop[k]] := by
  rw [List.take_succ_eq_append_getElem hk, List.map_append]; simp only [List.map_cons, List.map_nil, List.append_assoc]
/-- The bits of a small number. -/
def setB (n : Nat) : List Int := ((List.range 3).filter fun i => n.testBit i).map Int.ofNat
theorem setB_ok : ∀ n, n < 8 → maskN (setB n) = n ∧ incr (setB n) = true ∧ (∀ p ∈ setB n, 0 ≤ p ∧ p < 3) ∧ (setB n).length ≤ 3 ∧ ∀ q : Nat, 1 ≤ q → q ≤ 3 → n < 2 ^ q → ∀ p ∈ setB n, p < (q : Int) := by
  intro n hn
  have h : n = 0 ∨ n = 1 ∨ n = 2 ∨ n = 3 ∨ n = 4 ∨ n = 5 ∨ n = 6 ∨ n = 7 := by omega
  have hq : ∀ q : Nat, 1 ≤ q → q ≤ 3 → q = 1 ∨ q = 2 ∨ q = 3 := by omega
  rcases h with rfl | rfl | rfl | rfl | rfl | rfl | rfl | rfl <;> refine ⟨by decide, by decide, by decide, by decide, fun q h1 h2 => ?_⟩ <;> rcases hq q h1 h2 with rfl | rfl | rfl <;> decide
def someL (l : List Int) (n : Nat) : List Int := (setB n).map fun i => at_ l i
/-- The sets that a task takes, and gives, with the first choice's number. -/
def beginL (t : Tk) : List (List Int) := if t.join = 2 then t.inn.map fun p => [p] else [t.inn]
def endL (t : Tk) : List (List Int) := if t.split = 2 then t.out.map fun p => [p] else if t.split = 3 then (List.range (2 ^ t.out.length - 1)).map fun i => someL t.out (i + 1) else [t.out]
def endF (t : Tk) : Int := if t.split = 2 then 0 else if t.split = 3 then 1 else 0
def mvB (k n : Nat) : List Mv := (List.range n).map fun (i : Nat) => ⟨(k : Int), true, (i : Int)⟩
def mvE (k : Nat) (f : Int) (n : Nat) : List Mv := (List.range n).map fun (i : Nat) => ⟨(k : Int), false, f + (i : Int)⟩
def tkN (s : Spc) (k : Nat) : Tk := s.tasks.getD k ⟨0, 0, [], [], [], [], 0⟩
theorem tkN_eq {s : Spc} {k : Nat} (h : k < s.tasks.length) : tkN s k = s.tasks[k] := by simp [tkN, h]
def mvK (s : Spc) (k : Nat) : List Mv := mvB k (beginL (tkN s k)).length ++ mvE k (endF (tkN s k)) (endL (tkN s k)).length
def trB (s : Spc) (k : Nat) (l : List (List Int)) : List Tr := l.map fun x => ⟨x, [s.conds + k], []⟩
def trE (s : Spc) (k : Nat) (l : List (List Int)) : List Tr := l.map fun x => ⟨[s.conds + k], x, regL s (tkN s k)⟩
def trK (s : Spc) (k : Nat) : List Tr := trB s k (beginL (tkN s k)) ++ trE s k (endL (tkN s k))
def mvU (s : Spc) (k : Nat) : List Mv := (List.range k).flatMap (mvK s)
def trU (s : Spc) (k : Nat) : List Tr := (List.range k).flatMap (trK s)
def mvS (s : Spc) : List Mv := mvU s s.tasks.length
def trS (s : Spc) : List Tr := trU s s.tasks.length
def flS (s : Spc) : Fl := ⟨⟨s.conds + s.tasks.length, trS s⟩, 0, 1⟩
def okTasks (s : Spc) : Bool := inB 2 8 s.conds && inB 1 6 s.tasks.length && (List.range s.tasks.length).all fun k => goodK s k (tkN s k)
def goodS (s : Spc) : Bool := okTasks s && goodFl (flS s)
theorem goodS_ok {s : Spc} (h : goodS s = true) : okTasks s = true := by simp only [goodS, Bool.and_eq_true] at h; exact h.1
def moveNo (s : Spc) (m : Mv) : Int × Bool := if goodS s = true ∧ 0 ≤ idxI (mvS s) (fun y => y == m) then (idxI (mvS s) (fun y => y == m), true) else (0, false)
theorem mvU_succ (s : Spc) (k : Nat) : mvU s (k + 1) = mvU s k ++ mvK s k := by simp [mvU, List.range_succ]
theorem trU_succ (s : Spc) (k : Nat) : trU s (k + 1) = trU s k ++ trK s k := by simp [trU, List.range_succ]
theorem mvB_succ (k n : Nat) : mvB k (n + 1) = mvB k n ++ [⟨(k : Int), true, (n : Int)⟩] := by simp [mvB, List.range_succ]
theorem mvE_succ (k : Nat) (f : Int) (n : Nat) : mvE k f (n + 1) = mvE k f n ++ [⟨(k : Int), false, f + (n : Int)⟩] := by simp [mvE, List.range_succ]
theorem mvB_len (k n : Nat) : (mvB k n).length = n := by simp [mvB]
theorem mvE_len (k : Nat) (f : Int) (n : Nat) : (mvE k f n).length = n := by simp [mvE]
/-- What a task as it must be is like. -/
theorem goodK_parts {s : Spc} {k : Nat} {t : Tk} (h : goodK s k t = true) : (t.join = 1 ∨ t.join = 2) ∧ (t.split = 1 ∨ t.split = 2 ∨ t.split = 3) ∧ (1 ≤ t.inn.length ∧ t.inn.length ≤ 3) ∧ (1 ≤ t.out.length ∧ t.out.length ≤ 3) ∧
    (∀ x ∈ t.inn, 0 ≤ x ∧ x < s.conds) ∧ (∀ x ∈ t.out, 0 ≤ x ∧ x < s.conds) ∧ (∀ x ∈ t.cut, 2 ≤ x ∧ x < s.conds) ∧ (∀ x ∈ t.stop, 0 ≤ x ∧ x < s.tasks.length) ∧ incr t.cut = true ∧ incr t.stop = true := by
  simp only [goodK, Bool.and_eq_true, List.all_eq_true, inB, decide_eq_true_eq] at h
  obtain ⟨⟨⟨⟨⟨⟨⟨⟨⟨h1, h2⟩, h3⟩, h4⟩, h5⟩, h6⟩, h7⟩, h8⟩, h9⟩, h10⟩ := h
  refine ⟨by omega, by omega, by omega, by omega, fun x hx => ?_, fun x hx => ?_, fun x hx => ?_, fun x hx => ?_, h8.1, h9.1⟩
  · have := h6.2 x hx; omega
  · have := h7.2 x hx; omega
  · have := h8.2 x hx; omega
  · have := h9.2 x hx; omega
theorem beginL_len {s : Spc} {k : Nat} {t : Tk} (h : goodK s k t = true) : 1 ≤ (beginL t).length ∧ (beginL t).length ≤ 3 := by
  have := goodK_parts h
  unfold beginL
  split
  · simp; omega
  · simp
theorem pow_le {n : Nat} (h1 : 1 ≤ n) (h : n ≤ 3) : 2 ≤ 2 ^ n ∧ 2 ^ n ≤ 8 := by
  have : n = 1 ∨ n = 2 ∨ n = 3 := by omega
  rcases this with rfl | rfl | rfl <;> decide
theorem endL_len {s : Spc} {k : Nat} {t : Tk} (h : goodK s k t = true) : 1 ≤ (endL t).length ∧ (endL t).length ≤ 7 := by
  have := goodK_parts h
  have hp := pow_le this.2.2.2.1.1 this.2.2.2.1.2
  unfold endL
  split
  · simp; omega
  · split
    · simp; omega
    · simp
theorem okTasks_parts {s : Spc} (h : okTasks s = true) : (2 ≤ s.conds ∧ s.conds ≤ 8) ∧ (1 ≤ s.tasks.length ∧ s.tasks.length ≤ 6) ∧ ∀ k, k < s.tasks.length → goodK s k (tkN s k) = true := by
  simp only [okTasks, Bool.and_eq_true, List.all_eq_true, inB, decide_eq_true_eq, List.mem_range] at h
  exact ⟨by omega, by omega, h.2⟩
theorem mvK_len {s : Spc} (h : okTasks s = true) {k : Nat} (hk : k < s.tasks.length) : 2 ≤ (mvK s k).length ∧ (mvK s k).length ≤ 10 := by
  have hg := (okTasks_parts h).2.2 k hk
  have h1 := beginL_len hg
  have h2 := endL_len hg
  simp [mvK, mvB_len, mvE_len]; omega
theorem mvU_len {s : Spc} (h : okTasks s = true) : ∀ k, k ≤ s.tasks.length → 2 * k ≤ (mvU s k).length ∧ (mvU s k).length ≤ 10 * k
  | 0, _ => by simp [mvU]
  | k + 1, hk => by
    have h1 := mvU_len h k (by omega)
    have h2 := mvK_len h (k := k) (by omega)
    rw [mvU_succ, List.length_append]; omega
theorem trU_len (s : Spc) : ∀ k, (trU s k).length = (mvU s k).length
  | 0 => rfl
  | k + 1 => by rw [trU_succ, mvU_succ, List.length_append, List.length_append, trU_len s k]; simp [trK, mvK, trB, trE, mvB_len, mvE_len]
/-- The transition of a move. -/
def trM (s : Spc) (m : Mv) : Tr := let t := tkN s m.task.toNat
  if m.begin_ then (if t.join = 2 then ⟨[at_ t.inn m.pick], [s.conds + m.task], []⟩ else ⟨t.inn, [s.conds + m.task], []⟩)
  else ⟨[s.conds + m.task], (if t.split = 2 then [at_ t.out m.pick] else if t.split = 3 then someL t.out m.pick.toNat else t.out), regL s t⟩
theorem range_get {α β : Type} (l : List α) (d : α) (f : α → β) : ((List.range l.length).map fun i => f (l.getD i d)) = l.map f := by
  apply List.ext_getElem?
  intro i
  simp only [List.getElem?_map, List.getElem?_range']
  by_cases h : i < l.length
  · simp [h]
  · simp [h]
theorem trM_K (s : Spc) (k : Nat) : (mvK s k).map (trM s) = trK s k := by
  unfold mvK trK
  rw [List.map_append]
  congr 1
  · unfold mvB trB beginL
    rw [List.map_map]
    by_cases hj : (tkN s k).join = 2
    · simp only [hj, if_true, List.length_map, List.map_map]
      rw [← range_get (tkN s k).inn 0]
      apply List.map_congr_left
      intro i hi
      simp [trM, hj, at_]
    · simp [hj, trM]
  · unfold mvE trE endL endF
    rw [List.map_map]
    by_cases h2 : (tkN s k).split = 2
    · simp only [h2, if_true, List.length_map, List.map_map]
      rw [← range_get (tkN s k).out 0]
      apply List.map_congr_left
      intro i hi
      simp [trM, h2, at_]
    · by_cases h3 : (tkN s k).split = 3
      · simp only [h3, if_neg (show ¬ ((3 : Int) = 2) by omega), if_true, List.length_map, List.length_range, List.map_map]
        apply List.map_congr_left
        intro i hi
        simp only [Function.comp, trM, h3]
        have : ((1 : Int) + (i : Int)).toNat = i + 1 := by omega
        simp [this, h3]
      · simp [h2, h3, trM]
theorem trM_U (s : Spc) : ∀ k, (mvU s k).map (trM s) = trU s k
  | 0 => rfl
  | k + 1 => by rw [mvU_succ, trU_succ, List.map_append, trM_U s k, trM_K]
/-- A move of a specification. -/
def isMv (s : Spc) (m : Mv) : Prop := ∃ k : Nat, k < s.tasks.length ∧ m.task = k ∧ (m.begin_ = true → 0 ≤ m.pick ∧ m.pick.toNat < (beginL (tkN s k)).length) ∧ (m.begin_ = false → endF (tkN s k) ≤ m.pick ∧ m.pick < endF (tkN s k) + (endL (tkN s k)).length)
theorem mvS_is {s : Spc} {m : Mv} (h : m ∈ mvS s) : isMv s m := by
  simp only [mvS, mvU, List.mem_flatMap, List.mem_range, mvK, List.mem_append, mvB, mvE, List.mem_map] at h
  obtain ⟨k, hk, ⟨i, hi, rfl⟩ | ⟨i, hi, rfl⟩⟩ := h
  · exact ⟨k, hk, rfl, fun _ => ⟨by simp, by simpa using hi⟩, fun h => (by cases h)⟩
  · exact ⟨k, hk, rfl, fun h => (by cases h), fun _ => ⟨show endF (tkN s k) ≤ endF (tkN s k) + (i : Int) by omega, show endF (tkN s k) + (i : Int) < _ by omega⟩⟩
/-- A row that is nil as long as it is empty. -/
def cellT (b : Nat) (l : List Tr) : PV := if l = [] then .nil false 3 else .ref b 3 0 l.length
def blkT (t : TypeId) (l : List Tr) : List Blk := if l = [] then [] else [.row t false 3 (l.map encT)]
theorem cellT_nil {b : Nat} : cellT b [] = .nil false 3 := rfl
theorem blkT_nil {t : TypeId} : blkT t [] = [] := rfl
theorem cellT_ne {b : Nat} {l : List Tr} (h : l ≠ []) : cellT b l = .ref b 3 0 l.length := by simp [cellT, h]
theorem blkT_ne {t : TypeId} {l : List Tr} (h : l ≠ []) : blkT t l = [.row t false 3 (l.map encT)] := by simp [blkT, h]
theorem stops_len {s : Spc} {k : Nat} {t : Tk} (h : goodK s k t = true) : (t.stop.length : Int) ≤ s.tasks.length ∧ (t.cut.length : Int) ≤ s.conds - 2 ∨ s.conds < 2 := by
  obtain ⟨-, -, -, -, -, -, h7, h8, h9, h10⟩ := goodK_parts h
  by_cases hc : s.conds < 2
  · exact .inr hc
  · have a := incr_len (by simpa [incr] using h10) h8 (by omega)
    have b := incr_len (by simpa [incr] using h9) h7 (by omega)
    exact .inl (by omega)
theorem okTasks_sm {s : Spc} (h : okTasks s = true) {k : Nat} (hk : k < s.tasks.length) : smTk s.tasks[k] ∧ s.tasks[k].cut.length ≤ 16 ∧ s.tasks[k].stop.length ≤ 16 ∧ ∀ x ∈ s.tasks[k].stop, 0 ≤ x ∧ x < 16 := by
  obtain ⟨hc, hn, hg⟩ := okTasks_parts h
  have hK := hg k hk
  rw [tkN_eq hk] at hK
  obtain ⟨-, -, h3, h4, -, -, -, h8, -, -⟩ := goodK_parts hK
  have := (stops_len hK).resolve_right (by omega)
  exact ⟨⟨by omega, by omega, by omega, by omega⟩, by omega, by omega, fun x hx => by have := h8 x hx; omega⟩
theorem trS_sm {s : Spc} (h : okTasks s = true) : ∀ t ∈ trS s, t.inn.length ≤ 3 ∧ t.out.length ≤ 3 ∧ t.rst.length ≤ 32 := by
  intro t ht
  obtain ⟨hc, hn, hg⟩ := okTasks_parts h
  rw [show trS s = (mvS s).map (trM s) from (trM_U s s.tasks.length).symm, List.mem_map] at ht
  obtain ⟨m, hm, rfl⟩ := ht
  obtain ⟨k, hk, e1, hb, he⟩ := mvS_is hm
  have hK := hg k hk
  obtain ⟨-, h1, h2, h3⟩ := okTasks_sm h hk
  rw [← tkN_eq hk] at h1 h2
  obtain ⟨-, -, h4, h5, -, -, -, -, -, -⟩ := goodK_parts hK
  obtain ⟨mt, mb, mp⟩ := m
  simp only at e1 hb he
  subst e1
  have eT : tkN s ((k : Int)).toNat = tkN s k := by simp
  have hE : (endL (tkN s k)).length = if (tkN s k).split = 2 then (tkN s k).out.length else if (tkN s k).split = 3 then 2 ^ (tkN s k).out.length - 1 else 1 := by unfold endL; (repeat' split) <;> simp
  have hF : endF (tkN s k) = if (tkN s k).split = 2 then 0 else if (tkN s k).split = 3 then 1 else 0 := rfl
  simp only [trM, eT]
  cases mb with
  | true =>
    simp only [if_true]
    split <;> simp <;> omega
  | false =>
    simp only [Bool.false_eq_true, if_false]
    refine ⟨by simp, ?_, by simp [regL]; omega⟩
    split
    · simp
    · split
      · rename_i hs2 hs3
        obtain ⟨hp0, hp1⟩ := he rfl
        simp [hs3] at hE hF
        have hpp := pow_le h5.1 h5.2
        have := (setB_ok mp.toNat (by omega)).2.2.2.1
        simpa [someL] using this
      · omega
theorem flS_sm {s : Spc} (h : okTasks s = true) : smN (flS s).net := by
  have h2 := mvU_len h s.tasks.length (by omega)
  have hn := (okTasks_parts h).2.1
  have e : (trS s).length = (mvS s).length := trU_len s s.tasks.length
  refine ⟨?_, fun t ht => ?_⟩
  · show (trS s).length < 2 ^ 40
    unfold mvS at e
    omega
  · have := trS_sm h t ht
    exact ⟨by omega, by omega, by omega⟩
def layB (b : Int) (l : List (List Int)) : List Tr := l.map fun x => ⟨x, [b], []⟩
def layE (b : Int) (R : List Int) (l : List (List Int)) : List Tr := l.map fun x => ⟨[b], x, R⟩
theorem layB_succ {b : Int} {l : List (List Int)} {i : Nat} (h : i < l.length) : layB b (l.take (i + 1)) = layB b (l.take i) ++ [⟨l[i], [b], []⟩] := by
  unfold layB; rw [List.take_succ_eq_append_getElem h, List.map_append]; rfl
theorem layE_succ {b : Int} {R : List Int} {l : List (List Int)} {i : Nat} (h : i < l.length) : layE b R (l.take (i + 1)) = layE b R (l.take i) ++ [⟨[b], l[i], R⟩] := by
  unfold layE; rw [List.take_succ_eq_append_getElem h, List.map_append]; rfl
theorem layB_len {b : Int} {l : List (List Int)} {i : Nat} (h : i ≤ l.length) : (layB b (l.take i)).length = i := by simp [layB]; omega
theorem layE_len {b : Int} {R : List Int} {l : List (List Int)} {i : Nat} (h : i ≤ l.length) : (layE b R (l.take i)).length = i := by simp [layE]; omega
theorem trU_lay (s : Spc) (k : Nat) : trU s (k + 1) = trU s k ++ layB (s.conds + k) (beginL (tkN s k)) ++ layE (s.conds + k) (regL s (tkN s k)) (endL (tkN s k)) := by
  rw [trU_succ, List.append_assoc]; rfl
theorem mvU_lay (s : Spc) (k : Nat) : mvU s (k + 1) = mvU s k ++ mvB k (beginL (tkN s k)).length ++ mvE k (endF (tkN s k)) (endL (tkN s k)).length := by
  rw [mvU_succ, List.append_assoc]; rfl
theorem regL_len {s : Spc} {k : Nat} (h : okTasks s = true) (hk : k < s.tasks.length) : (regL s (tkN s k)).length ≤ 32 := by
  obtain ⟨-, h1, h2, -⟩ := okTasks_sm h hk
  rw [tkN_eq hk]
  simp [regL]; omega
theorem beginL_in {s : Spc} {k : Nat} {t : Tk} (h : goodK s k t = true) : ∀ x ∈ beginL t, x.length ≤ 3 := by
  have := goodK_parts h
  intro x hx
  unfold beginL at hx
  split at hx
  · simp at hx; obtain ⟨a, _, rfl⟩ := hx; simp
  · simp at hx; subst hx; omega
theorem endL_in {s : Spc} {k : Nat} {t : Tk} (h : goodK s k t = true) : ∀ x ∈ endL t, x.length ≤ 3 := by
  have := goodK_parts h
  have hpp := pow_le this.2.2.2.1.1 this.2.2.2.1.2
  intro x hx
  unfold endL at hx
  split at hx
  · simp at hx; obtain ⟨a, _, rfl⟩ := hx; simp
  · split at hx
    · simp only [List.mem_map, List.mem_range] at hx
      obtain ⟨i, hi, rfl⟩ := hx
      simpa [someL] using (setB_ok (i + 1) (by omega)).2.2.2.1
    · simp at hx; subst hx; omega
/-! ### A specification's fields, marked -/
def mkLen (t : Tk) : Nat := 3 + t.inn.length + t.out.length + t.cut.length + t.stop.length
def mkTk (k : Int) (t : Tk) : Tk := ⟨k, k + 1, markL (k + 1 + 1) t.inn.length, markL (k + 1 + 1 + t.inn.length) t.out.length, markL (k + 1 + 1 + t.inn.length + t.out.length) t.cut.length, markL (k + 1 + 1 + t.inn.length + t.out.length + t.cut.length) t.stop.length, k + 1 + 1 + t.inn.length + t.out.length + t.cut.length + t.stop.length⟩
def mkN (l : List Tk) (i : Nat) : Nat := ((l.take i).map mkLen).sum
def mkP (k : Int) (l : List Tk) : Nat → List Tk
  | 0 => l
  | i + 1 => match l[i]? with
    | some t => (mkP k l i).set i (mkTk (k + mkN l i) t)
    | none => mkP k l i
theorem mkP_len (k : Int) (l : List Tk) : ∀ i, (mkP k l i).length = l.length
  | 0 => rfl
  | i + 1 => by unfold mkP; split <;> simp [mkP_len k l i]
theorem mkP_get (k : Int) (l : List Tk) : ∀ i j, i ≤ j → (mkP k l i)[j]? = l[j]?
  | 0, _, _ => rfl
  | i + 1, j, h => by
    unfold mkP
    split
    · rw [List.getElem?_set_ne (by omega), mkP_get k l i j (by omega)]
    · exact mkP_get k l i j (by omega)
theorem mkP_step {k : Int} {l : List Tk} {i : Nat} (h : i < l.length) : mkP k l (i + 1) = (mkP k l i).set i (mkTk (k + mkN l i) l[i]) := by
  simp [mkP, h]
theorem mkN_step {l : List Tk} {i : Nat} (h : i < l.length) : mkN l (i + 1) = mkN l i + mkLen l[i] := by
  unfold mkN; rw [List.take_succ_eq_append_getElem h, List.map_append, List.sum_append]; simp only [List.map_cons, List.map_nil, List.sum_cons, List.sum_nil, Nat.add_zero]
theorem mkN_le {l : List Tk} (hb : ∀ t ∈ l, mkLen t ≤ 2^30) : ∀ i, i ≤ l.length → mkN l i ≤ i * 2^30
  | 0, _ => by simp [mkN]
  | i + 1, h => by
    have := mkN_le hb i (by omega)
    have h2 := hb _ (List.getElem_mem (show i < l.length by omega))
    rw [mkN_step (by omega)]; omega
def regV (s : Spc) (k : Int) : List Int × Bool := if goodS s = true ∧ inB 0 ((s.tasks.length : Int) - 1) k = true then (regL s (tkN s k.toNat), true) else ([], false)
theorem regV_len (s : Spc) (k : Int) : (regV s k).1.length ≤ 32 := by
  unfold regV
  split
  · rename_i h
    have hk : 0 ≤ k ∧ k < s.tasks.length := by have := h.2; simp [inB] at this; omega
    exact regL_len (goodS_ok h.1) (by omega)
  · simp
/-! ### Cases -/
structure Cs where
  state : Int
  mark : List Int
  deriving DecidableEq
abbrev encC (c : Cs) : PV := .agg [I c.state, ints c.mark]
def goodC (s : Spc) (c : Cs) : Bool := goodM (s.conds + s.tasks.length) c.mark && (if c.state = 1 then decide (at_ c.mark 1 = 0) else if c.state = 2 then decide (0 < at_ c.mark 1) else decide (c.state = 3))
theorem goodC_len {s : Spc} {c : Cs} (h : goodM (s.conds + s.tasks.length) c.mark = true) (hc : 2 ≤ s.conds) : (c.mark.length : Int) = s.conds + s.tasks.length ∧ 1 < c.mark.length := by
  simp only [goodM, Bool.and_eq_true, beq_iff_eq] at h
  have := h.1.2
  omega
end Go.Proofs.Ytkkifebmicbbaaa.Pi
