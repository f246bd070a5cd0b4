/- Moves, marked; busy tasks; moves that are possible in a case; a case's step. Plain Lean. No condition. -/
import Derived.Test.YtoimodnlefadhaaGreatPlSpec
namespace Go.Proofs.YtoimodnlefadhaaGreat.Pi
open Go
set_option linter.all false

def mkM (k : Int) (i : Nat) : Mv := ⟨k + 3 * (i : Int), ((k + 3 * (i : Int) + 1).tmod 3 == 0), k + 3 * (i : Int) + 1 + 1⟩
def mkMs (k : Int) (n : Nat) : List Mv := (List.range n).map (mkM k)
def mkMP (k : Int) (l : List Mv) (i : Nat) : List Mv := mkMs k i ++ l.drop i
theorem mkMs_len (k : Int) (n : Nat) : (mkMs k n).length = n := by simp [mkMs]
theorem mkMP_len {k : Int} {l : List Mv} {i : Nat} (h : i ≤ l.length) : (mkMP k l i).length = l.length := by simp [mkMP, mkMs_len]; omega
theorem mkMP_zero (k : Int) (l : List Mv) : mkMP k l 0 = l := by simp [mkMP, mkMs]
theorem mkMP_all (k : Int) (l : List Mv) : mkMP k l l.length = mkMs k l.length := by simp [mkMP]
theorem mkMP_get {k : Int} {l : List Mv} {i : Nat} (h : i < l.length) : (mkMP k l i)[i]? = some l[i] := by
  unfold mkMP
  rw [List.getElem?_append_right (by rw [mkMs_len]; omega), mkMs_len, Nat.sub_self, List.getElem?_drop]
  simp [h]
theorem mkMP_step {k : Int} {l : List Mv} {i : Nat} (h : i < l.length) : (mkMP k l i).set i (mkM k i) = mkMP k l (i + 1) := by
  unfold mkMP
  rw [List.drop_eq_getElem_cons h, List.set_append, mkMs_len, if_neg (by omega), Nat.sub_self, List.set_cons_zero]
  simp [mkMs, List.range_succ]
def busyK (s : Spc) (c : Cs) (k : Nat) : List Int := ((List.range k).filter fun (i : Nat) => decide (0 < at_ c.mark (s.conds + (i : Int)))).map Int.ofNat
def busyV (s : Spc) (c : Cs) : List Int × Bool := if (goodS s && goodC s c) = true then (busyK s c s.tasks.length, true) else ([], false)
theorem busyK_t {s : Spc} {c : Cs} {k : Nat} (h : 0 < at_ c.mark (s.conds + (k : Int))) : busyK s c (k + 1) = busyK s c k ++ [(k : Int)] := by
  simp [busyK, List.range_succ, List.filter_append, h]
theorem busyK_f {s : Spc} {c : Cs} {k : Nat} (h : ¬ 0 < at_ c.mark (s.conds + (k : Int))) : busyK s c (k + 1) = busyK s c k := by
  simp [busyK, List.range_succ, List.filter_append, h]
theorem busyK_len (s : Spc) (c : Cs) (k : Nat) : (busyK s c k).length ≤ k := by
  unfold busyK
  rw [List.length_map]
  exact Nat.le_trans (List.length_filter_le _ _) (by simp)
theorem busyV_len (s : Spc) (c : Cs) : (busyV s c).1.length ≤ 6 := by
  unfold busyV
  split
  · rename_i h
    simp only [Bool.and_eq_true] at h
    have := (okTasks_parts (goodS_ok h.1)).2.1
    have h2 := busyK_len s c s.tasks.length
    show (busyK s c s.tasks.length).length ≤ 6
    omega
  · simp
def cutB (s : Spc) (c : Cs) : Bool := goodS s && goodC s c && c.state == 1
def canM (s : Spc) (c : Cs) (m : Mv) : Bool := canT (trM s m) c.mark
def movL (s : Spc) (c : Cs) : List Mv := if c.state = 1 then (mvS s).filter (canM s c) else []
theorem goodS_net {s : Spc} (h : goodS s = true) : goodN (flS s).net = true := by
  simp only [goodS, goodFl, okWay, Bool.and_eq_true] at h
  exact h.2.1.1.1.1.1.1
theorem trS_map (s : Spc) : trS s = (mvS s).map (trM s) := (trM_U s s.tasks.length).symm
theorem goodC_mark {s : Spc} {c : Cs} (h : goodC s c = true) : goodM (s.conds + s.tasks.length) c.mark = true := by
  unfold goodC at h; simp only [Bool.and_eq_true] at h; exact h.1
theorem trM_good {s : Spc} {m : Mv} (h : goodS s = true) (hm : m ∈ mvS s) : goodT (s.conds + s.tasks.length) (trM s m) = true := by
  have h2 := goodS_net h
  have h3 : (flS s).net.tr.all (goodT (flS s).net.pl) = true := by
    unfold goodN at h2; simp only [Bool.and_eq_true] at h2; exact h2.2
  rw [List.all_eq_true] at h3
  refine h3 _ ?_
  show trM s m ∈ trS s
  rw [trS_map]
  exact List.mem_map_of_mem hm
/-- The moves of the transitions that may fire. -/
theorem enab_filter (s : Spc) (c : Cs) (d : Mv) : ∀ k, k ≤ (mvS s).length → (enabK (flS s).net c.mark k).map (fun t => (mvS s).getD t.toNat d) = ((mvS s).take k).filter (canM s c)
  | 0, _ => by simp [enabK]
  | k + 1, hk => by
    have ih := enab_filter s c d k (by omega)
    have hlen : (flS s).net.tr.length = (mvS s).length := by show (trS s).length = _; rw [trS_map]; simp
    have hkl : k < (flS s).net.tr.length := by omega
    have hk2 : k < (mvS s).length := by omega
    have e : (flS s).net.tr[k] = trM s (mvS s)[k] := by
      have : (trS s)[k]? = some (trM s (mvS s)[k]) := by rw [trS_map, List.getElem?_map, List.getElem?_eq_getElem hk2]; rfl
      have h2 : (flS s).net.tr[k]? = some (trM s (mvS s)[k]) := this
      rw [List.getElem?_eq_getElem hkl] at h2
      exact Option.some.inj h2
    rw [List.take_succ_eq_append_getElem hk2, List.filter_append, ← ih]
    cases hc : canM s c (mvS s)[k] with
    | true =>
      rw [enabK_t hkl (by rw [e]; exact hc), List.map_append]
      simp [hc, hk2]
    | false =>
      rw [enabK_f hkl (by rw [e]; exact hc)]
      simp [hc]
theorem enab_mov (s : Spc) (c : Cs) (d : Mv) : (enabL (flS s).net c.mark).map (fun t => (mvS s).getD t.toNat d) = (mvS s).filter (canM s c) := by
  have hlen : (flS s).net.tr.length = (mvS s).length := by show (trS s).length = _; rw [trS_map]; simp
  unfold enabL
  rw [hlen, enab_filter s c d _ (Nat.le_refl _), List.take_length]
theorem take_set_succ {α : Type} {l : List α} {q : Nat} {x : α} (h : q < l.length) : (l.set q x).take (q + 1) = l.take q ++ [x] := by
  have hq : (l.take q).length = q := by simp; omega
  rw [List.set_eq_take_append_cons_drop, if_pos h, List.take_append, hq, List.take_of_length_le (by omega)]
  simp
def stepB (s : Spc) (c : Cs) (m : Mv) : Bool := c.state == 1 && (mvS s).any (fun y => y == m) && canM s c m && (firedM (trM s m) c.mark).all (inB 0 50)
def stepC (s : Spc) (c : Cs) (m : Mv) : Cs := ⟨if 0 < at_ (firedM (trM s m) c.mark) 1 then 2 else 1, firedM (trM s m) c.mark⟩
def stepPV (t : TypeId) (s : Spc) (c : Cs) (m : Mv) : PV := .tup [if stepB s c m = true then .agg [I (stepC s c m).state, .un t true 1 ((stepC s c m).mark.map I)] else .agg [I 0, .nil true 1], .bool (stepB s c m)]
theorem any_mem {M : List Mv} {m : Mv} (h : M.any (fun y => y == m) = true) : m ∈ M := by
  rw [List.any_eq_true] at h
  obtain ⟨x, h1, h2⟩ := h
  have : x = m := by simpa using h2
  rwa [this] at h1
theorem movL_any (s : Spc) (c : Cs) (m : Mv) : (movL s c).any (fun y => y == m) = (c.state == 1 && (mvS s).any (fun y => y == m) && canM s c m) := by
  unfold movL
  split
  · rename_i h
    rw [Bool.eq_iff_iff]
    simp only [List.any_eq_true, List.mem_filter, Bool.and_eq_true, h, beq_self_eq_true, true_and]
    constructor
    · rintro ⟨x, ⟨h1, h2⟩, h3⟩
      have : x = m := by simpa using h3
      subst this
      exact ⟨⟨x, h1, by simp⟩, h2⟩
    · rintro ⟨⟨x, h1, h3⟩, h2⟩
      have : x = m := by simpa using h3
      subst this
      exact ⟨x, ⟨h1, h2⟩, by simp⟩
  · rename_i h
    have : (c.state == 1) = false := by simpa using h
    simp [this]
theorem idx_tr {s : Spc} {m : Mv} (h : (mvS s).any (fun y => y == m) = true) : 0 ≤ idxI (mvS s) (fun y => y == m) ∧ trAt (flS s).net (idxI (mvS s) (fun y => y == m)) = trM s m := by
  have h0 := idxI_any (mvS s) (fun y => y == m)
  rw [h] at h0
  have h1 : 0 ≤ idxI (mvS s) (fun y => y == m) := by simpa using h0.symm
  refine ⟨h1, ?_⟩
  unfold idxI at h1 ⊢
  cases hf : (mvS s).findIdx? (fun y => y == m) with
  | none => rw [hf] at h1; simp at h1
  | some k =>
    rw [List.findIdx?_eq_some_iff_getElem] at hf
    obtain ⟨hk, hp, _⟩ := hf
    have he : (mvS s)[k] = m := by simpa using hp
    show (trS s).getD ((k : Int)).toNat _ = _
    rw [trS_map, Int.toNat_natCast, List.getD_eq_getElem?_getD, List.getElem?_map, List.getElem?_eq_getElem hk, he]
    rfl
theorem idx_no {s : Spc} {m : Mv} (h : (mvS s).any (fun y => y == m) = false) : idxI (mvS s) (fun y => y == m) = -1 := idxI_none h
/-- What firing by number asks for. -/
theorem fire_step {s : Spc} {c : Cs} {m : Mv} (hg : goodS s = true) (hc : goodC s c = true) (h : (mvS s).any (fun y => y == m) = true) (h1 : c.state = 1) : okFire (flS s).net c.mark (idxI (mvS s) (fun y => y == m)) = stepB s c m := by
  obtain ⟨e1, e2⟩ := idx_tr h
  have hm := goodC_mark hc
  have hlt := (idxI_lt (mvS s) (fun y => y == m)).2
  have hlen : (flS s).net.tr.length = (mvS s).length := by show (trS s).length = _; rw [trS_map]; simp
  have h2 : marked (flS s).net c.mark = true := by unfold marked; rw [goodS_net hg]; exact hm
  have h3 : inB 0 (((flS s).net.tr.length : Int) - 1) (idxI (mvS s) (fun y => y == m)) = true := by simp [inB]; omega
  simp only [okFire, canN, h2, h3, e2, Bool.true_and, stepB, h, canM]
  rw [show (c.state == 1) = true by simpa using h1]
  simp
end Go.Proofs.YtoimodnlefadhaaGreat.Pi
