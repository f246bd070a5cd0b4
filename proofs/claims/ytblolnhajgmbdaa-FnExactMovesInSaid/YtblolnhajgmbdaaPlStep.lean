/- Moves that are possible in a case; its steps. Plain Lean. No condition. -/
import Derived.Test.YtblolnhajgmbdaaPlBusy
namespace Go.Proofs.Ytblolnhajgmbdaa.Pi
open Go
set_option linter.all false

def canM (s : Spc) (c : Cs) (m : Mv) : Bool := canT (trM s m) c.mark
def movL (s : Spc) (c : Cs) : List Mv := if c.state = 1 then (mvS s).filter (canM s c) else []
theorem goodS_net {s : Spc} (h : goodS s = true) : goodN (flS s).net = true := by
  simp only [goodS, goodFl, okWay, Bool.and_eq_true] at h
  exact h.2.1.1.1.1.1.1
theorem trS_map (s : Spc) : trS s = (mvS s).map (trM s) := (trM_U s s.tasks.length).symm
theorem goodC_mark {s : Spc} {c : Cs} (h : goodC s c = true) : goodM (s.conds + s.tasks.length) c.mark = true := by
  unfold goodC at h; simp only [Bool.and_eq_true] at h; exact h.1
theorem trM_good {s : Spc} {m : Mv} (h : goodS s = true) (hm : m ∈ mvS s) : goodT (s.conds + s.tasks.length) (trM s m) = true := by
  have h2 := goodS_net h
  have h3 : (flS s).net.tr.all (goodT (flS s).net.pl) = true := by
    unfold goodN at h2; simp only [Bool.and_eq_true] at h2; exact h2.2
  rw [List.all_eq_true] at h3
  refine h3 _ ?_
  show trM s m ∈ trS s
  rw [trS_map]
  exact List.mem_map_of_mem hm
/-- The moves of the transitions that may fire. -/
theorem enab_filter (s : Spc) (c : Cs) (d : Mv) : ∀ k, k ≤ (mvS s).length → (enabK (flS s).net c.mark k).map (fun t => (mvS s).getD t.toNat d) = ((mvS s).take k).filter (canM s c)
  | 0, _ => by simp [enabK]
  | k + 1, hk => by
    have ih := enab_filter s c d k (by omega)
    have hlen : (flS s).net.tr.length = (mvS s).length := by show (trS s).length = _; rw [trS_map]; simp
    have hkl : k < (flS s).net.tr.length := by omega
    have hk2 : k < (mvS s).length := by omega
    have e : (flS s).net.tr[k] = trM s (mvS s)[k] := by
      have : (trS s)[k]? = some (trM s (mvS s)[k]) := by rw [trS_map, List.getElem?_map, List.getElem?_eq_getElem hk2]; rfl
      have h2 : (flS s).net.tr[k]? = some (trM s (mvS s)[k]) := this
      rw [List.getElem?_eq_getElem hkl] at h2
      exact Option.some.inj h2
    rw [List.take_succ_eq_append_getElem hk2, List.filter_append, ← ih]
    cases hc : canM s c (mvS s)[k] with
    | true =>
      rw [enabK_t hkl (by rw [e]; exact hc), List.map_append]
      simp [hc, hk2]
    | false =>
      rw [enabK_f hkl (by rw [e]; exact hc)]
      simp [hc]
theorem enab_mov (s : Spc) (c : Cs) (d : Mv) : (enabL (flS s).net c.mark).map (fun t => (mvS s).getD t.toNat d) = (mvS s).filter (canM s c) := by
  have hlen : (flS s).net.tr.length = (mvS s).length := by show (trS s).length = _; rw [trS_map]; simp
  unfold enabL
  rw [hlen, enab_filter s c d _ (Nat.le_refl _), List.take_length]
theorem take_set_succ {α : Type} {l : List α} {q : Nat} {x : α} (h : q < l.length) : (l.set q x).take (q + 1) = l.take q ++ [x] := by
  have hq : (l.take q).length = q := by simp; omega
  rw [List.set_eq_take_append_cons_drop, if_pos h, List.take_append, hq, List.take_of_length_le (by omega)]
  simp
end Go.Proofs.Ytblolnhajgmbdaa.Pi
