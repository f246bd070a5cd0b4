/- Busy tasks of a case. Plain Lean. No condition. -/
import Derived.Test.YtblolnhajgmbdaaPlCase
namespace Go.Proofs.Ytblolnhajgmbdaa.Pi
open Go
set_option linter.all false

def busyK (s : Spc) (c : Cs) (k : Nat) : List Int := ((List.range k).filter fun (i : Nat) => decide (0 < at_ c.mark (s.conds + (i : Int)))).map Int.ofNat
def busyV (s : Spc) (c : Cs) : List Int × Bool := if (goodS s && goodC s c) = true then (busyK s c s.tasks.length, true) else ([], false)
theorem busyK_t {s : Spc} {c : Cs} {k : Nat} (h : 0 < at_ c.mark (s.conds + (k : Int))) : busyK s c (k + 1) = busyK s c k ++ [(k : Int)] := by
  simp [busyK, List.range_succ, List.filter_append, h]
theorem busyK_f {s : Spc} {c : Cs} {k : Nat} (h : ¬ 0 < at_ c.mark (s.conds + (k : Int))) : busyK s c (k + 1) = busyK s c k := by
  simp [busyK, List.range_succ, List.filter_append, h]
theorem busyK_len (s : Spc) (c : Cs) (k : Nat) : (busyK s c k).length ≤ k := by
  unfold busyK
  rw [List.length_map]
  exact Nat.le_trans (List.length_filter_le _ _) (by simp)
theorem busyV_len (s : Spc) (c : Cs) : (busyV s c).1.length ≤ 6 := by
  unfold busyV
  split
  · rename_i h
    simp only [Bool.and_eq_true] at h
    have := (okTasks_parts (goodS_ok h.1)).2.1
    have h2 := busyK_len s c s.tasks.length
    show (busyK s c s.tasks.length).length ≤ 6
    omega
  · simp
def cutB (s : Spc) (c : Cs) : Bool := goodS s && goodC s c && c.state == 1
end Go.Proofs.Ytblolnhajgmbdaa.Pi
