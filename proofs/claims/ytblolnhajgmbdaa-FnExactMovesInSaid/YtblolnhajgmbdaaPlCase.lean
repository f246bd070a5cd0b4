/- Moves, marked; cases' steps. Plain Lean. No condition. -/
import Derived.Test.YtblolnhajgmbdaaPlSpec
namespace Go.Proofs.Ytblolnhajgmbdaa.Pi
open Go
set_option linter.all false

def mkM (k : Int) (i : Nat) : Mv := ⟨k + 3 * (i : Int), ((k + 3 * (i : Int) + 1).tmod 3 == 0), k + 3 * (i : Int) + 1 + 1⟩
def mkMs (k : Int) (n : Nat) : List Mv := (List.range n).map (mkM k)
def mkMP (k : Int) (l : List Mv) (i : Nat) : List Mv := mkMs k i ++ l.drop i
theorem mkMs_len (k : Int) (n : Nat) : (mkMs k n).length = n := by simp [mkMs]
theorem mkMP_len {k : Int} {l : List Mv} {i : Nat} (h : i ≤ l.length) : (mkMP k l i).length = l.length := by simp [mkMP, mkMs_len]; omega
theorem mkMP_zero (k : Int) (l : List Mv) : mkMP k l 0 = l := by simp [mkMP, mkMs]
theorem mkMP_all (k : Int) (l : List Mv) : mkMP k l l.length = mkMs k l.length := by simp [mkMP]
theorem mkMP_get {k : Int} {l : List Mv} {i : Nat} (h : i < l.length) : (mkMP k l i)[i]? = some l[i] := by
  unfold mkMP
  rw [List.getElem?_append_right (by rw [mkMs_len]; omega), mkMs_len, Nat.sub_self, List.getElem?_drop]
  simp [h]
theorem mkMP_step {k : Int} {l : List Mv} {i : Nat} (h : i < l.length) : (mkMP k l i).set i (mkM k i) = mkMP k l (i + 1) := by
  unfold mkMP
  rw [List.drop_eq_getElem_cons h, List.set_append, mkMs_len, if_neg (by omega), Nat.sub_self, List.set_cons_zero]
  simp [mkMs, List.range_succ]
end Go.Proofs.Ytblolnhajgmbdaa.Pi
