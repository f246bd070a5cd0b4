/- Texts of trees, and the branches with their operands. Plain Lean. No condition. -/
import Derived.Test.YtkkifebmicbbaaaPlTree
namespace Go.Proofs.Ytkkifebmicbbaaa.Pi
open Go
set_option linter.all false

/-! ### Texts -/
def digB (n : Int) : ByteArray := ⟨#[UInt8.ofNat (48 + n).toNat]⟩
def sgnB (o : Int) : ByteArray := ⟨#[if o = 2 then 59 else if o = 3 then 124 else if o = 4 then 38 else 42]⟩
def PT.text : PT → ByteArray
  | .leaf n => digB n
  | .node o a b => (((⟨#[40]⟩ ++ a.text) ++ sgnB o) ++ b.text) ++ ⟨#[41]⟩
theorem PT.text_le : ∀ T : PT, T.text.size ≤ 4 * T.post.length
  | .leaf _ => by simp [PT.text, PT.post, digB, ByteArray.size]
  | .node o a b => by
    have h1 := PT.text_le a
    have h2 := PT.text_le b
    simp only [PT.text, PT.post, List.length_append, List.length_cons, List.length_nil, ByteArray.size_append]
    simp only [sgnB, ByteArray.size, List.size_toArray, List.length_cons, List.length_nil] at *
    omega

/-! ### Branches with their operands -/
structure Nd where
  op : Int
  n : Int
  fst : Int
  snd : Int
abbrev encD (d : Nd) : PV := .agg [I d.op, I d.n, I d.fst, I d.snd]
abbrev nds (l : List Nd) : PV := .sl true 4 (l.map encD)
def PT.nds (p : Nat) : PT → List Nd
  | .leaf n => [⟨1, n, 0, 0⟩]
  | .node o a b => a.nds p ++ b.nds (p + a.post.length) ++ [⟨o, 0, ((p + a.post.length : Nat) : Int) - 1, ((p + a.post.length + b.post.length : Nat) : Int) - 1⟩]
theorem PT.nds_len : ∀ (T : PT) (p : Nat), (T.nds p).length = T.post.length
  | .leaf _, _ => rfl
  | .node o a b, p => by simp only [PT.nds, PT.post, List.length_append, List.length_cons, List.length_nil, PT.nds_len a, PT.nds_len b]
/-- The branches of a pile (the top first), and the roots of its trees. -/
def ndT : List PT → List Nd
  | [] => []
  | T :: Ts => ndT Ts ++ T.nds (flatP Ts).length
def ixT : List PT → List Int
  | [] => []
  | T :: Ts => ixT Ts ++ [(((flatP Ts).length + T.post.length : Nat) : Int) - 1]
theorem ndT_len : ∀ Ts : List PT, (ndT Ts).length = (flatP Ts).length
  | [] => rfl
  | T :: Ts => by rw [ndT, flatP_cons, List.length_append, List.length_append, ndT_len Ts, T.nds_len]
theorem ixT_len : ∀ Ts : List PT, (ixT Ts).length = Ts.length
  | [] => rfl
  | T :: Ts => by rw [ixT, List.length_append, ixT_len Ts]; rfl
theorem ndT_leaf (n : Int) (Ts : List PT) : ndT (.leaf n :: Ts) = ndT Ts ++ [⟨1, n, 0, 0⟩] := rfl
theorem ixT_leaf (n : Int) (Ts : List PT) : ixT (.leaf n :: Ts) = ixT Ts ++ [((flatP Ts).length : Int)] := by simp [ixT, PT.post]
theorem ndT_node (o : Int) (x y : PT) (R : List PT) : ndT (.node o x y :: R) = ndT (y :: x :: R) ++ [⟨o, 0, (((flatP R).length + x.post.length : Nat) : Int) - 1, (((flatP R).length + x.post.length + y.post.length : Nat) : Int) - 1⟩] := by
  simp [ndT, PT.nds, flatP_cons]
theorem ixT_two (x y : PT) (R : List PT) : ixT (y :: x :: R) = ixT R ++ [(((flatP R).length + x.post.length : Nat) : Int) - 1] ++ [(((flatP R).length + x.post.length + y.post.length : Nat) : Int) - 1] := by
  simp [ixT, flatP_cons]
theorem ixT_node (o : Int) (x y : PT) (R : List PT) : ixT (.node o x y :: R) = ixT R ++ [((flatP (y :: x :: R)).length : Int)] := by
  simp only [ixT, flatP_cons, PT.post, List.length_append, List.length_cons, List.length_nil]
  congr 2
  omega

/-- The text of a good tree. -/
def textT (l : List Br) : ByteArray := match pT l [] with
  | some [T] => if goodTree l = true then T.text else ByteArray.empty
  | _ => ByteArray.empty
theorem textT_bad {l : List Br} (h : goodTree l = false) : textT l = ByteArray.empty := by
  unfold textT; split <;> simp [h]
theorem textT_good {l : List Br} {T : PT} (h : goodTree l = true) (hT : pT l [] = some [T]) : textT l = T.text := by
  unfold textT; rw [hT]; simp [h]

/-! ### Strings in the interpreter -/
theorem binS_add {bl : Bool} {a b : ByteArray} (h : a.size + b.size ≤ 1099511627776) : binV bl .add (.str a) (.str b) = some (.str (a ++ b)) := by simp [binV, binS, h]
theorem binS_neq {bl : Bool} {a b : ByteArray} : binV bl .neq (.str a) (.str b) = some (.bool (a != b)) := rfl
theorem bytes_ne (x : ByteArray) : (x != x) = false := by
  unfold bne
  rw [Bool.not_eq_false']
  show (x.data == x.data) = true
  simp
theorem sub_str {k k' : IntKind} {s : ByteArray} {l h : Int} (hh : 0 ≤ l ∧ l ≤ h ∧ h ≤ s.size) : subV (.str s) (some (.int k l)) (some (.int k' h)) = some (.str (s.extract l.toNat h.toNat)) := by
  simp only [subV, bound, Option.bind_some]
  rw [if_pos hh]
theorem num_cases {n : Int} (h : 1 ≤ n ∧ n ≤ 9) : n = 1 ∨ n = 2 ∨ n = 3 ∨ n = 4 ∨ n = 5 ∨ n = 6 ∨ n = 7 ∨ n = 8 ∨ n = 9 := by omega
theorem op_cases {o : Int} (h : 2 ≤ o ∧ o ≤ 5) : o = 2 ∨ o = 3 ∨ o = 4 ∨ o = 5 := by omega
theorem map_dig {n : Int} (h : 1 ≤ n ∧ n ≤ 9) : List.mapM byteOf [PV.int .u8 (IntKind.u8.wrap (48 + n))] = some [UInt8.ofNat (48 + n).toNat] := by
  rcases num_cases h with rfl | rfl | rfl | rfl | rfl | rfl | rfl | rfl | rfl <;> rfl
theorem sub_dig {n : Int} (h : 1 ≤ n ∧ n ≤ 9) : subV (.str ⟨#[48, 49, 50, 51, 52, 53, 54, 55, 56, 57, 97, 98, 99, 100, 101, 102, 103, 104, 105, 106, 107, 108, 109, 110, 111, 112, 113, 114, 115, 116, 117, 118, 119, 120, 121, 122]⟩) (some (I n)) (some (.int .i64 (n + 1))) = some (.str (digB n)) := by
  rcases num_cases h with rfl | rfl | rfl | rfl | rfl | rfl | rfl | rfl | rfl <;> rfl
theorem sub_sgn {o : Int} (h : 2 ≤ o ∧ o ≤ 5) : subV (.str ⟨#[59, 124, 38, 42]⟩) (some (.int .i64 (o - 2))) (some (.int .i64 (o - 2 + 1))) = some (.str (sgnB o)) := by
  rcases op_cases h with rfl | rfl | rfl | rfl <;> rfl
theorem sub_sgn2 {o : Int} (h : 2 ≤ o ∧ o ≤ 5) : subV (.str ⟨#[32, 32, 59, 124, 38, 42]⟩) (some (.int .i64 o)) (some (.int .i64 (o + 1))) = some (.str (sgnB o)) := by
  rcases op_cases h with rfl | rfl | rfl | rfl <;> rfl
/-- The steps by which a fork's text is put together. -/
theorem text_adds {o : Int} {a b : PT} (ha : a.post.length ≤ 100) (hb : b.post.length ≤ 100) :
    binV false .add (.str ⟨#[40]⟩) (.str a.text) = some (.str (⟨#[40]⟩ ++ a.text)) ∧
    binV false .add (.str (⟨#[40]⟩ ++ a.text)) (.str (sgnB o)) = some (.str ((⟨#[40]⟩ ++ a.text) ++ sgnB o)) ∧
    binV false .add (.str ((⟨#[40]⟩ ++ a.text) ++ sgnB o)) (.str b.text) = some (.str (((⟨#[40]⟩ ++ a.text) ++ sgnB o) ++ b.text)) ∧
    binV false .add (.str (((⟨#[40]⟩ ++ a.text) ++ sgnB o) ++ b.text)) (.str ⟨#[41]⟩) = some (.str (PT.text (.node o a b))) := by
  have h1 := a.text_le
  have h2 := b.text_le
  have e1 : (⟨#[40]⟩ : ByteArray).size = 1 := rfl
  have e2 : (⟨#[41]⟩ : ByteArray).size = 1 := rfl
  have e3 : (sgnB o).size = 1 := rfl
  refine ⟨binS_add ?_, binS_add ?_, binS_add ?_, binS_add ?_⟩ <;> simp only [ByteArray.size_append, e1, e2, e3] <;> omega
end Go.Proofs.Ytkkifebmicbbaaa.Pi
