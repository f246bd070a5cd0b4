/- The functions that the law reaches: what they answer. Conditions: those that each theorem names. -/
import Derived.Test.YtoimodnlefadhaaIrFnExactDropPlace
import Derived.Test.YtoimodnlefadhaaPlBase
import Derived.Test.YtoimodnlefadhaaPlNet
import Derived.Test.YtoimodnlefadhaaPlFire
import Derived.Test.YtoimodnlefadhaaPlTurn
import Derived.Test.YtoimodnlefadhaaPlBack
import Derived.Test.YtoimodnlefadhaaPlFlow
import Derived.Test.YtoimodnlefadhaaPlMask
import Derived.Test.YtoimodnlefadhaaPlSpec
import Derived.Test.YtoimodnlefadhaaPlArg
import Derived.Test.YtoimodnlefadhaaPlDrop
import Derived.Test.YtoimodnlefadhaaFnFnExactDropPlace0
namespace Go.Proofs.Ytoimodnlefadhaa.Pi
open Go
set_option linter.all false
set_option maxHeartbeats 40000000
set_option maxRecDepth 20000
theorem laws_heldIntS_ok (k : Int) (n : Nat) (hl : n < 2^60) (h0 : 0 ≤ k) (h1 : k < 2^61) : C f_laws_heldIntS [ints (markL k n), I k] [] = some (I (k + n), []) := by
  have hn := markL_len k n
  refine C_laws_heldIntS ?_
  simp (maxSteps := 2000000) (disch := (first | omega | (simp only [List.length_append, List.length_take, List.length_replicate, List.length_map, List.length_set, List.length_cons, List.length_nil, List.length_zipWith, List.length_drop, List.length_range]; first | done | omega))) only [ir_laws_heldIntS, go_sem, Nat.reduceAdd, Nat.reduceEqDiff, Nat.reduceLeDiff, Nat.reduceSub]
  refine W_for n (fun i s => s = ⟨[ints (markL k n), I (k + i), .any, I i, .any, .any], []⟩) ?_ ?_ ?_
  · simp (maxSteps := 2000000) (disch := (first | omega | (simp only [List.length_append, List.length_take, List.length_replicate, List.length_map, List.length_set, List.length_cons, List.length_nil, List.length_zipWith, List.length_drop, List.length_range]; first | done | omega))) only [go_sem, Nat.reduceAdd, Nat.reduceEqDiff, Nat.reduceLeDiff, Nat.reduceSub]
    simp
  · rintro i s hi rfl
    have e : (markL k n)[i]? = some (k + i) := by simp [markL, hi]
    simp (maxSteps := 2000000) (disch := (first | omega | (simp only [List.length_append, List.length_take, List.length_replicate, List.length_map, List.length_set, List.length_cons, List.length_nil, List.length_zipWith, List.length_drop, List.length_range]; first | done | omega))) only [go_sem, Nat.reduceAdd, Nat.reduceEqDiff, Nat.reduceLeDiff, Nat.reduceSub, hn, e]
    rw [show k + ((i + 1 : Nat) : Int) = k + i + 1 by omega]
    rfl
  · rintro s rfl
    simp (maxSteps := 2000000) (disch := (first | omega | (simp only [List.length_append, List.length_take, List.length_replicate, List.length_map, List.length_set, List.length_cons, List.length_nil, List.length_zipWith, List.length_drop, List.length_range]; first | done | omega))) only [go_sem, Nat.reduceAdd, Nat.reduceEqDiff, Nat.reduceLeDiff, Nat.reduceSub, hn]
theorem laws_heldTransS_ok (l : List Tr) (k : Int) (hl : l.length ≤ 2^20) (hb : ∀ t ∈ l, mtLen t ≤ 2^30) (h0 : 0 ≤ k) (h1 : k ≤ 2^40) : C f_laws_heldTransS [trs (mtP k l l.length), I k] [] = some (I (k + mtN l l.length), []) := by
  have hn := mtP_len k l l.length
  refine C_laws_heldTransS ?_
  simp (maxSteps := 2000000) (disch := (first | omega | (simp only [List.length_append, List.length_take, List.length_replicate, List.length_map, List.length_set, List.length_cons, List.length_nil, List.length_zipWith, List.length_drop, List.length_range]; first | done | omega))) only [ir_laws_heldTransS, go_sem, Nat.reduceAdd, Nat.reduceEqDiff, Nat.reduceLeDiff, Nat.reduceSub]
  refine W_for l.length (fun i st => st = ⟨[trs (mtP k l l.length), I (k + mtN l i), .any, I i, .any, .any, .any, .any], []⟩) ?_ ?_ ?_
  · simp (maxSteps := 2000000) (disch := (first | omega | (simp only [List.length_append, List.length_take, List.length_replicate, List.length_map, List.length_set, List.length_cons, List.length_nil, List.length_zipWith, List.length_drop, List.length_range]; first | done | omega))) only [go_sem, Nat.reduceAdd, Nat.reduceEqDiff, Nat.reduceLeDiff, Nat.reduceSub]
    simp [mtN]
  · rintro i st hi rfl
    have e := mtP_got k l l.length i hi hi
    have e3 := mtN_le hb i (by omega)
    have e4 := hb _ (List.getElem_mem hi)
    have e5 := mtN_step hi
    have e7 := mtLen_eq l[i]
    have e8 : i * 2^30 ≤ 2^20 * 2^30 := Nat.mul_le_mul_right _ (by omega)
    rw [e5]
    generalize mtP k l l.length = M at *
    generalize l[i] = t at *
    generalize hK : k + (mtN l i : Int) = K at *
    have e9 : 0 ≤ K ∧ K ≤ 2^52 := by omega
    have d1 := laws_heldIntS_ok K t.inn.length (by omega) (by omega) (by omega)
    have d2 := laws_heldIntS_ok (K + t.inn.length) t.out.length (by omega) (by omega) (by omega)
    have d3 := laws_heldIntS_ok (K + t.inn.length + t.out.length) t.rst.length (by omega) (by omega) (by omega)
    unfold mtTr at e
    simp (maxSteps := 2000000) (disch := (first | omega | (simp only [List.length_append, List.length_take, List.length_replicate, List.length_map, List.length_set, List.length_cons, List.length_nil, List.length_zipWith, List.length_drop, List.length_range]; first | done | omega))) only [go_sem, Nat.reduceAdd, Nat.reduceEqDiff, Nat.reduceLeDiff, Nat.reduceSub, hn, e, d1, d2, d3]
    rw [show k + ((mtN l i + mtLen t : Nat) : Int) = K + t.inn.length + t.out.length + t.rst.length by omega]
    rfl
  · rintro st rfl
    simp (maxSteps := 2000000) (disch := (first | omega | (simp only [List.length_append, List.length_take, List.length_replicate, List.length_map, List.length_set, List.length_cons, List.length_nil, List.length_zipWith, List.length_drop, List.length_range]; first | done | omega))) only [go_sem, Nat.reduceAdd, Nat.reduceEqDiff, Nat.reduceLeDiff, Nat.reduceSub, hn]
theorem laws_heldNet_ok (c : Int) (l : List Tr) (k : Int) (hl : l.length ≤ 2^20) (hb : ∀ t ∈ l, mtLen t ≤ 2^30) (h0 : 0 ≤ k) (h1 : k ≤ 2^40) : C f_laws_heldNet [.agg [I c, trs (mtP k l l.length)], I k] [] = some (I (k + mtN l l.length), []) := by
  have h := laws_heldTransS_ok l k hl hb h0 h1
  have hN := mtN_le hb l.length (by omega)
  have e8 : l.length * 2^30 ≤ 2^20 * 2^30 := Nat.mul_le_mul_right _ (by omega)
  refine C_laws_heldNet ?_
  simp (maxSteps := 2000000) (disch := (first | omega | (simp only [List.length_append, List.length_take, List.length_replicate, List.length_map, List.length_set, List.length_cons, List.length_nil, List.length_zipWith, List.length_drop, List.length_range]; first | done | omega))) only [ir_laws_heldNet, go_sem, Nat.reduceAdd, Nat.reduceEqDiff, Nat.reduceLeDiff, Nat.reduceSub]
  simp (maxSteps := 2000000) (disch := (first | omega | (simp only [List.length_append, List.length_take, List.length_replicate, List.length_map, List.length_set, List.length_cons, List.length_nil, List.length_zipWith, List.length_drop, List.length_range]; first | done | omega))) only [go_sem, Nat.reduceAdd, Nat.reduceEqDiff, Nat.reduceLeDiff, Nat.reduceSub, h]
theorem laws_heldFlow_ok (c x y : Int) (l : List Tr) (k : Int) (hl : l.length ≤ 2^20) (hb : ∀ t ∈ l, mtLen t ≤ 2^30) (h0 : 0 ≤ k) (h1 : k ≤ 2^40) : C f_laws_heldFlow [.agg [I c, trs (mtP k l l.length), I x, I y], I k] [] = some (I (k + mtN l l.length), []) := by
  have h := laws_heldNet_ok c l k hl hb h0 h1
  have hN := mtN_le hb l.length (by omega)
  have e8 : l.length * 2^30 ≤ 2^20 * 2^30 := Nat.mul_le_mul_right _ (by omega)
  refine C_laws_heldFlow ?_
  simp (maxSteps := 2000000) (disch := (first | omega | (simp only [List.length_append, List.length_take, List.length_replicate, List.length_map, List.length_set, List.length_cons, List.length_nil, List.length_zipWith, List.length_drop, List.length_range]; first | done | omega))) only [ir_laws_heldFlow, go_sem, Nat.reduceAdd, Nat.reduceEqDiff, Nat.reduceLeDiff, Nat.reduceSub]
  simp (maxSteps := 2000000) (disch := (first | omega | (simp only [List.length_append, List.length_take, List.length_replicate, List.length_map, List.length_set, List.length_cons, List.length_nil, List.length_zipWith, List.length_drop, List.length_range]; first | done | omega))) only [go_sem, Nat.reduceAdd, Nat.reduceEqDiff, Nat.reduceLeDiff, Nat.reduceSub, h]
theorem laws_FnExactDropPlace_ok (f : Fl) (hl : f.net.tr.length < 2^63) (ht : ∀ t ∈ f.net.tr, t.inn.length < 2^63 ∧ t.out.length < 2^63 ∧ t.rst.length < 2^63) : C f_laws_FnExactDropPlace [encF f] [] = some (.bool true, []) := by
  have hsz := laws_szFlow_ok f 1048576 (by omega) (by omega) hl ht
  refine C_laws_FnExactDropPlace ?_
  simp (maxSteps := 2000000) (disch := (first | omega | (simp only [List.length_append, List.length_take, List.length_replicate, List.length_map, List.length_set, List.length_cons, List.length_nil, List.length_zipWith, List.length_drop, List.length_range]; first | done | omega))) only [ir_laws_FnExactDropPlace, go_sem, Nat.reduceAdd, Nat.reduceEqDiff, Nat.reduceLeDiff, Nat.reduceSub]
  simp (maxSteps := 2000000) (disch := (first | omega | (simp only [List.length_append, List.length_take, List.length_replicate, List.length_map, List.length_set, List.length_cons, List.length_nil, List.length_zipWith, List.length_drop, List.length_range]; first | done | omega))) only [go_sem, Nat.reduceAdd, Nat.reduceEqDiff, Nat.reduceLeDiff, Nat.reduceSub, hsz]
  refine fun h => ?_
  have hs := szNt_smN h (by omega)
  have hsm := szNt_small h (by omega)
  have hto := laws_toFlow_ok f (by omega) (fun t h => by have := hsm.2 t h; omega)
  have hb : ∀ t ∈ f.net.tr, mtLen t ≤ 2^30 := fun t h => by have := hsm.2 t h; unfold mtLen; omega
  have hmk := laws_markFlow_ok f.net.pl f.src f.dst f.net.tr t_impl_Trans 1 (by omega) hb (by omega) (by omega)
  have hmn := mtN_le hb f.net.tr.length (by omega)
  have hmn2 : f.net.tr.length * 2^30 ≤ 1048576 * 2^30 := Nat.mul_le_mul_right _ (by omega)
  have h1 := spec_DropPlace_ok f hs
  have h2 := impl_DropPlace_ok f hs
  have heq := laws_eqFlow_ok f f hs hs
  rw [decide_eq_true ⟨rfl, rfl, rfl⟩] at heq
  unfold encF at heq
  have hV : ∀ g, dropV f = some g → smN g.net ∧ g.net.tr.length ≤ 24 ∧ ∀ t ∈ g.net.tr, mtLen t ≤ 2^30 := by
    intro g hg
    unfold dropV at hg
    split at hg
    case isFalse => cases hg
    rename_i ho
    simp only [okRed, Bool.and_eq_true, Bool.not_eq_true'] at ho
    simp only [Option.map_eq_some_iff] at hg
    obtain ⟨q, -, rfl⟩ := hg
    have hgn := (goodFl_parts ho.1).1
    obtain ⟨hp1, hp2, hn, hT⟩ := goodN_parts hgn
    have hlen : ∀ t ∈ (dropF f q).net.tr, t.inn.length ≤ 16 ∧ t.out.length ≤ 16 ∧ t.rst.length ≤ 16 := by
      intro t ht
      simp only [dropF, List.mem_map] at ht
      obtain ⟨u, hu, rfl⟩ := ht
      have := goodT_lens (hT u hu) ⟨by omega, by omega⟩
      have a := dropL_len q u.inn
      have b := dropL_len q u.out
      have c := dropL_len q u.rst
      simp only [dropT]; omega
    have hL : (dropF f q).net.tr.length ≤ 24 := by simp only [dropF, List.length_map]; exact hn
    exact ⟨⟨by omega, fun t ht => by have := hlen t ht; exact ⟨by omega, by omega, by omega⟩⟩, hL, fun t ht => by have := hlen t ht; unfold mtLen; omega⟩
  generalize mtP 1 f.net.tr f.net.tr.length = P at *
  cases hg : dropV f with
  | none =>
    rw [hg] at h1 h2
    have h3 : C f_laws_eqFlow [.agg [I 0, .sl false 3 [], I 0, I 0], .agg [I 0, .sl false 3 [], I 0, I 0]] [] = some (.bool true, []) := by
      have := laws_eqFlow_ok ⟨⟨0, []⟩, 0, 0⟩ ⟨⟨0, []⟩, 0, 0⟩ ⟨by simp, by simp⟩ ⟨by simp, by simp⟩
      rw [decide_eq_true ⟨rfl, rfl, rfl⟩] at this
      exact this
    have h4 := laws_markFlow_nil 0 0 0 1
    have h5 : C f_laws_heldFlow [.agg [I 0, .sl false 3 [], I 0, I 0], I 1] [] = some (I 1, []) := laws_heldFlow_ok 0 0 0 [] 1 (by simp) (by simp) (by omega) (by omega)
    simp only [Option.isSome_none] at h1 h2
    simp (maxSteps := 2000000) (disch := (first | omega | (simp only [List.length_append, List.length_take, List.length_replicate, List.length_map, List.length_set, List.length_cons, List.length_nil, List.length_zipWith, List.length_drop, List.length_range]; first | done | omega))) only [go_sem, Nat.reduceAdd, Nat.reduceEqDiff, Nat.reduceLeDiff, Nat.reduceSub, hto, h1, h2, heq, hmk, h3, h4, h5]
  | some g =>
    rw [hg] at h1 h2
    obtain ⟨hgs, hgl, hgb⟩ := hV g hg
    have h3 := laws_eqFlow_ok g g hgs hgs
    rw [decide_eq_true ⟨rfl, rfl, rfl⟩] at h3
    unfold encF at h3
    have h4 := laws_markFlow_ok g.net.pl g.src g.dst g.net.tr t_impl_Trans 1 (by omega) hgb (by omega) (by omega)
    have h5 := laws_heldFlow_ok g.net.pl g.src g.dst g.net.tr 1 (by omega) hgb (by omega) (by omega)
    have h6 := mtP_len 1 g.net.tr g.net.tr.length
    have h7 := mtN_le hgb g.net.tr.length (by omega)
    simp only [Option.isSome_some] at h1 h2
    generalize mtP 1 g.net.tr g.net.tr.length = M at *
    simp (maxSteps := 2000000) (disch := (first | omega | (simp only [List.length_append, List.length_take, List.length_replicate, List.length_map, List.length_set, List.length_cons, List.length_nil, List.length_zipWith, List.length_drop, List.length_range]; first | done | omega))) only [go_sem, Nat.reduceAdd, Nat.reduceEqDiff, Nat.reduceLeDiff, Nat.reduceSub, hto, h1, h2, heq, hmk, h3, h4, h5, h6]
end Go.Proofs.Ytoimodnlefadhaa.Pi
