/- The functions that the law reaches: what they answer. Conditions: those that each theorem names. -/
import Derived.Test.YtngjepmopahgdaaIrFnSpace
import Derived.Test.YtngjepmopahgdaaPlBase
import Derived.Test.YtngjepmopahgdaaPlNet
import Derived.Test.YtngjepmopahgdaaPlFire
import Derived.Test.YtngjepmopahgdaaPlTurn
import Derived.Test.YtngjepmopahgdaaPlBack
import Derived.Test.YtngjepmopahgdaaPlFlow
import Derived.Test.YtngjepmopahgdaaPlSpace
import Derived.Test.YtngjepmopahgdaaPlWay
import Derived.Test.YtngjepmopahgdaaFnFnSpace0
namespace Go.Proofs.Ytngjepmopahgdaa.Pi
open Go
set_option linter.all false
set_option maxHeartbeats 4000000
set_option maxRecDepth 20000
theorem spec_l4Explore_ok (n : Net) (start : List Int) (b : Int) (hm : marked n start = true) (hb : 1 ≤ b ∧ b ≤ 400) : C f_spec_l4Explore [encN n, ints start, I b] [] = some (.tup [exPV (exAll n start b), I (exCode (exAll n start b))], []) := by
  obtain ⟨hg, hmk⟩ := marked_parts hm
  have hn := goodN_parts hg
  have hs := goodM_len hmk
  refine C_spec_l4Explore ?_
  simp (maxSteps := 2000000) (disch := (first | omega | (simp only [List.length_append, List.length_take, List.length_replicate, List.length_map, List.length_set, List.length_cons, List.length_nil, List.length_zipWith, List.length_drop, List.length_range]; first | done | omega))) only [ir_spec_l4Explore, go_sem, Nat.reduceAdd, Nat.reduceEqDiff, Nat.reduceLeDiff, Nat.reduceSub]
  simp (maxSteps := 2000000) (disch := (first | omega | (simp only [List.length_append, List.length_take, List.length_replicate, List.length_map, List.length_set, List.length_cons, List.length_nil, List.length_zipWith, List.length_drop, List.length_range]; first | done | omega))) only [go_sem, Nat.reduceAdd, Nat.reduceEqDiff, Nat.reduceLeDiff, Nat.reduceSub, spec_l1Own_ok start (by omega)]
  generalize hR : exAll n start b = R
  refine W_down (fun d s => ∃ (k : Nat) (c : Ex), d + k = b.toNat + 1 ∧ ExOk n start b c ∧ c.code = 0 ∧ k ≤ c.sp.ms.length ∧ c.sp.ar.length ≤ 24 * k ∧ exRun n b (d + 1) k c = R ∧ ((s = ⟨[.any, .any, I b, .ptr 0 0, .ptr 1 0, .any, .ptr 2 0, I k, .any, .any, .any, .any, .any, .any, .any, .any, .any, .any, .any], [.box t_impl_Net [I n.pl, trs n.tr], .box t_impl_Space [.nil false 1, .nil true 3], .box t_impl_Space [.ref 3 1 0 c.sp.ms.length, .nil true 3], .row t_sl_int false 1 (c.sp.ms.map ints)]⟩ ∧ c.sp.ar = []) ∨ (s = ⟨[.any, .any, I b, .ptr 0 0, .ptr 1 0, .any, .ptr 2 0, I k, .any, .any, .any, .any, .any, .any, .any, .any, .any, .any, .any], [.box t_impl_Net [I n.pl, trs n.tr], .box t_impl_Space [.nil false 1, .nil true 3], .box t_impl_Space [.ref 3 1 0 c.sp.ms.length, .ref 4 3 0 c.sp.ar.length], .row t_sl_int false 1 (c.sp.ms.map ints), .row t_impl_Arc true 3 (c.sp.ar.map encA)]⟩ ∧ c.sp.ar ≠ []))) (b.toNat + 1) ?_ ?_
  · refine ⟨0, ⟨⟨[start], []⟩, 0⟩, by omega, exStart_ok hm hb.1, rfl, by omega, by simp, hR, .inl ⟨?_, rfl⟩⟩
    simp (maxSteps := 2000000) (disch := (first | omega | (simp only [List.length_append, List.length_take, List.length_replicate, List.length_map, List.length_set, List.length_cons, List.length_nil, List.length_zipWith, List.length_drop, List.length_range]; first | done | omega))) only [go_sem, Nat.reduceAdd, Nat.reduceEqDiff, Nat.reduceLeDiff, Nat.reduceSub]
    rfl
  · rintro d s ⟨k, c, hd, hok, hc0, hk, hal, hrun, hcs⟩
    have hlb := hok.lenb
    by_cases hkl : k < c.sp.ms.length
    · have hmem := getD_mem hkl
      have hmg := marked_parts (hok.good _ hmem)
      have hml := goodM_len hmg.2
      have en := spec_l2Enabled_ok n (c.sp.ms.getD k []) hg hml.2.2.1
      have hLl : (enabL n (c.sp.ms.getD k [])).length ≤ n.tr.length := enabK_len ..
      have er : exRun n b (d + 1) k c = exRun n b d (k + 1) (exL n b k c (enabL n (c.sp.ms.getD k []))) := by
        show (if c.code ≠ 0 then c else if k < c.sp.ms.length then _ else c) = _
        rw [if_neg (by omega), if_pos hkl]
      rw [er] at hrun
      have hen : ∀ t ∈ enabL n (c.sp.ms.getD k []), t ∈ enabL n (c.sp.ms.getD k []) := fun t h => h
      generalize hL : enabL n (c.sp.ms.getD k []) = L at *
      rcases hcs with ⟨rfl, har⟩ | ⟨rfl, har⟩
      all_goals
        simp (maxSteps := 2000000) (disch := (first | omega | (simp only [List.length_append, List.length_take, List.length_replicate, List.length_map, List.length_set, List.length_cons, List.length_nil, List.length_zipWith, List.length_drop, List.length_range]; first | done | omega))) only [go_sem, Nat.reduceAdd, Nat.reduceEqDiff, Nat.reduceLeDiff, Nat.reduceSub, getD_ms, en]
        refine W_for L.length (fun j s => ∃ c' : Ex, ExOk n start b c' ∧ c'.code = 0 ∧ k < c'.sp.ms.length ∧ enabL n (c'.sp.ms.getD k []) = L ∧ c'.sp.ar.length ≤ 24 * k + j ∧ exRun n b d (k + 1) (exL n b k c' (L.drop j)) = R ∧ ((s = ⟨[.any, .any, I b, .ptr 0 0, .ptr 1 0, .any, .ptr 2 0, I k, .any, .any, .any, .any, .ref 3 1 0 L.length, I L.length, I j, .any, .any, .any, .any], [.box t_impl_Net [I n.pl, trs n.tr], .box t_impl_Space [.nil false 1, .nil true 3], .box t_impl_Space [.ref 4 1 0 c'.sp.ms.length, .nil true 3], .row t_int true 1 (L.map I), .row t_sl_int false 1 (c'.sp.ms.map ints)]⟩ ∧ c'.sp.ar = []) ∨ (s = ⟨[.any, .any, I b, .ptr 0 0, .ptr 1 0, .any, .ptr 2 0, I k, .any, .any, .any, .any, .ref 3 1 0 L.length, I L.length, I j, .any, .any, .any, .any], [.box t_impl_Net [I n.pl, trs n.tr], .box t_impl_Space [.nil false 1, .nil true 3], .box t_impl_Space [.ref 4 1 0 c'.sp.ms.length, .ref 5 3 0 c'.sp.ar.length], .row t_int true 1 (L.map I), .row t_sl_int false 1 (c'.sp.ms.map ints), .row t_impl_Arc true 3 (c'.sp.ar.map encA)]⟩ ∧ c'.sp.ar ≠ []))) ?_ ?_ ?_
        · refine ⟨c, hok, hc0, hkl, hL, by omega, hrun, ?_⟩
          first
          | refine .inl ⟨?_, har⟩
            simp (maxSteps := 2000000) (disch := (first | omega | (simp only [List.length_append, List.length_take, List.length_replicate, List.length_map, List.length_set, List.length_cons, List.length_nil, List.length_zipWith, List.length_drop, List.length_range]; first | done | omega))) only [go_sem, Nat.reduceAdd, Nat.reduceEqDiff, Nat.reduceLeDiff, Nat.reduceSub]
            done
          | refine .inl ⟨?_, har⟩
            simp (maxSteps := 2000000) (disch := (first | omega | (simp only [List.length_append, List.length_take, List.length_replicate, List.length_map, List.length_set, List.length_cons, List.length_nil, List.length_zipWith, List.length_drop, List.length_range]; first | done | omega))) only [go_sem, Nat.reduceAdd, Nat.reduceEqDiff, Nat.reduceLeDiff, Nat.reduceSub]
            rfl
          | refine .inr ⟨?_, har⟩
            simp (maxSteps := 2000000) (disch := (first | omega | (simp only [List.length_append, List.length_take, List.length_replicate, List.length_map, List.length_set, List.length_cons, List.length_nil, List.length_zipWith, List.length_drop, List.length_range]; first | done | omega))) only [go_sem, Nat.reduceAdd, Nat.reduceEqDiff, Nat.reduceLeDiff, Nat.reduceSub]
            done
          | refine .inr ⟨?_, har⟩
            simp (maxSteps := 2000000) (disch := (first | omega | (simp only [List.length_append, List.length_take, List.length_replicate, List.length_map, List.length_set, List.length_cons, List.length_nil, List.length_zipWith, List.length_drop, List.length_range]; first | done | omega))) only [go_sem, Nat.reduceAdd, Nat.reduceEqDiff, Nat.reduceLeDiff, Nat.reduceSub]
            rfl
        · rintro j s hj ⟨c', hok', hc0', hkl', hL', hal', hrun', hcs'⟩
          have hlb' := hok'.lenb
          have ht : L[j] ∈ enabL n (c'.sp.ms.getD k []) := by rw [hL']; exact List.getElem_mem hj
          obtain ⟨t1, t2, t3⟩ := enabL_mem.1 ht
          have hT := hn.2.2.2 (trAt n L[j]) (by rw [← trAt_eq t2]; exact List.getElem_mem _)
          have hm2 := goodM_len (marked_parts (hok'.good _ (getD_mem hkl'))).2
          have hx := goodT_lt hT hm2.2.2.1
          have hy := goodT_lens hT (by omega)
          have hfire := spec_l2Fire_ok (trAt n L[j]) (c'.sp.ms.getD k []) hx.1 hx.2.1 hx.2.2 ⟨by omega, by omega, by omega⟩ (by omega) hm2.2.2.2.2
          have hMl := firedM_len (trAt n L[j]) (c'.sp.ms.getD k [])
          have hok2 := exStep_ok hok' hkl' ht
          have hxs : ∀ x ∈ c'.sp.ms, x.length < 2^62 := fun x hx => by have := goodM_len (marked_parts (hok'.good x hx)).2; omega
          rw [exL_drop hj] at hrun'
          have f1 := exStep_tok (n := n) (b := b) (k := k) (s := c') (t := L[j]) hc0'
          have f2 := exStep_old (n := n) (b := b) (k := k) (s := c') (t := L[j]) hc0'
          have f3 := exStep_full (n := n) (b := b) (k := k) (s := c') (t := L[j]) hc0'
          have f4 := exStep_new (n := n) (b := b) (k := k) (s := c') (t := L[j]) hc0'
          generalize hM : firedM (trAt n L[j]) (c'.sp.ms.getD k []) = M at *
          have ck : C f_spec_GoodMark [I n.pl, ints M] [] = some (.bool (M.all (inB 0 50)), []) := by
            rw [spec_GoodMark_ok n.pl M (by omega)]
            have h9 : inB 1 16 n.pl = true := by simp [inB]; omega
            have h10 : ((M.length : Int) == n.pl) = true := by simp; omega
            simp only [goodM, h9, h10, Bool.true_and]
          have fd := spec_l4Find_ok c'.sp.ms M (by omega) hxs
          have hsl : ∀ c2 : Ex, c2.code ≠ 0 → exRun n b d (k + 1) (exL n b k c2 (L.drop (j + 1))) = c2 := fun c2 h => by rw [exL_stop h, exRun_stop h]
          cases ha : M.all (inB 0 50) with
          | false =>
            rw [f1 ha, hsl _ (by simp)] at hrun'
            subst hrun'
            rw [ha] at ck
            rcases hcs' with ⟨rfl, har'⟩ | ⟨rfl, har'⟩ <;> simp (maxSteps := 2000000) (disch := (first | omega | (simp only [List.length_append, List.length_take, List.length_replicate, List.length_map, List.length_set, List.length_cons, List.length_nil, List.length_zipWith, List.length_drop, List.length_range]; first | done | omega))) only [go_sem, Nat.reduceAdd, Nat.reduceEqDiff, Nat.reduceLeDiff, Nat.reduceSub, getD_ms, trAt_eq, hfire, ck, exPV, exCode]
          | true =>
            rw [ha] at ck
            by_cases h2 : 0 ≤ findM c'.sp.ms M
            · rw [f2 ha h2] at hrun' hok2
              rcases hcs' with ⟨rfl, har'⟩ | ⟨rfl, har'⟩
              · simp (maxSteps := 2000000) (disch := (first | omega | (simp only [List.length_append, List.length_take, List.length_replicate, List.length_map, List.length_set, List.length_cons, List.length_nil, List.length_zipWith, List.length_drop, List.length_range]; first | done | omega))) only [go_sem, Nat.reduceAdd, Nat.reduceEqDiff, Nat.reduceLeDiff, Nat.reduceSub, getD_ms, trAt_eq, hfire, ck, fd]
                refine ⟨_, hok2, rfl, hkl', hL', by simp only [List.length_append, List.length_cons, List.length_nil]; omega, hrun', .inr ⟨?_, by simp⟩⟩
                simp [har']
              · simp (maxSteps := 2000000) (disch := (first | omega | (simp only [List.length_append, List.length_take, List.length_replicate, List.length_map, List.length_set, List.length_cons, List.length_nil, List.length_zipWith, List.length_drop, List.length_range]; first | done | omega))) only [go_sem, Nat.reduceAdd, Nat.reduceEqDiff, Nat.reduceLeDiff, Nat.reduceSub, getD_ms, trAt_eq, hfire, ck, fd]
                refine ⟨_, hok2, rfl, hkl', hL', by simp only [List.length_append, List.length_cons, List.length_nil]; omega, hrun', .inr ⟨?_, by simp⟩⟩
                simp
            · by_cases h3 : b ≤ c'.sp.ms.length
              · rw [f3 ha h2 h3, hsl _ (by simp)] at hrun'
                subst hrun'
                rcases hcs' with ⟨rfl, har'⟩ | ⟨rfl, har'⟩ <;> simp (maxSteps := 2000000) (disch := (first | omega | (simp only [List.length_append, List.length_take, List.length_replicate, List.length_map, List.length_set, List.length_cons, List.length_nil, List.length_zipWith, List.length_drop, List.length_range]; first | done | omega))) only [go_sem, Nat.reduceAdd, Nat.reduceEqDiff, Nat.reduceLeDiff, Nat.reduceSub, getD_ms, trAt_eq, hfire, ck, fd, exPV, exCode]
              · rw [f4 ha h2 h3] at hrun' hok2
                rcases hcs' with ⟨rfl, har'⟩ | ⟨rfl, har'⟩
                · simp (maxSteps := 2000000) (disch := (first | omega | (simp only [List.length_append, List.length_take, List.length_replicate, List.length_map, List.length_set, List.length_cons, List.length_nil, List.length_zipWith, List.length_drop, List.length_range]; first | done | omega))) only [go_sem, Nat.reduceAdd, Nat.reduceEqDiff, Nat.reduceLeDiff, Nat.reduceSub, getD_ms, trAt_eq, hfire, ck, fd]
                  refine ⟨_, hok2, rfl, by simp only [List.length_append]; omega, by simp only; rw [getD_app hkl']; exact hL', by simp only [List.length_append, List.length_cons, List.length_nil]; omega, hrun', .inr ⟨?_, by simp⟩⟩
                  simp [har']
                · simp (maxSteps := 2000000) (disch := (first | omega | (simp only [List.length_append, List.length_take, List.length_replicate, List.length_map, List.length_set, List.length_cons, List.length_nil, List.length_zipWith, List.length_drop, List.length_range]; first | done | omega))) only [go_sem, Nat.reduceAdd, Nat.reduceEqDiff, Nat.reduceLeDiff, Nat.reduceSub, getD_ms, trAt_eq, hfire, ck, fd]
                  refine ⟨_, hok2, rfl, by simp only [List.length_append]; omega, by simp only; rw [getD_app hkl']; exact hL', by simp only [List.length_append, List.length_cons, List.length_nil]; omega, hrun', .inr ⟨?_, by simp⟩⟩
                  simp
        · rintro s ⟨c', hok', hc0', hkl', hL', hal', hrun', hcs'⟩
          rw [List.drop_length] at hrun'
          have hlb' := hok'.lenb
          rcases hcs' with ⟨rfl, har'⟩ | ⟨rfl, har'⟩
          · simp (maxSteps := 2000000) (disch := (first | omega | (simp only [List.length_append, List.length_take, List.length_replicate, List.length_map, List.length_set, List.length_cons, List.length_nil, List.length_zipWith, List.length_drop, List.length_range]; first | done | omega))) only [go_sem, Nat.reduceAdd, Nat.reduceEqDiff, Nat.reduceLeDiff, Nat.reduceSub]
            refine ⟨d - 1, by omega, k + 1, c', by omega, hok', hc0', by omega, by omega, by rw [show d - 1 + 1 = d by omega]; exact hrun', .inl ⟨rfl, har'⟩⟩
          · simp (maxSteps := 2000000) (disch := (first | omega | (simp only [List.length_append, List.length_take, List.length_replicate, List.length_map, List.length_set, List.length_cons, List.length_nil, List.length_zipWith, List.length_drop, List.length_range]; first | done | omega))) only [go_sem, Nat.reduceAdd, Nat.reduceEqDiff, Nat.reduceLeDiff, Nat.reduceSub]
            refine ⟨d - 1, by omega, k + 1, c', by omega, hok', hc0', by omega, by omega, by rw [show d - 1 + 1 = d by omega]; exact hrun', .inr ⟨rfl, har'⟩⟩
    · have er : exRun n b (d + 1) k c = c := by
        show (if c.code ≠ 0 then c else if k < c.sp.ms.length then _ else c) = _
        rw [if_neg (by omega), if_neg hkl]
      rw [er] at hrun
      subst hrun
      rcases hcs with ⟨rfl, har⟩ | ⟨rfl, har⟩
      · simp (maxSteps := 2000000) (disch := (first | omega | (simp only [List.length_append, List.length_take, List.length_replicate, List.length_map, List.length_set, List.length_cons, List.length_nil, List.length_zipWith, List.length_drop, List.length_range]; first | done | omega))) only [go_sem, Nat.reduceAdd, Nat.reduceEqDiff, Nat.reduceLeDiff, Nat.reduceSub]
        simp [exPV, exCode, hc0, arcPV, har]
      · simp (maxSteps := 2000000) (disch := (first | omega | (simp only [List.length_append, List.length_take, List.length_replicate, List.length_map, List.length_set, List.length_cons, List.length_nil, List.length_zipWith, List.length_drop, List.length_range]; first | done | omega))) only [go_sem, Nat.reduceAdd, Nat.reduceEqDiff, Nat.reduceLeDiff, Nat.reduceSub]
        simp [exPV, exCode, hc0, arcPV, har]
theorem spec_Explore_ok (n : Net) (start : List Int) (b : Int) (hn : smN n) (hs : start.length < 2^62) : C f_spec_Explore [encN n, ints start, I b] [] = some (.tup [if okEx n start b then exPV (exAll n start b) else .agg [.nil false 1, .nil true 3], I (if okEx n start b then exCode (exAll n start b) else 0), .bool (okEx n start b)], []) := by
  refine C_spec_Explore ?_
  simp (maxSteps := 2000000) (disch := (first | omega | (simp only [List.length_append, List.length_take, List.length_replicate, List.length_map, List.length_set, List.length_cons, List.length_nil, List.length_zipWith, List.length_drop, List.length_range]; first | done | omega))) only [ir_spec_Explore, go_sem, Nat.reduceAdd, Nat.reduceEqDiff, Nat.reduceLeDiff, Nat.reduceSub]
  simp (maxSteps := 2000000) (disch := (first | omega | (simp only [List.length_append, List.length_take, List.length_replicate, List.length_map, List.length_set, List.length_cons, List.length_nil, List.length_zipWith, List.length_drop, List.length_range]; first | done | omega))) only [go_sem, Nat.reduceAdd, Nat.reduceEqDiff, Nat.reduceLeDiff, Nat.reduceSub, spec_l4Asked_ok n start b hn hs]
  cases hok : okEx n start b with
  | false => simp
  | true =>
    obtain ⟨h1, hb⟩ := okEx_parts hok
    have hx := spec_l4Explore_ok n start b h1 hb
    generalize exAll n start b = R at *
    by_cases hc : R.code = 0
    · by_cases ha : R.sp.ar = []
      · simp only [exPV, exCode, arcPV, hc, ha, if_true] at hx ⊢
        simp (maxSteps := 2000000) (disch := (first | omega | (simp only [List.length_append, List.length_take, List.length_replicate, List.length_map, List.length_set, List.length_cons, List.length_nil, List.length_zipWith, List.length_drop, List.length_range]; first | done | omega))) only [go_sem, Nat.reduceAdd, Nat.reduceEqDiff, Nat.reduceLeDiff, Nat.reduceSub, hx]
      · simp only [exPV, exCode, arcPV, hc, ha, if_true, if_false] at hx ⊢
        simp (maxSteps := 2000000) (disch := (first | omega | (simp only [List.length_append, List.length_take, List.length_replicate, List.length_map, List.length_set, List.length_cons, List.length_nil, List.length_zipWith, List.length_drop, List.length_range]; first | done | omega))) only [go_sem, Nat.reduceAdd, Nat.reduceEqDiff, Nat.reduceLeDiff, Nat.reduceSub, hx]
    · simp only [exPV, exCode, hc, if_false] at hx ⊢
      simp (maxSteps := 2000000) (disch := (first | omega | (simp only [List.length_append, List.length_take, List.length_replicate, List.length_map, List.length_set, List.length_cons, List.length_nil, List.length_zipWith, List.length_drop, List.length_range]; first | done | omega))) only [go_sem, Nat.reduceAdd, Nat.reduceEqDiff, Nat.reduceLeDiff, Nat.reduceSub, hx]
theorem laws_sameInts_ok (a b : List Int) (hl : a.length < 2^62) : C f_laws_sameInts [ints a, ints b] [] = some (.bool (decide (a = b)), []) := by
  refine C_laws_sameInts ?_
  simp (maxSteps := 2000000) (disch := (first | omega | (simp only [List.length_append, List.length_take, List.length_replicate, List.length_map, List.length_set, List.length_cons, List.length_nil, List.length_zipWith, List.length_drop, List.length_range]; first | done | omega))) only [ir_laws_sameInts, go_sem, Nat.reduceAdd, Nat.reduceEqDiff, Nat.reduceLeDiff, Nat.reduceSub]
  refine ⟨fun h => ?_, fun h => ?_⟩
  · have : a ≠ b := fun e => h (by rw [e])
    simp [this]
  refine W_for a.length (fun k s => s = ⟨[ints a, ints b, .any, .any, .any, I a.length, I k, .any, .any], []⟩ ∧ a.take k = b.take k) ?_ ?_ ?_
  · simp (maxSteps := 2000000) (disch := (first | omega | (simp only [List.length_append, List.length_take, List.length_replicate, List.length_map, List.length_set, List.length_cons, List.length_nil, List.length_zipWith, List.length_drop, List.length_range]; first | done | omega))) only [go_sem, Nat.reduceAdd, Nat.reduceEqDiff, Nat.reduceLeDiff, Nat.reduceSub]
    rfl
  · rintro k s hk ⟨rfl, hall⟩
    simp (maxSteps := 2000000) (disch := (first | omega | (simp only [List.length_append, List.length_take, List.length_replicate, List.length_map, List.length_set, List.length_cons, List.length_nil, List.length_zipWith, List.length_drop, List.length_range]; first | done | omega))) only [go_sem, Nat.reduceAdd, Nat.reduceEqDiff, Nat.reduceLeDiff, Nat.reduceSub]
    refine ⟨fun h => ?_, fun h => ⟨rfl, ?_⟩⟩
    · have : a ≠ b := fun e => h (by simp [e])
      simp [this]
    · rw [take_snoc hk, take_snoc (show k < b.length by omega), hall, h]
  · rintro s ⟨rfl, hall⟩
    simp (maxSteps := 2000000) (disch := (first | omega | (simp only [List.length_append, List.length_take, List.length_replicate, List.length_map, List.length_set, List.length_cons, List.length_nil, List.length_zipWith, List.length_drop, List.length_range]; first | done | omega))) only [go_sem, Nat.reduceAdd, Nat.reduceEqDiff, Nat.reduceLeDiff, Nat.reduceSub]
    rw [List.take_length, List.take_of_length_le (by omega)] at hall
    simp [hall]
theorem laws_sameLists_ok (a : List (List Int)) (hl : a.length < 2^62) (hx : ∀ x ∈ a, x.length < 2^62) : C f_laws_sameLists [rows a, rows a] [] = some (.bool true, []) := by
  refine C_laws_sameLists ?_
  simp (maxSteps := 2000000) (disch := (first | omega | (simp only [List.length_append, List.length_take, List.length_replicate, List.length_map, List.length_set, List.length_cons, List.length_nil, List.length_zipWith, List.length_drop, List.length_range]; first | done | omega))) only [ir_laws_sameLists, go_sem, Nat.reduceAdd, Nat.reduceEqDiff, Nat.reduceLeDiff, Nat.reduceSub]
  refine W_for a.length (fun k s => s = ⟨[rows a, rows a, .any, .any, .any, I a.length, I k, .any, .any], []⟩) ?_ ?_ ?_
  · simp (maxSteps := 2000000) (disch := (first | omega | (simp only [List.length_append, List.length_take, List.length_replicate, List.length_map, List.length_set, List.length_cons, List.length_nil, List.length_zipWith, List.length_drop, List.length_range]; first | done | omega))) only [go_sem, Nat.reduceAdd, Nat.reduceEqDiff, Nat.reduceLeDiff, Nat.reduceSub]
    rfl
  · rintro k s hk rfl
    have hk2 := hx _ (List.getElem_mem hk)
    simp (maxSteps := 2000000) (disch := (first | omega | (simp only [List.length_append, List.length_take, List.length_replicate, List.length_map, List.length_set, List.length_cons, List.length_nil, List.length_zipWith, List.length_drop, List.length_range]; first | done | omega))) only [go_sem, Nat.reduceAdd, Nat.reduceEqDiff, Nat.reduceLeDiff, Nat.reduceSub, laws_sameInts_ok]
    rfl
  · rintro s rfl
    simp (maxSteps := 2000000) (disch := (first | omega | (simp only [List.length_append, List.length_take, List.length_replicate, List.length_map, List.length_set, List.length_cons, List.length_nil, List.length_zipWith, List.length_drop, List.length_range]; first | done | omega))) only [go_sem, Nat.reduceAdd, Nat.reduceEqDiff, Nat.reduceLeDiff, Nat.reduceSub]
theorem laws_sameSpace_ok (ms : List (List Int)) (ar : List Arc3) (hl : ms.length < 2^62) (hx : ∀ x ∈ ms, x.length < 2^62) (ha : ar.length < 2^62) : C f_laws_sameSpace [.agg [rows ms, .sl true 3 (ar.map encA)], .agg [rows ms, .sl true 3 (ar.map encA)]] [] = some (.bool true, []) := by
  refine C_laws_sameSpace ?_
  simp (maxSteps := 2000000) (disch := (first | omega | (simp only [List.length_append, List.length_take, List.length_replicate, List.length_map, List.length_set, List.length_cons, List.length_nil, List.length_zipWith, List.length_drop, List.length_range]; first | done | omega))) only [ir_laws_sameSpace, go_sem, Nat.reduceAdd, Nat.reduceEqDiff, Nat.reduceLeDiff, Nat.reduceSub]
  simp (maxSteps := 2000000) (disch := (first | omega | (simp only [List.length_append, List.length_take, List.length_replicate, List.length_map, List.length_set, List.length_cons, List.length_nil, List.length_zipWith, List.length_drop, List.length_range]; first | done | omega))) only [go_sem, Nat.reduceAdd, Nat.reduceEqDiff, Nat.reduceLeDiff, Nat.reduceSub, laws_sameLists_ok ms hl hx]
  refine W_for ar.length (fun k s => s = ⟨[.any, .any, .ptr 0 0, .ptr 1 0, .any, .any, .any, I ar.length, I k, .any, .any], [.box t_impl_Space [rows ms, .sl true 3 (ar.map encA)], .box t_impl_Space [rows ms, .sl true 3 (ar.map encA)]]⟩) ?_ ?_ ?_
  · simp (maxSteps := 2000000) (disch := (first | omega | (simp only [List.length_append, List.length_take, List.length_replicate, List.length_map, List.length_set, List.length_cons, List.length_nil, List.length_zipWith, List.length_drop, List.length_range]; first | done | omega))) only [go_sem, Nat.reduceAdd, Nat.reduceEqDiff, Nat.reduceLeDiff, Nat.reduceSub]
    rfl
  · rintro k s hk rfl
    simp (maxSteps := 2000000) (disch := (first | omega | (simp only [List.length_append, List.length_take, List.length_replicate, List.length_map, List.length_set, List.length_cons, List.length_nil, List.length_zipWith, List.length_drop, List.length_range]; first | done | omega))) only [go_sem, Nat.reduceAdd, Nat.reduceEqDiff, Nat.reduceLeDiff, Nat.reduceSub, eqL, eq1]
    rfl
  · rintro s rfl
    simp (maxSteps := 2000000) (disch := (first | omega | (simp only [List.length_append, List.length_take, List.length_replicate, List.length_map, List.length_set, List.length_cons, List.length_nil, List.length_zipWith, List.length_drop, List.length_range]; first | done | omega))) only [go_sem, Nat.reduceAdd, Nat.reduceEqDiff, Nat.reduceLeDiff, Nat.reduceSub]
theorem impl_isTrans_ok (n : Net) (t : Int) (hn : n.tr.length < 2^62) : C f_impl_isTrans [encN n, I t] [] = some (.bool (inB 0 (n.tr.length - 1) t), []) := by
  refine C_impl_isTrans ?_
  simp (maxSteps := 2000000) (disch := (first | omega | (simp only [List.length_append, List.length_take, List.length_replicate, List.length_map, List.length_set, List.length_cons, List.length_nil, List.length_zipWith, List.length_drop, List.length_range]; first | done | omega))) only [ir_impl_isTrans, go_sem, Nat.reduceAdd, Nat.reduceEqDiff, Nat.reduceLeDiff, Nat.reduceSub]
  simp (maxSteps := 2000000) (disch := (first | omega | (simp only [List.length_append, List.length_take, List.length_replicate, List.length_map, List.length_set, List.length_cons, List.length_nil, List.length_zipWith, List.length_drop, List.length_range]; first | done | omega))) only [go_sem, Nat.reduceAdd, Nat.reduceEqDiff, Nat.reduceLeDiff, Nat.reduceSub, impl_within_ok]
  grind
theorem impl_checkedMark_t (m : List Int) (hm : m.length < 2^62) (h : m.all (inB 0 50) = true) : C f_impl_checkedMark [ints m] [] = some (.tup [ints m, .bool true], []) := by
  refine C_impl_checkedMark ?_
  simp (maxSteps := 2000000) (disch := (first | omega | (simp only [List.length_append, List.length_take, List.length_replicate, List.length_map, List.length_set, List.length_cons, List.length_nil, List.length_zipWith, List.length_drop, List.length_range]; first | done | omega))) only [ir_impl_checkedMark, go_sem, Nat.reduceAdd, Nat.reduceEqDiff, Nat.reduceLeDiff, Nat.reduceSub]
  simp (maxSteps := 2000000) (disch := (first | omega | (simp only [List.length_append, List.length_take, List.length_replicate, List.length_map, List.length_set, List.length_cons, List.length_nil, List.length_zipWith, List.length_drop, List.length_range]; first | done | omega))) only [go_sem, Nat.reduceAdd, Nat.reduceEqDiff, Nat.reduceLeDiff, Nat.reduceSub, impl_allWithin_ok m _ _ hm, h]
theorem impl_checkedMark_f (m : List Int) (hm : m.length < 2^62) (h : m.all (inB 0 50) = false) : C f_impl_checkedMark [ints m] [] = some (.tup [.un t_int true 1 [], .bool false], []) := by
  refine C_impl_checkedMark ?_
  simp (maxSteps := 2000000) (disch := (first | omega | (simp only [List.length_append, List.length_take, List.length_replicate, List.length_map, List.length_set, List.length_cons, List.length_nil, List.length_zipWith, List.length_drop, List.length_range]; first | done | omega))) only [ir_impl_checkedMark, go_sem, Nat.reduceAdd, Nat.reduceEqDiff, Nat.reduceLeDiff, Nat.reduceSub]
  simp (maxSteps := 2000000) (disch := (first | omega | (simp only [List.length_append, List.length_take, List.length_replicate, List.length_map, List.length_set, List.length_cons, List.length_nil, List.length_zipWith, List.length_drop, List.length_range]; first | done | omega))) only [go_sem, Nat.reduceAdd, Nat.reduceEqDiff, Nat.reduceLeDiff, Nat.reduceSub, impl_allWithin_ok m _ _ hm, h]
theorem impl_Fire_t (n : Net) (m : List Int) (t : Int) (hn : smN n) (hm : m.length < 2^62) (h : okFire n m t = true) : C f_impl_Fire [encN n, ints m, I t] [] = some (.tup [ints (firedM (trAt n t) m), .bool true], []) := by
  have h0 := hn.1
  obtain ⟨h1, h2⟩ := Bool.and_eq_true .. ▸ h
  obtain ⟨h3, h4, h5, h6, h7, h8⟩ := canN_parts h1
  have hx := goodT_lt h8 (goodM_len h4).2.2.1
  have hy := goodT_lens h8 (by have := goodN_parts h3; omega)
  have hm := (goodM_len h4).2.2.2
  have hz := firedM_len (trAt n t) m
  refine C_impl_Fire ?_
  simp (maxSteps := 2000000) (disch := (first | omega | (simp only [List.length_append, List.length_take, List.length_replicate, List.length_map, List.length_set, List.length_cons, List.length_nil, List.length_zipWith, List.length_drop, List.length_range]; first | done | omega))) only [ir_impl_Fire, go_sem, Nat.reduceAdd, Nat.reduceEqDiff, Nat.reduceLeDiff, Nat.reduceSub]
  simp (maxSteps := 2000000) (disch := (first | omega | (simp only [List.length_append, List.length_take, List.length_replicate, List.length_map, List.length_set, List.length_cons, List.length_nil, List.length_zipWith, List.length_drop, List.length_range]; first | done | omega))) only [go_sem, Nat.reduceAdd, Nat.reduceEqDiff, Nat.reduceLeDiff, Nat.reduceSub, impl_isMarked_ok n m hn (by omega), impl_isTrans_ok n t (by omega), trAt_eq, impl_isEnabled_ok (trAt n t) m hx.1 (by omega), (show marked n m = true by simp [marked, h3, h4]), (show inB 0 (n.tr.length - 1) t = true by simp [inB]; omega), h7,
    impl_fired_ok (trAt n t) m hx.1 hx.2.1 hx.2.2 ⟨by omega, by omega, by omega⟩ (by omega) hm.2, impl_checkedMark_t (firedM (trAt n t) m) (by omega) h2]
theorem impl_Fire_f (n : Net) (m : List Int) (t : Int) (hn : smN n) (hm : m.length < 2^62) (h : okFire n m t = false) : C f_impl_Fire [encN n, ints m, I t] [] = some (.tup [.un t_int true 1 [], .bool false], []) := by
  have h0 := hn.1
  refine C_impl_Fire ?_
  simp (maxSteps := 2000000) (disch := (first | omega | (simp only [List.length_append, List.length_take, List.length_replicate, List.length_map, List.length_set, List.length_cons, List.length_nil, List.length_zipWith, List.length_drop, List.length_range]; first | done | omega))) only [ir_impl_Fire, go_sem, Nat.reduceAdd, Nat.reduceEqDiff, Nat.reduceLeDiff, Nat.reduceSub]
  simp (maxSteps := 2000000) (disch := (first | omega | (simp only [List.length_append, List.length_take, List.length_replicate, List.length_map, List.length_set, List.length_cons, List.length_nil, List.length_zipWith, List.length_drop, List.length_range]; first | done | omega))) only [go_sem, Nat.reduceAdd, Nat.reduceEqDiff, Nat.reduceLeDiff, Nat.reduceSub, impl_isMarked_ok n m hn hm, impl_isTrans_ok n t (by omega)]
  intro h1 h2
  obtain ⟨h3, h4⟩ := marked_parts h1
  have h6 : 0 ≤ t ∧ t.toNat < n.tr.length := by simp [inB] at h2; omega
  have h8 := (goodN_parts h3).2.2.2 _ (List.getElem_mem h6.2)
  rw [trAt_eq h6.2] at h8
  have hx := goodT_lt h8 (goodM_len h4).2.2.1
  have hy := goodT_lens h8 (by have := goodN_parts h3; omega)
  have hm := (goodM_len h4).2.2.2
  have hz := firedM_len (trAt n t) m
  simp (maxSteps := 2000000) (disch := (first | omega | (simp only [List.length_append, List.length_take, List.length_replicate, List.length_map, List.length_set, List.length_cons, List.length_nil, List.length_zipWith, List.length_drop, List.length_range]; first | done | omega))) only [go_sem, Nat.reduceAdd, Nat.reduceEqDiff, Nat.reduceLeDiff, Nat.reduceSub, trAt_eq, impl_isEnabled_ok (trAt n t) m hx.1 (by omega)]
  intro h7
  have h9 : (firedM (trAt n t) m).all (inB 0 50) = false := by simpa [okFire, canN, h1, h2, h7] using h
  simp (maxSteps := 2000000) (disch := (first | omega | (simp only [List.length_append, List.length_take, List.length_replicate, List.length_map, List.length_set, List.length_cons, List.length_nil, List.length_zipWith, List.length_drop, List.length_range]; first | done | omega))) only [go_sem, Nat.reduceAdd, Nat.reduceEqDiff, Nat.reduceLeDiff, Nat.reduceSub, trAt_eq, impl_fired_ok (trAt n t) m hx.1 hx.2.1 hx.2.2 ⟨by omega, by omega, by omega⟩ (by omega) hm.2, impl_checkedMark_f (firedM (trAt n t) m) (by omega) h9]
theorem laws_numberOf_ok (l : List Int) (hl : l.length < 2^62) (hb : ∀ x ∈ l, 0 ≤ x ∧ x < 256) : Lw (C f_laws_numberOf [bys l] []) fun r => ∃ x : Int, r = (I x, []) ∧ 0 ≤ x ∧ x < 1000003 := by
  refine E_laws_numberOf ?_
  simp (maxSteps := 2000000) (disch := (first | omega | (simp only [List.length_append, List.length_take, List.length_replicate, List.length_map, List.length_set, List.length_cons, List.length_nil, List.length_zipWith, List.length_drop, List.length_range]; first | done | omega))) only [ir_laws_numberOf, go_sem, Nat.reduceAdd, Nat.reduceEqDiff, Nat.reduceLeDiff, Nat.reduceSub]
  refine W_for l.length (fun k s => ∃ x : Int, s = ⟨[.any, .any, I x, .any, bys l, I l.length, I k, .any], []⟩ ∧ 0 ≤ x ∧ x < 1000003) ?_ ?_ ?_
  · refine ⟨0, ?_, by omega, by omega⟩
    simp (maxSteps := 2000000) (disch := (first | omega | (simp only [List.length_append, List.length_take, List.length_replicate, List.length_map, List.length_set, List.length_cons, List.length_nil, List.length_zipWith, List.length_drop, List.length_range]; first | done | omega))) only [go_sem, Nat.reduceAdd, Nat.reduceEqDiff, Nat.reduceLeDiff, Nat.reduceSub]
    rfl
  · rintro k s hk ⟨x, rfl, h1, h2⟩
    have := hb _ (List.getElem_mem hk)
    simp (maxSteps := 2000000) (disch := (first | omega | (simp only [List.length_append, List.length_take, List.length_replicate, List.length_map, List.length_set, List.length_cons, List.length_nil, List.length_zipWith, List.length_drop, List.length_range]; first | done | omega))) only [go_sem, Nat.reduceAdd, Nat.reduceEqDiff, Nat.reduceLeDiff, Nat.reduceSub]
    exact ⟨_, rfl, Int.tmod_nonneg _ (by omega), Int.tmod_lt_of_pos _ (by omega)⟩
  · rintro s ⟨x, rfl, h1, h2⟩
    simp (maxSteps := 2000000) (disch := (first | omega | (simp only [List.length_append, List.length_take, List.length_replicate, List.length_map, List.length_set, List.length_cons, List.length_nil, List.length_zipWith, List.length_drop, List.length_range]; first | done | omega))) only [go_sem, Nat.reduceAdd, Nat.reduceEqDiff, Nat.reduceLeDiff, Nat.reduceSub]
    exact ⟨_, rfl, h1, h2⟩
theorem impl_Enabled_ok (n : Net) (m : List Int) (hn : smN n) (hm : m.length < 2^62) : C f_impl_Enabled [encN n, ints m] [] = some (.tup [.un t_int true 1 ((if marked n m then enabL n m else []).map I), .bool (marked n m)], []) := by
  refine C_impl_Enabled ?_
  simp (maxSteps := 2000000) (disch := (first | omega | (simp only [List.length_append, List.length_take, List.length_replicate, List.length_map, List.length_set, List.length_cons, List.length_nil, List.length_zipWith, List.length_drop, List.length_range]; first | done | omega))) only [ir_impl_Enabled, go_sem, Nat.reduceAdd, Nat.reduceEqDiff, Nat.reduceLeDiff, Nat.reduceSub]
  simp (maxSteps := 2000000) (disch := (first | omega | (simp only [List.length_append, List.length_take, List.length_replicate, List.length_map, List.length_set, List.length_cons, List.length_nil, List.length_zipWith, List.length_drop, List.length_range]; first | done | omega))) only [go_sem, Nat.reduceAdd, Nat.reduceEqDiff, Nat.reduceLeDiff, Nat.reduceSub, impl_isMarked_ok n m hn hm]
  refine ⟨fun h => ?_, fun h => by simp [h]⟩
  obtain ⟨h1, h2⟩ := marked_parts h
  simp (maxSteps := 2000000) (disch := (first | omega | (simp only [List.length_append, List.length_take, List.length_replicate, List.length_map, List.length_set, List.length_cons, List.length_nil, List.length_zipWith, List.length_drop, List.length_range]; first | done | omega))) only [go_sem, Nat.reduceAdd, Nat.reduceEqDiff, Nat.reduceLeDiff, Nat.reduceSub, impl_enabled_ok n m h1 (goodM_len h2).2.2.1, h]
theorem impl_wholeSpace_t (n : Net) (start : List Int) (b : Int) (hn : smN n) (hs : start.length < 2^62) (h : okEx n start b = true) (hc : (exAll n start b).code = 0) : C f_impl_wholeSpace [encN n, ints start, I b] [] = some (.tup [.agg [.un t_sl_int false 1 ((exAll n start b).sp.ms.map ints), arcPV (exAll n start b).sp.ar], .bool true], []) := by
  have hx := impl_Explore_ok n start b hn hs
  simp only [h, if_true] at hx
  generalize exAll n start b = R at *
  refine C_impl_wholeSpace ?_
  simp (maxSteps := 2000000) (disch := (first | omega | (simp only [List.length_append, List.length_take, List.length_replicate, List.length_map, List.length_set, List.length_cons, List.length_nil, List.length_zipWith, List.length_drop, List.length_range]; first | done | omega))) only [ir_impl_wholeSpace, go_sem, Nat.reduceAdd, Nat.reduceEqDiff, Nat.reduceLeDiff, Nat.reduceSub]
  by_cases ha : R.sp.ar = []
  · simp only [exPV, exCode, arcPV, hc, ha, if_true] at hx ⊢
    simp (maxSteps := 2000000) (disch := (first | omega | (simp only [List.length_append, List.length_take, List.length_replicate, List.length_map, List.length_set, List.length_cons, List.length_nil, List.length_zipWith, List.length_drop, List.length_range]; first | done | omega))) only [go_sem, Nat.reduceAdd, Nat.reduceEqDiff, Nat.reduceLeDiff, Nat.reduceSub, hx]
  · simp only [exPV, exCode, arcPV, hc, ha, if_true, if_false] at hx ⊢
    simp (maxSteps := 2000000) (disch := (first | omega | (simp only [List.length_append, List.length_take, List.length_replicate, List.length_map, List.length_set, List.length_cons, List.length_nil, List.length_zipWith, List.length_drop, List.length_range]; first | done | omega))) only [go_sem, Nat.reduceAdd, Nat.reduceEqDiff, Nat.reduceLeDiff, Nat.reduceSub, hx]
theorem impl_Space_wayTo_1_ok (a : Arc3) (p : Int) : C f_impl_Space_wayTo_1 [encA a, .pv (.agg [I p]) 0] [] = some (.bool (decide (a.dst = p)), []) := by
  refine C_impl_Space_wayTo_1 ?_
  simp (maxSteps := 2000000) (disch := (first | omega | (simp only [List.length_append, List.length_take, List.length_replicate, List.length_map, List.length_set, List.length_cons, List.length_nil, List.length_zipWith, List.length_drop, List.length_range]; first | done | omega))) only [ir_impl_Space_wayTo_1, go_sem, Nat.reduceAdd, Nat.reduceEqDiff, Nat.reduceLeDiff, Nat.reduceSub]
  grind
theorem slices_IndexFunc_sl_impl_Arc_impl_Arc_ok (l : List Arc3) (g : FuncId) (caps : List PV) (hc : refsL caps = []) (hcv : ∀ m h, viewLWith [] m h caps = some caps) (p : Arc3 → Bool) (hp : ∀ x ∈ l, C g (encA x :: caps) [] = some (.bool (p x), [])) (hl : l.length < 2^62) :
    C f_slices_IndexFunc_sl_impl_Arc_impl_Arc [.sl true 3 (l.map encA), .clo g caps] [] = some (I (idxI l p), []) := by
  refine C_slices_IndexFunc_sl_impl_Arc_impl_Arc ?_
  simp (maxSteps := 2000000) (disch := (first | omega | (simp only [List.length_append, List.length_take, List.length_replicate, List.length_map, List.length_set, List.length_cons, List.length_nil, List.length_zipWith, List.length_drop, List.length_range]; first | done | omega))) only [ir_slices_IndexFunc_sl_impl_Arc_impl_Arc, go_sem, Nat.reduceAdd, Nat.reduceEqDiff, Nat.reduceLeDiff, Nat.reduceSub]
  refine W_for l.length (fun k s => s = ⟨[.sl true 3 (l.map encA), .clo g caps, .any, .any, I l.length, I k, .any, .any], []⟩ ∧ (l.take k).any p = false) ?_ ?_ ?_
  · simp (maxSteps := 2000000) (disch := (first | omega | (simp only [List.length_append, List.length_take, List.length_replicate, List.length_map, List.length_set, List.length_cons, List.length_nil, List.length_zipWith, List.length_drop, List.length_range]; first | done | omega))) only [go_sem, Nat.reduceAdd, Nat.reduceEqDiff, Nat.reduceLeDiff, Nat.reduceSub, hc]
    rfl
  · rintro k s hk ⟨rfl, hall⟩
    simp (maxSteps := 2000000) (disch := (first | omega | (simp only [List.length_append, List.length_take, List.length_replicate, List.length_map, List.length_set, List.length_cons, List.length_nil, List.length_zipWith, List.length_drop, List.length_range]; first | done | omega))) only [go_sem, Nat.reduceAdd, Nat.reduceEqDiff, Nat.reduceLeDiff, Nat.reduceSub, hc, hcv, hp _ (List.getElem_mem hk)]
    exact ⟨fun h => by rw [idxI_some hk hall h], fun h => ⟨rfl, any_take hk hall h⟩⟩
  · rintro s ⟨rfl, hall⟩
    simp (maxSteps := 2000000) (disch := (first | omega | (simp only [List.length_append, List.length_take, List.length_replicate, List.length_map, List.length_set, List.length_cons, List.length_nil, List.length_zipWith, List.length_drop, List.length_range]; first | done | omega))) only [go_sem, Nat.reduceAdd, Nat.reduceEqDiff, Nat.reduceLeDiff, Nat.reduceSub]
    rw [List.take_length] at hall
    rw [idxI_none hall]
theorem slices_Reverse_sl_int_int_ok (l : List Int) (hl : l.length < 2^60) : C f_slices_Reverse_sl_int_int [.ref 0 1 0 l.length] [.row t_int true 1 (l.map I)] = some (.tup [], [.row t_int true 1 (l.reverse.map I)]) := by
  refine C_slices_Reverse_sl_int_int ?_
  simp (maxSteps := 2000000) (disch := (first | omega | (simp only [List.length_append, List.length_take, List.length_replicate, List.length_map, List.length_set, List.length_cons, List.length_nil, List.length_zipWith, List.length_drop, List.length_range]; first | done | omega))) only [ir_slices_Reverse_sl_int_int, go_sem, Nat.reduceAdd, Nat.reduceEqDiff, Nat.reduceLeDiff, Nat.reduceSub]
  refine W_down (fun k s => ∃ (i : Nat) (c : List Int), k + 2 * i = l.length + 1 ∧ revI l c i ∧ s = ⟨[.ref 0 1 0 l.length, I i, I (l.length - 1 - i : Int), .any], [.row t_int true 1 (c.map I)]⟩) (l.length + 1) ?_ ?_
  · refine ⟨0, l, by omega, revI_zero l, ?_⟩
    simp (maxSteps := 2000000) (disch := (first | omega | (simp only [List.length_append, List.length_take, List.length_replicate, List.length_map, List.length_set, List.length_cons, List.length_nil, List.length_zipWith, List.length_drop, List.length_range]; first | done | omega))) only [go_sem, Nat.reduceAdd, Nat.reduceEqDiff, Nat.reduceLeDiff, Nat.reduceSub]
    simp
  · rintro k s ⟨i, c, hk, hr, rfl⟩
    have hcl := hr.1
    by_cases hi : 2 * i + 1 < l.length
    · have e1 : ((l.length : Int) - 1 - i).toNat = l.length - 1 - i := by omega
      have hst := revI_step hr hi
      simp (maxSteps := 2000000) (disch := (first | omega | (simp only [List.length_append, List.length_take, List.length_replicate, List.length_map, List.length_set, List.length_cons, List.length_nil, List.length_zipWith, List.length_drop, List.length_range]; first | done | omega))) only [go_sem, Nat.reduceAdd, Nat.reduceEqDiff, Nat.reduceLeDiff, Nat.reduceSub, e1]
      refine ⟨k - 2, by omega, i + 1, _, by omega, hst, ?_⟩
      rw [show (l.length : Int) - 1 - ((i + 1 : Nat) : Int) = l.length - 1 - i - 1 by omega]
      rfl
    · have := revI_end hr (by omega)
      subst this
      simp (maxSteps := 2000000) (disch := (first | omega | (simp only [List.length_append, List.length_take, List.length_replicate, List.length_map, List.length_set, List.length_cons, List.length_nil, List.length_zipWith, List.length_drop, List.length_range]; first | done | omega))) only [go_sem, Nat.reduceAdd, Nat.reduceEqDiff, Nat.reduceLeDiff, Nat.reduceSub]
theorem impl_Space_wayTo_ok (n : Net) (start : List Int) (b : Int) (R : Ex) (hok : ExOk n start b R) (hb : b ≤ 400) (hal : R.sp.ar.length < 2^60) (K : Nat) (hK : K < R.sp.ms.length) : Lw (C f_impl_Space_wayTo [.agg [rows R.sp.ms, .sl true 3 (R.sp.ar.map encA)], ints (R.sp.ms.getD K [])] []) fun r => ∃ W : List Int, r = (.tup [.un t_int true 1 (W.map I), .bool true], []) ∧ pathOk n start W (R.sp.ms.getD K []) ∧ W.length ≤ 400 ∧ ∀ t ∈ W, inB 0 (n.tr.length - 1) t = true := by
  have hlb := hok.lenb
  have hxs : ∀ x ∈ R.sp.ms, x.length < 2^62 := fun x hx => by have := goodM_len (marked_parts (hok.good x hx)).2; omega
  have fd := impl_Space_find_ok R.sp.ms (R.sp.ar.map encA) (R.sp.ms.getD K []) (by omega) hxs
  rw [findM_at hok.nodup hK] at fd
  refine E_impl_Space_wayTo ?_
  simp (maxSteps := 2000000) (disch := (first | omega | (simp only [List.length_append, List.length_take, List.length_replicate, List.length_map, List.length_set, List.length_cons, List.length_nil, List.length_zipWith, List.length_drop, List.length_range]; first | done | omega))) only [ir_impl_Space_wayTo, go_sem, Nat.reduceAdd, Nat.reduceEqDiff, Nat.reduceLeDiff, Nat.reduceSub]
  simp (maxSteps := 2000000) (disch := (first | omega | (simp only [List.length_append, List.length_take, List.length_replicate, List.length_map, List.length_set, List.length_cons, List.length_nil, List.length_zipWith, List.length_drop, List.length_range]; first | done | omega))) only [go_sem, Nat.reduceAdd, Nat.reduceEqDiff, Nat.reduceLeDiff, Nat.reduceSub, fd]
  refine W_down (fun k s => ∃ (at' : Nat) (W : List Int), k = at' ∧ at' < R.sp.ms.length ∧ s = ⟨[.any, .any, .ptr 0 0, .any, .any, .ptr 1 0, .ref 2 1 0 W.length, .any, .any, .any], [.box t_impl_Space [rows R.sp.ms, .sl true 3 (R.sp.ar.map encA)], .box t_int [I at'], .row t_int true 1 (W.map I)]⟩ ∧ pathOk n (R.sp.ms.getD at' []) W.reverse (R.sp.ms.getD K []) ∧ W.length + at' ≤ 400 ∧ ∀ t ∈ W, inB 0 (n.tr.length - 1) t = true) K ?_ ?_
  · refine ⟨K, [], rfl, hK, ?_, pathOk_nil .., by simp; omega, by simp⟩
    simp (maxSteps := 2000000) (disch := (first | omega | (simp only [List.length_append, List.length_take, List.length_replicate, List.length_map, List.length_set, List.length_cons, List.length_nil, List.length_zipWith, List.length_drop, List.length_range]; first | done | omega))) only [go_sem, Nat.reduceAdd, Nat.reduceEqDiff, Nat.reduceLeDiff, Nat.reduceSub]
  · rintro k s ⟨at', W, rfl, hat, rfl, hp, hW, htr⟩
    by_cases h0 : 0 < k
    · obtain ⟨i, hi, a1, a2, a3, a4, a5⟩ := arcTo_back hok h0 hat
      have ix := slices_IndexFunc_sl_impl_Arc_impl_Arc_ok R.sp.ar f_impl_Space_wayTo_1 [.pv (.agg [I k]) 0] rfl (fun _ _ => rfl) (fun a => decide (a.dst = k)) (fun x _ => impl_Space_wayTo_1_ok x k) (by omega)
      rw [show idxI R.sp.ar (fun a => decide (a.dst = k)) = i from a1] at ix
      simp (maxSteps := 2000000) (disch := (first | omega | (simp only [List.length_append, List.length_take, List.length_replicate, List.length_map, List.length_set, List.length_cons, List.length_nil, List.length_zipWith, List.length_drop, List.length_range]; first | done | omega))) only [go_sem, Nat.reduceAdd, Nat.reduceEqDiff, Nat.reduceLeDiff, Nat.reduceSub, ix]
      have e2 : ((R.sp.ar[i].src.toNat : Nat) : Int) = R.sp.ar[i].src := by omega
      refine ⟨R.sp.ar[i].src.toNat, by omega, R.sp.ar[i].src.toNat, W ++ [R.sp.ar[i].by_], rfl, by omega, ?_, ?_, by simp only [List.length_append, List.length_cons, List.length_nil]; omega, fun t ht => ?_⟩
      · rw [e2, List.map_append]; simp
      · rw [List.reverse_append]
        show pathOk n _ (R.sp.ar[i].by_ :: W.reverse) _
        exact pathOk_cons a4 (by rw [← a5]; exact hp)
      · rcases List.mem_append.1 ht with ht | ht
        · exact htr t ht
        · simp only [List.mem_singleton] at ht
          subst ht; exact okFire_tr a4
    · have : k = 0 := by omega
      subst this
      have hs : R.sp.ms.getD 0 [] = start := by rw [List.getD_eq_getElem?_getD, hok.first]; rfl
      rw [hs] at hp
      have rv := slices_Reverse_sl_int_int_ok W (by omega)
      have hVl : W.length = W.reverse.length := by simp
      have hVm : ∀ t ∈ W.reverse, inB 0 (n.tr.length - 1) t = true := fun t ht => htr t (List.mem_reverse.1 ht)
      generalize W.reverse = V at *
      simp (maxSteps := 2000000) (disch := (first | omega | (simp only [List.length_append, List.length_take, List.length_replicate, List.length_map, List.length_set, List.length_cons, List.length_nil, List.length_zipWith, List.length_drop, List.length_range]; first | done | omega))) only [go_sem, Nat.reduceAdd, Nat.reduceEqDiff, Nat.reduceLeDiff, Nat.reduceSub, rv]
      exact ⟨V, rfl, hp, by omega, hVm⟩
theorem impl_WayTo_t (n : Net) (start : List Int) (b : Int) (hn : smN n) (hs : start.length < 2^62) (h : okEx n start b = true) (hc : (exAll n start b).code = 0) (hal : (exAll n start b).sp.ar.length < 2^60) (K : Nat) (hK : K < (exAll n start b).sp.ms.length) : Lw (C f_impl_WayTo [encN n, ints start, I b, ints ((exAll n start b).sp.ms.getD K [])] []) fun r => r = (.tup [.un t_int true 1 [], .bool false], []) ∨ ∃ W : List Int, r = (.tup [.un t_int true 1 (W.map I), .bool true], []) ∧ pathOk n start W ((exAll n start b).sp.ms.getD K []) ∧ W.length ≤ 60 ∧ ∀ t ∈ W, inB 0 (n.tr.length - 1) t = true := by
  have hx := impl_wholeSpace_t n start b hn hs h hc
  obtain ⟨h1, hb⟩ := okEx_parts h
  obtain ⟨f1, _⟩ := exAll_facts h1 hb.1
  generalize exAll n start b = R at *
  have hlb := f1.lenb
  have hgm := (marked_parts (f1.good _ (getD_mem hK))).2
  have hml := goodM_len hgm
  have hg := impl_GoodMark_ok n.pl (R.sp.ms.getD K []) (by omega)
  rw [hgm] at hg
  obtain ⟨_, hw, W, rfl, w1, w2, w3⟩ := impl_Space_wayTo_ok n start b R f1 hb.2 hal K hK
  refine E_impl_WayTo ?_
  simp (maxSteps := 2000000) (disch := (first | omega | (simp only [List.length_append, List.length_take, List.length_replicate, List.length_map, List.length_set, List.length_cons, List.length_nil, List.length_zipWith, List.length_drop, List.length_range]; first | done | omega))) only [ir_impl_WayTo, go_sem, Nat.reduceAdd, Nat.reduceEqDiff, Nat.reduceLeDiff, Nat.reduceSub]
  by_cases ha : R.sp.ar = []
  · simp only [arcPV, ha, if_true] at hx
    simp only [ha, List.map_nil] at hw
    simp (maxSteps := 2000000) (disch := (first | omega | (simp only [List.length_append, List.length_take, List.length_replicate, List.length_map, List.length_set, List.length_cons, List.length_nil, List.length_zipWith, List.length_drop, List.length_range]; first | done | omega))) only [go_sem, Nat.reduceAdd, Nat.reduceEqDiff, Nat.reduceLeDiff, Nat.reduceSub, hx, hg, hw]
    refine ⟨fun _ => .inl (by simp), fun _ => .inr ⟨W, by simp, w1, by omega, w3⟩⟩
  · simp only [arcPV, ha, if_false] at hx
    simp (maxSteps := 2000000) (disch := (first | omega | (simp only [List.length_append, List.length_take, List.length_replicate, List.length_map, List.length_set, List.length_cons, List.length_nil, List.length_zipWith, List.length_drop, List.length_range]; first | done | omega))) only [go_sem, Nat.reduceAdd, Nat.reduceEqDiff, Nat.reduceLeDiff, Nat.reduceSub, hx, hg, hw]
    refine ⟨fun _ => .inl (by simp), fun _ => .inr ⟨W, by simp, w1, by omega, w3⟩⟩
theorem impl_CanCome_t (n : Net) (start : List Int) (b : Int) (m : List Int) (hn : smN n) (hs : start.length < 2^62) (h : okEx n start b = true) (hc : (exAll n start b).code = 0) (hm : goodM n.pl m = true) : C f_impl_CanCome [encN n, ints start, I b, ints m] [] = some (.tup [.bool (decide (m ∈ (exAll n start b).sp.ms)), .bool true], []) := by
  have hx := impl_wholeSpace_t n start b hn hs h hc
  obtain ⟨h1, hb⟩ := okEx_parts h
  obtain ⟨f1, _⟩ := exAll_facts h1 hb.1
  generalize exAll n start b = R at *
  have hlb := f1.lenb
  have hxs : ∀ x ∈ R.sp.ms, x.length < 2^62 := fun x hx => by have := goodM_len (marked_parts (f1.good x hx)).2; omega
  have fd := fun A => impl_Space_find_ok R.sp.ms A m (by omega) hxs
  have e : decide (m ∈ R.sp.ms) = decide (0 ≤ findM R.sp.ms m) := by rw [decide_eq_decide]; exact findM_mem.symm
  have hml := goodM_len hm
  have hg := impl_GoodMark_ok n.pl m (by omega)
  rw [hm] at hg
  refine C_impl_CanCome ?_
  simp (maxSteps := 2000000) (disch := (first | omega | (simp only [List.length_append, List.length_take, List.length_replicate, List.length_map, List.length_set, List.length_cons, List.length_nil, List.length_zipWith, List.length_drop, List.length_range]; first | done | omega))) only [ir_impl_CanCome, go_sem, Nat.reduceAdd, Nat.reduceEqDiff, Nat.reduceLeDiff, Nat.reduceSub]
  by_cases ha : R.sp.ar = []
  · simp only [arcPV, ha, if_true] at hx
    simp (maxSteps := 2000000) (disch := (first | omega | (simp only [List.length_append, List.length_take, List.length_replicate, List.length_map, List.length_set, List.length_cons, List.length_nil, List.length_zipWith, List.length_drop, List.length_range]; first | done | omega))) only [go_sem, Nat.reduceAdd, Nat.reduceEqDiff, Nat.reduceLeDiff, Nat.reduceSub, hx, hg, fd]
    rw [e]; grind
  · simp only [arcPV, ha, if_false] at hx
    simp (maxSteps := 2000000) (disch := (first | omega | (simp only [List.length_append, List.length_take, List.length_replicate, List.length_map, List.length_set, List.length_cons, List.length_nil, List.length_zipWith, List.length_drop, List.length_range]; first | done | omega))) only [go_sem, Nat.reduceAdd, Nat.reduceEqDiff, Nat.reduceLeDiff, Nat.reduceSub, hx, hg, fd]
    rw [e]; grind
theorem laws_hasMark_ok (l : List (List Int)) (m : List Int) (hl : l.length < 2^62) (hx : ∀ x ∈ l, x.length < 2^62) : C f_laws_hasMark [rows l, ints m] [] = some (.bool (decide (m ∈ l)), []) := by
  refine C_laws_hasMark ?_
  simp (maxSteps := 2000000) (disch := (first | omega | (simp only [List.length_append, List.length_take, List.length_replicate, List.length_map, List.length_set, List.length_cons, List.length_nil, List.length_zipWith, List.length_drop, List.length_range]; first | done | omega))) only [ir_laws_hasMark, go_sem, Nat.reduceAdd, Nat.reduceEqDiff, Nat.reduceLeDiff, Nat.reduceSub]
  refine W_for l.length (fun k s => s = ⟨[.any, ints m, .any, .any, rows l, I l.length, I k, .any, .any], []⟩ ∧ (l.take k).any (fun x => decide (x = m)) = false) ?_ ?_ ?_
  · simp (maxSteps := 2000000) (disch := (first | omega | (simp only [List.length_append, List.length_take, List.length_replicate, List.length_map, List.length_set, List.length_cons, List.length_nil, List.length_zipWith, List.length_drop, List.length_range]; first | done | omega))) only [go_sem, Nat.reduceAdd, Nat.reduceEqDiff, Nat.reduceLeDiff, Nat.reduceSub]
    rfl
  · rintro k s hk ⟨rfl, hall⟩
    have hk2 := hx _ (List.getElem_mem hk)
    simp (maxSteps := 2000000) (disch := (first | omega | (simp only [List.length_append, List.length_take, List.length_replicate, List.length_map, List.length_set, List.length_cons, List.length_nil, List.length_zipWith, List.length_drop, List.length_range]; first | done | omega))) only [go_sem, Nat.reduceAdd, Nat.reduceEqDiff, Nat.reduceLeDiff, Nat.reduceSub, laws_sameInts_ok]
    refine ⟨fun h => ?_, fun h => ⟨rfl, any_take hk hall (decide_eq_false h)⟩⟩
    have : m ∈ l := by rw [← h]; exact List.getElem_mem hk
    simp [this]
  · rintro s ⟨rfl, hall⟩
    simp (maxSteps := 2000000) (disch := (first | omega | (simp only [List.length_append, List.length_take, List.length_replicate, List.length_map, List.length_set, List.length_cons, List.length_nil, List.length_zipWith, List.length_drop, List.length_range]; first | done | omega))) only [go_sem, Nat.reduceAdd, Nat.reduceEqDiff, Nat.reduceLeDiff, Nat.reduceSub]
    rw [List.take_length, List.any_eq_false] at hall
    have : ¬ m ∈ l := fun h => by simpa using hall m h
    simp [this]
theorem impl_areTrans_ok (n : Net) (l : List Int) (hn : n.tr.length < 2^62) (hl : l.length < 2^62) : C f_impl_areTrans [encN n, ints l] [] = some (.bool (areTr n l), []) := by
  refine C_impl_areTrans ?_
  simp (maxSteps := 2000000) (disch := (first | omega | (simp only [List.length_append, List.length_take, List.length_replicate, List.length_map, List.length_set, List.length_cons, List.length_nil, List.length_zipWith, List.length_drop, List.length_range]; first | done | omega))) only [ir_impl_areTrans, go_sem, Nat.reduceAdd, Nat.reduceEqDiff, Nat.reduceLeDiff, Nat.reduceSub]
  simp (maxSteps := 2000000) (disch := (first | omega | (simp only [List.length_append, List.length_take, List.length_replicate, List.length_map, List.length_set, List.length_cons, List.length_nil, List.length_zipWith, List.length_drop, List.length_range]; first | done | omega))) only [go_sem, Nat.reduceAdd, Nat.reduceEqDiff, Nat.reduceLeDiff, Nat.reduceSub, impl_allWithin_ok l _ _ hl]
  unfold areTr; grind
theorem impl_FireAll_ok (n : Net) (m l : List Int) (hn : smN n) (hm : m.length < 2^62) (hl : l.length < 2^62) : Lw (C f_impl_FireAll [encN n, ints m, ints l] []) fun r => ∃ X, r = (.tup [X, I (if okSeq n m l then many n m l else 0), .bool (okSeq n m l)], []) ∧ ((X = ints (if okSeq n m l then fsq n m (l.take (many n m l)) else []) ∧ okSeq n m l = true ∧ 0 < many n m l) ∨ (X = .un t_int true 1 ((if okSeq n m l then fsq n m (l.take (many n m l)) else []).map I) ∧ (okSeq n m l = true → many n m l = 0))) := by
  have h0 := hn.1
  refine E_impl_FireAll ?_
  simp (maxSteps := 2000000) (disch := (first | omega | (simp only [List.length_append, List.length_take, List.length_replicate, List.length_map, List.length_set, List.length_cons, List.length_nil, List.length_zipWith, List.length_drop, List.length_range]; first | done | omega))) only [ir_impl_FireAll, go_sem, Nat.reduceAdd, Nat.reduceEqDiff, Nat.reduceLeDiff, Nat.reduceSub]
  simp (maxSteps := 2000000) (disch := (first | omega | (simp only [List.length_append, List.length_take, List.length_replicate, List.length_map, List.length_set, List.length_cons, List.length_nil, List.length_zipWith, List.length_drop, List.length_range]; first | done | omega))) only [go_sem, Nat.reduceAdd, Nat.reduceEqDiff, Nat.reduceLeDiff, Nat.reduceSub, impl_isMarked_ok n m hn hm, impl_areTrans_ok n l (by omega) hl]
  cases h1 : marked n m with
  | false => simp [okSeq, h1]
  | true =>
    cases h2 : areTr n l with
    | false => simp [okSeq, h1, h2]
    | true =>
      have hok : okSeq n m l = true := by simp [okSeq, h1, h2]
      have h3 := (goodM_len (marked_parts h1).2).2.2.2.1
      simp only [go_sem, hok]
      simp (maxSteps := 2000000) (disch := (first | omega | (simp only [List.length_append, List.length_take, List.length_replicate, List.length_map, List.length_set, List.length_cons, List.length_nil, List.length_zipWith, List.length_drop, List.length_range]; first | done | omega))) only [go_sem, Nat.reduceAdd, Nat.reduceEqDiff, Nat.reduceLeDiff, Nat.reduceSub, slices_Clone_sl_int_int_ok]
      refine W_for l.length (fun k s => (∀ j, (hj : j < k) → (hjl : j < l.length) → okFire n (fsq n m (l.take j)) l[j] = true) ∧ ((s = ⟨[.any, .ref 0 1 0 m.length, ints l, .ptr 1 0, .any, .any, .any, .any, .any, .any, .any, .any, ints l, I l.length, I k, .any, .any], [.row t_int true 1 (m.map I), .box t_impl_Net [I n.pl, trs n.tr]]⟩ ∧ k = 0) ∨ s = ⟨[.any, ints (fsq n m (l.take k)), ints l, .ptr 0 0, .any, .any, .any, .any, .any, .any, .any, .any, ints l, I l.length, I k, .any, .any], [.box t_impl_Net [I n.pl, trs n.tr]]⟩ ∧ 0 < k)) ?_ ?_ ?_
      · refine ⟨fun j hj => by omega, .inl ⟨?_, rfl⟩⟩
        simp (maxSteps := 2000000) (disch := (first | omega | (simp only [List.length_append, List.length_take, List.length_replicate, List.length_map, List.length_set, List.length_cons, List.length_nil, List.length_zipWith, List.length_drop, List.length_range]; first | done | omega))) only [go_sem, Nat.reduceAdd, Nat.reduceEqDiff, Nat.reduceLeDiff, Nat.reduceSub]
        rfl
      · rintro k s hk ⟨hall, ⟨rfl, rfl⟩ | ⟨rfl, hk0⟩⟩
        · cases hf : okFire n m l[0] with
          | true =>
            simp (maxSteps := 2000000) (disch := (first | omega | (simp only [List.length_append, List.length_take, List.length_replicate, List.length_map, List.length_set, List.length_cons, List.length_nil, List.length_zipWith, List.length_drop, List.length_range]; first | done | omega))) only [go_sem, Nat.reduceAdd, Nat.reduceEqDiff, Nat.reduceLeDiff, Nat.reduceSub, impl_Fire_t n m l[0] hn hm hf]
            refine ⟨fun j hj hjl => ?_, ?_⟩
            · have : j = 0 := by omega
              subst this; simpa [fsq] using hf
            · rw [fsq_take hk, List.take_zero, fsq_nil]; exact ⟨rfl, by omega⟩
          | false =>
            have e : many n m l = 0 := many_eq (k := 0) (by omega) (fun j hj => by omega) (fun h => by simpa [fsq] using hf)
            simp (maxSteps := 2000000) (disch := (first | omega | (simp only [List.length_append, List.length_take, List.length_replicate, List.length_map, List.length_set, List.length_cons, List.length_nil, List.length_zipWith, List.length_drop, List.length_range]; first | done | omega))) only [go_sem, Nat.reduceAdd, Nat.reduceEqDiff, Nat.reduceLeDiff, Nat.reduceSub, impl_Fire_f n m l[0] hn hm hf]
            simp only [if_true, e, List.take_zero, fsq_nil]
            exact ⟨_, rfl, .inr ⟨rfl, trivial⟩⟩
        · have hlen := fsq_len n m (l.take k)
          cases hf : okFire n (fsq n m (l.take k)) l[k] with
          | true =>
            simp (maxSteps := 2000000) (disch := (first | omega | (simp only [List.length_append, List.length_take, List.length_replicate, List.length_map, List.length_set, List.length_cons, List.length_nil, List.length_zipWith, List.length_drop, List.length_range]; first | done | omega))) only [go_sem, Nat.reduceAdd, Nat.reduceEqDiff, Nat.reduceLeDiff, Nat.reduceSub, impl_Fire_t n (fsq n m (l.take k)) l[k] hn (by omega) hf]
            refine ⟨fun j hj hjl => ?_, ?_⟩
            · by_cases hjk : j < k
              · exact hall j hjk hjl
              · have : j = k := by omega
                subst this; exact hf
            · rw [fsq_take hk]; rfl
          | false =>
            have e : many n m l = k := many_eq (by omega) (fun j hj => hall j hj (by omega)) (fun h => hf)
            simp (maxSteps := 2000000) (disch := (first | omega | (simp only [List.length_append, List.length_take, List.length_replicate, List.length_map, List.length_set, List.length_cons, List.length_nil, List.length_zipWith, List.length_drop, List.length_range]; first | done | omega))) only [go_sem, Nat.reduceAdd, Nat.reduceEqDiff, Nat.reduceLeDiff, Nat.reduceSub, impl_Fire_f n (fsq n m (l.take k)) l[k] hn (by omega) hf]
            simp only [if_true, e]
            exact ⟨_, rfl, .inl ⟨rfl, hk0⟩⟩
      · rintro s ⟨hall, ⟨rfl, hk⟩ | ⟨rfl, hk0⟩⟩
        · have : l = [] := List.eq_nil_of_length_eq_zero hk
          subst this
          simp (maxSteps := 2000000) (disch := (first | omega | (simp only [List.length_append, List.length_take, List.length_replicate, List.length_map, List.length_set, List.length_cons, List.length_nil, List.length_zipWith, List.length_drop, List.length_range]; first | done | omega))) only [go_sem, Nat.reduceAdd, Nat.reduceEqDiff, Nat.reduceLeDiff, Nat.reduceSub]
          simp only [if_true, many, List.take_nil, fsq_nil]
          exact ⟨_, rfl, .inr ⟨rfl, trivial⟩⟩
        · have e : many n m l = l.length := many_eq (Nat.le_refl _) (fun j hj => hall j hj hj) (fun h => by omega)
          simp (maxSteps := 2000000) (disch := (first | omega | (simp only [List.length_append, List.length_take, List.length_replicate, List.length_map, List.length_set, List.length_cons, List.length_nil, List.length_zipWith, List.length_drop, List.length_range]; first | done | omega))) only [go_sem, Nat.reduceAdd, Nat.reduceEqDiff, Nat.reduceLeDiff, Nat.reduceSub]
          simp only [if_true, e, List.take_length]
          exact ⟨_, rfl, .inl ⟨rfl, hk0⟩⟩
theorem laws_FnSpace_ok (a b : List Int) (ha2 : ∀ x ∈ a, 0 ≤ x ∧ x < 256) (hb2 : ∀ x ∈ b, 0 ≤ x ∧ x < 256) : C f_laws_FnSpace [bys a, bys b] [] = some (.bool true, []) := by
  refine C_laws_FnSpace ?_
  simp (maxSteps := 2000000) (disch := (first | omega | (simp only [List.length_append, List.length_take, List.length_replicate, List.length_map, List.length_set, List.length_cons, List.length_nil, List.length_zipWith, List.length_drop, List.length_range]; first | done | omega))) only [ir_laws_FnSpace, go_sem, Nat.reduceAdd, Nat.reduceEqDiff, Nat.reduceLeDiff, Nat.reduceSub]
  simp (maxSteps := 2000000) (disch := (first | omega | (simp only [List.length_append, List.length_take, List.length_replicate, List.length_map, List.length_set, List.length_cons, List.length_nil, List.length_zipWith, List.length_drop, List.length_range]; first | done | omega))) only [go_sem, Nat.reduceAdd, Nat.reduceEqDiff, Nat.reduceLeDiff, Nat.reduceSub, laws_big_ok]
  intro hbig
  simp only [Bool.or_eq_false_iff, decide_eq_false_iff_not] at hbig
  obtain ⟨_, e1, n, start, bg, rfl, h1, h2, h3, h4⟩ := spec_DrawExplore_ok a (by omega) ha2
  have hsn := h1.smN
  obtain ⟨_, e5, w, rfl, h5, h6⟩ := laws_numberOf_ok b (by omega) hb2
  have i1 := impl_Explore_ok n start bg hsn (by omega)
  have i2 := spec_Explore_ok n start bg hsn (by omega)
  have s0 : C f_laws_sameSpace [.agg [.sl false 1 [], .sl true 3 []], .agg [.sl false 1 [], .sl true 3 []]] [] = some (.bool true, []) := laws_sameSpace_ok [] [] (by simp) (by simp) (by simp)
  cases hok : okEx n start bg with
  | false =>
    simp only [hok, Bool.false_eq_true, if_false] at i1 i2
    simp (maxSteps := 2000000) (disch := (first | omega | (simp only [List.length_append, List.length_take, List.length_replicate, List.length_map, List.length_set, List.length_cons, List.length_nil, List.length_zipWith, List.length_drop, List.length_range]; first | done | omega))) only [go_sem, Nat.reduceAdd, Nat.reduceEqDiff, Nat.reduceLeDiff, Nat.reduceSub, e1, i1, i2, s0]
  | true =>
    have hW := impl_WayTo_t n start bg hsn (by omega) hok
    have hC := impl_CanCome_t n start bg
    obtain ⟨h7, hb⟩ := okEx_parts hok
    obtain ⟨f1, f2⟩ := exAll_facts h7 hb.1
    simp only [hok, if_true] at i1 i2
    generalize hR : exAll n start bg = R at *
    by_cases hc : R.code = 0
    · have hcl := f2 hc
      have hlb := f1.lenb
      have hxs : ∀ x ∈ R.sp.ms, x.length < 2^62 := fun x hx => by have := goodM_len (marked_parts (f1.good x hx)).2; omega
      have hal0 := exAll_arcs (n := n) (start := start) (b := bg) (goodN_parts (marked_parts h7).1).2.2.1 hb.2
      rw [hR] at hal0
      have hal : R.sp.ar.length < 2^60 := by omega
      have ss := laws_sameSpace_ok R.sp.ms R.sp.ar (by omega) hxs (by omega)
      have hgn := (marked_parts h7).1
      have hpl := goodN_parts hgn
      by_cases ha : R.sp.ar = []
      · simp only [exPV, exCode, arcPV, hc, ha, if_true] at i1 i2
        simp only [ha, List.map_nil] at ss
        simp (maxSteps := 2000000) (disch := (first | omega | (simp only [List.length_append, List.length_take, List.length_replicate, List.length_map, List.length_set, List.length_cons, List.length_nil, List.length_zipWith, List.length_drop, List.length_range]; first | done | omega))) only [go_sem, Nat.reduceAdd, Nat.reduceEqDiff, Nat.reduceLeDiff, Nat.reduceSub, e1, i1, i2, ss]
        refine W_for 0 (fun k s => s = ⟨[.any, bys b, .any, .ptr 0 0, .ref 1 1 0 start.length, I bg, .ptr 2 0, .any, .any, .any, .any, .any, .any, .any, .any, .any, .any, .any, .any, .any, .any, .any, .any, .any, .any, .any, .any, .any, .any, .any, .any, .nil true 3, I 0, I k, .any, .any, .any, .any, .any, .any, .any, .any, .any], [.box t_impl_Net [I n.pl, .ref 3 3 0 n.tr.length], .fro true 1 (start.map I), .box t_impl_Space [.ref 4 1 0 R.sp.ms.length, .nil true 3], .fro false 3 (n.tr.map encT), .row t_sl_int false 1 (R.sp.ms.map ints)]⟩) ?_ ?_ ?_
        · simp (maxSteps := 2000000) (disch := (first | omega | (simp only [List.length_append, List.length_take, List.length_replicate, List.length_map, List.length_set, List.length_cons, List.length_nil, List.length_zipWith, List.length_drop, List.length_range]; first | done | omega))) only [go_sem, Nat.reduceAdd, Nat.reduceEqDiff, Nat.reduceLeDiff, Nat.reduceSub]
          rfl
        · intro k s hk; omega
        · rintro s rfl
          have hms : 0 < R.sp.ms.length := by
            have := f1.first
            rcases Nat.eq_zero_or_pos R.sp.ms.length with h | h
            · rw [List.length_eq_zero_iff.1 h] at this; simp at this
            · exact h
          obtain ⟨K, hKe⟩ : ∃ K : Nat, w.tmod R.sp.ms.length = K := ⟨(w.tmod R.sp.ms.length).toNat, by have := Int.tmod_nonneg (R.sp.ms.length : Int) h5; omega⟩
          have hK : K < R.sp.ms.length := by have := Int.tmod_lt_of_pos w (show (0 : Int) < R.sp.ms.length by omega); omega
          have hmk := f1.good _ (getD_mem hK)
          have en := impl_Enabled_ok n (R.sp.ms.getD K []) hsn (hxs _ (getD_mem hK))
          simp only [hmk, if_true] at en
          have hEl : (enabL n (R.sp.ms.getD K [])).length ≤ n.tr.length := enabK_len ..
          have hCC := hC (R.sp.ms.getD K []) hsn (by omega) hok hc (marked_parts hmk).2
          rw [decide_eq_true (getD_mem hK)] at hCC
          have hcl2 := hcl K hK hK
          obtain ⟨_, hWK, hWr⟩ := hW hc hal K hK
          have fire : ∀ t ∈ enabL n (R.sp.ms.getD K []), ∃ M, C f_impl_Fire [encN n, ints (R.sp.ms.getD K []), I t] [] = some (.tup [ints M, .bool true], []) ∧ C f_laws_hasMark [rows R.sp.ms, ints M] [] = some (.bool true, []) := by
            intro t ht
            obtain ⟨g1, g2⟩ := hcl2 t ht
            refine ⟨_, impl_Fire_t n _ t hsn (hxs _ (getD_mem hK)) (enab_fire hmk ht g1), ?_⟩
            have := laws_hasMark_ok R.sp.ms (firedM (trAt n t) (R.sp.ms.getD K [])) (by omega) hxs
            rwa [decide_eq_true g2] at this
          generalize hE : enabL n (R.sp.ms.getD K []) = E at *
          rcases hWr with rfl | ⟨W, rfl, w1, w2, w3⟩
          · simp (maxSteps := 2000000) (disch := (first | omega | (simp only [List.length_append, List.length_take, List.length_replicate, List.length_map, List.length_set, List.length_cons, List.length_nil, List.length_zipWith, List.length_drop, List.length_range]; first | done | omega))) only [go_sem, Nat.reduceAdd, Nat.reduceEqDiff, Nat.reduceLeDiff, Nat.reduceSub, e5, hKe, getD_ms, en, hWK, hCC]
            refine W_for E.length (fun k s => s = ⟨[.any, .any, .any, .ptr 0 0, .ref 1 1 0 start.length, .any, .ptr 2 0, .any, .any, .any, .any, .any, .any, .any, .any, I K, .any, .any, .ref 3 1 0 ([] : List Int).length, .bool false, .any, .any, .any, .any, .any, .any, .any, .any, .any, .any, .any, .any, .any, .any, .any, .any, .any, .ref 4 1 0 E.length, I E.length, I k, .any, .any, .any], [.box t_impl_Net [I n.pl, .ref 5 3 0 n.tr.length], .fro true 1 (start.map I), .box t_impl_Space [.ref 6 1 0 R.sp.ms.length, .nil true 3], .row t_int true 1 (([] : List Int).map I), .row t_int true 1 (E.map I), .fro false 3 (n.tr.map encT), .row t_sl_int false 1 (R.sp.ms.map ints)]⟩) ?_ ?_ ?_
            · simp (maxSteps := 2000000) (disch := (first | omega | (simp only [List.length_append, List.length_take, List.length_replicate, List.length_map, List.length_set, List.length_cons, List.length_nil, List.length_zipWith, List.length_drop, List.length_range]; first | done | omega))) only [go_sem, Nat.reduceAdd, Nat.reduceEqDiff, Nat.reduceLeDiff, Nat.reduceSub]
              rfl
            · rintro k s hk rfl
              obtain ⟨M, m1, m2⟩ := fire _ (List.getElem_mem hk)
              simp (maxSteps := 2000000) (disch := (first | omega | (simp only [List.length_append, List.length_take, List.length_replicate, List.length_map, List.length_set, List.length_cons, List.length_nil, List.length_zipWith, List.length_drop, List.length_range]; first | done | omega))) only [go_sem, Nat.reduceAdd, Nat.reduceEqDiff, Nat.reduceLeDiff, Nat.reduceSub, getD_ms, m1, m2]
              rfl
            · rintro s rfl
              simp (maxSteps := 2000000) (disch := (first | omega | (simp only [List.length_append, List.length_take, List.length_replicate, List.length_map, List.length_set, List.length_cons, List.length_nil, List.length_zipWith, List.length_drop, List.length_range]; first | done | omega))) only [go_sem, Nat.reduceAdd, Nat.reduceEqDiff, Nat.reduceLeDiff, Nat.reduceSub]
          · have hoks : okSeq n start W = true := by
              simp only [okSeq, h7, areTr, Bool.true_and, Bool.and_eq_true, decide_eq_true_eq, List.all_eq_true]
              exact ⟨w2, w3⟩
            obtain ⟨_, q1, X, rfl, hX⟩ := impl_FireAll_ok n start W hsn (by omega) (by omega)
            simp only [hoks, if_true, w1.1, List.take_length, w1.2] at q1 hX
            have hml := hxs _ (getD_mem hK)
            have sm := laws_sameInts_ok (R.sp.ms.getD K []) (R.sp.ms.getD K []) hml
            simp only [decide_true] at sm
            have hX2 : X = ints (R.sp.ms.getD K []) ∨ X = .un t_int true 1 ((R.sp.ms.getD K []).map I) := by
              rcases hX with ⟨h, _⟩ | ⟨h, _⟩
              · exact .inl h
              · exact .inr h
            simp (maxSteps := 2000000) (disch := (first | omega | (simp only [List.length_append, List.length_take, List.length_replicate, List.length_map, List.length_set, List.length_cons, List.length_nil, List.length_zipWith, List.length_drop, List.length_range]; first | done | omega))) only [go_sem, Nat.reduceAdd, Nat.reduceEqDiff, Nat.reduceLeDiff, Nat.reduceSub, e5, hKe, getD_ms, en, hWK, hCC]
            refine W_for E.length (fun k s => s = ⟨[.any, .any, .any, .ptr 0 0, .ref 1 1 0 start.length, .any, .ptr 2 0, .any, .any, .any, .any, .any, .any, .any, .any, I K, .any, .any, .ref 3 1 0 W.length, .bool true, .any, .any, .any, .any, .any, .any, .any, .any, .any, .any, .any, .any, .any, .any, .any, .any, .any, .ref 4 1 0 E.length, I E.length, I k, .any, .any, .any], [.box t_impl_Net [I n.pl, .ref 5 3 0 n.tr.length], .fro true 1 (start.map I), .box t_impl_Space [.ref 6 1 0 R.sp.ms.length, .nil true 3], .row t_int true 1 (W.map I), .row t_int true 1 (E.map I), .fro false 3 (n.tr.map encT), .row t_sl_int false 1 (R.sp.ms.map ints)]⟩) ?_ ?_ ?_
            · simp (maxSteps := 2000000) (disch := (first | omega | (simp only [List.length_append, List.length_take, List.length_replicate, List.length_map, List.length_set, List.length_cons, List.length_nil, List.length_zipWith, List.length_drop, List.length_range]; first | done | omega))) only [go_sem, Nat.reduceAdd, Nat.reduceEqDiff, Nat.reduceLeDiff, Nat.reduceSub]
              rfl
            · rintro k s hk rfl
              obtain ⟨M, m1, m2⟩ := fire _ (List.getElem_mem hk)
              simp (maxSteps := 2000000) (disch := (first | omega | (simp only [List.length_append, List.length_take, List.length_replicate, List.length_map, List.length_set, List.length_cons, List.length_nil, List.length_zipWith, List.length_drop, List.length_range]; first | done | omega))) only [go_sem, Nat.reduceAdd, Nat.reduceEqDiff, Nat.reduceLeDiff, Nat.reduceSub, getD_ms, m1, m2]
              rfl
            · rintro s rfl
              rcases hX2 with rfl | rfl
              · simp (maxSteps := 2000000) (disch := (first | omega | (simp only [List.length_append, List.length_take, List.length_replicate, List.length_map, List.length_set, List.length_cons, List.length_nil, List.length_zipWith, List.length_drop, List.length_range]; first | done | omega))) only [go_sem, Nat.reduceAdd, Nat.reduceEqDiff, Nat.reduceLeDiff, Nat.reduceSub, getD_ms, q1, sm]
              · simp (maxSteps := 2000000) (disch := (first | omega | (simp only [List.length_append, List.length_take, List.length_replicate, List.length_map, List.length_set, List.length_cons, List.length_nil, List.length_zipWith, List.length_drop, List.length_range]; first | done | omega))) only [go_sem, Nat.reduceAdd, Nat.reduceEqDiff, Nat.reduceLeDiff, Nat.reduceSub, getD_ms, q1, sm]
      · simp only [exPV, exCode, arcPV, hc, ha, if_true, if_false] at i1 i2
        simp (maxSteps := 2000000) (disch := (first | omega | (simp only [List.length_append, List.length_take, List.length_replicate, List.length_map, List.length_set, List.length_cons, List.length_nil, List.length_zipWith, List.length_drop, List.length_range]; first | done | omega))) only [go_sem, Nat.reduceAdd, Nat.reduceEqDiff, Nat.reduceLeDiff, Nat.reduceSub, e1, i1, i2, ss]
        refine W_for R.sp.ar.length (fun k s => s = ⟨[.any, bys b, .any, .ptr 0 0, .ref 1 1 0 start.length, I bg, .ptr 2 0, .any, .any, .any, .any, .any, .any, .any, .any, .any, .any, .any, .any, .any, .any, .any, .any, .any, .any, .any, .any, .any, .any, .any, .any, .ref 3 3 0 R.sp.ar.length, I R.sp.ar.length, I k, .any, .any, .any, .any, .any, .any, .any, .any, .any], [.box t_impl_Net [I n.pl, .ref 4 3 0 n.tr.length], .fro true 1 (start.map I), .box t_impl_Space [.ref 5 1 0 R.sp.ms.length, .ref 3 3 0 R.sp.ar.length], .row t_impl_Arc true 3 (R.sp.ar.map encA), .fro false 3 (n.tr.map encT), .row t_sl_int false 1 (R.sp.ms.map ints)]⟩) ?_ ?_ ?_
        · simp (maxSteps := 2000000) (disch := (first | omega | (simp only [List.length_append, List.length_take, List.length_replicate, List.length_map, List.length_set, List.length_cons, List.length_nil, List.length_zipWith, List.length_drop, List.length_range]; first | done | omega))) only [go_sem, Nat.reduceAdd, Nat.reduceEqDiff, Nat.reduceLeDiff, Nat.reduceSub]
          rfl
        · rintro k s hk rfl
          obtain ⟨g1, g2, g3, g4, g5, g6⟩ := f1.arcs _ (List.getElem_mem hk)
          have ff := impl_Fire_t n _ _ hsn (hxs _ (getD_mem g2)) g5
          rw [← g6] at ff
          have sm := laws_sameInts_ok (R.sp.ms.getD R.sp.ar[k].dst.toNat []) (R.sp.ms.getD R.sp.ar[k].dst.toNat []) (hxs _ (getD_mem g4))
          simp only [decide_true] at sm
          simp (maxSteps := 2000000) (disch := (first | omega | (simp only [List.length_append, List.length_take, List.length_replicate, List.length_map, List.length_set, List.length_cons, List.length_nil, List.length_zipWith, List.length_drop, List.length_range]; first | done | omega))) only [go_sem, Nat.reduceAdd, Nat.reduceEqDiff, Nat.reduceLeDiff, Nat.reduceSub, getD_ms, ff, sm]
          rfl
        · rintro s rfl
          have hms : 0 < R.sp.ms.length := by
            have := f1.first
            rcases Nat.eq_zero_or_pos R.sp.ms.length with h | h
            · rw [List.length_eq_zero_iff.1 h] at this; simp at this
            · exact h
          obtain ⟨K, hKe⟩ : ∃ K : Nat, w.tmod R.sp.ms.length = K := ⟨(w.tmod R.sp.ms.length).toNat, by have := Int.tmod_nonneg (R.sp.ms.length : Int) h5; omega⟩
          have hK : K < R.sp.ms.length := by have := Int.tmod_lt_of_pos w (show (0 : Int) < R.sp.ms.length by omega); omega
          have hmk := f1.good _ (getD_mem hK)
          have en := impl_Enabled_ok n (R.sp.ms.getD K []) hsn (hxs _ (getD_mem hK))
          simp only [hmk, if_true] at en
          have hEl : (enabL n (R.sp.ms.getD K [])).length ≤ n.tr.length := enabK_len ..
          have hCC := hC (R.sp.ms.getD K []) hsn (by omega) hok hc (marked_parts hmk).2
          rw [decide_eq_true (getD_mem hK)] at hCC
          have hcl2 := hcl K hK hK
          obtain ⟨_, hWK, hWr⟩ := hW hc hal K hK
          have fire : ∀ t ∈ enabL n (R.sp.ms.getD K []), ∃ M, C f_impl_Fire [encN n, ints (R.sp.ms.getD K []), I t] [] = some (.tup [ints M, .bool true], []) ∧ C f_laws_hasMark [rows R.sp.ms, ints M] [] = some (.bool true, []) := by
            intro t ht
            obtain ⟨g1, g2⟩ := hcl2 t ht
            refine ⟨_, impl_Fire_t n _ t hsn (hxs _ (getD_mem hK)) (enab_fire hmk ht g1), ?_⟩
            have := laws_hasMark_ok R.sp.ms (firedM (trAt n t) (R.sp.ms.getD K [])) (by omega) hxs
            rwa [decide_eq_true g2] at this
          generalize hE : enabL n (R.sp.ms.getD K []) = E at *
          rcases hWr with rfl | ⟨W, rfl, w1, w2, w3⟩
          · simp (maxSteps := 2000000) (disch := (first | omega | (simp only [List.length_append, List.length_take, List.length_replicate, List.length_map, List.length_set, List.length_cons, List.length_nil, List.length_zipWith, List.length_drop, List.length_range]; first | done | omega))) only [go_sem, Nat.reduceAdd, Nat.reduceEqDiff, Nat.reduceLeDiff, Nat.reduceSub, e5, hKe, getD_ms, en, hWK, hCC]
            refine W_for E.length (fun k s => s = ⟨[.any, .any, .any, .ptr 0 0, .ref 1 1 0 start.length, .any, .ptr 2 0, .any, .any, .any, .any, .any, .any, .any, .any, I K, .any, .any, .ref 3 1 0 ([] : List Int).length, .bool false, .any, .any, .any, .any, .any, .any, .any, .any, .any, .any, .any, .any, .any, .any, .any, .any, .any, .ref 4 1 0 E.length, I E.length, I k, .any, .any, .any], [.box t_impl_Net [I n.pl, .ref 5 3 0 n.tr.length], .fro true 1 (start.map I), .box t_impl_Space [.ref 6 1 0 R.sp.ms.length, .ref 7 3 0 R.sp.ar.length], .row t_int true 1 (([] : List Int).map I), .row t_int true 1 (E.map I), .fro false 3 (n.tr.map encT), .row t_sl_int false 1 (R.sp.ms.map ints), .row t_impl_Arc true 3 (R.sp.ar.map encA)]⟩) ?_ ?_ ?_
            · simp (maxSteps := 2000000) (disch := (first | omega | (simp only [List.length_append, List.length_take, List.length_replicate, List.length_map, List.length_set, List.length_cons, List.length_nil, List.length_zipWith, List.length_drop, List.length_range]; first | done | omega))) only [go_sem, Nat.reduceAdd, Nat.reduceEqDiff, Nat.reduceLeDiff, Nat.reduceSub]
              rfl
            · rintro k s hk rfl
              obtain ⟨M, m1, m2⟩ := fire _ (List.getElem_mem hk)
              simp (maxSteps := 2000000) (disch := (first | omega | (simp only [List.length_append, List.length_take, List.length_replicate, List.length_map, List.length_set, List.length_cons, List.length_nil, List.length_zipWith, List.length_drop, List.length_range]; first | done | omega))) only [go_sem, Nat.reduceAdd, Nat.reduceEqDiff, Nat.reduceLeDiff, Nat.reduceSub, getD_ms, m1, m2]
              rfl
            · rintro s rfl
              simp (maxSteps := 2000000) (disch := (first | omega | (simp only [List.length_append, List.length_take, List.length_replicate, List.length_map, List.length_set, List.length_cons, List.length_nil, List.length_zipWith, List.length_drop, List.length_range]; first | done | omega))) only [go_sem, Nat.reduceAdd, Nat.reduceEqDiff, Nat.reduceLeDiff, Nat.reduceSub]
          · have hoks : okSeq n start W = true := by
              simp only [okSeq, h7, areTr, Bool.true_and, Bool.and_eq_true, decide_eq_true_eq, List.all_eq_true]
              exact ⟨w2, w3⟩
            obtain ⟨_, q1, X, rfl, hX⟩ := impl_FireAll_ok n start W hsn (by omega) (by omega)
            simp only [hoks, if_true, w1.1, List.take_length, w1.2] at q1 hX
            have hml := hxs _ (getD_mem hK)
            have sm := laws_sameInts_ok (R.sp.ms.getD K []) (R.sp.ms.getD K []) hml
            simp only [decide_true] at sm
            have hX2 : X = ints (R.sp.ms.getD K []) ∨ X = .un t_int true 1 ((R.sp.ms.getD K []).map I) := by
              rcases hX with ⟨h, _⟩ | ⟨h, _⟩
              · exact .inl h
              · exact .inr h
            simp (maxSteps := 2000000) (disch := (first | omega | (simp only [List.length_append, List.length_take, List.length_replicate, List.length_map, List.length_set, List.length_cons, List.length_nil, List.length_zipWith, List.length_drop, List.length_range]; first | done | omega))) only [go_sem, Nat.reduceAdd, Nat.reduceEqDiff, Nat.reduceLeDiff, Nat.reduceSub, e5, hKe, getD_ms, en, hWK, hCC]
            refine W_for E.length (fun k s => s = ⟨[.any, .any, .any, .ptr 0 0, .ref 1 1 0 start.length, .any, .ptr 2 0, .any, .any, .any, .any, .any, .any, .any, .any, I K, .any, .any, .ref 3 1 0 W.length, .bool true, .any, .any, .any, .any, .any, .any, .any, .any, .any, .any, .any, .any, .any, .any, .any, .any, .any, .ref 4 1 0 E.length, I E.length, I k, .any, .any, .any], [.box t_impl_Net [I n.pl, .ref 5 3 0 n.tr.length], .fro true 1 (start.map I), .box t_impl_Space [.ref 6 1 0 R.sp.ms.length, .ref 7 3 0 R.sp.ar.length], .row t_int true 1 (W.map I), .row t_int true 1 (E.map I), .fro false 3 (n.tr.map encT), .row t_sl_int false 1 (R.sp.ms.map ints), .row t_impl_Arc true 3 (R.sp.ar.map encA)]⟩) ?_ ?_ ?_
            · simp (maxSteps := 2000000) (disch := (first | omega | (simp only [List.length_append, List.length_take, List.length_replicate, List.length_map, List.length_set, List.length_cons, List.length_nil, List.length_zipWith, List.length_drop, List.length_range]; first | done | omega))) only [go_sem, Nat.reduceAdd, Nat.reduceEqDiff, Nat.reduceLeDiff, Nat.reduceSub]
              rfl
            · rintro k s hk rfl
              obtain ⟨M, m1, m2⟩ := fire _ (List.getElem_mem hk)
              simp (maxSteps := 2000000) (disch := (first | omega | (simp only [List.length_append, List.length_take, List.length_replicate, List.length_map, List.length_set, List.length_cons, List.length_nil, List.length_zipWith, List.length_drop, List.length_range]; first | done | omega))) only [go_sem, Nat.reduceAdd, Nat.reduceEqDiff, Nat.reduceLeDiff, Nat.reduceSub, getD_ms, m1, m2]
              rfl
            · rintro s rfl
              rcases hX2 with rfl | rfl
              · simp (maxSteps := 2000000) (disch := (first | omega | (simp only [List.length_append, List.length_take, List.length_replicate, List.length_map, List.length_set, List.length_cons, List.length_nil, List.length_zipWith, List.length_drop, List.length_range]; first | done | omega))) only [go_sem, Nat.reduceAdd, Nat.reduceEqDiff, Nat.reduceLeDiff, Nat.reduceSub, getD_ms, q1, sm]
              · simp (maxSteps := 2000000) (disch := (first | omega | (simp only [List.length_append, List.length_take, List.length_replicate, List.length_map, List.length_set, List.length_cons, List.length_nil, List.length_zipWith, List.length_drop, List.length_range]; first | done | omega))) only [go_sem, Nat.reduceAdd, Nat.reduceEqDiff, Nat.reduceLeDiff, Nat.reduceSub, getD_ms, q1, sm]
    · simp only [exPV, exCode, hc, if_false] at i1 i2
      simp (maxSteps := 2000000) (disch := (first | omega | (simp only [List.length_append, List.length_take, List.length_replicate, List.length_map, List.length_set, List.length_cons, List.length_nil, List.length_zipWith, List.length_drop, List.length_range]; first | done | omega))) only [go_sem, Nat.reduceAdd, Nat.reduceEqDiff, Nat.reduceLeDiff, Nat.reduceSub, e1, i1, i2, s0]
      have := exAll_code n start bg
      rw [hR] at this
      intro h1; omega
end Go.Proofs.Ytngjepmopahgdaa.Pi
