/- The functions that the law reaches: what they answer. Conditions: those that each theorem names. -/
import Derived.Test.YtldlbpdbbbajfaaIrFnGuarded
import Derived.Test.YtldlbpdbbbajfaaPlBase
import Derived.Test.YtldlbpdbbbajfaaPlNet
import Derived.Test.YtldlbpdbbbajfaaPlFire
import Derived.Test.YtldlbpdbbbajfaaPlTurn
import Derived.Test.YtldlbpdbbbajfaaPlBack
import Derived.Test.YtldlbpdbbbajfaaPlFlow
import Derived.Test.YtldlbpdbbbajfaaPlMask
import Derived.Test.YtldlbpdbbbajfaaPlSiph
import Derived.Test.YtldlbpdbbbajfaaPlKept
import Derived.Test.YtldlbpdbbbajfaaPlBits
import Derived.Test.YtldlbpdbbbajfaaPlSpace
import Derived.Test.YtldlbpdbbbajfaaPlWay
import Derived.Test.YtldlbpdbbbajfaaPlGuard
import Derived.Test.YtldlbpdbbbajfaaFnFnGuarded0
namespace Go.Proofs.Ytldlbpdbbbajfaa.Pi
open Go
set_option linter.all false
set_option maxHeartbeats 40000000
set_option maxRecDepth 20000
theorem impl_Space_find_ok (ms : List (List Int)) (A : List PV) (m : List Int) (hl : ms.length < 2^62) (hx : ∀ x ∈ ms, x.length < 2^62) : C f_impl_Space_find [.agg [rows ms, .sl true 3 A], ints m] [] = some (I (findM ms m), []) := by
  have h := slices_IndexFunc_sl_sl_int_sl_int_ok ms f_impl_Space_find_1 [.pv (.agg [ints m]) 0] rfl (fun _ _ => rfl) (fun x => decide (x = m)) (fun x h => impl_Space_find_1_ok x m (hx x h)) hl
  refine C_impl_Space_find ?_
  simp (maxSteps := 2000000) (disch := (first | omega | (simp only [List.length_append, List.length_take, List.length_replicate, List.length_map, List.length_set, List.length_cons, List.length_nil, List.length_zipWith, List.length_drop, List.length_range]; first | done | omega))) only [ir_impl_Space_find, go_sem, Nat.reduceAdd, Nat.reduceEqDiff, Nat.reduceLeDiff, Nat.reduceSub]
  simp (maxSteps := 2000000) (disch := (first | omega | (simp only [List.length_append, List.length_take, List.length_replicate, List.length_map, List.length_set, List.length_cons, List.length_nil, List.length_zipWith, List.length_drop, List.length_range]; first | done | omega))) only [go_sem, Nat.reduceAdd, Nat.reduceEqDiff, Nat.reduceLeDiff, Nat.reduceSub, h]
  rfl
theorem impl_explore_ok (n : Net) (start : List Int) (b : Int) (hm : marked n start = true) (hb : 1 ≤ b ∧ b ≤ 400) : C f_impl_explore [encN n, ints start, I b] [] = some (.tup [exPV (exAll n start b), I (exCode (exAll n start b))], []) := by
  obtain ⟨hg, hmk⟩ := marked_parts hm
  have hn := goodN_parts hg
  have hs := goodM_len hmk
  refine C_impl_explore ?_
  simp (maxSteps := 2000000) (disch := (first | omega | (simp only [List.length_append, List.length_take, List.length_replicate, List.length_map, List.length_set, List.length_cons, List.length_nil, List.length_zipWith, List.length_drop, List.length_range]; first | done | omega))) only [ir_impl_explore, go_sem, Nat.reduceAdd, Nat.reduceEqDiff, Nat.reduceLeDiff, Nat.reduceSub]
  simp (maxSteps := 2000000) (disch := (first | omega | (simp only [List.length_append, List.length_take, List.length_replicate, List.length_map, List.length_set, List.length_cons, List.length_nil, List.length_zipWith, List.length_drop, List.length_range]; first | done | omega))) only [go_sem, Nat.reduceAdd, Nat.reduceEqDiff, Nat.reduceLeDiff, Nat.reduceSub, slices_Clone_sl_int_int_ok]
  generalize hR : exAll n start b = R
  refine W_down (fun d s => ∃ (k : Nat) (c : Ex), d + k = b.toNat + 1 ∧ ExOk n start b c ∧ c.code = 0 ∧ k ≤ c.sp.ms.length ∧ c.sp.ar.length ≤ 24 * k ∧ exRun n b (d + 1) k c = R ∧ ((s = ⟨[.any, .any, I b, .ptr 0 0, .ptr 1 0, .any, .ptr 2 0, I k, .any, .any, .any, .any, .any, .any, .any, .any, .any, .any, .any], [.box t_impl_Net [I n.pl, trs n.tr], .box t_impl_Space [.nil false 1, .nil true 3], .box t_impl_Space [.ref 3 1 0 c.sp.ms.length, .nil true 3], .row t_sl_int false 1 (c.sp.ms.map ints)]⟩ ∧ c.sp.ar = []) ∨ (s = ⟨[.any, .any, I b, .ptr 0 0, .ptr 1 0, .any, .ptr 2 0, I k, .any, .any, .any, .any, .any, .any, .any, .any, .any, .any, .any], [.box t_impl_Net [I n.pl, trs n.tr], .box t_impl_Space [.nil false 1, .nil true 3], .box t_impl_Space [.ref 3 1 0 c.sp.ms.length, .ref 4 3 0 c.sp.ar.length], .row t_sl_int false 1 (c.sp.ms.map ints), .row t_impl_Arc true 3 (c.sp.ar.map encA)]⟩ ∧ c.sp.ar ≠ []))) (b.toNat + 1) ?_ ?_
  · refine ⟨0, ⟨⟨[start], []⟩, 0⟩, by omega, exStart_ok hm hb.1, rfl, by omega, by simp, hR, .inl ⟨?_, rfl⟩⟩
    simp (maxSteps := 2000000) (disch := (first | omega | (simp only [List.length_append, List.length_take, List.length_replicate, List.length_map, List.length_set, List.length_cons, List.length_nil, List.length_zipWith, List.length_drop, List.length_range]; first | done | omega))) only [go_sem, Nat.reduceAdd, Nat.reduceEqDiff, Nat.reduceLeDiff, Nat.reduceSub]
    rfl
  · rintro d s ⟨k, c, hd, hok, hc0, hk, hal, hrun, hcs⟩
    have hlb := hok.lenb
    by_cases hkl : k < c.sp.ms.length
    · have hmem := getD_mem hkl
      have hmg := marked_parts (hok.good _ hmem)
      have hml := goodM_len hmg.2
      have en := impl_enabled_ok n (c.sp.ms.getD k []) hg hml.2.2.1
      have hLl : (enabL n (c.sp.ms.getD k [])).length ≤ n.tr.length := enabK_len ..
      have er : exRun n b (d + 1) k c = exRun n b d (k + 1) (exL n b k c (enabL n (c.sp.ms.getD k []))) := by
        show (if c.code ≠ 0 then c else if k < c.sp.ms.length then _ else c) = _
        rw [if_neg (by omega), if_pos hkl]
      rw [er] at hrun
      have hen : ∀ t ∈ enabL n (c.sp.ms.getD k []), t ∈ enabL n (c.sp.ms.getD k []) := fun t h => h
      generalize hL : enabL n (c.sp.ms.getD k []) = L at *
      rcases hcs with ⟨rfl, har⟩ | ⟨rfl, har⟩
      all_goals
        simp (maxSteps := 2000000) (disch := (first | omega | (simp only [List.length_append, List.length_take, List.length_replicate, List.length_map, List.length_set, List.length_cons, List.length_nil, List.length_zipWith, List.length_drop, List.length_range]; first | done | omega))) only [go_sem, Nat.reduceAdd, Nat.reduceEqDiff, Nat.reduceLeDiff, Nat.reduceSub, getD_ms, en]
        refine W_for L.length (fun j s => ∃ c' : Ex, ExOk n start b c' ∧ c'.code = 0 ∧ k < c'.sp.ms.length ∧ enabL n (c'.sp.ms.getD k []) = L ∧ c'.sp.ar.length ≤ 24 * k + j ∧ exRun n b d (k + 1) (exL n b k c' (L.drop j)) = R ∧ ((s = ⟨[.any, .any, I b, .ptr 0 0, .ptr 1 0, .any, .ptr 2 0, I k, .any, .any, .any, .any, .ref 3 1 0 L.length, I L.length, I j, .any, .any, .any, .any], [.box t_impl_Net [I n.pl, trs n.tr], .box t_impl_Space [.nil false 1, .nil true 3], .box t_impl_Space [.ref 4 1 0 c'.sp.ms.length, .nil true 3], .row t_int true 1 (L.map I), .row t_sl_int false 1 (c'.sp.ms.map ints)]⟩ ∧ c'.sp.ar = []) ∨ (s = ⟨[.any, .any, I b, .ptr 0 0, .ptr 1 0, .any, .ptr 2 0, I k, .any, .any, .any, .any, .ref 3 1 0 L.length, I L.length, I j, .any, .any, .any, .any], [.box t_impl_Net [I n.pl, trs n.tr], .box t_impl_Space [.nil false 1, .nil true 3], .box t_impl_Space [.ref 4 1 0 c'.sp.ms.length, .ref 5 3 0 c'.sp.ar.length], .row t_int true 1 (L.map I), .row t_sl_int false 1 (c'.sp.ms.map ints), .row t_impl_Arc true 3 (c'.sp.ar.map encA)]⟩ ∧ c'.sp.ar ≠ []))) ?_ ?_ ?_
        · refine ⟨c, hok, hc0, hkl, hL, by omega, hrun, ?_⟩
          first
          | refine .inl ⟨?_, har⟩
            simp (maxSteps := 2000000) (disch := (first | omega | (simp only [List.length_append, List.length_take, List.length_replicate, List.length_map, List.length_set, List.length_cons, List.length_nil, List.length_zipWith, List.length_drop, List.length_range]; first | done | omega))) only [go_sem, Nat.reduceAdd, Nat.reduceEqDiff, Nat.reduceLeDiff, Nat.reduceSub]
            done
          | refine .inl ⟨?_, har⟩
            simp (maxSteps := 2000000) (disch := (first | omega | (simp only [List.length_append, List.length_take, List.length_replicate, List.length_map, List.length_set, List.length_cons, List.length_nil, List.length_zipWith, List.length_drop, List.length_range]; first | done | omega))) only [go_sem, Nat.reduceAdd, Nat.reduceEqDiff, Nat.reduceLeDiff, Nat.reduceSub]
            rfl
          | refine .inr ⟨?_, har⟩
            simp (maxSteps := 2000000) (disch := (first | omega | (simp only [List.length_append, List.length_take, List.length_replicate, List.length_map, List.length_set, List.length_cons, List.length_nil, List.length_zipWith, List.length_drop, List.length_range]; first | done | omega))) only [go_sem, Nat.reduceAdd, Nat.reduceEqDiff, Nat.reduceLeDiff, Nat.reduceSub]
            done
          | refine .inr ⟨?_, har⟩
            simp (maxSteps := 2000000) (disch := (first | omega | (simp only [List.length_append, List.length_take, List.length_replicate, List.length_map, List.length_set, List.length_cons, List.length_nil, List.length_zipWith, List.length_drop, List.length_range]; first | done | omega))) only [go_sem, Nat.reduceAdd, Nat.reduceEqDiff, Nat.reduceLeDiff, Nat.reduceSub]
            rfl
        · rintro j s hj ⟨c', hok', hc0', hkl', hL', hal', hrun', hcs'⟩
          have hlb' := hok'.lenb
          have ht : L[j] ∈ enabL n (c'.sp.ms.getD k []) := by rw [hL']; exact List.getElem_mem hj
          obtain ⟨t1, t2, t3⟩ := enabL_mem.1 ht
          have hT := hn.2.2.2 (trAt n L[j]) (by rw [← trAt_eq t2]; exact List.getElem_mem _)
          have hm2 := goodM_len (marked_parts (hok'.good _ (getD_mem hkl'))).2
          have hx := goodT_lt hT hm2.2.2.1
          have hy := goodT_lens hT (by omega)
          have hfire := impl_fired_ok (trAt n L[j]) (c'.sp.ms.getD k []) hx.1 hx.2.1 hx.2.2 ⟨by omega, by omega, by omega⟩ (by omega) hm2.2.2.2.2
          have hMl := firedM_len (trAt n L[j]) (c'.sp.ms.getD k [])
          have hok2 := exStep_ok hok' hkl' ht
          have hxs : ∀ x ∈ c'.sp.ms, x.length < 2^62 := fun x hx => by have := goodM_len (marked_parts (hok'.good x hx)).2; omega
          rw [exL_drop hj] at hrun'
          have f1 := exStep_tok (n := n) (b := b) (k := k) (s := c') (t := L[j]) hc0'
          have f2 := exStep_old (n := n) (b := b) (k := k) (s := c') (t := L[j]) hc0'
          have f3 := exStep_full (n := n) (b := b) (k := k) (s := c') (t := L[j]) hc0'
          have f4 := exStep_new (n := n) (b := b) (k := k) (s := c') (t := L[j]) hc0'
          generalize hM : firedM (trAt n L[j]) (c'.sp.ms.getD k []) = M at *
          have ck : C f_impl_allWithin [ints M, I 0, I 50] [] = some (.bool (M.all (inB 0 50)), []) := impl_allWithin_ok M 0 50 (by omega)
          have fd := fun A => impl_Space_find_ok c'.sp.ms A M (by omega) hxs
          have hsl : ∀ c2 : Ex, c2.code ≠ 0 → exRun n b d (k + 1) (exL n b k c2 (L.drop (j + 1))) = c2 := fun c2 h => by rw [exL_stop h, exRun_stop h]
          cases ha : M.all (inB 0 50) with
          | false =>
            rw [f1 ha, hsl _ (by simp)] at hrun'
            subst hrun'
            rw [ha] at ck
            rcases hcs' with ⟨rfl, har'⟩ | ⟨rfl, har'⟩ <;> simp (maxSteps := 2000000) (disch := (first | omega | (simp only [List.length_append, List.length_take, List.length_replicate, List.length_map, List.length_set, List.length_cons, List.length_nil, List.length_zipWith, List.length_drop, List.length_range]; first | done | omega))) only [go_sem, Nat.reduceAdd, Nat.reduceEqDiff, Nat.reduceLeDiff, Nat.reduceSub, getD_ms, trAt_eq, hfire, ck, exPV, exCode]
          | true =>
            rw [ha] at ck
            by_cases h2 : 0 ≤ findM c'.sp.ms M
            · rw [f2 ha h2] at hrun' hok2
              rcases hcs' with ⟨rfl, har'⟩ | ⟨rfl, har'⟩
              · simp (maxSteps := 2000000) (disch := (first | omega | (simp only [List.length_append, List.length_take, List.length_replicate, List.length_map, List.length_set, List.length_cons, List.length_nil, List.length_zipWith, List.length_drop, List.length_range]; first | done | omega))) only [go_sem, Nat.reduceAdd, Nat.reduceEqDiff, Nat.reduceLeDiff, Nat.reduceSub, getD_ms, trAt_eq, hfire, ck, fd]
                refine ⟨_, hok2, rfl, hkl', hL', by simp only [List.length_append, List.length_cons, List.length_nil]; omega, hrun', .inr ⟨?_, by simp⟩⟩
                simp [har']
              · simp (maxSteps := 2000000) (disch := (first | omega | (simp only [List.length_append, List.length_take, List.length_replicate, List.length_map, List.length_set, List.length_cons, List.length_nil, List.length_zipWith, List.length_drop, List.length_range]; first | done | omega))) only [go_sem, Nat.reduceAdd, Nat.reduceEqDiff, Nat.reduceLeDiff, Nat.reduceSub, getD_ms, trAt_eq, hfire, ck, fd]
                refine ⟨_, hok2, rfl, hkl', hL', by simp only [List.length_append, List.length_cons, List.length_nil]; omega, hrun', .inr ⟨?_, by simp⟩⟩
                simp
            · by_cases h3 : b ≤ c'.sp.ms.length
              · rw [f3 ha h2 h3, hsl _ (by simp)] at hrun'
                subst hrun'
                rcases hcs' with ⟨rfl, har'⟩ | ⟨rfl, har'⟩ <;> simp (maxSteps := 2000000) (disch := (first | omega | (simp only [List.length_append, List.length_take, List.length_replicate, List.length_map, List.length_set, List.length_cons, List.length_nil, List.length_zipWith, List.length_drop, List.length_range]; first | done | omega))) only [go_sem, Nat.reduceAdd, Nat.reduceEqDiff, Nat.reduceLeDiff, Nat.reduceSub, getD_ms, trAt_eq, hfire, ck, fd, exPV, exCode]
              · rw [f4 ha h2 h3] at hrun' hok2
                rcases hcs' with ⟨rfl, har'⟩ | ⟨rfl, har'⟩
                · simp (maxSteps := 2000000) (disch := (first | omega | (simp only [List.length_append, List.length_take, List.length_replicate, List.length_map, List.length_set, List.length_cons, List.length_nil, List.length_zipWith, List.length_drop, List.length_range]; first | done | omega))) only [go_sem, Nat.reduceAdd, Nat.reduceEqDiff, Nat.reduceLeDiff, Nat.reduceSub, getD_ms, trAt_eq, hfire, ck, fd]
                  refine ⟨_, hok2, rfl, by simp only [List.length_append]; omega, by simp only; rw [getD_app hkl']; exact hL', by simp only [List.length_append, List.length_cons, List.length_nil]; omega, hrun', .inr ⟨?_, by simp⟩⟩
                  simp [har']
                · simp (maxSteps := 2000000) (disch := (first | omega | (simp only [List.length_append, List.length_take, List.length_replicate, List.length_map, List.length_set, List.length_cons, List.length_nil, List.length_zipWith, List.length_drop, List.length_range]; first | done | omega))) only [go_sem, Nat.reduceAdd, Nat.reduceEqDiff, Nat.reduceLeDiff, Nat.reduceSub, getD_ms, trAt_eq, hfire, ck, fd]
                  refine ⟨_, hok2, rfl, by simp only [List.length_append]; omega, by simp only; rw [getD_app hkl']; exact hL', by simp only [List.length_append, List.length_cons, List.length_nil]; omega, hrun', .inr ⟨?_, by simp⟩⟩
                  simp
        · rintro s ⟨c', hok', hc0', hkl', hL', hal', hrun', hcs'⟩
          rw [List.drop_length] at hrun'
          have hlb' := hok'.lenb
          rcases hcs' with ⟨rfl, har'⟩ | ⟨rfl, har'⟩
          · simp (maxSteps := 2000000) (disch := (first | omega | (simp only [List.length_append, List.length_take, List.length_replicate, List.length_map, List.length_set, List.length_cons, List.length_nil, List.length_zipWith, List.length_drop, List.length_range]; first | done | omega))) only [go_sem, Nat.reduceAdd, Nat.reduceEqDiff, Nat.reduceLeDiff, Nat.reduceSub]
            refine ⟨d - 1, by omega, k + 1, c', by omega, hok', hc0', by omega, by omega, by rw [show d - 1 + 1 = d by omega]; exact hrun', .inl ⟨rfl, har'⟩⟩
          · simp (maxSteps := 2000000) (disch := (first | omega | (simp only [List.length_append, List.length_take, List.length_replicate, List.length_map, List.length_set, List.length_cons, List.length_nil, List.length_zipWith, List.length_drop, List.length_range]; first | done | omega))) only [go_sem, Nat.reduceAdd, Nat.reduceEqDiff, Nat.reduceLeDiff, Nat.reduceSub]
            refine ⟨d - 1, by omega, k + 1, c', by omega, hok', hc0', by omega, by omega, by rw [show d - 1 + 1 = d by omega]; exact hrun', .inr ⟨rfl, har'⟩⟩
    · have er : exRun n b (d + 1) k c = c := by
        show (if c.code ≠ 0 then c else if k < c.sp.ms.length then _ else c) = _
        rw [if_neg (by omega), if_neg hkl]
      rw [er] at hrun
      subst hrun
      rcases hcs with ⟨rfl, har⟩ | ⟨rfl, har⟩
      · simp (maxSteps := 2000000) (disch := (first | omega | (simp only [List.length_append, List.length_take, List.length_replicate, List.length_map, List.length_set, List.length_cons, List.length_nil, List.length_zipWith, List.length_drop, List.length_range]; first | done | omega))) only [go_sem, Nat.reduceAdd, Nat.reduceEqDiff, Nat.reduceLeDiff, Nat.reduceSub]
        simp [exPV, exCode, hc0, arcPV, har]
      · simp (maxSteps := 2000000) (disch := (first | omega | (simp only [List.length_append, List.length_take, List.length_replicate, List.length_map, List.length_set, List.length_cons, List.length_nil, List.length_zipWith, List.length_drop, List.length_range]; first | done | omega))) only [go_sem, Nat.reduceAdd, Nat.reduceEqDiff, Nat.reduceLeDiff, Nat.reduceSub]
        simp [exPV, exCode, hc0, arcPV, har]
theorem impl_Explore_ok (n : Net) (start : List Int) (b : Int) (hn : smN n) (hs : start.length < 2^62) : C f_impl_Explore [encN n, ints start, I b] [] = some (.tup [if okEx n start b then exPV (exAll n start b) else .agg [.nil false 1, .nil true 3], I (if okEx n start b then exCode (exAll n start b) else 0), .bool (okEx n start b)], []) := by
  refine C_impl_Explore ?_
  simp (maxSteps := 2000000) (disch := (first | omega | (simp only [List.length_append, List.length_take, List.length_replicate, List.length_map, List.length_set, List.length_cons, List.length_nil, List.length_zipWith, List.length_drop, List.length_range]; first | done | omega))) only [ir_impl_Explore, go_sem, Nat.reduceAdd, Nat.reduceEqDiff, Nat.reduceLeDiff, Nat.reduceSub]
  simp (maxSteps := 2000000) (disch := (first | omega | (simp only [List.length_append, List.length_take, List.length_replicate, List.length_map, List.length_set, List.length_cons, List.length_nil, List.length_zipWith, List.length_drop, List.length_range]; first | done | omega))) only [go_sem, Nat.reduceAdd, Nat.reduceEqDiff, Nat.reduceLeDiff, Nat.reduceSub, impl_isMarked_ok n start hn hs, impl_within_ok]
  cases h1 : marked n start with
  | false => simp [okEx, h1]
  | true =>
    cases h2 : inB 1 400 b with
    | false => simp [okEx, h1, h2]
    | true =>
      have hok : okEx n start b = true := by simp [okEx, h1, h2]
      obtain ⟨_, hb⟩ := okEx_parts hok
      have hx := impl_explore_ok n start b h1 hb
      generalize exAll n start b = R at *
      by_cases hc : R.code = 0
      · by_cases ha : R.sp.ar = []
        · simp only [exPV, exCode, arcPV, hc, ha, if_true] at hx ⊢
          simp (maxSteps := 2000000) (disch := (first | omega | (simp only [List.length_append, List.length_take, List.length_replicate, List.length_map, List.length_set, List.length_cons, List.length_nil, List.length_zipWith, List.length_drop, List.length_range]; first | done | omega))) only [go_sem, Nat.reduceAdd, Nat.reduceEqDiff, Nat.reduceLeDiff, Nat.reduceSub, hx, hok]
        · simp only [exPV, exCode, arcPV, hc, ha, if_true, if_false] at hx ⊢
          simp (maxSteps := 2000000) (disch := (first | omega | (simp only [List.length_append, List.length_take, List.length_replicate, List.length_map, List.length_set, List.length_cons, List.length_nil, List.length_zipWith, List.length_drop, List.length_range]; first | done | omega))) only [go_sem, Nat.reduceAdd, Nat.reduceEqDiff, Nat.reduceLeDiff, Nat.reduceSub, hx, hok]
      · simp only [exPV, exCode, hc, if_false] at hx ⊢
        simp (maxSteps := 2000000) (disch := (first | omega | (simp only [List.length_append, List.length_take, List.length_replicate, List.length_map, List.length_set, List.length_cons, List.length_nil, List.length_zipWith, List.length_drop, List.length_range]; first | done | omega))) only [go_sem, Nat.reduceAdd, Nat.reduceEqDiff, Nat.reduceLeDiff, Nat.reduceSub, hx, hok]
theorem impl_wholeSpace_t (n : Net) (start : List Int) (b : Int) (hn : smN n) (hs : start.length < 2^62) (h : okEx n start b = true) (hc : (exAll n start b).code = 0) : C f_impl_wholeSpace [encN n, ints start, I b] [] = some (.tup [.agg [.un t_sl_int false 1 ((exAll n start b).sp.ms.map ints), arcPV (exAll n start b).sp.ar], .bool true], []) := by
  have hx := impl_Explore_ok n start b hn hs
  simp only [h, if_true] at hx
  generalize exAll n start b = R at *
  refine C_impl_wholeSpace ?_
  simp (maxSteps := 2000000) (disch := (first | omega | (simp only [List.length_append, List.length_take, List.length_replicate, List.length_map, List.length_set, List.length_cons, List.length_nil, List.length_zipWith, List.length_drop, List.length_range]; first | done | omega))) only [ir_impl_wholeSpace, go_sem, Nat.reduceAdd, Nat.reduceEqDiff, Nat.reduceLeDiff, Nat.reduceSub]
  by_cases ha : R.sp.ar = []
  · simp only [exPV, exCode, arcPV, hc, ha, if_true] at hx ⊢
    simp (maxSteps := 2000000) (disch := (first | omega | (simp only [List.length_append, List.length_take, List.length_replicate, List.length_map, List.length_set, List.length_cons, List.length_nil, List.length_zipWith, List.length_drop, List.length_range]; first | done | omega))) only [go_sem, Nat.reduceAdd, Nat.reduceEqDiff, Nat.reduceLeDiff, Nat.reduceSub, hx]
  · simp only [exPV, exCode, arcPV, hc, ha, if_true, if_false] at hx ⊢
    simp (maxSteps := 2000000) (disch := (first | omega | (simp only [List.length_append, List.length_take, List.length_replicate, List.length_map, List.length_set, List.length_cons, List.length_nil, List.length_zipWith, List.length_drop, List.length_range]; first | done | omega))) only [go_sem, Nat.reduceAdd, Nat.reduceEqDiff, Nat.reduceLeDiff, Nat.reduceSub, hx]
theorem impl_wholeSpace_f (n : Net) (start : List Int) (b : Int) (hn : smN n) (hs : start.length < 2^62) (h : okEx n start b = true) (hc : (exAll n start b).code ≠ 0) : C f_impl_wholeSpace [encN n, ints start, I b] [] = some (.tup [.agg [.nil false 1, .nil true 3], .bool false], []) := by
  have hx := impl_Explore_ok n start b hn hs
  have hcd := exAll_code n start b
  simp only [h, if_true] at hx
  generalize exAll n start b = R at *
  have h1 : R.code ≠ 1 := by omega
  refine C_impl_wholeSpace ?_
  simp (maxSteps := 2000000) (disch := (first | omega | (simp only [List.length_append, List.length_take, List.length_replicate, List.length_map, List.length_set, List.length_cons, List.length_nil, List.length_zipWith, List.length_drop, List.length_range]; first | done | omega))) only [ir_impl_wholeSpace, go_sem, Nat.reduceAdd, Nat.reduceEqDiff, Nat.reduceLeDiff, Nat.reduceSub]
  simp only [exPV, exCode, hc, if_false] at hx ⊢
  simp (maxSteps := 2000000) (disch := (first | omega | (simp only [List.length_append, List.length_take, List.length_replicate, List.length_map, List.length_set, List.length_cons, List.length_nil, List.length_zipWith, List.length_drop, List.length_range]; first | done | omega))) only [go_sem, Nat.reduceAdd, Nat.reduceEqDiff, Nat.reduceLeDiff, Nat.reduceSub, hx, h1]
theorem impl_FirstDead_no (n : Net) (start : List Int) (b : Int) (hn : smN n) (hs : start.length < 2^62) (h : okEx n start b = true) (hl : ∀ m ∈ (exAll n start b).sp.ms, enabL n m ≠ []) : C f_impl_FirstDead [encN n, ints start, I b] [] = some (.tup [.un t_int true 1 [], .bool false], []) := by
  by_cases hc : (exAll n start b).code = 0
  · have hx := impl_wholeSpace_t n start b hn hs h hc
    obtain ⟨h1, hb⟩ := okEx_parts h
    obtain ⟨f1, _⟩ := exAll_facts h1 hb.1
    generalize exAll n start b = R at *
    have hlb := f1.lenb
    have hgn := (marked_parts h1).1
    have hxs : ∀ x ∈ R.sp.ms, (x.length : Int) = n.pl := fun x hx => by have := goodM_len (marked_parts (f1.good x hx)).2; omega
    by_cases ha : R.sp.ar = []
    · simp only [arcPV, ha, if_true] at hx
      refine C_impl_FirstDead ?_
      simp (maxSteps := 2000000) (disch := (first | omega | (simp only [List.length_append, List.length_take, List.length_replicate, List.length_map, List.length_set, List.length_cons, List.length_nil, List.length_zipWith, List.length_drop, List.length_range]; first | done | omega))) only [ir_impl_FirstDead, go_sem, Nat.reduceAdd, Nat.reduceEqDiff, Nat.reduceLeDiff, Nat.reduceSub]
      simp (maxSteps := 2000000) (disch := (first | omega | (simp only [List.length_append, List.length_take, List.length_replicate, List.length_map, List.length_set, List.length_cons, List.length_nil, List.length_zipWith, List.length_drop, List.length_range]; first | done | omega))) only [go_sem, Nat.reduceAdd, Nat.reduceEqDiff, Nat.reduceLeDiff, Nat.reduceSub, hx]
      refine W_for R.sp.ms.length (fun k s => s = ⟨[.any, .any, .any, .ptr 0 0, .any, .any, .any, .any, .any, .any, .ref 1 1 0 R.sp.ms.length, I R.sp.ms.length, I k, .any, .any], [.box t_impl_Net [I n.pl, trs n.tr], .row t_sl_int false 1 (R.sp.ms.map ints)]⟩) ?_ ?_ ?_
      · simp (maxSteps := 2000000) (disch := (first | omega | (simp only [List.length_append, List.length_take, List.length_replicate, List.length_map, List.length_set, List.length_cons, List.length_nil, List.length_zipWith, List.length_drop, List.length_range]; first | done | omega))) only [go_sem, Nat.reduceAdd, Nat.reduceEqDiff, Nat.reduceLeDiff, Nat.reduceSub]
        rfl
      · rintro k s hk rfl
        have hm := List.getElem_mem hk
        have en := impl_enabled_ok n R.sp.ms[k] hgn (hxs _ hm)
        have hne := List.length_pos_iff.2 (hl _ hm)
        have hE : (enabL n R.sp.ms[k]).length ≤ n.tr.length := enabK_len ..
        have hn0 := hn.1
        have hne2 : (enabL n R.sp.ms[k]).length ≠ 0 := by omega
        simp (maxSteps := 2000000) (disch := (first | omega | (simp only [List.length_append, List.length_take, List.length_replicate, List.length_map, List.length_set, List.length_cons, List.length_nil, List.length_zipWith, List.length_drop, List.length_range]; first | done | omega))) only [go_sem, Nat.reduceAdd, Nat.reduceEqDiff, Nat.reduceLeDiff, Nat.reduceSub, en, hne2]
        try rfl
      · rintro s rfl
        simp (maxSteps := 2000000) (disch := (first | omega | (simp only [List.length_append, List.length_take, List.length_replicate, List.length_map, List.length_set, List.length_cons, List.length_nil, List.length_zipWith, List.length_drop, List.length_range]; first | done | omega))) only [go_sem, Nat.reduceAdd, Nat.reduceEqDiff, Nat.reduceLeDiff, Nat.reduceSub]
    · simp only [arcPV, ha, if_false] at hx
      refine C_impl_FirstDead ?_
      simp (maxSteps := 2000000) (disch := (first | omega | (simp only [List.length_append, List.length_take, List.length_replicate, List.length_map, List.length_set, List.length_cons, List.length_nil, List.length_zipWith, List.length_drop, List.length_range]; first | done | omega))) only [ir_impl_FirstDead, go_sem, Nat.reduceAdd, Nat.reduceEqDiff, Nat.reduceLeDiff, Nat.reduceSub]
      simp (maxSteps := 2000000) (disch := (first | omega | (simp only [List.length_append, List.length_take, List.length_replicate, List.length_map, List.length_set, List.length_cons, List.length_nil, List.length_zipWith, List.length_drop, List.length_range]; first | done | omega))) only [go_sem, Nat.reduceAdd, Nat.reduceEqDiff, Nat.reduceLeDiff, Nat.reduceSub, hx]
      refine W_for R.sp.ms.length (fun k s => s = ⟨[.any, .any, .any, .ptr 0 0, .any, .any, .any, .any, .any, .any, .ref 1 1 0 R.sp.ms.length, I R.sp.ms.length, I k, .any, .any], [.box t_impl_Net [I n.pl, trs n.tr], .row t_sl_int false 1 (R.sp.ms.map ints)]⟩) ?_ ?_ ?_
      · simp (maxSteps := 2000000) (disch := (first | omega | (simp only [List.length_append, List.length_take, List.length_replicate, List.length_map, List.length_set, List.length_cons, List.length_nil, List.length_zipWith, List.length_drop, List.length_range]; first | done | omega))) only [go_sem, Nat.reduceAdd, Nat.reduceEqDiff, Nat.reduceLeDiff, Nat.reduceSub]
        rfl
      · rintro k s hk rfl
        have hm := List.getElem_mem hk
        have en := impl_enabled_ok n R.sp.ms[k] hgn (hxs _ hm)
        have hne := List.length_pos_iff.2 (hl _ hm)
        have hE : (enabL n R.sp.ms[k]).length ≤ n.tr.length := enabK_len ..
        have hn0 := hn.1
        have hne2 : (enabL n R.sp.ms[k]).length ≠ 0 := by omega
        simp (maxSteps := 2000000) (disch := (first | omega | (simp only [List.length_append, List.length_take, List.length_replicate, List.length_map, List.length_set, List.length_cons, List.length_nil, List.length_zipWith, List.length_drop, List.length_range]; first | done | omega))) only [go_sem, Nat.reduceAdd, Nat.reduceEqDiff, Nat.reduceLeDiff, Nat.reduceSub, en, hne2]
        try rfl
      · rintro s rfl
        simp (maxSteps := 2000000) (disch := (first | omega | (simp only [List.length_append, List.length_take, List.length_replicate, List.length_map, List.length_set, List.length_cons, List.length_nil, List.length_zipWith, List.length_drop, List.length_range]; first | done | omega))) only [go_sem, Nat.reduceAdd, Nat.reduceEqDiff, Nat.reduceLeDiff, Nat.reduceSub]
  · have hx := impl_wholeSpace_f n start b hn hs h hc
    refine C_impl_FirstDead ?_
    simp (maxSteps := 2000000) (disch := (first | omega | (simp only [List.length_append, List.length_take, List.length_replicate, List.length_map, List.length_set, List.length_cons, List.length_nil, List.length_zipWith, List.length_drop, List.length_range]; first | done | omega))) only [ir_impl_FirstDead, go_sem, Nat.reduceAdd, Nat.reduceEqDiff, Nat.reduceLeDiff, Nat.reduceSub]
    simp (maxSteps := 2000000) (disch := (first | omega | (simp only [List.length_append, List.length_take, List.length_replicate, List.length_map, List.length_set, List.length_cons, List.length_nil, List.length_zipWith, List.length_drop, List.length_range]; first | done | omega))) only [go_sem, Nat.reduceAdd, Nat.reduceEqDiff, Nat.reduceLeDiff, Nat.reduceSub, hx]
theorem spec_DrawSmallInvariants_ok (bs : List Int) (hl : bs.length < 2^62) (hb : ∀ x ∈ bs, 0 ≤ x ∧ x < 256) :
    Lw (C f_spec_DrawSmallInvariants [bys bs] []) fun r => ∃ (n : Net), r = (.agg [I n.pl, .un t_impl_Trans false 3 (n.tr.map encT)], []) ∧ smNet n := by
  obtain ⟨_, e1, n, a1, s1, rfl, h3, h4, h5⟩ := spec_l1Cur_kept_ok bs 0 0 (by omega) (by omega) hl hb
  refine E_spec_DrawSmallInvariants ?_
  simp (maxSteps := 2000000) (disch := (first | omega | (simp only [List.length_append, List.length_take, List.length_replicate, List.length_map, List.length_set, List.length_cons, List.length_nil, List.length_zipWith, List.length_drop, List.length_range]; first | done | omega))) only [ir_spec_DrawSmallInvariants, go_sem, Nat.reduceAdd, Nat.reduceEqDiff, Nat.reduceLeDiff, Nat.reduceSub]
  simp (maxSteps := 2000000) (disch := (first | omega | (simp only [List.length_append, List.length_take, List.length_replicate, List.length_map, List.length_set, List.length_cons, List.length_nil, List.length_zipWith, List.length_drop, List.length_range]; first | done | omega))) only [go_sem, Nat.reduceAdd, Nat.reduceEqDiff, Nat.reduceLeDiff, Nat.reduceSub, e1]
  exact ⟨n, rfl, h5⟩
theorem spec_DrawSmallSiphons_ok (bs : List Int) (hl : bs.length < 2^62) (hb : ∀ x ∈ bs, 0 ≤ x ∧ x < 256) :
    Lw (C f_spec_DrawSmallSiphons [bys bs] []) fun r => ∃ (n : Net), r = (.agg [I n.pl, .un t_impl_Trans false 3 (n.tr.map encT)], []) ∧ smNet n := by
  obtain ⟨_, e1, n, rfl, h5⟩ := spec_DrawSmallInvariants_ok bs hl hb
  refine E_spec_DrawSmallSiphons ?_
  simp (maxSteps := 2000000) (disch := (first | omega | (simp only [List.length_append, List.length_take, List.length_replicate, List.length_map, List.length_set, List.length_cons, List.length_nil, List.length_zipWith, List.length_drop, List.length_range]; first | done | omega))) only [ir_spec_DrawSmallSiphons, go_sem, Nat.reduceAdd, Nat.reduceEqDiff, Nat.reduceLeDiff, Nat.reduceSub]
  simp (maxSteps := 2000000) (disch := (first | omega | (simp only [List.length_append, List.length_take, List.length_replicate, List.length_map, List.length_set, List.length_cons, List.length_nil, List.length_zipWith, List.length_drop, List.length_range]; first | done | omega))) only [go_sem, Nat.reduceAdd, Nat.reduceEqDiff, Nat.reduceLeDiff, Nat.reduceSub, e1]
  exact ⟨n, rfl, h5⟩
theorem impl_SmallSiphons_1_ok (n : Net) (r : Nat) (hs : okSm n = true) (hr : r < 2 ^ n.pl.toNat) (hr2 : r < 2 ^ 20) : C f_impl_SmallSiphons_1 [I r, .pv (encN n) 0] [] = some (.bool (isS n true (setN r)), []) := by
  have h := impl_isSiphon_ok n (setN r) (okSet_setN hs hr)
  rw [setN_mask hr2] at h
  refine C_impl_SmallSiphons_1 ?_
  simp (maxSteps := 2000000) (disch := (first | omega | (simp only [List.length_append, List.length_take, List.length_replicate, List.length_map, List.length_set, List.length_cons, List.length_nil, List.length_zipWith, List.length_drop, List.length_range]; first | done | omega))) only [ir_impl_SmallSiphons_1, go_sem, Nat.reduceAdd, Nat.reduceEqDiff, Nat.reduceLeDiff, Nat.reduceSub]
  simp (maxSteps := 2000000) (disch := (first | omega | (simp only [List.length_append, List.length_take, List.length_replicate, List.length_map, List.length_set, List.length_cons, List.length_nil, List.length_zipWith, List.length_drop, List.length_range]; first | done | omega))) only [go_sem, Nat.reduceAdd, Nat.reduceEqDiff, Nat.reduceLeDiff, Nat.reduceSub, h]
  grind
theorem impl_setsOf_ok (L : List Nat) (h : ∀ r ∈ L, r < 2 ^ 20) (hl : L.length < 2^30) : C f_impl_setsOf [.sl true 1 (L.map fun (r : Nat) => I (r : Int))] [] = some (.un t_sl_int false 1 (L.map fun r => ints (setN r)), []) := by
  refine C_impl_setsOf ?_
  simp (maxSteps := 2000000) (disch := (first | omega | (simp only [List.length_append, List.length_take, List.length_replicate, List.length_map, List.length_set, List.length_cons, List.length_nil, List.length_zipWith, List.length_drop, List.length_range]; first | done | omega))) only [ir_impl_setsOf, go_sem, Nat.reduceAdd, Nat.reduceEqDiff, Nat.reduceLeDiff, Nat.reduceSub]
  refine W_for L.length (fun j s => s = ⟨[.any, .any, .ref 0 1 0 j, .any, .sl true 1 (L.map fun (r : Nat) => I (r : Int)), I L.length, I j, .any], [.row t_sl_int false 1 ((L.take j).map fun r => ints (setN r))]⟩) ?_ ?_ ?_
  · simp (maxSteps := 2000000) (disch := (first | omega | (simp only [List.length_append, List.length_take, List.length_replicate, List.length_map, List.length_set, List.length_cons, List.length_nil, List.length_zipWith, List.length_drop, List.length_range]; first | done | omega))) only [go_sem, Nat.reduceAdd, Nat.reduceEqDiff, Nat.reduceLeDiff, Nat.reduceSub]
    rfl
  · rintro j s hj rfl
    have hm := h _ (List.getElem_mem hj)
    have e1 := impl_setOf_ok (setN L[j]) (fun p hp => by have := setN_in L[j] p hp; omega) (setN_incr _) (by have := setN_len L[j]; omega)
    rw [setN_mask (by omega)] at e1
    simp (maxSteps := 2000000) (disch := (first | omega | (simp only [List.length_append, List.length_take, List.length_replicate, List.length_map, List.length_set, List.length_cons, List.length_nil, List.length_zipWith, List.length_drop, List.length_range]; first | done | omega))) only [go_sem, Nat.reduceAdd, Nat.reduceEqDiff, Nat.reduceLeDiff, Nat.reduceSub, e1]
    rw [take_snoc hj, List.map_append]; rfl
  · rintro s rfl
    simp (maxSteps := 2000000) (disch := (first | omega | (simp only [List.length_append, List.length_take, List.length_replicate, List.length_map, List.length_set, List.length_cons, List.length_nil, List.length_zipWith, List.length_drop, List.length_range]; first | done | omega))) only [go_sem, Nat.reduceAdd, Nat.reduceEqDiff, Nat.reduceLeDiff, Nat.reduceSub, List.take_length]
theorem impl_SmallSiphons_ok (n : Net) (hn : smN n) : C f_impl_SmallSiphons [encN n] [] = some (.tup [.un t_sl_int false 1 (if okSm n then (smallS n).map fun r => ints (setN r) else []), .bool (okSm n)], []) := by
  have e1 := impl_isSmall_ok n hn
  cases hk : okSm n <;> rw [hk] at e1
  · refine C_impl_SmallSiphons ?_
    simp (maxSteps := 2000000) (disch := (first | omega | (simp only [List.length_append, List.length_take, List.length_replicate, List.length_map, List.length_set, List.length_cons, List.length_nil, List.length_zipWith, List.length_drop, List.length_range]; first | done | omega))) only [ir_impl_SmallSiphons, go_sem, Nat.reduceAdd, Nat.reduceEqDiff, Nat.reduceLeDiff, Nat.reduceSub]
    simp (maxSteps := 2000000) (disch := (first | omega | (simp only [List.length_append, List.length_take, List.length_replicate, List.length_map, List.length_set, List.length_cons, List.length_nil, List.length_zipWith, List.length_drop, List.length_range]; first | done | omega))) only [go_sem, Nat.reduceAdd, Nat.reduceEqDiff, Nat.reduceLeDiff, Nat.reduceSub, e1]
    try rfl
  · obtain ⟨hg, hr, h10⟩ := okSm_parts hk
    have hgp := goodN_parts hg
    have h := smallS_in h10
    have h3 : 2 ^ n.pl.toNat ≤ 2 ^ 10 := Nat.pow_le_pow_right (by decide) (by omega)
    have e2 := impl_smallSets_ok n f_impl_SmallSiphons_1 [.pv (encN n) 0] rfl (fun _ _ => rfl) (fun _ => rfl) (fun r => isS n true (setN r)) hn (by omega) (fun r hr => impl_SmallSiphons_1_ok n r hk hr (by omega))
    rw [show smK (fun r => isS n true (setN r)) (2 ^ n.pl.toNat - 1) = smallS n from rfl] at e2
    have e3 := impl_setsOf_ok (smallS n) (fun r hr => (h.1 r hr).2.2) (by omega)
    refine C_impl_SmallSiphons ?_
    simp (maxSteps := 2000000) (disch := (first | omega | (simp only [List.length_append, List.length_take, List.length_replicate, List.length_map, List.length_set, List.length_cons, List.length_nil, List.length_zipWith, List.length_drop, List.length_range]; first | done | omega))) only [ir_impl_SmallSiphons, go_sem, Nat.reduceAdd, Nat.reduceEqDiff, Nat.reduceLeDiff, Nat.reduceSub]
    simp (maxSteps := 2000000) (disch := (first | omega | (simp only [List.length_append, List.length_take, List.length_replicate, List.length_map, List.length_set, List.length_cons, List.length_nil, List.length_zipWith, List.length_drop, List.length_range]; first | done | omega))) only [go_sem, Nat.reduceAdd, Nat.reduceEqDiff, Nat.reduceLeDiff, Nat.reduceSub, e1, e2, e3]
    try rfl
theorem spec_SmallSiphons_ok (n : Net) (hn : smN n) : C f_spec_SmallSiphons [encN n] [] = some (.tup [.un t_sl_int false 1 (if okSm n then (smallS n).map fun r => ints (setN r) else []), .bool (okSm n)], []) := by
  have e1 := spec_l7Plain_ok n hn
  unfold okSm
  cases hp : plainN n <;> rw [hp] at e1
  · refine C_spec_SmallSiphons ?_
    simp (maxSteps := 2000000) (disch := (first | omega | (simp only [List.length_append, List.length_take, List.length_replicate, List.length_map, List.length_set, List.length_cons, List.length_nil, List.length_zipWith, List.length_drop, List.length_range]; first | done | omega))) only [ir_spec_SmallSiphons, go_sem, Nat.reduceAdd, Nat.reduceEqDiff, Nat.reduceLeDiff, Nat.reduceSub]
    simp (maxSteps := 2000000) (disch := (first | omega | (simp only [List.length_append, List.length_take, List.length_replicate, List.length_map, List.length_set, List.length_cons, List.length_nil, List.length_zipWith, List.length_drop, List.length_range]; first | done | omega))) only [go_sem, Nat.reduceAdd, Nat.reduceEqDiff, Nat.reduceLeDiff, Nat.reduceSub, e1]
    try simp
  · have hg : goodN n = true := by simp [plainN] at hp; exact hp.1
    by_cases h10 : n.pl ≤ 10
    · have e2 := spec_l8Small_ok n hn hg h10
      refine C_spec_SmallSiphons ?_
      simp (maxSteps := 2000000) (disch := (first | omega | (simp only [List.length_append, List.length_take, List.length_replicate, List.length_map, List.length_set, List.length_cons, List.length_nil, List.length_zipWith, List.length_drop, List.length_range]; first | done | omega))) only [ir_spec_SmallSiphons, go_sem, Nat.reduceAdd, Nat.reduceEqDiff, Nat.reduceLeDiff, Nat.reduceSub]
      simp (maxSteps := 2000000) (disch := (first | omega | (simp only [List.length_append, List.length_take, List.length_replicate, List.length_map, List.length_set, List.length_cons, List.length_nil, List.length_zipWith, List.length_drop, List.length_range]; first | done | omega))) only [go_sem, Nat.reduceAdd, Nat.reduceEqDiff, Nat.reduceLeDiff, Nat.reduceSub, e1, e2]
      try simp [h10]
    · refine C_spec_SmallSiphons ?_
      simp (maxSteps := 2000000) (disch := (first | omega | (simp only [List.length_append, List.length_take, List.length_replicate, List.length_map, List.length_set, List.length_cons, List.length_nil, List.length_zipWith, List.length_drop, List.length_range]; first | done | omega))) only [ir_spec_SmallSiphons, go_sem, Nat.reduceAdd, Nat.reduceEqDiff, Nat.reduceLeDiff, Nat.reduceSub]
      simp (maxSteps := 2000000) (disch := (first | omega | (simp only [List.length_append, List.length_take, List.length_replicate, List.length_map, List.length_set, List.length_cons, List.length_nil, List.length_zipWith, List.length_drop, List.length_range]; first | done | omega))) only [go_sem, Nat.reduceAdd, Nat.reduceEqDiff, Nat.reduceLeDiff, Nat.reduceSub, e1]
      try simp [h10]
theorem laws_sameInts_ok (a b : List Int) (hl : a.length < 2^62) : C f_laws_sameInts [ints a, ints b] [] = some (.bool (decide (a = b)), []) := by
  refine C_laws_sameInts ?_
  simp (maxSteps := 2000000) (disch := (first | omega | (simp only [List.length_append, List.length_take, List.length_replicate, List.length_map, List.length_set, List.length_cons, List.length_nil, List.length_zipWith, List.length_drop, List.length_range]; first | done | omega))) only [ir_laws_sameInts, go_sem, Nat.reduceAdd, Nat.reduceEqDiff, Nat.reduceLeDiff, Nat.reduceSub]
  refine ⟨fun h => ?_, fun h => ?_⟩
  · have : a ≠ b := fun e => h (by rw [e])
    simp [this]
  refine W_for a.length (fun k s => s = ⟨[ints a, ints b, .any, .any, .any, I a.length, I k, .any, .any], []⟩ ∧ a.take k = b.take k) ?_ ?_ ?_
  · simp (maxSteps := 2000000) (disch := (first | omega | (simp only [List.length_append, List.length_take, List.length_replicate, List.length_map, List.length_set, List.length_cons, List.length_nil, List.length_zipWith, List.length_drop, List.length_range]; first | done | omega))) only [go_sem, Nat.reduceAdd, Nat.reduceEqDiff, Nat.reduceLeDiff, Nat.reduceSub]
    rfl
  · rintro k s hk ⟨rfl, hall⟩
    simp (maxSteps := 2000000) (disch := (first | omega | (simp only [List.length_append, List.length_take, List.length_replicate, List.length_map, List.length_set, List.length_cons, List.length_nil, List.length_zipWith, List.length_drop, List.length_range]; first | done | omega))) only [go_sem, Nat.reduceAdd, Nat.reduceEqDiff, Nat.reduceLeDiff, Nat.reduceSub]
    refine ⟨fun h => ?_, fun h => ⟨rfl, ?_⟩⟩
    · have : a ≠ b := fun e => h (by simp [e])
      simp [this]
    · rw [take_snoc hk, take_snoc (show k < b.length by omega), hall, h]
  · rintro s ⟨rfl, hall⟩
    simp (maxSteps := 2000000) (disch := (first | omega | (simp only [List.length_append, List.length_take, List.length_replicate, List.length_map, List.length_set, List.length_cons, List.length_nil, List.length_zipWith, List.length_drop, List.length_range]; first | done | omega))) only [go_sem, Nat.reduceAdd, Nat.reduceEqDiff, Nat.reduceLeDiff, Nat.reduceSub]
    rw [List.take_length, List.take_of_length_le (by omega)] at hall
    simp [hall]
theorem laws_sameLists_ok (a : List (List Int)) (hl : a.length < 2^62) (hx : ∀ x ∈ a, x.length < 2^62) : C f_laws_sameLists [rows a, rows a] [] = some (.bool true, []) := by
  refine C_laws_sameLists ?_
  simp (maxSteps := 2000000) (disch := (first | omega | (simp only [List.length_append, List.length_take, List.length_replicate, List.length_map, List.length_set, List.length_cons, List.length_nil, List.length_zipWith, List.length_drop, List.length_range]; first | done | omega))) only [ir_laws_sameLists, go_sem, Nat.reduceAdd, Nat.reduceEqDiff, Nat.reduceLeDiff, Nat.reduceSub]
  refine W_for a.length (fun k s => s = ⟨[rows a, rows a, .any, .any, .any, I a.length, I k, .any, .any], []⟩) ?_ ?_ ?_
  · simp (maxSteps := 2000000) (disch := (first | omega | (simp only [List.length_append, List.length_take, List.length_replicate, List.length_map, List.length_set, List.length_cons, List.length_nil, List.length_zipWith, List.length_drop, List.length_range]; first | done | omega))) only [go_sem, Nat.reduceAdd, Nat.reduceEqDiff, Nat.reduceLeDiff, Nat.reduceSub]
    rfl
  · rintro k s hk rfl
    have hk2 := hx _ (List.getElem_mem hk)
    simp (maxSteps := 2000000) (disch := (first | omega | (simp only [List.length_append, List.length_take, List.length_replicate, List.length_map, List.length_set, List.length_cons, List.length_nil, List.length_zipWith, List.length_drop, List.length_range]; first | done | omega))) only [go_sem, Nat.reduceAdd, Nat.reduceEqDiff, Nat.reduceLeDiff, Nat.reduceSub, laws_sameInts_ok]
    rfl
  · rintro s rfl
    simp (maxSteps := 2000000) (disch := (first | omega | (simp only [List.length_append, List.length_take, List.length_replicate, List.length_map, List.length_set, List.length_cons, List.length_nil, List.length_zipWith, List.length_drop, List.length_range]; first | done | omega))) only [go_sem, Nat.reduceAdd, Nat.reduceEqDiff, Nat.reduceLeDiff, Nat.reduceSub]
theorem impl_IsSiphon_ok (n : Net) (s : List Int) (hn : smN n) (hs : s.length < 2^62) : C f_impl_IsSiphon [encN n, ints s] [] = some (.tup [.bool (okSet n s && isS n true s), .bool (okSet n s)], []) := by
  refine C_impl_IsSiphon ?_
  simp (maxSteps := 2000000) (disch := (first | omega | (simp only [List.length_append, List.length_take, List.length_replicate, List.length_map, List.length_set, List.length_cons, List.length_nil, List.length_zipWith, List.length_drop, List.length_range]; first | done | omega))) only [ir_impl_IsSiphon, go_sem, Nat.reduceAdd, Nat.reduceEqDiff, Nat.reduceLeDiff, Nat.reduceSub]
  simp (maxSteps := 2000000) (disch := (first | omega | (simp only [List.length_append, List.length_take, List.length_replicate, List.length_map, List.length_set, List.length_cons, List.length_nil, List.length_zipWith, List.length_drop, List.length_range]; first | done | omega))) only [go_sem, Nat.reduceAdd, Nat.reduceEqDiff, Nat.reduceLeDiff, Nat.reduceSub, impl_isPlain_ok n hn]
  cases hp : plainN n with
  | false => simp [okSet, hp]
  | true =>
    have hb := goodN_parts (show goodN n = true by simp only [plainN, Bool.and_eq_true] at hp; exact hp.1)
    cases h2 : places n.pl s with
    | false =>
      have e := impl_arePlaces_ok n s ⟨hb.1, hb.2.1⟩ hs
      rw [h2] at e
      simp (maxSteps := 2000000) (disch := (first | omega | (simp only [List.length_append, List.length_take, List.length_replicate, List.length_map, List.length_set, List.length_cons, List.length_nil, List.length_zipWith, List.length_drop, List.length_range]; first | done | omega))) only [go_sem, Nat.reduceAdd, Nat.reduceEqDiff, Nat.reduceLeDiff, Nat.reduceSub, e]
      simp [okSet, hp, h2]
    | true =>
      have e := impl_arePlaces_ok n s ⟨hb.1, hb.2.1⟩ hs
      rw [h2] at e
      have hk : okSet n s = true := by simp [okSet, hp, h2]
      have h1 := okSet_parts hk
      simp (maxSteps := 2000000) (disch := (first | omega | (simp only [List.length_append, List.length_take, List.length_replicate, List.length_map, List.length_set, List.length_cons, List.length_nil, List.length_zipWith, List.length_drop, List.length_range]; first | done | omega))) only [go_sem, Nat.reduceAdd, Nat.reduceEqDiff, Nat.reduceLeDiff, Nat.reduceSub, e, impl_maskOf_ok s (fun p hp => by have := h1.2.2.2 p hp; omega), impl_isSiphon_ok n s hk, hk]
      simp
theorem laws_has_ok (l : List Int) (x : Int) (hl : l.length < 2^62) : C f_laws_has [ints l, I x] [] = some (.bool (decide (x ∈ l)), []) := by
  refine C_laws_has ?_
  simp (maxSteps := 2000000) (disch := (first | omega | (simp only [List.length_append, List.length_take, List.length_replicate, List.length_map, List.length_set, List.length_cons, List.length_nil, List.length_zipWith, List.length_drop, List.length_range]; first | done | omega))) only [ir_laws_has, go_sem, Nat.reduceAdd, Nat.reduceEqDiff, Nat.reduceLeDiff, Nat.reduceSub]
  refine W_for l.length (fun k s => s = ⟨[.any, I x, .any, .any, ints l, I l.length, I k, .any, .any], []⟩ ∧ (l.take k).any (fun y => y == x) = false) ?_ ?_ ?_
  · simp (maxSteps := 2000000) (disch := (first | omega | (simp only [List.length_append, List.length_take, List.length_replicate, List.length_map, List.length_set, List.length_cons, List.length_nil, List.length_zipWith, List.length_drop, List.length_range]; first | done | omega))) only [go_sem, Nat.reduceAdd, Nat.reduceEqDiff, Nat.reduceLeDiff, Nat.reduceSub]
    rfl
  · rintro k s hk ⟨rfl, hall⟩
    simp (maxSteps := 2000000) (disch := (first | omega | (simp only [List.length_append, List.length_take, List.length_replicate, List.length_map, List.length_set, List.length_cons, List.length_nil, List.length_zipWith, List.length_drop, List.length_range]; first | done | omega))) only [go_sem, Nat.reduceAdd, Nat.reduceEqDiff, Nat.reduceLeDiff, Nat.reduceSub]
    refine ⟨fun h => ?_, fun h => ⟨rfl, any_take hk hall (by simpa using h)⟩⟩
    have : x ∈ l := by rw [← h]; exact List.getElem_mem hk
    simp [this]
  · rintro s ⟨rfl, hall⟩
    simp (maxSteps := 2000000) (disch := (first | omega | (simp only [List.length_append, List.length_take, List.length_replicate, List.length_map, List.length_set, List.length_cons, List.length_nil, List.length_zipWith, List.length_drop, List.length_range]; first | done | omega))) only [go_sem, Nat.reduceAdd, Nat.reduceEqDiff, Nat.reduceLeDiff, Nat.reduceSub]
    rw [List.take_length, List.any_eq_false] at hall
    have : ¬ x ∈ l := fun h => by simpa using hall x h
    simp [this]
theorem laws_within_ok (a b : List Int) (ha : a.length < 2^62) (hb : b.length < 2^62) : C f_laws_within [ints a, ints b] [] = some (.bool (withinB a b), []) := by
  refine C_laws_within ?_
  simp (maxSteps := 2000000) (disch := (first | omega | (simp only [List.length_append, List.length_take, List.length_replicate, List.length_map, List.length_set, List.length_cons, List.length_nil, List.length_zipWith, List.length_drop, List.length_range]; first | done | omega))) only [ir_laws_within, go_sem, Nat.reduceAdd, Nat.reduceEqDiff, Nat.reduceLeDiff, Nat.reduceSub]
  refine W_for a.length (fun k s => s = ⟨[.any, ints b, .any, .any, ints a, I a.length, I k, .any, .any], []⟩ ∧ (a.take k).all (hasB b) = true) ?_ ?_ ?_
  · simp (maxSteps := 2000000) (disch := (first | omega | (simp only [List.length_append, List.length_take, List.length_replicate, List.length_map, List.length_set, List.length_cons, List.length_nil, List.length_zipWith, List.length_drop, List.length_range]; first | done | omega))) only [go_sem, Nat.reduceAdd, Nat.reduceEqDiff, Nat.reduceLeDiff, Nat.reduceSub]
    rfl
  · rintro k s hk ⟨rfl, hall⟩
    simp (maxSteps := 2000000) (disch := (first | omega | (simp only [List.length_append, List.length_take, List.length_replicate, List.length_map, List.length_set, List.length_cons, List.length_nil, List.length_zipWith, List.length_drop, List.length_range]; first | done | omega))) only [go_sem, Nat.reduceAdd, Nat.reduceEqDiff, Nat.reduceLeDiff, Nat.reduceSub, laws_has_ok]
    refine ⟨fun h => ⟨rfl, all_take hk hall (by simpa [hasB] using h)⟩, fun h => ?_⟩
    have : withinB a b = false := all_false hk (by simpa [hasB] using h)
    rw [this]
  · rintro s ⟨rfl, hall⟩
    simp (maxSteps := 2000000) (disch := (first | omega | (simp only [List.length_append, List.length_take, List.length_replicate, List.length_map, List.length_set, List.length_cons, List.length_nil, List.length_zipWith, List.length_drop, List.length_range]; first | done | omega))) only [go_sem, Nat.reduceAdd, Nat.reduceEqDiff, Nat.reduceLeDiff, Nat.reduceSub]
    rw [List.take_length] at hall
    rw [show withinB a b = true from hall]
theorem laws_FnGuarded_ok (a b : List Int) (ha2 : ∀ x ∈ a, 0 ≤ x ∧ x < 256) (hb2 : ∀ x ∈ b, 0 ≤ x ∧ x < 256) : C f_laws_FnGuarded [bys a, bys b] [] = some (.bool true, []) := by
  refine C_laws_FnGuarded ?_
  simp (maxSteps := 2000000) (disch := (first | omega | (simp only [List.length_append, List.length_take, List.length_replicate, List.length_map, List.length_set, List.length_cons, List.length_nil, List.length_zipWith, List.length_drop, List.length_range]; first | done | omega))) only [ir_laws_FnGuarded, go_sem, Nat.reduceAdd, Nat.reduceEqDiff, Nat.reduceLeDiff, Nat.reduceSub]
  simp (maxSteps := 2000000) (disch := (first | omega | (simp only [List.length_append, List.length_take, List.length_replicate, List.length_map, List.length_set, List.length_cons, List.length_nil, List.length_zipWith, List.length_drop, List.length_range]; first | done | omega))) only [go_sem, Nat.reduceAdd, Nat.reduceEqDiff, Nat.reduceLeDiff, Nat.reduceSub, laws_big_ok]
  intro hbig
  simp only [Bool.or_eq_false_iff, decide_eq_false_iff_not] at hbig
  obtain ⟨_, e1, n, m, rfl, h1, h2⟩ := spec_DrawIsGuarded_ok a (by omega) ha2
  obtain ⟨_, d1, u, rfl, h3⟩ := spec_DrawSmallSiphons_ok b (by omega) hb2
  obtain ⟨_, e5, z, rfl, h5, h6⟩ := laws_numberOf_ok b (by omega) hb2
  have hsn := h1.smN
  have hsu := h3.smN
  have i1 := impl_IsGuarded_ok n m hsn (by omega)
  have i2 := spec_IsGuarded_ok n m hsn (by omega)
  have i5 := impl_SmallSiphons_ok u hsu
  have i6 := spec_SmallSiphons_ok u hsu
  have hu10 : okSm u = true → u.pl ≤ 10 := fun h => by simp [okSm] at h; exact h.2
  obtain ⟨L, hLg⟩ : ∃ L, L = if okSm u then smallS u else [] := ⟨_, rfl⟩
  have hLe : (if okSm u then (smallS u).map fun r => ints (setN r) else []) = L.map fun r => ints (setN r) := by rw [hLg]; split <;> simp
  rw [hLe] at i5 i6
  have hfacts : (∀ r ∈ L, (1 ≤ r ∧ r < 2 ^ 20)) ∧ L.length < 2 ^ 20 ∧ (∀ r ∈ L, C f_impl_IsSiphon [encN u, ints (setN r)] [] = some (.tup [.bool true, .bool true], [])) ∧
      ∀ i j (hi : i < L.length) (hj : j < L.length), i ≠ j → withinB (setN L[j]) (setN L[i]) = false := by
    cases hs : okSm u with
    | false =>
      simp only [hs, Bool.false_eq_true, if_false] at hLg
      subst hLg
      exact ⟨fun r hr => by simp at hr, by simp, fun r hr => by simp at hr, fun i j hi => by simp at hi⟩
    | true =>
      simp only [hs, if_true] at hLg
      subst hLg
      have h10 := hu10 hs
      refine ⟨fun r hr => by have := (smallS_in h10).1 r hr; exact ⟨this.1, this.2.2⟩, (smallS_in h10).2, fun r hr => ?_, fun i j hi hj hij => ?_⟩
      · have h7 := (smallS_in h10).1 r hr
        have h8 := smK_has _ r hr
        have h9 := impl_IsSiphon_ok u (setN r) hsu (by have := setN_len r; omega)
        rw [okSet_setN hs h7.2.1, h8] at h9
        exact h9
      · cases hw : withinB (setN (smallS u)[j]) (setN (smallS u)[i]) with
        | false => rfl
        | true =>
          have h7 := (smallS_in h10).1 _ (List.getElem_mem hj)
          exact absurd (within_and h7.2.2 hw) (smK_within hi hj hij)
  obtain ⟨hL, hLl, hsi, hmin⟩ := hfacts
  have s5 := laws_sameLists_ok (L.map setN) (by rw [List.length_map]; omega) (fun x hx => by
    obtain ⟨r, hr, rfl⟩ := List.mem_map.1 hx
    have := setN_len r; omega)
  simp only [rows, List.map_map] at s5
  rw [show (ints ∘ setN) = (fun r => ints (setN r)) from rfl] at s5
  cases hok : (okSm n && goodM n.pl m) with
  | false =>
    simp only [hok, Bool.false_and] at i1 i2
    simp (maxSteps := 2000000) (disch := (first | omega | (simp only [List.length_append, List.length_take, List.length_replicate, List.length_map, List.length_set, List.length_cons, List.length_nil, List.length_zipWith, List.length_drop, List.length_range]; first | done | omega))) only [go_sem, Nat.reduceAdd, Nat.reduceEqDiff, Nat.reduceLeDiff, Nat.reduceSub, e1, i1, i2]
    cases hcu : okSm u <;> rw [hcu] at i5 i6
    all_goals
      simp (maxSteps := 2000000) (disch := (first | omega | (simp only [List.length_append, List.length_take, List.length_replicate, List.length_map, List.length_set, List.length_cons, List.length_nil, List.length_zipWith, List.length_drop, List.length_range]; first | done | omega))) only [go_sem, Nat.reduceAdd, Nat.reduceEqDiff, Nat.reduceLeDiff, Nat.reduceSub, d1, i5, i6, s5]
      refine W_for L.length (fun k s => s = ⟨[.any, .any, .any, .any, .any, .any, .any, .any, .any, .any, .any, .any, .any, .any, .any, .any, .ptr 0 0, .ref 1 1 0 L.length, .any, .any, .any, .any, .any, .any, .any, .any, .any, .any, .any, .any, .any, .any, .any, .any, .any, .ref 1 1 0 L.length, I L.length, I k, .any, .any, .any, .any, .any, .any, .any], [.box t_impl_Net [I u.pl, .ref 2 3 0 u.tr.length], .row t_sl_int false 1 (L.map fun r => ints (setN r)), .fro false 3 (u.tr.map encT)]⟩) ?_ ?_ ?_
      · simp (maxSteps := 2000000) (disch := (first | omega | (simp only [List.length_append, List.length_take, List.length_replicate, List.length_map, List.length_set, List.length_cons, List.length_nil, List.length_zipWith, List.length_drop, List.length_range]; first | done | omega))) only [go_sem, Nat.reduceAdd, Nat.reduceEqDiff, Nat.reduceLeDiff, Nat.reduceSub]
        rfl
      · rintro k s hk rfl
        have hm := List.getElem_mem hk
        have hLk := hL _ hm
        have hsl2 := setN_len L[k]
        have hne1 := setN_ne hLk
        have hne2 : (setN L[k]).length ≠ 0 := by simpa using hne1
        have i7 := hsi _ hm
        simp (maxSteps := 2000000) (disch := (first | omega | (simp only [List.length_append, List.length_take, List.length_replicate, List.length_map, List.length_set, List.length_cons, List.length_nil, List.length_zipWith, List.length_drop, List.length_range]; first | done | omega))) only [go_sem, Nat.reduceAdd, Nat.reduceEqDiff, Nat.reduceLeDiff, Nat.reduceSub, i7, hne2]
        refine W_for L.length (fun j s => s = ⟨[.any, .any, .any, .any, .any, .any, .any, .any, .any, .any, .any, .any, .any, .any, .any, .any, .ptr 0 0, .ref 1 1 0 L.length, .any, .any, .any, I k, ints (setN L[k]), .any, .any, .any, .any, .any, .any, .any, .any, .any, .any, .any, .any, .ref 1 1 0 L.length, I L.length, I k, .any, .any, .ref 1 1 0 L.length, I L.length, I j, .any, .any], [.box t_impl_Net [I u.pl, .ref 2 3 0 u.tr.length], .row t_sl_int false 1 (L.map fun r => ints (setN r)), .fro false 3 (u.tr.map encT)]⟩) ?_ ?_ ?_
        · simp (maxSteps := 2000000) (disch := (first | omega | (simp only [List.length_append, List.length_take, List.length_replicate, List.length_map, List.length_set, List.length_cons, List.length_nil, List.length_zipWith, List.length_drop, List.length_range]; first | done | omega))) only [go_sem, Nat.reduceAdd, Nat.reduceEqDiff, Nat.reduceLeDiff, Nat.reduceSub]
          rfl
        · rintro j s hj rfl
          have w1 := laws_within_ok (setN L[j]) (setN L[k]) (by have := setN_len L[j]; omega) (by omega)
          by_cases hij : k = j
          · subst hij
            simp (maxSteps := 2000000) (disch := (first | omega | (simp only [List.length_append, List.length_take, List.length_replicate, List.length_map, List.length_set, List.length_cons, List.length_nil, List.length_zipWith, List.length_drop, List.length_range]; first | done | omega))) only [go_sem, Nat.reduceAdd, Nat.reduceEqDiff, Nat.reduceLeDiff, Nat.reduceSub]
            try rfl
          · have hij2 : ¬ ((k : Int) = j) := by omega
            rw [hmin k j hk hj hij] at w1
            simp (maxSteps := 2000000) (disch := (first | omega | (simp only [List.length_append, List.length_take, List.length_replicate, List.length_map, List.length_set, List.length_cons, List.length_nil, List.length_zipWith, List.length_drop, List.length_range]; first | done | omega))) only [go_sem, Nat.reduceAdd, Nat.reduceEqDiff, Nat.reduceLeDiff, Nat.reduceSub, w1, hij2]
            try rfl
        · rintro s rfl
          simp (maxSteps := 2000000) (disch := (first | omega | (simp only [List.length_append, List.length_take, List.length_replicate, List.length_map, List.length_set, List.length_cons, List.length_nil, List.length_zipWith, List.length_drop, List.length_range]; first | done | omega))) only [go_sem, Nat.reduceAdd, Nat.reduceEqDiff, Nat.reduceLeDiff, Nat.reduceSub]
          try rfl
      · rintro s rfl
        simp (maxSteps := 2000000) (disch := (first | omega | (simp only [List.length_append, List.length_take, List.length_replicate, List.length_map, List.length_set, List.length_cons, List.length_nil, List.length_zipWith, List.length_drop, List.length_range]; first | done | omega))) only [go_sem, Nat.reduceAdd, Nat.reduceEqDiff, Nat.reduceLeDiff, Nat.reduceSub]
  | true =>
    cases hgd : guardB n m with
    | false =>
      simp only [hok, hgd, Bool.and_false] at i1 i2
      simp (maxSteps := 2000000) (disch := (first | omega | (simp only [List.length_append, List.length_take, List.length_replicate, List.length_map, List.length_set, List.length_cons, List.length_nil, List.length_zipWith, List.length_drop, List.length_range]; first | done | omega))) only [go_sem, Nat.reduceAdd, Nat.reduceEqDiff, Nat.reduceLeDiff, Nat.reduceSub, e1, i1, i2]
      cases hcu : okSm u <;> rw [hcu] at i5 i6
      all_goals
        simp (maxSteps := 2000000) (disch := (first | omega | (simp only [List.length_append, List.length_take, List.length_replicate, List.length_map, List.length_set, List.length_cons, List.length_nil, List.length_zipWith, List.length_drop, List.length_range]; first | done | omega))) only [go_sem, Nat.reduceAdd, Nat.reduceEqDiff, Nat.reduceLeDiff, Nat.reduceSub, d1, i5, i6, s5]
        refine W_for L.length (fun k s => s = ⟨[.any, .any, .any, .any, .any, .any, .any, .any, .any, .any, .any, .any, .any, .any, .any, .any, .ptr 0 0, .ref 1 1 0 L.length, .any, .any, .any, .any, .any, .any, .any, .any, .any, .any, .any, .any, .any, .any, .any, .any, .any, .ref 1 1 0 L.length, I L.length, I k, .any, .any, .any, .any, .any, .any, .any], [.box t_impl_Net [I u.pl, .ref 2 3 0 u.tr.length], .row t_sl_int false 1 (L.map fun r => ints (setN r)), .fro false 3 (u.tr.map encT)]⟩) ?_ ?_ ?_
        · simp (maxSteps := 2000000) (disch := (first | omega | (simp only [List.length_append, List.length_take, List.length_replicate, List.length_map, List.length_set, List.length_cons, List.length_nil, List.length_zipWith, List.length_drop, List.length_range]; first | done | omega))) only [go_sem, Nat.reduceAdd, Nat.reduceEqDiff, Nat.reduceLeDiff, Nat.reduceSub]
          rfl
        · rintro k s hk rfl
          have hm := List.getElem_mem hk
          have hLk := hL _ hm
          have hsl2 := setN_len L[k]
          have hne1 := setN_ne hLk
          have hne2 : (setN L[k]).length ≠ 0 := by simpa using hne1
          have i7 := hsi _ hm
          simp (maxSteps := 2000000) (disch := (first | omega | (simp only [List.length_append, List.length_take, List.length_replicate, List.length_map, List.length_set, List.length_cons, List.length_nil, List.length_zipWith, List.length_drop, List.length_range]; first | done | omega))) only [go_sem, Nat.reduceAdd, Nat.reduceEqDiff, Nat.reduceLeDiff, Nat.reduceSub, i7, hne2]
          refine W_for L.length (fun j s => s = ⟨[.any, .any, .any, .any, .any, .any, .any, .any, .any, .any, .any, .any, .any, .any, .any, .any, .ptr 0 0, .ref 1 1 0 L.length, .any, .any, .any, I k, ints (setN L[k]), .any, .any, .any, .any, .any, .any, .any, .any, .any, .any, .any, .any, .ref 1 1 0 L.length, I L.length, I k, .any, .any, .ref 1 1 0 L.length, I L.length, I j, .any, .any], [.box t_impl_Net [I u.pl, .ref 2 3 0 u.tr.length], .row t_sl_int false 1 (L.map fun r => ints (setN r)), .fro false 3 (u.tr.map encT)]⟩) ?_ ?_ ?_
          · simp (maxSteps := 2000000) (disch := (first | omega | (simp only [List.length_append, List.length_take, List.length_replicate, List.length_map, List.length_set, List.length_cons, List.length_nil, List.length_zipWith, List.length_drop, List.length_range]; first | done | omega))) only [go_sem, Nat.reduceAdd, Nat.reduceEqDiff, Nat.reduceLeDiff, Nat.reduceSub]
            rfl
          · rintro j s hj rfl
            have w1 := laws_within_ok (setN L[j]) (setN L[k]) (by have := setN_len L[j]; omega) (by omega)
            by_cases hij : k = j
            · subst hij
              simp (maxSteps := 2000000) (disch := (first | omega | (simp only [List.length_append, List.length_take, List.length_replicate, List.length_map, List.length_set, List.length_cons, List.length_nil, List.length_zipWith, List.length_drop, List.length_range]; first | done | omega))) only [go_sem, Nat.reduceAdd, Nat.reduceEqDiff, Nat.reduceLeDiff, Nat.reduceSub]
              try rfl
            · have hij2 : ¬ ((k : Int) = j) := by omega
              rw [hmin k j hk hj hij] at w1
              simp (maxSteps := 2000000) (disch := (first | omega | (simp only [List.length_append, List.length_take, List.length_replicate, List.length_map, List.length_set, List.length_cons, List.length_nil, List.length_zipWith, List.length_drop, List.length_range]; first | done | omega))) only [go_sem, Nat.reduceAdd, Nat.reduceEqDiff, Nat.reduceLeDiff, Nat.reduceSub, w1, hij2]
              try rfl
          · rintro s rfl
            simp (maxSteps := 2000000) (disch := (first | omega | (simp only [List.length_append, List.length_take, List.length_replicate, List.length_map, List.length_set, List.length_cons, List.length_nil, List.length_zipWith, List.length_drop, List.length_range]; first | done | omega))) only [go_sem, Nat.reduceAdd, Nat.reduceEqDiff, Nat.reduceLeDiff, Nat.reduceSub]
            try rfl
        · rintro s rfl
          simp (maxSteps := 2000000) (disch := (first | omega | (simp only [List.length_append, List.length_take, List.length_replicate, List.length_map, List.length_set, List.length_cons, List.length_nil, List.length_zipWith, List.length_drop, List.length_range]; first | done | omega))) only [go_sem, Nat.reduceAdd, Nat.reduceEqDiff, Nat.reduceLeDiff, Nat.reduceSub]
    | true =>
      simp only [hok, hgd, Bool.and_true] at i1 i2
      obtain ⟨hs, hm⟩ := Bool.and_eq_true .. ▸ hok
      have hgn : goodN n = true := by simp [okSm, plainN] at hs; exact hs.1.1
      have hgp := goodN_parts hgn
      have hmk : marked n m = true := by simp [marked, hgn, hm]
      have hx : okEx n m 100 = true := by simp [okEx, hmk, inB]
      have f1 := impl_FirstDead_no n m 100 hsn (by omega) hx (guard_spaceE hs (exAll_facts hmk (by omega)).1 hgd h1.1.1)
      have ht0 : (0 : Int) < n.tr.length := by have := h1.1.1; omega
      have fire : ∀ M, goodM n.pl M = true → guardB n M = true → ∃ E : List Int, C f_impl_Enabled [encN n, ints M] [] = some (.tup [.un t_int true 1 (E.map I), .bool true], []) ∧ 0 < E.length ∧ E.length ≤ 24 ∧
          (∀ q (hq : q < E.length), (C f_impl_Fire [encN n, ints M, I E[q]] [] = some (.tup [.un t_int true 1 [], .bool false], []) ∨ ∃ M', C f_impl_Fire [encN n, ints M, I E[q]] [] = some (.tup [ints M', .bool true], []) ∧ goodM n.pl M' = true ∧ guardB n M' = true)) := by
        intro M hM hgM
        have hml := goodM_len hM
        have hmkM : marked n M = true := by simp [marked, hgn, hM]
        have en := impl_Enabled_ok n M hsn (by omega)
        simp only [hmkM, if_true] at en
        refine ⟨_, en, List.length_pos_iff.2 (guard_enab hs hM hgM h1.1.1), Nat.le_trans (enabK_len ..) hgp.2.2.1, fun q hq => ?_⟩
        cases hf : okFire n M (enabL n M)[q] with
        | false => exact .inl (impl_Fire_f n M _ hsn (by omega) hf)
        | true => exact .inr ⟨_, impl_Fire_t n M _ hsn (by omega) hf, (marked_parts (okFire_marked hf)).2, guard_fire hs hf hgM⟩
      simp (maxSteps := 2000000) (disch := (first | omega | (simp only [List.length_append, List.length_take, List.length_replicate, List.length_map, List.length_set, List.length_cons, List.length_nil, List.length_zipWith, List.length_drop, List.length_range]; first | done | omega))) only [go_sem, Nat.reduceAdd, Nat.reduceEqDiff, Nat.reduceLeDiff, Nat.reduceSub, e1, i1, i2, ht0]
      refine W_for 12 (fun k s => (k = 0 ∧ s = ⟨[.any, bys b, .any, .ptr 0 0, .ref 1 1 0 m.length, .any, .any, .any, .any, .ref 1 1 0 m.length, I k, .any, .any, .any, .any, .any, .any, .any, .any, .any, .any, .any, .any, .any, .any, .any, .any, .any, .any, .any, .any, .any, .any, .any, .any, .any, .any, .any, .any, .any, .any, .any, .any, .any, .any], [.box t_impl_Net [I n.pl, .ref 2 3 0 n.tr.length], .row t_int true 1 (m.map I), .row t_impl_Trans false 3 (n.tr.map encT)]⟩) ∨
        (0 < k ∧ ∃ M : List Int, s = ⟨[.any, bys b, .any, .ptr 0 0, .ref 1 1 0 m.length, .any, .any, .any, .any, ints M, I k, .any, .any, .any, .any, .any, .any, .any, .any, .any, .any, .any, .any, .any, .any, .any, .any, .any, .any, .any, .any, .any, .any, .any, .any, .any, .any, .any, .any, .any, .any, .any, .any, .any, .any], [.box t_impl_Net [I n.pl, .ref 2 3 0 n.tr.length], .fro true 1 (m.map I), .fro false 3 (n.tr.map encT)]⟩ ∧ goodM n.pl M = true ∧ guardB n M = true)) ?_ ?_ ?_
      · refine .inl ⟨rfl, ?_⟩
        simp (maxSteps := 2000000) (disch := (first | omega | (simp only [List.length_append, List.length_take, List.length_replicate, List.length_map, List.length_set, List.length_cons, List.length_nil, List.length_zipWith, List.length_drop, List.length_range]; first | done | omega))) only [go_sem, Nat.reduceAdd, Nat.reduceEqDiff, Nat.reduceLeDiff, Nat.reduceSub]
        try rfl
      · rintro k s hk (⟨hk0, rfl⟩ | ⟨hk0, M, rfl, hM, hgM⟩)
        · obtain ⟨E, en, hE0, hE1, hF⟩ := fire m hm hgd
          have hne : E.length ≠ 0 := by omega
          have hq0 : 0 ≤ z.tdiv (k + 1) := Int.tdiv_nonneg h5 (by omega)
          have hq1 : z.tdiv (k + 1) ≤ z := by
            rw [Int.tdiv_eq_ediv_of_nonneg h5]
            exact Int.ediv_le_self _ h5
          have hm0 : 0 ≤ (z.tdiv (k + 1)).tmod E.length := Int.tmod_nonneg _ hq0
          have hm1 : (z.tdiv (k + 1)).tmod E.length < E.length := Int.tmod_lt_of_pos _ (by omega)
          obtain ⟨q, hq⟩ : ∃ q : Nat, (z.tdiv (k + 1)).tmod E.length = q := ⟨((z.tdiv (k + 1)).tmod E.length).toNat, by omega⟩
          have hml := goodM_len hm
          rcases hF q (by omega) with hF | ⟨M', hF, g1, g2⟩
          · simp (maxSteps := 2000000) (disch := (first | omega | (simp only [List.length_append, List.length_take, List.length_replicate, List.length_map, List.length_set, List.length_cons, List.length_nil, List.length_zipWith, List.length_drop, List.length_range]; first | done | omega))) only [go_sem, Nat.reduceAdd, Nat.reduceEqDiff, Nat.reduceLeDiff, Nat.reduceSub, e5, en, hne, hq, hF, f1]
            cases hcu : okSm u <;> rw [hcu] at i5 i6
            all_goals
              simp (maxSteps := 2000000) (disch := (first | omega | (simp only [List.length_append, List.length_take, List.length_replicate, List.length_map, List.length_set, List.length_cons, List.length_nil, List.length_zipWith, List.length_drop, List.length_range]; first | done | omega))) only [go_sem, Nat.reduceAdd, Nat.reduceEqDiff, Nat.reduceLeDiff, Nat.reduceSub, d1, i5, i6, s5]
              refine W_for L.length (fun k s => s = ⟨[.any, .any, .any, .any, .any, .any, .any, .any, .any, .any, .any, .any, .any, .any, .any, .any, .ptr 0 0, .ref 1 1 0 L.length, .any, .any, .any, .any, .any, .any, .any, .any, .any, .any, .any, .any, .any, .any, .any, .any, .any, .ref 1 1 0 L.length, I L.length, I k, .any, .any, .any, .any, .any, .any, .any], [.box t_impl_Net [I u.pl, .ref 2 3 0 u.tr.length], .row t_sl_int false 1 (L.map fun r => ints (setN r)), .fro false 3 (u.tr.map encT)]⟩) ?_ ?_ ?_
              · simp (maxSteps := 2000000) (disch := (first | omega | (simp only [List.length_append, List.length_take, List.length_replicate, List.length_map, List.length_set, List.length_cons, List.length_nil, List.length_zipWith, List.length_drop, List.length_range]; first | done | omega))) only [go_sem, Nat.reduceAdd, Nat.reduceEqDiff, Nat.reduceLeDiff, Nat.reduceSub]
                rfl
              · rintro k s hk rfl
                have hm := List.getElem_mem hk
                have hLk := hL _ hm
                have hsl2 := setN_len L[k]
                have hne1 := setN_ne hLk
                have hne2 : (setN L[k]).length ≠ 0 := by simpa using hne1
                have i7 := hsi _ hm
                simp (maxSteps := 2000000) (disch := (first | omega | (simp only [List.length_append, List.length_take, List.length_replicate, List.length_map, List.length_set, List.length_cons, List.length_nil, List.length_zipWith, List.length_drop, List.length_range]; first | done | omega))) only [go_sem, Nat.reduceAdd, Nat.reduceEqDiff, Nat.reduceLeDiff, Nat.reduceSub, i7, hne2]
                refine W_for L.length (fun j s => s = ⟨[.any, .any, .any, .any, .any, .any, .any, .any, .any, .any, .any, .any, .any, .any, .any, .any, .ptr 0 0, .ref 1 1 0 L.length, .any, .any, .any, I k, ints (setN L[k]), .any, .any, .any, .any, .any, .any, .any, .any, .any, .any, .any, .any, .ref 1 1 0 L.length, I L.length, I k, .any, .any, .ref 1 1 0 L.length, I L.length, I j, .any, .any], [.box t_impl_Net [I u.pl, .ref 2 3 0 u.tr.length], .row t_sl_int false 1 (L.map fun r => ints (setN r)), .fro false 3 (u.tr.map encT)]⟩) ?_ ?_ ?_
                · simp (maxSteps := 2000000) (disch := (first | omega | (simp only [List.length_append, List.length_take, List.length_replicate, List.length_map, List.length_set, List.length_cons, List.length_nil, List.length_zipWith, List.length_drop, List.length_range]; first | done | omega))) only [go_sem, Nat.reduceAdd, Nat.reduceEqDiff, Nat.reduceLeDiff, Nat.reduceSub]
                  rfl
                · rintro j s hj rfl
                  have w1 := laws_within_ok (setN L[j]) (setN L[k]) (by have := setN_len L[j]; omega) (by omega)
                  by_cases hij : k = j
                  · subst hij
                    simp (maxSteps := 2000000) (disch := (first | omega | (simp only [List.length_append, List.length_take, List.length_replicate, List.length_map, List.length_set, List.length_cons, List.length_nil, List.length_zipWith, List.length_drop, List.length_range]; first | done | omega))) only [go_sem, Nat.reduceAdd, Nat.reduceEqDiff, Nat.reduceLeDiff, Nat.reduceSub]
                    try rfl
                  · have hij2 : ¬ ((k : Int) = j) := by omega
                    rw [hmin k j hk hj hij] at w1
                    simp (maxSteps := 2000000) (disch := (first | omega | (simp only [List.length_append, List.length_take, List.length_replicate, List.length_map, List.length_set, List.length_cons, List.length_nil, List.length_zipWith, List.length_drop, List.length_range]; first | done | omega))) only [go_sem, Nat.reduceAdd, Nat.reduceEqDiff, Nat.reduceLeDiff, Nat.reduceSub, w1, hij2]
                    try rfl
                · rintro s rfl
                  simp (maxSteps := 2000000) (disch := (first | omega | (simp only [List.length_append, List.length_take, List.length_replicate, List.length_map, List.length_set, List.length_cons, List.length_nil, List.length_zipWith, List.length_drop, List.length_range]; first | done | omega))) only [go_sem, Nat.reduceAdd, Nat.reduceEqDiff, Nat.reduceLeDiff, Nat.reduceSub]
                  try rfl
              · rintro s rfl
                simp (maxSteps := 2000000) (disch := (first | omega | (simp only [List.length_append, List.length_take, List.length_replicate, List.length_map, List.length_set, List.length_cons, List.length_nil, List.length_zipWith, List.length_drop, List.length_range]; first | done | omega))) only [go_sem, Nat.reduceAdd, Nat.reduceEqDiff, Nat.reduceLeDiff, Nat.reduceSub]
          · simp (maxSteps := 2000000) (disch := (first | omega | (simp only [List.length_append, List.length_take, List.length_replicate, List.length_map, List.length_set, List.length_cons, List.length_nil, List.length_zipWith, List.length_drop, List.length_range]; first | done | omega))) only [go_sem, Nat.reduceAdd, Nat.reduceEqDiff, Nat.reduceLeDiff, Nat.reduceSub, e5, en, hne, hq, hF]
            first
              | exact ⟨by omega, M', rfl, g1, g2⟩
              | exact ⟨M', rfl, g1, g2⟩
        · obtain ⟨E, en, hE0, hE1, hF⟩ := fire M hM hgM
          have hne : E.length ≠ 0 := by omega
          have hq0 : 0 ≤ z.tdiv (k + 1) := Int.tdiv_nonneg h5 (by omega)
          have hq1 : z.tdiv (k + 1) ≤ z := by
            rw [Int.tdiv_eq_ediv_of_nonneg h5]
            exact Int.ediv_le_self _ h5
          have hm0 : 0 ≤ (z.tdiv (k + 1)).tmod E.length := Int.tmod_nonneg _ hq0
          have hm1 : (z.tdiv (k + 1)).tmod E.length < E.length := Int.tmod_lt_of_pos _ (by omega)
          obtain ⟨q, hq⟩ : ∃ q : Nat, (z.tdiv (k + 1)).tmod E.length = q := ⟨((z.tdiv (k + 1)).tmod E.length).toNat, by omega⟩
          have hml := goodM_len hM
          rcases hF q (by omega) with hF | ⟨M', hF, g1, g2⟩
          · simp (maxSteps := 2000000) (disch := (first | omega | (simp only [List.length_append, List.length_take, List.length_replicate, List.length_map, List.length_set, List.length_cons, List.length_nil, List.length_zipWith, List.length_drop, List.length_range]; first | done | omega))) only [go_sem, Nat.reduceAdd, Nat.reduceEqDiff, Nat.reduceLeDiff, Nat.reduceSub, e5, en, hne, hq, hF, f1]
            cases hcu : okSm u <;> rw [hcu] at i5 i6
            all_goals
              simp (maxSteps := 2000000) (disch := (first | omega | (simp only [List.length_append, List.length_take, List.length_replicate, List.length_map, List.length_set, List.length_cons, List.length_nil, List.length_zipWith, List.length_drop, List.length_range]; first | done | omega))) only [go_sem, Nat.reduceAdd, Nat.reduceEqDiff, Nat.reduceLeDiff, Nat.reduceSub, d1, i5, i6, s5]
              refine W_for L.length (fun k s => s = ⟨[.any, .any, .any, .any, .any, .any, .any, .any, .any, .any, .any, .any, .any, .any, .any, .any, .ptr 0 0, .ref 1 1 0 L.length, .any, .any, .any, .any, .any, .any, .any, .any, .any, .any, .any, .any, .any, .any, .any, .any, .any, .ref 1 1 0 L.length, I L.length, I k, .any, .any, .any, .any, .any, .any, .any], [.box t_impl_Net [I u.pl, .ref 2 3 0 u.tr.length], .row t_sl_int false 1 (L.map fun r => ints (setN r)), .fro false 3 (u.tr.map encT)]⟩) ?_ ?_ ?_
              · simp (maxSteps := 2000000) (disch := (first | omega | (simp only [List.length_append, List.length_take, List.length_replicate, List.length_map, List.length_set, List.length_cons, List.length_nil, List.length_zipWith, List.length_drop, List.length_range]; first | done | omega))) only [go_sem, Nat.reduceAdd, Nat.reduceEqDiff, Nat.reduceLeDiff, Nat.reduceSub]
                rfl
              · rintro k s hk rfl
                have hm := List.getElem_mem hk
                have hLk := hL _ hm
                have hsl2 := setN_len L[k]
                have hne1 := setN_ne hLk
                have hne2 : (setN L[k]).length ≠ 0 := by simpa using hne1
                have i7 := hsi _ hm
                simp (maxSteps := 2000000) (disch := (first | omega | (simp only [List.length_append, List.length_take, List.length_replicate, List.length_map, List.length_set, List.length_cons, List.length_nil, List.length_zipWith, List.length_drop, List.length_range]; first | done | omega))) only [go_sem, Nat.reduceAdd, Nat.reduceEqDiff, Nat.reduceLeDiff, Nat.reduceSub, i7, hne2]
                refine W_for L.length (fun j s => s = ⟨[.any, .any, .any, .any, .any, .any, .any, .any, .any, .any, .any, .any, .any, .any, .any, .any, .ptr 0 0, .ref 1 1 0 L.length, .any, .any, .any, I k, ints (setN L[k]), .any, .any, .any, .any, .any, .any, .any, .any, .any, .any, .any, .any, .ref 1 1 0 L.length, I L.length, I k, .any, .any, .ref 1 1 0 L.length, I L.length, I j, .any, .any], [.box t_impl_Net [I u.pl, .ref 2 3 0 u.tr.length], .row t_sl_int false 1 (L.map fun r => ints (setN r)), .fro false 3 (u.tr.map encT)]⟩) ?_ ?_ ?_
                · simp (maxSteps := 2000000) (disch := (first | omega | (simp only [List.length_append, List.length_take, List.length_replicate, List.length_map, List.length_set, List.length_cons, List.length_nil, List.length_zipWith, List.length_drop, List.length_range]; first | done | omega))) only [go_sem, Nat.reduceAdd, Nat.reduceEqDiff, Nat.reduceLeDiff, Nat.reduceSub]
                  rfl
                · rintro j s hj rfl
                  have w1 := laws_within_ok (setN L[j]) (setN L[k]) (by have := setN_len L[j]; omega) (by omega)
                  by_cases hij : k = j
                  · subst hij
                    simp (maxSteps := 2000000) (disch := (first | omega | (simp only [List.length_append, List.length_take, List.length_replicate, List.length_map, List.length_set, List.length_cons, List.length_nil, List.length_zipWith, List.length_drop, List.length_range]; first | done | omega))) only [go_sem, Nat.reduceAdd, Nat.reduceEqDiff, Nat.reduceLeDiff, Nat.reduceSub]
                    try rfl
                  · have hij2 : ¬ ((k : Int) = j) := by omega
                    rw [hmin k j hk hj hij] at w1
                    simp (maxSteps := 2000000) (disch := (first | omega | (simp only [List.length_append, List.length_take, List.length_replicate, List.length_map, List.length_set, List.length_cons, List.length_nil, List.length_zipWith, List.length_drop, List.length_range]; first | done | omega))) only [go_sem, Nat.reduceAdd, Nat.reduceEqDiff, Nat.reduceLeDiff, Nat.reduceSub, w1, hij2]
                    try rfl
                · rintro s rfl
                  simp (maxSteps := 2000000) (disch := (first | omega | (simp only [List.length_append, List.length_take, List.length_replicate, List.length_map, List.length_set, List.length_cons, List.length_nil, List.length_zipWith, List.length_drop, List.length_range]; first | done | omega))) only [go_sem, Nat.reduceAdd, Nat.reduceEqDiff, Nat.reduceLeDiff, Nat.reduceSub]
                  try rfl
              · rintro s rfl
                simp (maxSteps := 2000000) (disch := (first | omega | (simp only [List.length_append, List.length_take, List.length_replicate, List.length_map, List.length_set, List.length_cons, List.length_nil, List.length_zipWith, List.length_drop, List.length_range]; first | done | omega))) only [go_sem, Nat.reduceAdd, Nat.reduceEqDiff, Nat.reduceLeDiff, Nat.reduceSub]
          · simp (maxSteps := 2000000) (disch := (first | omega | (simp only [List.length_append, List.length_take, List.length_replicate, List.length_map, List.length_set, List.length_cons, List.length_nil, List.length_zipWith, List.length_drop, List.length_range]; first | done | omega))) only [go_sem, Nat.reduceAdd, Nat.reduceEqDiff, Nat.reduceLeDiff, Nat.reduceSub, e5, en, hne, hq, hF]
            first
              | exact ⟨by omega, M', rfl, g1, g2⟩
              | exact ⟨M', rfl, g1, g2⟩
      · rintro s (⟨h, _⟩ | ⟨hk0, M, rfl, hM, hgM⟩)
        · omega
        · simp (maxSteps := 2000000) (disch := (first | omega | (simp only [List.length_append, List.length_take, List.length_replicate, List.length_map, List.length_set, List.length_cons, List.length_nil, List.length_zipWith, List.length_drop, List.length_range]; first | done | omega))) only [go_sem, Nat.reduceAdd, Nat.reduceEqDiff, Nat.reduceLeDiff, Nat.reduceSub, f1]
          cases hcu : okSm u <;> rw [hcu] at i5 i6
          all_goals
            simp (maxSteps := 2000000) (disch := (first | omega | (simp only [List.length_append, List.length_take, List.length_replicate, List.length_map, List.length_set, List.length_cons, List.length_nil, List.length_zipWith, List.length_drop, List.length_range]; first | done | omega))) only [go_sem, Nat.reduceAdd, Nat.reduceEqDiff, Nat.reduceLeDiff, Nat.reduceSub, d1, i5, i6, s5]
            refine W_for L.length (fun k s => s = ⟨[.any, .any, .any, .any, .any, .any, .any, .any, .any, .any, .any, .any, .any, .any, .any, .any, .ptr 0 0, .ref 1 1 0 L.length, .any, .any, .any, .any, .any, .any, .any, .any, .any, .any, .any, .any, .any, .any, .any, .any, .any, .ref 1 1 0 L.length, I L.length, I k, .any, .any, .any, .any, .any, .any, .any], [.box t_impl_Net [I u.pl, .ref 2 3 0 u.tr.length], .row t_sl_int false 1 (L.map fun r => ints (setN r)), .fro false 3 (u.tr.map encT)]⟩) ?_ ?_ ?_
            · simp (maxSteps := 2000000) (disch := (first | omega | (simp only [List.length_append, List.length_take, List.length_replicate, List.length_map, List.length_set, List.length_cons, List.length_nil, List.length_zipWith, List.length_drop, List.length_range]; first | done | omega))) only [go_sem, Nat.reduceAdd, Nat.reduceEqDiff, Nat.reduceLeDiff, Nat.reduceSub]
              rfl
            · rintro k s hk rfl
              have hm := List.getElem_mem hk
              have hLk := hL _ hm
              have hsl2 := setN_len L[k]
              have hne1 := setN_ne hLk
              have hne2 : (setN L[k]).length ≠ 0 := by simpa using hne1
              have i7 := hsi _ hm
              simp (maxSteps := 2000000) (disch := (first | omega | (simp only [List.length_append, List.length_take, List.length_replicate, List.length_map, List.length_set, List.length_cons, List.length_nil, List.length_zipWith, List.length_drop, List.length_range]; first | done | omega))) only [go_sem, Nat.reduceAdd, Nat.reduceEqDiff, Nat.reduceLeDiff, Nat.reduceSub, i7, hne2]
              refine W_for L.length (fun j s => s = ⟨[.any, .any, .any, .any, .any, .any, .any, .any, .any, .any, .any, .any, .any, .any, .any, .any, .ptr 0 0, .ref 1 1 0 L.length, .any, .any, .any, I k, ints (setN L[k]), .any, .any, .any, .any, .any, .any, .any, .any, .any, .any, .any, .any, .ref 1 1 0 L.length, I L.length, I k, .any, .any, .ref 1 1 0 L.length, I L.length, I j, .any, .any], [.box t_impl_Net [I u.pl, .ref 2 3 0 u.tr.length], .row t_sl_int false 1 (L.map fun r => ints (setN r)), .fro false 3 (u.tr.map encT)]⟩) ?_ ?_ ?_
              · simp (maxSteps := 2000000) (disch := (first | omega | (simp only [List.length_append, List.length_take, List.length_replicate, List.length_map, List.length_set, List.length_cons, List.length_nil, List.length_zipWith, List.length_drop, List.length_range]; first | done | omega))) only [go_sem, Nat.reduceAdd, Nat.reduceEqDiff, Nat.reduceLeDiff, Nat.reduceSub]
                rfl
              · rintro j s hj rfl
                have w1 := laws_within_ok (setN L[j]) (setN L[k]) (by have := setN_len L[j]; omega) (by omega)
                by_cases hij : k = j
                · subst hij
                  simp (maxSteps := 2000000) (disch := (first | omega | (simp only [List.length_append, List.length_take, List.length_replicate, List.length_map, List.length_set, List.length_cons, List.length_nil, List.length_zipWith, List.length_drop, List.length_range]; first | done | omega))) only [go_sem, Nat.reduceAdd, Nat.reduceEqDiff, Nat.reduceLeDiff, Nat.reduceSub]
                  try rfl
                · have hij2 : ¬ ((k : Int) = j) := by omega
                  rw [hmin k j hk hj hij] at w1
                  simp (maxSteps := 2000000) (disch := (first | omega | (simp only [List.length_append, List.length_take, List.length_replicate, List.length_map, List.length_set, List.length_cons, List.length_nil, List.length_zipWith, List.length_drop, List.length_range]; first | done | omega))) only [go_sem, Nat.reduceAdd, Nat.reduceEqDiff, Nat.reduceLeDiff, Nat.reduceSub, w1, hij2]
                  try rfl
              · rintro s rfl
                simp (maxSteps := 2000000) (disch := (first | omega | (simp only [List.length_append, List.length_take, List.length_replicate, List.length_map, List.length_set, List.length_cons, List.length_nil, List.length_zipWith, List.length_drop, List.length_range]; first | done | omega))) only [go_sem, Nat.reduceAdd, Nat.reduceEqDiff, Nat.reduceLeDiff, Nat.reduceSub]
                try rfl
            · rintro s rfl
              simp (maxSteps := 2000000) (disch := (first | omega | (simp only [List.length_append, List.length_take, List.length_replicate, List.length_map, List.length_set, List.length_cons, List.length_nil, List.length_zipWith, List.length_drop, List.length_range]; first | done | omega))) only [go_sem, Nat.reduceAdd, Nat.reduceEqDiff, Nat.reduceLeDiff, Nat.reduceSub]
end Go.Proofs.Ytldlbpdbbbajfaa.Pi
