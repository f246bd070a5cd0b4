/- The forms are those of the program. No condition. -/
import Derived.Test.YtngjepmopahgdaaChecked
import Derived.Test.YtngjepmopahgdaaIrFnKeptSum
import Derived.Test.YtngjepmopahgdaaPiTop
import Derived.Test.YtngjepmopahgdaaPiDz
import Derived.KernelRfl
namespace Go.Proofs.Ytngjepmopahgdaa.Pi
open Go
set_option linter.all false
def mf (f : FuncId) : Bool := [233, 137, 136, 244, 232, 206, 134, 243, 193, 171, 197, 135].contains f
theorem K_laws_big : compile Try.prog mf Try.f15 = some ir_laws_big := by kernel_rfl
theorem K_spec_l1Cur_next : compile Try.prog mf Try.f233 = some ir_spec_l1Cur_next := by kernel_rfl
theorem K_spec_l1Cur_pick : compile Try.prog mf Try.f137 = some ir_spec_l1Cur_pick := by kernel_rfl
theorem K_spec_l1Cur_one : compile Try.prog mf Try.f136 = some ir_spec_l1Cur_one := by kernel_rfl
theorem K_spec_l1Put : compile Try.prog mf Try.f244 = some ir_spec_l1Put := by kernel_rfl
theorem K_spec_l1Cur_someOf : compile Try.prog mf Try.f232 = some ir_spec_l1Cur_someOf := by kernel_rfl
theorem K_spec_l1Cur_among : compile Try.prog mf Try.f206 = some ir_spec_l1Cur_among := by kernel_rfl
theorem K_spec_l1Cur_net : compile Try.prog mf Try.f134 = some ir_spec_l1Cur_net := by kernel_rfl
theorem K_spec_l1Most : compile Try.prog mf Try.f148 = some ir_spec_l1Most := by kernel_rfl
theorem K_spec_l1Least : compile Try.prog mf Try.f240 = some ir_spec_l1Least := by kernel_rfl
theorem K_spec_l1Cur_grow : compile Try.prog mf Try.f243 = some ir_spec_l1Cur_grow := by kernel_rfl
theorem K_spec_l1Cur_flow : compile Try.prog mf Try.f193 = some ir_spec_l1Cur_flow := by kernel_rfl
theorem K_spec_l1Cur_kept : compile Try.prog mf Try.f171 = some ir_spec_l1Cur_kept := by kernel_rfl
theorem K_spec_l1In : compile Try.prog mf Try.f143 = some ir_spec_l1In := by kernel_rfl
theorem K_spec_l1Places : compile Try.prog mf Try.f129 = some ir_spec_l1Places := by kernel_rfl
theorem K_spec_l1Rising : compile Try.prog mf Try.f154 = some ir_spec_l1Rising := by kernel_rfl
theorem K_spec_GoodNet : compile Try.prog mf Try.f38 = some ir_spec_GoodNet := by kernel_rfl
theorem K_spec_l2Resets : compile Try.prog mf Try.f159 = some ir_spec_l2Resets := by kernel_rfl
theorem K_spec_l7Plain : compile Try.prog mf Try.f209 = some ir_spec_l7Plain := by kernel_rfl
theorem K_spec_l1Set : compile Try.prog mf Try.f250 = some ir_spec_l1Set := by kernel_rfl
theorem K_spec_l7Row : compile Try.prog mf Try.f249 = some ir_spec_l7Row := by kernel_rfl
theorem K_spec_l7Sum : compile Try.prog mf Try.f245 = some ir_spec_l7Sum := by kernel_rfl
theorem K_spec_l7Invariant : compile Try.prog mf Try.f201 = some ir_spec_l7Invariant := by kernel_rfl
theorem K_spec_l7Small : compile Try.prog mf Try.f213 = some ir_spec_l7Small := by kernel_rfl
theorem K_spec_SmallInvariants : compile Try.prog mf Try.f93 = some ir_spec_SmallInvariants := by kernel_rfl
theorem K_spec_l1Cur_weights : compile Try.prog mf Try.f197 = some ir_spec_l1Cur_weights := by kernel_rfl
theorem K_spec_l1Cur_markOf : compile Try.prog mf Try.f135 = some ir_spec_l1Cur_markOf := by kernel_rfl
theorem K_spec_DrawWeightOf : compile Try.prog mf Try.f79 = some ir_spec_DrawWeightOf := by kernel_rfl
theorem K_impl_within : compile Try.prog mf Try.f127 = some ir_impl_within := by kernel_rfl
theorem K_impl_increasing : compile Try.prog mf Try.f237 = some ir_impl_increasing := by kernel_rfl
theorem K_impl_allWithin : compile Try.prog mf Try.f128 = some ir_impl_allWithin := by kernel_rfl
theorem K_impl_arePlaces : compile Try.prog mf Try.f153 = some ir_impl_arePlaces := by kernel_rfl
theorem K_impl_GoodNet_1 : compile Try.prog mf Try.f152 = some ir_impl_GoodNet_1 := by kernel_rfl
theorem K_slices_IndexFunc_sl_impl_Trans_impl_Trans : compile Try.prog mf Try.f236 = some ir_slices_IndexFunc_sl_impl_Trans_impl_Trans := by kernel_rfl
theorem K_slices_ContainsFunc_sl_impl_Trans_impl_Trans : compile Try.prog mf Try.f151 = some ir_slices_ContainsFunc_sl_impl_Trans_impl_Trans := by kernel_rfl
theorem K_impl_GoodNet : compile Try.prog mf Try.f37 = some ir_impl_GoodNet := by kernel_rfl
theorem K_impl_hasResets_1 : compile Try.prog mf Try.f235 = some ir_impl_hasResets_1 := by kernel_rfl
theorem K_impl_hasResets : compile Try.prog mf Try.f146 = some ir_impl_hasResets := by kernel_rfl
theorem K_impl_isPlain : compile Try.prog mf Try.f173 = some ir_impl_isPlain := by kernel_rfl
theorem K_impl_areWeights : compile Try.prog mf Try.f198 = some ir_impl_areWeights := by kernel_rfl
theorem K_impl_weightOn : compile Try.prog mf Try.f199 = some ir_impl_weightOn := by kernel_rfl
theorem K_impl_IsInvariant : compile Try.prog mf Try.f80 = some ir_impl_IsInvariant := by kernel_rfl
theorem K_spec_l1All : compile Try.prog mf Try.f130 = some ir_spec_l1All := by kernel_rfl
theorem K_spec_l7Weights : compile Try.prog mf Try.f200 = some ir_spec_l7Weights := by kernel_rfl
theorem K_spec_IsInvariant : compile Try.prog mf Try.f81 = some ir_spec_IsInvariant := by kernel_rfl
theorem K_impl_GoodMark : compile Try.prog mf Try.f24 = some ir_impl_GoodMark := by kernel_rfl
theorem K_impl_combined : compile Try.prog mf Try.f121 = some ir_impl_combined := by kernel_rfl
theorem K_impl_WeightOf_1 : compile Try.prog mf Try.f202 = some ir_impl_WeightOf_1 := by kernel_rfl
theorem K_impl_sumOf : compile Try.prog mf Try.f131 = some ir_impl_sumOf := by kernel_rfl
theorem K_impl_WeightOf : compile Try.prog mf Try.f82 = some ir_impl_WeightOf := by kernel_rfl
theorem K_spec_GoodMark : compile Try.prog mf Try.f25 = some ir_spec_GoodMark := by kernel_rfl
theorem K_spec_WeightOf : compile Try.prog mf Try.f83 = some ir_spec_WeightOf := by kernel_rfl
theorem K_laws_numberOf : compile Try.prog mf Try.f33 = some ir_laws_numberOf := by kernel_rfl
theorem K_impl_isMarked : compile Try.prog mf Try.f138 = some ir_impl_isMarked := by kernel_rfl
theorem K_impl_areTrans : compile Try.prog mf Try.f149 = some ir_impl_areTrans := by kernel_rfl
theorem K_impl_isTrans : compile Try.prog mf Try.f139 = some ir_impl_isTrans := by kernel_rfl
theorem K_impl_isEnabled_1 : compile Try.prog mf Try.f234 = some ir_impl_isEnabled_1 := by kernel_rfl
theorem K_slices_IndexFunc_sl_int_int : compile Try.prog mf Try.f238 = some ir_slices_IndexFunc_sl_int_int := by kernel_rfl
theorem K_slices_ContainsFunc_sl_int_int : compile Try.prog mf Try.f165 = some ir_slices_ContainsFunc_sl_int_int := by kernel_rfl
theorem K_impl_isEnabled : compile Try.prog mf Try.f140 = some ir_impl_isEnabled := by kernel_rfl
theorem K_impl_fired : compile Try.prog mf Try.f141 = some ir_impl_fired := by kernel_rfl
theorem K_impl_checkedMark : compile Try.prog mf Try.f120 = some ir_impl_checkedMark := by kernel_rfl
theorem K_impl_Fire : compile Try.prog mf Try.f30 = some ir_impl_Fire := by kernel_rfl
theorem K_impl_FireAll : compile Try.prog mf Try.f35 = some ir_impl_FireAll := by kernel_rfl
theorem K_impl_CountsOf : compile Try.prog mf Try.f84 = some ir_impl_CountsOf := by kernel_rfl
theorem K_impl_areCounts : compile Try.prog mf Try.f203 = some ir_impl_areCounts := by kernel_rfl
theorem K_impl_changeBy : compile Try.prog mf Try.f204 = some ir_impl_changeBy := by kernel_rfl
theorem K_impl_ChangeBy : compile Try.prog mf Try.f85 = some ir_impl_ChangeBy := by kernel_rfl
theorem K_impl_IsCycle_1 : compile Try.prog mf Try.f205 = some ir_impl_IsCycle_1 := by kernel_rfl
theorem K_impl_IsCycle : compile Try.prog mf Try.f86 = some ir_impl_IsCycle := by kernel_rfl
theorem K_laws_sameInts : compile Try.prog mf Try.f23 = some ir_laws_sameInts := by kernel_rfl
theorem K_spec_DrawChangeBy : compile Try.prog mf Try.f87 = some ir_spec_DrawChangeBy := by kernel_rfl
theorem K_spec_l7Counts : compile Try.prog mf Try.f207 = some ir_spec_l7Counts := by kernel_rfl
theorem K_spec_l7Change : compile Try.prog mf Try.f208 = some ir_spec_l7Change := by kernel_rfl
theorem K_spec_ChangeBy : compile Try.prog mf Try.f88 = some ir_spec_ChangeBy := by kernel_rfl
theorem K_spec_DrawCountsOf : compile Try.prog mf Try.f89 = some ir_spec_DrawCountsOf := by kernel_rfl
theorem K_spec_CountsOf : compile Try.prog mf Try.f90 = some ir_spec_CountsOf := by kernel_rfl
theorem K_laws_FnKeptSum : compile Try.prog mf Try.f10 = some ir_laws_FnKeptSum := by kernel_rfl
theorem tblOk : ∀ p ∈ tbl, ∃ fn, Try.prog.funcs[p.1]? = some fn ∧ compile Try.prog mf fn = some p.2 := by
  unfold tbl
  refine List.forall_mem_cons.2 ⟨⟨Try.f15, Try.func15, K_laws_big⟩, ?_⟩
  refine List.forall_mem_cons.2 ⟨⟨Try.f233, Try.func233, K_spec_l1Cur_next⟩, ?_⟩
  refine List.forall_mem_cons.2 ⟨⟨Try.f137, Try.func137, K_spec_l1Cur_pick⟩, ?_⟩
  refine List.forall_mem_cons.2 ⟨⟨Try.f136, Try.func136, K_spec_l1Cur_one⟩, ?_⟩
  refine List.forall_mem_cons.2 ⟨⟨Try.f244, Try.func244, K_spec_l1Put⟩, ?_⟩
  refine List.forall_mem_cons.2 ⟨⟨Try.f232, Try.func232, K_spec_l1Cur_someOf⟩, ?_⟩
  refine List.forall_mem_cons.2 ⟨⟨Try.f206, Try.func206, K_spec_l1Cur_among⟩, ?_⟩
  refine List.forall_mem_cons.2 ⟨⟨Try.f134, Try.func134, K_spec_l1Cur_net⟩, ?_⟩
  refine List.forall_mem_cons.2 ⟨⟨Try.f148, Try.func148, K_spec_l1Most⟩, ?_⟩
  refine List.forall_mem_cons.2 ⟨⟨Try.f240, Try.func240, K_spec_l1Least⟩, ?_⟩
  refine List.forall_mem_cons.2 ⟨⟨Try.f243, Try.func243, K_spec_l1Cur_grow⟩, ?_⟩
  refine List.forall_mem_cons.2 ⟨⟨Try.f193, Try.func193, K_spec_l1Cur_flow⟩, ?_⟩
  refine List.forall_mem_cons.2 ⟨⟨Try.f171, Try.func171, K_spec_l1Cur_kept⟩, ?_⟩
  refine List.forall_mem_cons.2 ⟨⟨Try.f143, Try.func143, K_spec_l1In⟩, ?_⟩
  refine List.forall_mem_cons.2 ⟨⟨Try.f129, Try.func129, K_spec_l1Places⟩, ?_⟩
  refine List.forall_mem_cons.2 ⟨⟨Try.f154, Try.func154, K_spec_l1Rising⟩, ?_⟩
  refine List.forall_mem_cons.2 ⟨⟨Try.f38, Try.func38, K_spec_GoodNet⟩, ?_⟩
  refine List.forall_mem_cons.2 ⟨⟨Try.f159, Try.func159, K_spec_l2Resets⟩, ?_⟩
  refine List.forall_mem_cons.2 ⟨⟨Try.f209, Try.func209, K_spec_l7Plain⟩, ?_⟩
  refine List.forall_mem_cons.2 ⟨⟨Try.f250, Try.func250, K_spec_l1Set⟩, ?_⟩
  refine List.forall_mem_cons.2 ⟨⟨Try.f249, Try.func249, K_spec_l7Row⟩, ?_⟩
  refine List.forall_mem_cons.2 ⟨⟨Try.f245, Try.func245, K_spec_l7Sum⟩, ?_⟩
  refine List.forall_mem_cons.2 ⟨⟨Try.f201, Try.func201, K_spec_l7Invariant⟩, ?_⟩
  refine List.forall_mem_cons.2 ⟨⟨Try.f213, Try.func213, K_spec_l7Small⟩, ?_⟩
  refine List.forall_mem_cons.2 ⟨⟨Try.f93, Try.func93, K_spec_SmallInvariants⟩, ?_⟩
  refine List.forall_mem_cons.2 ⟨⟨Try.f197, Try.func197, K_spec_l1Cur_weights⟩, ?_⟩
  refine List.forall_mem_cons.2 ⟨⟨Try.f135, Try.func135, K_spec_l1Cur_markOf⟩, ?_⟩
  refine List.forall_mem_cons.2 ⟨⟨Try.f79, Try.func79, K_spec_DrawWeightOf⟩, ?_⟩
  refine List.forall_mem_cons.2 ⟨⟨Try.f127, Try.func127, K_impl_within⟩, ?_⟩
  refine List.forall_mem_cons.2 ⟨⟨Try.f237, Try.func237, K_impl_increasing⟩, ?_⟩
  refine List.forall_mem_cons.2 ⟨⟨Try.f128, Try.func128, K_impl_allWithin⟩, ?_⟩
  refine List.forall_mem_cons.2 ⟨⟨Try.f153, Try.func153, K_impl_arePlaces⟩, ?_⟩
  refine List.forall_mem_cons.2 ⟨⟨Try.f152, Try.func152, K_impl_GoodNet_1⟩, ?_⟩
  refine List.forall_mem_cons.2 ⟨⟨Try.f236, Try.func236, K_slices_IndexFunc_sl_impl_Trans_impl_Trans⟩, ?_⟩
  refine List.forall_mem_cons.2 ⟨⟨Try.f151, Try.func151, K_slices_ContainsFunc_sl_impl_Trans_impl_Trans⟩, ?_⟩
  refine List.forall_mem_cons.2 ⟨⟨Try.f37, Try.func37, K_impl_GoodNet⟩, ?_⟩
  refine List.forall_mem_cons.2 ⟨⟨Try.f235, Try.func235, K_impl_hasResets_1⟩, ?_⟩
  refine List.forall_mem_cons.2 ⟨⟨Try.f146, Try.func146, K_impl_hasResets⟩, ?_⟩
  refine List.forall_mem_cons.2 ⟨⟨Try.f173, Try.func173, K_impl_isPlain⟩, ?_⟩
  refine List.forall_mem_cons.2 ⟨⟨Try.f198, Try.func198, K_impl_areWeights⟩, ?_⟩
  refine List.forall_mem_cons.2 ⟨⟨Try.f199, Try.func199, K_impl_weightOn⟩, ?_⟩
  refine List.forall_mem_cons.2 ⟨⟨Try.f80, Try.func80, K_impl_IsInvariant⟩, ?_⟩
  refine List.forall_mem_cons.2 ⟨⟨Try.f130, Try.func130, K_spec_l1All⟩, ?_⟩
  refine List.forall_mem_cons.2 ⟨⟨Try.f200, Try.func200, K_spec_l7Weights⟩, ?_⟩
  refine List.forall_mem_cons.2 ⟨⟨Try.f81, Try.func81, K_spec_IsInvariant⟩, ?_⟩
  refine List.forall_mem_cons.2 ⟨⟨Try.f24, Try.func24, K_impl_GoodMark⟩, ?_⟩
  refine List.forall_mem_cons.2 ⟨⟨Try.f121, Try.func121, K_impl_combined⟩, ?_⟩
  refine List.forall_mem_cons.2 ⟨⟨Try.f202, Try.func202, K_impl_WeightOf_1⟩, ?_⟩
  refine List.forall_mem_cons.2 ⟨⟨Try.f131, Try.func131, K_impl_sumOf⟩, ?_⟩
  refine List.forall_mem_cons.2 ⟨⟨Try.f82, Try.func82, K_impl_WeightOf⟩, ?_⟩
  refine List.forall_mem_cons.2 ⟨⟨Try.f25, Try.func25, K_spec_GoodMark⟩, ?_⟩
  refine List.forall_mem_cons.2 ⟨⟨Try.f83, Try.func83, K_spec_WeightOf⟩, ?_⟩
  refine List.forall_mem_cons.2 ⟨⟨Try.f33, Try.func33, K_laws_numberOf⟩, ?_⟩
  refine List.forall_mem_cons.2 ⟨⟨Try.f138, Try.func138, K_impl_isMarked⟩, ?_⟩
  refine List.forall_mem_cons.2 ⟨⟨Try.f149, Try.func149, K_impl_areTrans⟩, ?_⟩
  refine List.forall_mem_cons.2 ⟨⟨Try.f139, Try.func139, K_impl_isTrans⟩, ?_⟩
  refine List.forall_mem_cons.2 ⟨⟨Try.f234, Try.func234, K_impl_isEnabled_1⟩, ?_⟩
  refine List.forall_mem_cons.2 ⟨⟨Try.f238, Try.func238, K_slices_IndexFunc_sl_int_int⟩, ?_⟩
  refine List.forall_mem_cons.2 ⟨⟨Try.f165, Try.func165, K_slices_ContainsFunc_sl_int_int⟩, ?_⟩
  refine List.forall_mem_cons.2 ⟨⟨Try.f140, Try.func140, K_impl_isEnabled⟩, ?_⟩
  refine List.forall_mem_cons.2 ⟨⟨Try.f141, Try.func141, K_impl_fired⟩, ?_⟩
  refine List.forall_mem_cons.2 ⟨⟨Try.f120, Try.func120, K_impl_checkedMark⟩, ?_⟩
  refine List.forall_mem_cons.2 ⟨⟨Try.f30, Try.func30, K_impl_Fire⟩, ?_⟩
  refine List.forall_mem_cons.2 ⟨⟨Try.f35, Try.func35, K_impl_FireAll⟩, ?_⟩
  refine List.forall_mem_cons.2 ⟨⟨Try.f84, Try.func84, K_impl_CountsOf⟩, ?_⟩
  refine List.forall_mem_cons.2 ⟨⟨Try.f203, Try.func203, K_impl_areCounts⟩, ?_⟩
  refine List.forall_mem_cons.2 ⟨⟨Try.f204, Try.func204, K_impl_changeBy⟩, ?_⟩
  refine List.forall_mem_cons.2 ⟨⟨Try.f85, Try.func85, K_impl_ChangeBy⟩, ?_⟩
  refine List.forall_mem_cons.2 ⟨⟨Try.f205, Try.func205, K_impl_IsCycle_1⟩, ?_⟩
  refine List.forall_mem_cons.2 ⟨⟨Try.f86, Try.func86, K_impl_IsCycle⟩, ?_⟩
  refine List.forall_mem_cons.2 ⟨⟨Try.f23, Try.func23, K_laws_sameInts⟩, ?_⟩
  refine List.forall_mem_cons.2 ⟨⟨Try.f87, Try.func87, K_spec_DrawChangeBy⟩, ?_⟩
  refine List.forall_mem_cons.2 ⟨⟨Try.f207, Try.func207, K_spec_l7Counts⟩, ?_⟩
  refine List.forall_mem_cons.2 ⟨⟨Try.f208, Try.func208, K_spec_l7Change⟩, ?_⟩
  refine List.forall_mem_cons.2 ⟨⟨Try.f88, Try.func88, K_spec_ChangeBy⟩, ?_⟩
  refine List.forall_mem_cons.2 ⟨⟨Try.f89, Try.func89, K_spec_DrawCountsOf⟩, ?_⟩
  refine List.forall_mem_cons.2 ⟨⟨Try.f90, Try.func90, K_spec_CountsOf⟩, ?_⟩
  refine List.forall_mem_cons.2 ⟨⟨Try.f10, Try.func10, K_laws_FnKeptSum⟩, ?_⟩
  exact fun _ h => (by cases h)
theorem hF (f : FuncId) (i : IFun) (h : F f = some i) : ∃ fn, Try.prog.funcs[f]? = some fn ∧ compile Try.prog mf fn = some i := by
  unfold F at h
  simp only [Option.map_eq_some_iff] at h
  obtain ⟨p, hp, rfl⟩ := h
  have h1 := List.mem_of_find?_eq_some hp
  have h2 := List.find?_some hp
  have h3 : p.1 = f := by simpa using h2
  subst h3
  exact tblOk p h1
theorem extsOk : ∀ p ∈ exts, ExtOk Try.prog p.1 p.2 := by
  unfold exts
  refine List.forall_mem_cons.2 ⟨extClone_ok (mf := mf) (Checked.mixed Try.checked) Try.func150 (show compile Try.prog mf Try.f150 = some (irClone t_int true 1) by kernel_rfl), ?_⟩
  exact fun _ h => (by cases h)
theorem hE (f : FuncId) (e : List PV → Option PV) (h : ext f = some e) : ExtOk Try.prog f e := by
  unfold ext at h
  simp only [Option.map_eq_some_iff] at h
  obtain ⟨p, hp, rfl⟩ := h
  have h1 := List.mem_of_find?_eq_some hp
  have h2 := List.find?_some hp
  have h3 : p.1 = f := by simpa using h2
  subst h3
  exact extsOk p h1
end Go.Proofs.Ytngjepmopahgdaa.Pi
