/- The forms are those of the program. No condition. -/
import Derived.Test.YtngjepmopahgdaaChecked
import Derived.Test.YtngjepmopahgdaaIrFnTurned
import Derived.Test.YtngjepmopahgdaaPiTop
import Derived.Test.YtngjepmopahgdaaPiDz
import Derived.KernelRfl
namespace Go.Proofs.Ytngjepmopahgdaa.Pi
open Go
set_option linter.all false
def mf (f : FuncId) : Bool := [233, 137, 244, 232, 136, 206, 134].contains f
theorem K_laws_big : compile Try.prog mf Try.f15 = some ir_laws_big := by kernel_rfl
theorem K_spec_l1Cur_next : compile Try.prog mf Try.f233 = some ir_spec_l1Cur_next := by kernel_rfl
theorem K_spec_l1Cur_pick : compile Try.prog mf Try.f137 = some ir_spec_l1Cur_pick := by kernel_rfl
theorem K_spec_l1Put : compile Try.prog mf Try.f244 = some ir_spec_l1Put := by kernel_rfl
theorem K_spec_l1Cur_someOf : compile Try.prog mf Try.f232 = some ir_spec_l1Cur_someOf := by kernel_rfl
theorem K_spec_l1Cur_one : compile Try.prog mf Try.f136 = some ir_spec_l1Cur_one := by kernel_rfl
theorem K_spec_l1Cur_among : compile Try.prog mf Try.f206 = some ir_spec_l1Cur_among := by kernel_rfl
theorem K_spec_l1Cur_net : compile Try.prog mf Try.f134 = some ir_spec_l1Cur_net := by kernel_rfl
theorem K_spec_DrawTurnNet : compile Try.prog mf Try.f42 = some ir_spec_DrawTurnNet := by kernel_rfl
theorem K_impl_within : compile Try.prog mf Try.f127 = some ir_impl_within := by kernel_rfl
theorem K_impl_increasing : compile Try.prog mf Try.f237 = some ir_impl_increasing := by kernel_rfl
theorem K_impl_allWithin : compile Try.prog mf Try.f128 = some ir_impl_allWithin := by kernel_rfl
theorem K_impl_arePlaces : compile Try.prog mf Try.f153 = some ir_impl_arePlaces := by kernel_rfl
theorem K_impl_GoodNet_1 : compile Try.prog mf Try.f152 = some ir_impl_GoodNet_1 := by kernel_rfl
theorem K_slices_IndexFunc_sl_impl_Trans_impl_Trans : compile Try.prog mf Try.f236 = some ir_slices_IndexFunc_sl_impl_Trans_impl_Trans := by kernel_rfl
theorem K_slices_ContainsFunc_sl_impl_Trans_impl_Trans : compile Try.prog mf Try.f151 = some ir_slices_ContainsFunc_sl_impl_Trans_impl_Trans := by kernel_rfl
theorem K_impl_GoodNet : compile Try.prog mf Try.f37 = some ir_impl_GoodNet := by kernel_rfl
theorem K_impl_hasResets_1 : compile Try.prog mf Try.f235 = some ir_impl_hasResets_1 := by kernel_rfl
theorem K_impl_hasResets : compile Try.prog mf Try.f146 = some ir_impl_hasResets := by kernel_rfl
theorem K_impl_cloneNet : compile Try.prog mf Try.f157 = some ir_impl_cloneNet := by kernel_rfl
theorem K_impl_checkedNet : compile Try.prog mf Try.f158 = some ir_impl_checkedNet := by kernel_rfl
theorem K_impl_TurnNet : compile Try.prog mf Try.f43 = some ir_impl_TurnNet := by kernel_rfl
theorem K_spec_l1In : compile Try.prog mf Try.f143 = some ir_spec_l1In := by kernel_rfl
theorem K_spec_l1Places : compile Try.prog mf Try.f129 = some ir_spec_l1Places := by kernel_rfl
theorem K_spec_l1Rising : compile Try.prog mf Try.f154 = some ir_spec_l1Rising := by kernel_rfl
theorem K_spec_GoodNet : compile Try.prog mf Try.f38 = some ir_spec_GoodNet := by kernel_rfl
theorem K_spec_l2Resets : compile Try.prog mf Try.f159 = some ir_spec_l2Resets := by kernel_rfl
theorem K_spec_l1Own : compile Try.prog mf Try.f147 = some ir_spec_l1Own := by kernel_rfl
theorem K_spec_TurnNet : compile Try.prog mf Try.f44 = some ir_spec_TurnNet := by kernel_rfl
theorem K_laws_sameInts : compile Try.prog mf Try.f23 = some ir_laws_sameInts := by kernel_rfl
theorem K_laws_sameNet : compile Try.prog mf Try.f45 = some ir_laws_sameNet := by kernel_rfl
theorem K_laws_numberOf : compile Try.prog mf Try.f33 = some ir_laws_numberOf := by kernel_rfl
theorem K_impl_GoodMark : compile Try.prog mf Try.f24 = some ir_impl_GoodMark := by kernel_rfl
theorem K_impl_isMarked : compile Try.prog mf Try.f138 = some ir_impl_isMarked := by kernel_rfl
theorem K_impl_isTrans : compile Try.prog mf Try.f139 = some ir_impl_isTrans := by kernel_rfl
theorem K_impl_isEnabled_1 : compile Try.prog mf Try.f234 = some ir_impl_isEnabled_1 := by kernel_rfl
theorem K_slices_IndexFunc_sl_int_int : compile Try.prog mf Try.f238 = some ir_slices_IndexFunc_sl_int_int := by kernel_rfl
theorem K_slices_ContainsFunc_sl_int_int : compile Try.prog mf Try.f165 = some ir_slices_ContainsFunc_sl_int_int := by kernel_rfl
theorem K_impl_isEnabled : compile Try.prog mf Try.f140 = some ir_impl_isEnabled := by kernel_rfl
theorem K_impl_fired : compile Try.prog mf Try.f141 = some ir_impl_fired := by kernel_rfl
theorem K_impl_checkedMark : compile Try.prog mf Try.f120 = some ir_impl_checkedMark := by kernel_rfl
theorem K_impl_Fire : compile Try.prog mf Try.f30 = some ir_impl_Fire := by kernel_rfl
theorem K_spec_DrawTakersOf : compile Try.prog mf Try.f46 = some ir_spec_DrawTakersOf := by kernel_rfl
theorem K_slices_Index_sl_int_int : compile Try.prog mf Try.f239 = some ir_slices_Index_sl_int_int := by kernel_rfl
theorem K_slices_Contains_sl_int_int : compile Try.prog mf Try.f167 = some ir_slices_Contains_sl_int_int := by kernel_rfl
theorem K_impl_transWith : compile Try.prog mf Try.f160 = some ir_impl_transWith := by kernel_rfl
theorem K_impl_TakersOf_1 : compile Try.prog mf Try.f161 = some ir_impl_TakersOf_1 := by kernel_rfl
theorem K_impl_TakersOf : compile Try.prog mf Try.f47 = some ir_impl_TakersOf := by kernel_rfl
theorem K_spec_l1Has : compile Try.prog mf Try.f192 = some ir_spec_l1Has := by kernel_rfl
theorem K_spec_l2Takers : compile Try.prog mf Try.f162 = some ir_spec_l2Takers := by kernel_rfl
theorem K_spec_TakersOf : compile Try.prog mf Try.f48 = some ir_spec_TakersOf := by kernel_rfl
theorem K_impl_GiversOf_1 : compile Try.prog mf Try.f163 = some ir_impl_GiversOf_1 := by kernel_rfl
theorem K_impl_GiversOf : compile Try.prog mf Try.f49 = some ir_impl_GiversOf := by kernel_rfl
theorem K_spec_l2Givers : compile Try.prog mf Try.f164 = some ir_spec_l2Givers := by kernel_rfl
theorem K_spec_GiversOf : compile Try.prog mf Try.f50 = some ir_spec_GiversOf := by kernel_rfl
theorem K_impl_IsFreeChoice_1 : compile Try.prog mf Try.f166 = some ir_impl_IsFreeChoice_1 := by kernel_rfl
theorem K_slices_Equal_sl_int_int : compile Try.prog mf Try.f168 = some ir_slices_Equal_sl_int_int := by kernel_rfl
theorem K_impl_IsFreeChoice : compile Try.prog mf Try.f51 = some ir_impl_IsFreeChoice := by kernel_rfl
theorem K_spec_l2Meet : compile Try.prog mf Try.f169 = some ir_spec_l2Meet := by kernel_rfl
theorem K_spec_l1Same : compile Try.prog mf Try.f170 = some ir_spec_l1Same := by kernel_rfl
theorem K_spec_IsFreeChoice : compile Try.prog mf Try.f52 = some ir_spec_IsFreeChoice := by kernel_rfl
theorem K_impl_HasResets : compile Try.prog mf Try.f32 = some ir_impl_HasResets := by kernel_rfl
theorem K_spec_HasResets : compile Try.prog mf Try.f53 = some ir_spec_HasResets := by kernel_rfl
theorem K_laws_FnTurned : compile Try.prog mf Try.f6 = some ir_laws_FnTurned := by kernel_rfl
theorem tblOk : ∀ p ∈ tbl, ∃ fn, Try.prog.funcs[p.1]? = some fn ∧ compile Try.prog mf fn = some p.2 := by
  unfold tbl
  refine List.forall_mem_cons.2 ⟨⟨Try.f15, Try.func15, K_laws_big⟩, ?_⟩
  refine List.forall_mem_cons.2 ⟨⟨Try.f233, Try.func233, K_spec_l1Cur_next⟩, ?_⟩
  refine List.forall_mem_cons.2 ⟨⟨Try.f137, Try.func137, K_spec_l1Cur_pick⟩, ?_⟩
  refine List.forall_mem_cons.2 ⟨⟨Try.f244, Try.func244, K_spec_l1Put⟩, ?_⟩
  refine List.forall_mem_cons.2 ⟨⟨Try.f232, Try.func232, K_spec_l1Cur_someOf⟩, ?_⟩
  refine List.forall_mem_cons.2 ⟨⟨Try.f136, Try.func136, K_spec_l1Cur_one⟩, ?_⟩
  refine List.forall_mem_cons.2 ⟨⟨Try.f206, Try.func206, K_spec_l1Cur_among⟩, ?_⟩
  refine List.forall_mem_cons.2 ⟨⟨Try.f134, Try.func134, K_spec_l1Cur_net⟩, ?_⟩
  refine List.forall_mem_cons.2 ⟨⟨Try.f42, Try.func42, K_spec_DrawTurnNet⟩, ?_⟩
  refine List.forall_mem_cons.2 ⟨⟨Try.f127, Try.func127, K_impl_within⟩, ?_⟩
  refine List.forall_mem_cons.2 ⟨⟨Try.f237, Try.func237, K_impl_increasing⟩, ?_⟩
  refine List.forall_mem_cons.2 ⟨⟨Try.f128, Try.func128, K_impl_allWithin⟩, ?_⟩
  refine List.forall_mem_cons.2 ⟨⟨Try.f153, Try.func153, K_impl_arePlaces⟩, ?_⟩
  refine List.forall_mem_cons.2 ⟨⟨Try.f152, Try.func152, K_impl_GoodNet_1⟩, ?_⟩
  refine List.forall_mem_cons.2 ⟨⟨Try.f236, Try.func236, K_slices_IndexFunc_sl_impl_Trans_impl_Trans⟩, ?_⟩
  refine List.forall_mem_cons.2 ⟨⟨Try.f151, Try.func151, K_slices_ContainsFunc_sl_impl_Trans_impl_Trans⟩, ?_⟩
  refine List.forall_mem_cons.2 ⟨⟨Try.f37, Try.func37, K_impl_GoodNet⟩, ?_⟩
  refine List.forall_mem_cons.2 ⟨⟨Try.f235, Try.func235, K_impl_hasResets_1⟩, ?_⟩
  refine List.forall_mem_cons.2 ⟨⟨Try.f146, Try.func146, K_impl_hasResets⟩, ?_⟩
  refine List.forall_mem_cons.2 ⟨⟨Try.f157, Try.func157, K_impl_cloneNet⟩, ?_⟩
  refine List.forall_mem_cons.2 ⟨⟨Try.f158, Try.func158, K_impl_checkedNet⟩, ?_⟩
  refine List.forall_mem_cons.2 ⟨⟨Try.f43, Try.func43, K_impl_TurnNet⟩, ?_⟩
  refine List.forall_mem_cons.2 ⟨⟨Try.f143, Try.func143, K_spec_l1In⟩, ?_⟩
  refine List.forall_mem_cons.2 ⟨⟨Try.f129, Try.func129, K_spec_l1Places⟩, ?_⟩
  refine List.forall_mem_cons.2 ⟨⟨Try.f154, Try.func154, K_spec_l1Rising⟩, ?_⟩
  refine List.forall_mem_cons.2 ⟨⟨Try.f38, Try.func38, K_spec_GoodNet⟩, ?_⟩
  refine List.forall_mem_cons.2 ⟨⟨Try.f159, Try.func159, K_spec_l2Resets⟩, ?_⟩
  refine List.forall_mem_cons.2 ⟨⟨Try.f147, Try.func147, K_spec_l1Own⟩, ?_⟩
  refine List.forall_mem_cons.2 ⟨⟨Try.f44, Try.func44, K_spec_TurnNet⟩, ?_⟩
  refine List.forall_mem_cons.2 ⟨⟨Try.f23, Try.func23, K_laws_sameInts⟩, ?_⟩
  refine List.forall_mem_cons.2 ⟨⟨Try.f45, Try.func45, K_laws_sameNet⟩, ?_⟩
  refine List.forall_mem_cons.2 ⟨⟨Try.f33, Try.func33, K_laws_numberOf⟩, ?_⟩
  refine List.forall_mem_cons.2 ⟨⟨Try.f24, Try.func24, K_impl_GoodMark⟩, ?_⟩
  refine List.forall_mem_cons.2 ⟨⟨Try.f138, Try.func138, K_impl_isMarked⟩, ?_⟩
  refine List.forall_mem_cons.2 ⟨⟨Try.f139, Try.func139, K_impl_isTrans⟩, ?_⟩
  refine List.forall_mem_cons.2 ⟨⟨Try.f234, Try.func234, K_impl_isEnabled_1⟩, ?_⟩
  refine List.forall_mem_cons.2 ⟨⟨Try.f238, Try.func238, K_slices_IndexFunc_sl_int_int⟩, ?_⟩
  refine List.forall_mem_cons.2 ⟨⟨Try.f165, Try.func165, K_slices_ContainsFunc_sl_int_int⟩, ?_⟩
  refine List.forall_mem_cons.2 ⟨⟨Try.f140, Try.func140, K_impl_isEnabled⟩, ?_⟩
  refine List.forall_mem_cons.2 ⟨⟨Try.f141, Try.func141, K_impl_fired⟩, ?_⟩
  refine List.forall_mem_cons.2 ⟨⟨Try.f120, Try.func120, K_impl_checkedMark⟩, ?_⟩
  refine List.forall_mem_cons.2 ⟨⟨Try.f30, Try.func30, K_impl_Fire⟩, ?_⟩
  refine List.forall_mem_cons.2 ⟨⟨Try.f46, Try.func46, K_spec_DrawTakersOf⟩, ?_⟩
  refine List.forall_mem_cons.2 ⟨⟨Try.f239, Try.func239, K_slices_Index_sl_int_int⟩, ?_⟩
  refine List.forall_mem_cons.2 ⟨⟨Try.f167, Try.func167, K_slices_Contains_sl_int_int⟩, ?_⟩
  refine List.forall_mem_cons.2 ⟨⟨Try.f160, Try.func160, K_impl_transWith⟩, ?_⟩
  refine List.forall_mem_cons.2 ⟨⟨Try.f161, Try.func161, K_impl_TakersOf_1⟩, ?_⟩
  refine List.forall_mem_cons.2 ⟨⟨Try.f47, Try.func47, K_impl_TakersOf⟩, ?_⟩
  refine List.forall_mem_cons.2 ⟨⟨Try.f192, Try.func192, K_spec_l1Has⟩, ?_⟩
  refine List.forall_mem_cons.2 ⟨⟨Try.f162, Try.func162, K_spec_l2Takers⟩, ?_⟩
  refine List.forall_mem_cons.2 ⟨⟨Try.f48, Try.func48, K_spec_TakersOf⟩, ?_⟩
  refine List.forall_mem_cons.2 ⟨⟨Try.f163, Try.func163, K_impl_GiversOf_1⟩, ?_⟩
  refine List.forall_mem_cons.2 ⟨⟨Try.f49, Try.func49, K_impl_GiversOf⟩, ?_⟩
  refine List.forall_mem_cons.2 ⟨⟨Try.f164, Try.func164, K_spec_l2Givers⟩, ?_⟩
  refine List.forall_mem_cons.2 ⟨⟨Try.f50, Try.func50, K_spec_GiversOf⟩, ?_⟩
  refine List.forall_mem_cons.2 ⟨⟨Try.f166, Try.func166, K_impl_IsFreeChoice_1⟩, ?_⟩
  refine List.forall_mem_cons.2 ⟨⟨Try.f168, Try.func168, K_slices_Equal_sl_int_int⟩, ?_⟩
  refine List.forall_mem_cons.2 ⟨⟨Try.f51, Try.func51, K_impl_IsFreeChoice⟩, ?_⟩
  refine List.forall_mem_cons.2 ⟨⟨Try.f169, Try.func169, K_spec_l2Meet⟩, ?_⟩
  refine List.forall_mem_cons.2 ⟨⟨Try.f170, Try.func170, K_spec_l1Same⟩, ?_⟩
  refine List.forall_mem_cons.2 ⟨⟨Try.f52, Try.func52, K_spec_IsFreeChoice⟩, ?_⟩
  refine List.forall_mem_cons.2 ⟨⟨Try.f32, Try.func32, K_impl_HasResets⟩, ?_⟩
  refine List.forall_mem_cons.2 ⟨⟨Try.f53, Try.func53, K_spec_HasResets⟩, ?_⟩
  refine List.forall_mem_cons.2 ⟨⟨Try.f6, Try.func6, K_laws_FnTurned⟩, ?_⟩
  exact fun _ h => (by cases h)
theorem hF (f : FuncId) (i : IFun) (h : F f = some i) : ∃ fn, Try.prog.funcs[f]? = some fn ∧ compile Try.prog mf fn = some i := by
  unfold F at h
  simp only [Option.map_eq_some_iff] at h
  obtain ⟨p, hp, rfl⟩ := h
  have h1 := List.mem_of_find?_eq_some hp
  have h2 := List.find?_some hp
  have h3 : p.1 = f := by simpa using h2
  subst h3
  exact tblOk p h1
theorem extsOk : ∀ p ∈ exts, ExtOk Try.prog p.1 p.2 := by
  unfold exts
  refine List.forall_mem_cons.2 ⟨extClone_ok (mf := mf) (Checked.mixed Try.checked) Try.func150 (show compile Try.prog mf Try.f150 = some (irClone t_int true 1) by kernel_rfl), ?_⟩
  exact fun _ h => (by cases h)
theorem hE (f : FuncId) (e : List PV → Option PV) (h : ext f = some e) : ExtOk Try.prog f e := by
  unfold ext at h
  simp only [Option.map_eq_some_iff] at h
  obtain ⟨p, hp, rfl⟩ := h
  have h1 := List.mem_of_find?_eq_some hp
  have h2 := List.find?_some hp
  have h3 : p.1 = f := by simpa using h2
  subst h3
  exact extsOk p h1
end Go.Proofs.Ytngjepmopahgdaa.Pi
