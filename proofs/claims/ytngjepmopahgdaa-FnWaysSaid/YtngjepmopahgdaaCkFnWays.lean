/- The forms are those of the program. No condition. -/
import Derived.Test.YtngjepmopahgdaaChecked
import Derived.Test.YtngjepmopahgdaaIrFnWays
import Derived.Test.YtngjepmopahgdaaPiTop
import Derived.Test.YtngjepmopahgdaaPiDz
import Derived.KernelRfl
namespace Go.Proofs.Ytngjepmopahgdaa.Pi
open Go
set_option linter.all false
def mf (f : FuncId) : Bool := [233, 137, 244, 243, 232, 136, 206, 193, 134].contains f
theorem K_laws_big : compile Try.prog mf Try.f15 = some ir_laws_big := by kernel_rfl
theorem K_spec_l1Cur_next : compile Try.prog mf Try.f233 = some ir_spec_l1Cur_next := by kernel_rfl
theorem K_spec_l1Cur_pick : compile Try.prog mf Try.f137 = some ir_spec_l1Cur_pick := by kernel_rfl
theorem K_spec_l1Put : compile Try.prog mf Try.f244 = some ir_spec_l1Put := by kernel_rfl
theorem K_spec_l1Cur_grow : compile Try.prog mf Try.f243 = some ir_spec_l1Cur_grow := by kernel_rfl
theorem K_spec_l1Cur_someOf : compile Try.prog mf Try.f232 = some ir_spec_l1Cur_someOf := by kernel_rfl
theorem K_spec_l1Cur_one : compile Try.prog mf Try.f136 = some ir_spec_l1Cur_one := by kernel_rfl
theorem K_spec_l1Cur_among : compile Try.prog mf Try.f206 = some ir_spec_l1Cur_among := by kernel_rfl
theorem K_spec_l1Cur_flow : compile Try.prog mf Try.f193 = some ir_spec_l1Cur_flow := by kernel_rfl
theorem K_spec_DrawGoodFlow : compile Try.prog mf Try.f186 = some ir_spec_DrawGoodFlow := by kernel_rfl
theorem K_spec_DrawShortNet : compile Try.prog mf Try.f67 = some ir_spec_DrawShortNet := by kernel_rfl
theorem K_impl_within : compile Try.prog mf Try.f127 = some ir_impl_within := by kernel_rfl
theorem K_impl_increasing : compile Try.prog mf Try.f237 = some ir_impl_increasing := by kernel_rfl
theorem K_impl_allWithin : compile Try.prog mf Try.f128 = some ir_impl_allWithin := by kernel_rfl
theorem K_impl_arePlaces : compile Try.prog mf Try.f153 = some ir_impl_arePlaces := by kernel_rfl
theorem K_impl_GoodNet_1 : compile Try.prog mf Try.f152 = some ir_impl_GoodNet_1 := by kernel_rfl
theorem K_slices_IndexFunc_sl_impl_Trans_impl_Trans : compile Try.prog mf Try.f236 = some ir_slices_IndexFunc_sl_impl_Trans_impl_Trans := by kernel_rfl
theorem K_slices_ContainsFunc_sl_impl_Trans_impl_Trans : compile Try.prog mf Try.f151 = some ir_slices_ContainsFunc_sl_impl_Trans_impl_Trans := by kernel_rfl
theorem K_impl_GoodNet : compile Try.prog mf Try.f37 = some ir_impl_GoodNet := by kernel_rfl
theorem K_slices_Index_sl_int_int : compile Try.prog mf Try.f239 = some ir_slices_Index_sl_int_int := by kernel_rfl
theorem K_slices_Contains_sl_int_int : compile Try.prog mf Try.f167 = some ir_slices_Contains_sl_int_int := by kernel_rfl
theorem K_impl_reachedFrom_1 : compile Try.prog mf Try.f263 = some ir_impl_reachedFrom_1 := by kernel_rfl
theorem K_slices_IndexFunc_sl_int_int : compile Try.prog mf Try.f238 = some ir_slices_IndexFunc_sl_int_int := by kernel_rfl
theorem K_slices_ContainsFunc_sl_int_int : compile Try.prog mf Try.f165 = some ir_slices_ContainsFunc_sl_int_int := by kernel_rfl
theorem K_impl_reachedFrom : compile Try.prog mf Try.f241 = some ir_impl_reachedFrom := by kernel_rfl
theorem K_impl_bothOf : compile Try.prog mf Try.f242 = some ir_impl_bothOf := by kernel_rfl
theorem K_impl_onWay : compile Try.prog mf Try.f187 = some ir_impl_onWay := by kernel_rfl
theorem K_impl_GoodFlow : compile Try.prog mf Try.f68 = some ir_impl_GoodFlow := by kernel_rfl
theorem K_impl_cloneNet : compile Try.prog mf Try.f157 = some ir_impl_cloneNet := by kernel_rfl
theorem K_impl_shortNet : compile Try.prog mf Try.f188 = some ir_impl_shortNet := by kernel_rfl
theorem K_impl_checkedNet : compile Try.prog mf Try.f158 = some ir_impl_checkedNet := by kernel_rfl
theorem K_impl_ShortNet : compile Try.prog mf Try.f69 = some ir_impl_ShortNet := by kernel_rfl
theorem K_spec_l1In : compile Try.prog mf Try.f143 = some ir_spec_l1In := by kernel_rfl
theorem K_spec_l1Places : compile Try.prog mf Try.f129 = some ir_spec_l1Places := by kernel_rfl
theorem K_spec_l1Rising : compile Try.prog mf Try.f154 = some ir_spec_l1Rising := by kernel_rfl
theorem K_spec_GoodNet : compile Try.prog mf Try.f38 = some ir_spec_GoodNet := by kernel_rfl
theorem K_spec_l3Forward : compile Try.prog mf Try.f194 = some ir_spec_l3Forward := by kernel_rfl
theorem K_spec_l3Back : compile Try.prog mf Try.f195 = some ir_spec_l3Back := by kernel_rfl
theorem K_spec_l3Both : compile Try.prog mf Try.f196 = some ir_spec_l3Both := by kernel_rfl
theorem K_spec_OnWay : compile Try.prog mf Try.f78 = some ir_spec_OnWay := by kernel_rfl
theorem K_spec_l1Has : compile Try.prog mf Try.f192 = some ir_spec_l1Has := by kernel_rfl
theorem K_spec_GoodFlow : compile Try.prog mf Try.f75 = some ir_spec_GoodFlow := by kernel_rfl
theorem K_spec_l1Own : compile Try.prog mf Try.f147 = some ir_spec_l1Own := by kernel_rfl
theorem K_spec_l3Own : compile Try.prog mf Try.f189 = some ir_spec_l3Own := by kernel_rfl
theorem K_spec_ShortNet : compile Try.prog mf Try.f70 = some ir_spec_ShortNet := by kernel_rfl
theorem K_impl_singleMark : compile Try.prog mf Try.f190 = some ir_impl_singleMark := by kernel_rfl
theorem K_impl_StartOf : compile Try.prog mf Try.f71 = some ir_impl_StartOf := by kernel_rfl
theorem K_spec_l3One : compile Try.prog mf Try.f191 = some ir_spec_l3One := by kernel_rfl
theorem K_spec_StartOf : compile Try.prog mf Try.f72 = some ir_spec_StartOf := by kernel_rfl
theorem K_impl_EndOf : compile Try.prog mf Try.f73 = some ir_impl_EndOf := by kernel_rfl
theorem K_spec_EndOf : compile Try.prog mf Try.f74 = some ir_spec_EndOf := by kernel_rfl
theorem K_laws_sameInts : compile Try.prog mf Try.f23 = some ir_laws_sameInts := by kernel_rfl
theorem K_laws_sameNet : compile Try.prog mf Try.f45 = some ir_laws_sameNet := by kernel_rfl
theorem K_impl_OnWay : compile Try.prog mf Try.f76 = some ir_impl_OnWay := by kernel_rfl
theorem K_impl_GoodMark : compile Try.prog mf Try.f24 = some ir_impl_GoodMark := by kernel_rfl
theorem K_impl_isMarked : compile Try.prog mf Try.f138 = some ir_impl_isMarked := by kernel_rfl
theorem K_impl_isTrans : compile Try.prog mf Try.f139 = some ir_impl_isTrans := by kernel_rfl
theorem K_impl_isEnabled_1 : compile Try.prog mf Try.f234 = some ir_impl_isEnabled_1 := by kernel_rfl
theorem K_impl_isEnabled : compile Try.prog mf Try.f140 = some ir_impl_isEnabled := by kernel_rfl
theorem K_impl_fired : compile Try.prog mf Try.f141 = some ir_impl_fired := by kernel_rfl
theorem K_impl_checkedMark : compile Try.prog mf Try.f120 = some ir_impl_checkedMark := by kernel_rfl
theorem K_impl_Fire : compile Try.prog mf Try.f30 = some ir_impl_Fire := by kernel_rfl
theorem K_spec_l1Cur_net : compile Try.prog mf Try.f134 = some ir_spec_l1Cur_net := by kernel_rfl
theorem K_spec_DrawOnWay : compile Try.prog mf Try.f77 = some ir_spec_DrawOnWay := by kernel_rfl
theorem K_laws_FnWays : compile Try.prog mf Try.f9 = some ir_laws_FnWays := by kernel_rfl
theorem tblOk : ∀ p ∈ tbl, ∃ fn, Try.prog.funcs[p.1]? = some fn ∧ compile Try.prog mf fn = some p.2 := by
  unfold tbl
  refine List.forall_mem_cons.2 ⟨⟨Try.f15, Try.func15, K_laws_big⟩, ?_⟩
  refine List.forall_mem_cons.2 ⟨⟨Try.f233, Try.func233, K_spec_l1Cur_next⟩, ?_⟩
  refine List.forall_mem_cons.2 ⟨⟨Try.f137, Try.func137, K_spec_l1Cur_pick⟩, ?_⟩
  refine List.forall_mem_cons.2 ⟨⟨Try.f244, Try.func244, K_spec_l1Put⟩, ?_⟩
  refine List.forall_mem_cons.2 ⟨⟨Try.f243, Try.func243, K_spec_l1Cur_grow⟩, ?_⟩
  refine List.forall_mem_cons.2 ⟨⟨Try.f232, Try.func232, K_spec_l1Cur_someOf⟩, ?_⟩
  refine List.forall_mem_cons.2 ⟨⟨Try.f136, Try.func136, K_spec_l1Cur_one⟩, ?_⟩
  refine List.forall_mem_cons.2 ⟨⟨Try.f206, Try.func206, K_spec_l1Cur_among⟩, ?_⟩
  refine List.forall_mem_cons.2 ⟨⟨Try.f193, Try.func193, K_spec_l1Cur_flow⟩, ?_⟩
  refine List.forall_mem_cons.2 ⟨⟨Try.f186, Try.func186, K_spec_DrawGoodFlow⟩, ?_⟩
  refine List.forall_mem_cons.2 ⟨⟨Try.f67, Try.func67, K_spec_DrawShortNet⟩, ?_⟩
  refine List.forall_mem_cons.2 ⟨⟨Try.f127, Try.func127, K_impl_within⟩, ?_⟩
  refine List.forall_mem_cons.2 ⟨⟨Try.f237, Try.func237, K_impl_increasing⟩, ?_⟩
  refine List.forall_mem_cons.2 ⟨⟨Try.f128, Try.func128, K_impl_allWithin⟩, ?_⟩
  refine List.forall_mem_cons.2 ⟨⟨Try.f153, Try.func153, K_impl_arePlaces⟩, ?_⟩
  refine List.forall_mem_cons.2 ⟨⟨Try.f152, Try.func152, K_impl_GoodNet_1⟩, ?_⟩
  refine List.forall_mem_cons.2 ⟨⟨Try.f236, Try.func236, K_slices_IndexFunc_sl_impl_Trans_impl_Trans⟩, ?_⟩
  refine List.forall_mem_cons.2 ⟨⟨Try.f151, Try.func151, K_slices_ContainsFunc_sl_impl_Trans_impl_Trans⟩, ?_⟩
  refine List.forall_mem_cons.2 ⟨⟨Try.f37, Try.func37, K_impl_GoodNet⟩, ?_⟩
  refine List.forall_mem_cons.2 ⟨⟨Try.f239, Try.func239, K_slices_Index_sl_int_int⟩, ?_⟩
  refine List.forall_mem_cons.2 ⟨⟨Try.f167, Try.func167, K_slices_Contains_sl_int_int⟩, ?_⟩
  refine List.forall_mem_cons.2 ⟨⟨Try.f263, Try.func263, K_impl_reachedFrom_1⟩, ?_⟩
  refine List.forall_mem_cons.2 ⟨⟨Try.f238, Try.func238, K_slices_IndexFunc_sl_int_int⟩, ?_⟩
  refine List.forall_mem_cons.2 ⟨⟨Try.f165, Try.func165, K_slices_ContainsFunc_sl_int_int⟩, ?_⟩
  refine List.forall_mem_cons.2 ⟨⟨Try.f241, Try.func241, K_impl_reachedFrom⟩, ?_⟩
  refine List.forall_mem_cons.2 ⟨⟨Try.f242, Try.func242, K_impl_bothOf⟩, ?_⟩
  refine List.forall_mem_cons.2 ⟨⟨Try.f187, Try.func187, K_impl_onWay⟩, ?_⟩
  refine List.forall_mem_cons.2 ⟨⟨Try.f68, Try.func68, K_impl_GoodFlow⟩, ?_⟩
  refine List.forall_mem_cons.2 ⟨⟨Try.f157, Try.func157, K_impl_cloneNet⟩, ?_⟩
  refine List.forall_mem_cons.2 ⟨⟨Try.f188, Try.func188, K_impl_shortNet⟩, ?_⟩
  refine List.forall_mem_cons.2 ⟨⟨Try.f158, Try.func158, K_impl_checkedNet⟩, ?_⟩
  refine List.forall_mem_cons.2 ⟨⟨Try.f69, Try.func69, K_impl_ShortNet⟩, ?_⟩
  refine List.forall_mem_cons.2 ⟨⟨Try.f143, Try.func143, K_spec_l1In⟩, ?_⟩
  refine List.forall_mem_cons.2 ⟨⟨Try.f129, Try.func129, K_spec_l1Places⟩, ?_⟩
  refine List.forall_mem_cons.2 ⟨⟨Try.f154, Try.func154, K_spec_l1Rising⟩, ?_⟩
  refine List.forall_mem_cons.2 ⟨⟨Try.f38, Try.func38, K_spec_GoodNet⟩, ?_⟩
  refine List.forall_mem_cons.2 ⟨⟨Try.f194, Try.func194, K_spec_l3Forward⟩, ?_⟩
  refine List.forall_mem_cons.2 ⟨⟨Try.f195, Try.func195, K_spec_l3Back⟩, ?_⟩
  refine List.forall_mem_cons.2 ⟨⟨Try.f196, Try.func196, K_spec_l3Both⟩, ?_⟩
  refine List.forall_mem_cons.2 ⟨⟨Try.f78, Try.func78, K_spec_OnWay⟩, ?_⟩
  refine List.forall_mem_cons.2 ⟨⟨Try.f192, Try.func192, K_spec_l1Has⟩, ?_⟩
  refine List.forall_mem_cons.2 ⟨⟨Try.f75, Try.func75, K_spec_GoodFlow⟩, ?_⟩
  refine List.forall_mem_cons.2 ⟨⟨Try.f147, Try.func147, K_spec_l1Own⟩, ?_⟩
  refine List.forall_mem_cons.2 ⟨⟨Try.f189, Try.func189, K_spec_l3Own⟩, ?_⟩
  refine List.forall_mem_cons.2 ⟨⟨Try.f70, Try.func70, K_spec_ShortNet⟩, ?_⟩
  refine List.forall_mem_cons.2 ⟨⟨Try.f190, Try.func190, K_impl_singleMark⟩, ?_⟩
  refine List.forall_mem_cons.2 ⟨⟨Try.f71, Try.func71, K_impl_StartOf⟩, ?_⟩
  refine List.forall_mem_cons.2 ⟨⟨Try.f191, Try.func191, K_spec_l3One⟩, ?_⟩
  refine List.forall_mem_cons.2 ⟨⟨Try.f72, Try.func72, K_spec_StartOf⟩, ?_⟩
  refine List.forall_mem_cons.2 ⟨⟨Try.f73, Try.func73, K_impl_EndOf⟩, ?_⟩
  refine List.forall_mem_cons.2 ⟨⟨Try.f74, Try.func74, K_spec_EndOf⟩, ?_⟩
  refine List.forall_mem_cons.2 ⟨⟨Try.f23, Try.func23, K_laws_sameInts⟩, ?_⟩
  refine List.forall_mem_cons.2 ⟨⟨Try.f45, Try.func45, K_laws_sameNet⟩, ?_⟩
  refine List.forall_mem_cons.2 ⟨⟨Try.f76, Try.func76, K_impl_OnWay⟩, ?_⟩
  refine List.forall_mem_cons.2 ⟨⟨Try.f24, Try.func24, K_impl_GoodMark⟩, ?_⟩
  refine List.forall_mem_cons.2 ⟨⟨Try.f138, Try.func138, K_impl_isMarked⟩, ?_⟩
  refine List.forall_mem_cons.2 ⟨⟨Try.f139, Try.func139, K_impl_isTrans⟩, ?_⟩
  refine List.forall_mem_cons.2 ⟨⟨Try.f234, Try.func234, K_impl_isEnabled_1⟩, ?_⟩
  refine List.forall_mem_cons.2 ⟨⟨Try.f140, Try.func140, K_impl_isEnabled⟩, ?_⟩
  refine List.forall_mem_cons.2 ⟨⟨Try.f141, Try.func141, K_impl_fired⟩, ?_⟩
  refine List.forall_mem_cons.2 ⟨⟨Try.f120, Try.func120, K_impl_checkedMark⟩, ?_⟩
  refine List.forall_mem_cons.2 ⟨⟨Try.f30, Try.func30, K_impl_Fire⟩, ?_⟩
  refine List.forall_mem_cons.2 ⟨⟨Try.f134, Try.func134, K_spec_l1Cur_net⟩, ?_⟩
  refine List.forall_mem_cons.2 ⟨⟨Try.f77, Try.func77, K_spec_DrawOnWay⟩, ?_⟩
  refine List.forall_mem_cons.2 ⟨⟨Try.f9, Try.func9, K_laws_FnWays⟩, ?_⟩
  exact fun _ h => (by cases h)
theorem hF (f : FuncId) (i : IFun) (h : F f = some i) : ∃ fn, Try.prog.funcs[f]? = some fn ∧ compile Try.prog mf fn = some i := by
  unfold F at h
  simp only [Option.map_eq_some_iff] at h
  obtain ⟨p, hp, rfl⟩ := h
  have h1 := List.mem_of_find?_eq_some hp
  have h2 := List.find?_some hp
  have h3 : p.1 = f := by simpa using h2
  subst h3
  exact tblOk p h1
theorem extsOk : ∀ p ∈ exts, ExtOk Try.prog p.1 p.2 := by
  unfold exts
  refine List.forall_mem_cons.2 ⟨extClone_ok (mf := mf) (Checked.mixed Try.checked) Try.func150 (show compile Try.prog mf Try.f150 = some (irClone t_int true 1) by kernel_rfl), ?_⟩
  exact fun _ h => (by cases h)
theorem hE (f : FuncId) (e : List PV → Option PV) (h : ext f = some e) : ExtOk Try.prog f e := by
  unfold ext at h
  simp only [Option.map_eq_some_iff] at h
  obtain ⟨p, hp, rfl⟩ := h
  have h1 := List.mem_of_find?_eq_some hp
  have h2 := List.find?_some hp
  have h3 : p.1 = f := by simpa using h2
  subst h3
  exact extsOk p h1
end Go.Proofs.Ytngjepmopahgdaa.Pi
