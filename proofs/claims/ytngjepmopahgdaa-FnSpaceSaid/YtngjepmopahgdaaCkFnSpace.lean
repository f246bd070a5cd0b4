/- The forms are those of the program. No condition. -/
import Derived.Test.YtngjepmopahgdaaChecked
import Derived.Test.YtngjepmopahgdaaIrFnSpace
import Derived.Test.YtngjepmopahgdaaPiTop
import Derived.Test.YtngjepmopahgdaaPiDz
import Derived.KernelRfl
namespace Go.Proofs.Ytngjepmopahgdaa.Pi
open Go
set_option linter.all false
def mf (f : FuncId) : Bool := [233, 137, 136, 244, 243, 232, 206, 193, 134, 135, 183, 220, 255].contains f
theorem K_laws_big : compile Try.prog mf Try.f15 = some ir_laws_big := by kernel_rfl
theorem K_spec_l1Cur_next : compile Try.prog mf Try.f233 = some ir_spec_l1Cur_next := by kernel_rfl
theorem K_spec_l1Cur_pick : compile Try.prog mf Try.f137 = some ir_spec_l1Cur_pick := by kernel_rfl
theorem K_spec_l1Cur_one : compile Try.prog mf Try.f136 = some ir_spec_l1Cur_one := by kernel_rfl
theorem K_spec_l1Put : compile Try.prog mf Try.f244 = some ir_spec_l1Put := by kernel_rfl
theorem K_spec_l1Cur_grow : compile Try.prog mf Try.f243 = some ir_spec_l1Cur_grow := by kernel_rfl
theorem K_spec_l1Cur_someOf : compile Try.prog mf Try.f232 = some ir_spec_l1Cur_someOf := by kernel_rfl
theorem K_spec_l1Cur_among : compile Try.prog mf Try.f206 = some ir_spec_l1Cur_among := by kernel_rfl
theorem K_spec_l1Cur_flow : compile Try.prog mf Try.f193 = some ir_spec_l1Cur_flow := by kernel_rfl
theorem K_spec_l1In : compile Try.prog mf Try.f143 = some ir_spec_l1In := by kernel_rfl
theorem K_spec_l1Places : compile Try.prog mf Try.f129 = some ir_spec_l1Places := by kernel_rfl
theorem K_spec_l1Rising : compile Try.prog mf Try.f154 = some ir_spec_l1Rising := by kernel_rfl
theorem K_spec_GoodNet : compile Try.prog mf Try.f38 = some ir_spec_GoodNet := by kernel_rfl
theorem K_spec_l3Forward : compile Try.prog mf Try.f194 = some ir_spec_l3Forward := by kernel_rfl
theorem K_spec_l3Back : compile Try.prog mf Try.f195 = some ir_spec_l3Back := by kernel_rfl
theorem K_spec_l3Both : compile Try.prog mf Try.f196 = some ir_spec_l3Both := by kernel_rfl
theorem K_spec_OnWay : compile Try.prog mf Try.f78 = some ir_spec_OnWay := by kernel_rfl
theorem K_spec_l1Has : compile Try.prog mf Try.f192 = some ir_spec_l1Has := by kernel_rfl
theorem K_spec_GoodFlow : compile Try.prog mf Try.f75 = some ir_spec_GoodFlow := by kernel_rfl
theorem K_spec_l3One : compile Try.prog mf Try.f191 = some ir_spec_l3One := by kernel_rfl
theorem K_spec_StartOf : compile Try.prog mf Try.f72 = some ir_spec_StartOf := by kernel_rfl
theorem K_spec_l1Cur_net : compile Try.prog mf Try.f134 = some ir_spec_l1Cur_net := by kernel_rfl
theorem K_spec_l1Most : compile Try.prog mf Try.f148 = some ir_spec_l1Most := by kernel_rfl
theorem K_spec_l1Cur_markOf : compile Try.prog mf Try.f135 = some ir_spec_l1Cur_markOf := by kernel_rfl
theorem K_spec_l1Cur_walked : compile Try.prog mf Try.f183 = some ir_spec_l1Cur_walked := by kernel_rfl
theorem K_spec_l1Cur_budget : compile Try.prog mf Try.f220 = some ir_spec_l1Cur_budget := by kernel_rfl
theorem K_spec_DrawExplore : compile Try.prog mf Try.f104 = some ir_spec_DrawExplore := by kernel_rfl
theorem K_impl_within : compile Try.prog mf Try.f127 = some ir_impl_within := by kernel_rfl
theorem K_impl_increasing : compile Try.prog mf Try.f237 = some ir_impl_increasing := by kernel_rfl
theorem K_impl_allWithin : compile Try.prog mf Try.f128 = some ir_impl_allWithin := by kernel_rfl
theorem K_impl_arePlaces : compile Try.prog mf Try.f153 = some ir_impl_arePlaces := by kernel_rfl
theorem K_impl_GoodNet_1 : compile Try.prog mf Try.f152 = some ir_impl_GoodNet_1 := by kernel_rfl
theorem K_slices_IndexFunc_sl_impl_Trans_impl_Trans : compile Try.prog mf Try.f236 = some ir_slices_IndexFunc_sl_impl_Trans_impl_Trans := by kernel_rfl
theorem K_slices_ContainsFunc_sl_impl_Trans_impl_Trans : compile Try.prog mf Try.f151 = some ir_slices_ContainsFunc_sl_impl_Trans_impl_Trans := by kernel_rfl
theorem K_impl_GoodNet : compile Try.prog mf Try.f37 = some ir_impl_GoodNet := by kernel_rfl
theorem K_impl_GoodMark : compile Try.prog mf Try.f24 = some ir_impl_GoodMark := by kernel_rfl
theorem K_impl_isMarked : compile Try.prog mf Try.f138 = some ir_impl_isMarked := by kernel_rfl
theorem K_impl_isEnabled_1 : compile Try.prog mf Try.f234 = some ir_impl_isEnabled_1 := by kernel_rfl
theorem K_slices_IndexFunc_sl_int_int : compile Try.prog mf Try.f238 = some ir_slices_IndexFunc_sl_int_int := by kernel_rfl
theorem K_slices_ContainsFunc_sl_int_int : compile Try.prog mf Try.f165 = some ir_slices_ContainsFunc_sl_int_int := by kernel_rfl
theorem K_impl_isEnabled : compile Try.prog mf Try.f140 = some ir_impl_isEnabled := by kernel_rfl
theorem K_impl_enabled : compile Try.prog mf Try.f155 = some ir_impl_enabled := by kernel_rfl
theorem K_impl_fired : compile Try.prog mf Try.f141 = some ir_impl_fired := by kernel_rfl
theorem K_slices_Equal_sl_int_int : compile Try.prog mf Try.f168 = some ir_slices_Equal_sl_int_int := by kernel_rfl
theorem K_impl_Space_find_1 : compile Try.prog mf Try.f257 = some ir_impl_Space_find_1 := by kernel_rfl
theorem K_slices_IndexFunc_sl_sl_int_sl_int : compile Try.prog mf Try.f256 = some ir_slices_IndexFunc_sl_sl_int_sl_int := by kernel_rfl
theorem K_impl_Space_find : compile Try.prog mf Try.f225 = some ir_impl_Space_find := by kernel_rfl
theorem K_impl_explore : compile Try.prog mf Try.f221 = some ir_impl_explore := by kernel_rfl
theorem K_impl_Explore : compile Try.prog mf Try.f105 = some ir_impl_Explore := by kernel_rfl
theorem K_spec_l1All : compile Try.prog mf Try.f130 = some ir_spec_l1All := by kernel_rfl
theorem K_spec_GoodMark : compile Try.prog mf Try.f25 = some ir_spec_GoodMark := by kernel_rfl
theorem K_spec_l2Marked : compile Try.prog mf Try.f142 = some ir_spec_l2Marked := by kernel_rfl
theorem K_spec_l4Asked : compile Try.prog mf Try.f222 = some ir_spec_l4Asked := by kernel_rfl
theorem K_spec_l1Own : compile Try.prog mf Try.f147 = some ir_spec_l1Own := by kernel_rfl
theorem K_spec_l2Can : compile Try.prog mf Try.f144 = some ir_spec_l2Can := by kernel_rfl
theorem K_spec_l2Enabled : compile Try.prog mf Try.f156 = some ir_spec_l2Enabled := by kernel_rfl
theorem K_spec_l2Fire : compile Try.prog mf Try.f145 = some ir_spec_l2Fire := by kernel_rfl
theorem K_spec_l1Same : compile Try.prog mf Try.f170 = some ir_spec_l1Same := by kernel_rfl
theorem K_spec_l4Find : compile Try.prog mf Try.f252 = some ir_spec_l4Find := by kernel_rfl
theorem K_spec_l4Explore : compile Try.prog mf Try.f223 = some ir_spec_l4Explore := by kernel_rfl
theorem K_spec_Explore : compile Try.prog mf Try.f106 = some ir_spec_Explore := by kernel_rfl
theorem K_laws_sameInts : compile Try.prog mf Try.f23 = some ir_laws_sameInts := by kernel_rfl
theorem K_laws_sameLists : compile Try.prog mf Try.f96 = some ir_laws_sameLists := by kernel_rfl
theorem K_laws_sameSpace : compile Try.prog mf Try.f107 = some ir_laws_sameSpace := by kernel_rfl
theorem K_impl_isTrans : compile Try.prog mf Try.f139 = some ir_impl_isTrans := by kernel_rfl
theorem K_impl_checkedMark : compile Try.prog mf Try.f120 = some ir_impl_checkedMark := by kernel_rfl
theorem K_impl_Fire : compile Try.prog mf Try.f30 = some ir_impl_Fire := by kernel_rfl
theorem K_laws_numberOf : compile Try.prog mf Try.f33 = some ir_laws_numberOf := by kernel_rfl
theorem K_impl_Enabled : compile Try.prog mf Try.f39 = some ir_impl_Enabled := by kernel_rfl
theorem K_impl_wholeSpace : compile Try.prog mf Try.f218 = some ir_impl_wholeSpace := by kernel_rfl
theorem K_impl_Space_wayTo_1 : compile Try.prog mf Try.f254 = some ir_impl_Space_wayTo_1 := by kernel_rfl
theorem K_slices_IndexFunc_sl_impl_Arc_impl_Arc : compile Try.prog mf Try.f253 = some ir_slices_IndexFunc_sl_impl_Arc_impl_Arc := by kernel_rfl
theorem K_slices_Reverse_sl_int_int : compile Try.prog mf Try.f255 = some ir_slices_Reverse_sl_int_int := by kernel_rfl
theorem K_impl_Space_wayTo : compile Try.prog mf Try.f224 = some ir_impl_Space_wayTo := by kernel_rfl
theorem K_impl_WayTo : compile Try.prog mf Try.f108 = some ir_impl_WayTo := by kernel_rfl
theorem K_impl_CanCome : compile Try.prog mf Try.f109 = some ir_impl_CanCome := by kernel_rfl
theorem K_laws_hasMark : compile Try.prog mf Try.f110 = some ir_laws_hasMark := by kernel_rfl
theorem K_impl_areTrans : compile Try.prog mf Try.f149 = some ir_impl_areTrans := by kernel_rfl
theorem K_impl_FireAll : compile Try.prog mf Try.f35 = some ir_impl_FireAll := by kernel_rfl
theorem K_laws_FnSpace : compile Try.prog mf Try.f13 = some ir_laws_FnSpace := by kernel_rfl
theorem tblOk : ∀ p ∈ tbl, ∃ fn, Try.prog.funcs[p.1]? = some fn ∧ compile Try.prog mf fn = some p.2 := by
  unfold tbl
  refine List.forall_mem_cons.2 ⟨⟨Try.f15, Try.func15, K_laws_big⟩, ?_⟩
  refine List.forall_mem_cons.2 ⟨⟨Try.f233, Try.func233, K_spec_l1Cur_next⟩, ?_⟩
  refine List.forall_mem_cons.2 ⟨⟨Try.f137, Try.func137, K_spec_l1Cur_pick⟩, ?_⟩
  refine List.forall_mem_cons.2 ⟨⟨Try.f136, Try.func136, K_spec_l1Cur_one⟩, ?_⟩
  refine List.forall_mem_cons.2 ⟨⟨Try.f244, Try.func244, K_spec_l1Put⟩, ?_⟩
  refine List.forall_mem_cons.2 ⟨⟨Try.f243, Try.func243, K_spec_l1Cur_grow⟩, ?_⟩
  refine List.forall_mem_cons.2 ⟨⟨Try.f232, Try.func232, K_spec_l1Cur_someOf⟩, ?_⟩
  refine List.forall_mem_cons.2 ⟨⟨Try.f206, Try.func206, K_spec_l1Cur_among⟩, ?_⟩
  refine List.forall_mem_cons.2 ⟨⟨Try.f193, Try.func193, K_spec_l1Cur_flow⟩, ?_⟩
  refine List.forall_mem_cons.2 ⟨⟨Try.f143, Try.func143, K_spec_l1In⟩, ?_⟩
  refine List.forall_mem_cons.2 ⟨⟨Try.f129, Try.func129, K_spec_l1Places⟩, ?_⟩
  refine List.forall_mem_cons.2 ⟨⟨Try.f154, Try.func154, K_spec_l1Rising⟩, ?_⟩
  refine List.forall_mem_cons.2 ⟨⟨Try.f38, Try.func38, K_spec_GoodNet⟩, ?_⟩
  refine List.forall_mem_cons.2 ⟨⟨Try.f194, Try.func194, K_spec_l3Forward⟩, ?_⟩
  refine List.forall_mem_cons.2 ⟨⟨Try.f195, Try.func195, K_spec_l3Back⟩, ?_⟩
  refine List.forall_mem_cons.2 ⟨⟨Try.f196, Try.func196, K_spec_l3Both⟩, ?_⟩
  refine List.forall_mem_cons.2 ⟨⟨Try.f78, Try.func78, K_spec_OnWay⟩, ?_⟩
  refine List.forall_mem_cons.2 ⟨⟨Try.f192, Try.func192, K_spec_l1Has⟩, ?_⟩
  refine List.forall_mem_cons.2 ⟨⟨Try.f75, Try.func75, K_spec_GoodFlow⟩, ?_⟩
  refine List.forall_mem_cons.2 ⟨⟨Try.f191, Try.func191, K_spec_l3One⟩, ?_⟩
  refine List.forall_mem_cons.2 ⟨⟨Try.f72, Try.func72, K_spec_StartOf⟩, ?_⟩
  refine List.forall_mem_cons.2 ⟨⟨Try.f134, Try.func134, K_spec_l1Cur_net⟩, ?_⟩
  refine List.forall_mem_cons.2 ⟨⟨Try.f148, Try.func148, K_spec_l1Most⟩, ?_⟩
  refine List.forall_mem_cons.2 ⟨⟨Try.f135, Try.func135, K_spec_l1Cur_markOf⟩, ?_⟩
  refine List.forall_mem_cons.2 ⟨⟨Try.f183, Try.func183, K_spec_l1Cur_walked⟩, ?_⟩
  refine List.forall_mem_cons.2 ⟨⟨Try.f220, Try.func220, K_spec_l1Cur_budget⟩, ?_⟩
  refine List.forall_mem_cons.2 ⟨⟨Try.f104, Try.func104, K_spec_DrawExplore⟩, ?_⟩
  refine List.forall_mem_cons.2 ⟨⟨Try.f127, Try.func127, K_impl_within⟩, ?_⟩
  refine List.forall_mem_cons.2 ⟨⟨Try.f237, Try.func237, K_impl_increasing⟩, ?_⟩
  refine List.forall_mem_cons.2 ⟨⟨Try.f128, Try.func128, K_impl_allWithin⟩, ?_⟩
  refine List.forall_mem_cons.2 ⟨⟨Try.f153, Try.func153, K_impl_arePlaces⟩, ?_⟩
  refine List.forall_mem_cons.2 ⟨⟨Try.f152, Try.func152, K_impl_GoodNet_1⟩, ?_⟩
  refine List.forall_mem_cons.2 ⟨⟨Try.f236, Try.func236, K_slices_IndexFunc_sl_impl_Trans_impl_Trans⟩, ?_⟩
  refine List.forall_mem_cons.2 ⟨⟨Try.f151, Try.func151, K_slices_ContainsFunc_sl_impl_Trans_impl_Trans⟩, ?_⟩
  refine List.forall_mem_cons.2 ⟨⟨Try.f37, Try.func37, K_impl_GoodNet⟩, ?_⟩
  refine List.forall_mem_cons.2 ⟨⟨Try.f24, Try.func24, K_impl_GoodMark⟩, ?_⟩
  refine List.forall_mem_cons.2 ⟨⟨Try.f138, Try.func138, K_impl_isMarked⟩, ?_⟩
  refine List.forall_mem_cons.2 ⟨⟨Try.f234, Try.func234, K_impl_isEnabled_1⟩, ?_⟩
  refine List.forall_mem_cons.2 ⟨⟨Try.f238, Try.func238, K_slices_IndexFunc_sl_int_int⟩, ?_⟩
  refine List.forall_mem_cons.2 ⟨⟨Try.f165, Try.func165, K_slices_ContainsFunc_sl_int_int⟩, ?_⟩
  refine List.forall_mem_cons.2 ⟨⟨Try.f140, Try.func140, K_impl_isEnabled⟩, ?_⟩
  refine List.forall_mem_cons.2 ⟨⟨Try.f155, Try.func155, K_impl_enabled⟩, ?_⟩
  refine List.forall_mem_cons.2 ⟨⟨Try.f141, Try.func141, K_impl_fired⟩, ?_⟩
  refine List.forall_mem_cons.2 ⟨⟨Try.f168, Try.func168, K_slices_Equal_sl_int_int⟩, ?_⟩
  refine List.forall_mem_cons.2 ⟨⟨Try.f257, Try.func257, K_impl_Space_find_1⟩, ?_⟩
  refine List.forall_mem_cons.2 ⟨⟨Try.f256, Try.func256, K_slices_IndexFunc_sl_sl_int_sl_int⟩, ?_⟩
  refine List.forall_mem_cons.2 ⟨⟨Try.f225, Try.func225, K_impl_Space_find⟩, ?_⟩
  refine List.forall_mem_cons.2 ⟨⟨Try.f221, Try.func221, K_impl_explore⟩, ?_⟩
  refine List.forall_mem_cons.2 ⟨⟨Try.f105, Try.func105, K_impl_Explore⟩, ?_⟩
  refine List.forall_mem_cons.2 ⟨⟨Try.f130, Try.func130, K_spec_l1All⟩, ?_⟩
  refine List.forall_mem_cons.2 ⟨⟨Try.f25, Try.func25, K_spec_GoodMark⟩, ?_⟩
  refine List.forall_mem_cons.2 ⟨⟨Try.f142, Try.func142, K_spec_l2Marked⟩, ?_⟩
  refine List.forall_mem_cons.2 ⟨⟨Try.f222, Try.func222, K_spec_l4Asked⟩, ?_⟩
  refine List.forall_mem_cons.2 ⟨⟨Try.f147, Try.func147, K_spec_l1Own⟩, ?_⟩
  refine List.forall_mem_cons.2 ⟨⟨Try.f144, Try.func144, K_spec_l2Can⟩, ?_⟩
  refine List.forall_mem_cons.2 ⟨⟨Try.f156, Try.func156, K_spec_l2Enabled⟩, ?_⟩
  refine List.forall_mem_cons.2 ⟨⟨Try.f145, Try.func145, K_spec_l2Fire⟩, ?_⟩
  refine List.forall_mem_cons.2 ⟨⟨Try.f170, Try.func170, K_spec_l1Same⟩, ?_⟩
  refine List.forall_mem_cons.2 ⟨⟨Try.f252, Try.func252, K_spec_l4Find⟩, ?_⟩
  refine List.forall_mem_cons.2 ⟨⟨Try.f223, Try.func223, K_spec_l4Explore⟩, ?_⟩
  refine List.forall_mem_cons.2 ⟨⟨Try.f106, Try.func106, K_spec_Explore⟩, ?_⟩
  refine List.forall_mem_cons.2 ⟨⟨Try.f23, Try.func23, K_laws_sameInts⟩, ?_⟩
  refine List.forall_mem_cons.2 ⟨⟨Try.f96, Try.func96, K_laws_sameLists⟩, ?_⟩
  refine List.forall_mem_cons.2 ⟨⟨Try.f107, Try.func107, K_laws_sameSpace⟩, ?_⟩
  refine List.forall_mem_cons.2 ⟨⟨Try.f139, Try.func139, K_impl_isTrans⟩, ?_⟩
  refine List.forall_mem_cons.2 ⟨⟨Try.f120, Try.func120, K_impl_checkedMark⟩, ?_⟩
  refine List.forall_mem_cons.2 ⟨⟨Try.f30, Try.func30, K_impl_Fire⟩, ?_⟩
  refine List.forall_mem_cons.2 ⟨⟨Try.f33, Try.func33, K_laws_numberOf⟩, ?_⟩
  refine List.forall_mem_cons.2 ⟨⟨Try.f39, Try.func39, K_impl_Enabled⟩, ?_⟩
  refine List.forall_mem_cons.2 ⟨⟨Try.f218, Try.func218, K_impl_wholeSpace⟩, ?_⟩
  refine List.forall_mem_cons.2 ⟨⟨Try.f254, Try.func254, K_impl_Space_wayTo_1⟩, ?_⟩
  refine List.forall_mem_cons.2 ⟨⟨Try.f253, Try.func253, K_slices_IndexFunc_sl_impl_Arc_impl_Arc⟩, ?_⟩
  refine List.forall_mem_cons.2 ⟨⟨Try.f255, Try.func255, K_slices_Reverse_sl_int_int⟩, ?_⟩
  refine List.forall_mem_cons.2 ⟨⟨Try.f224, Try.func224, K_impl_Space_wayTo⟩, ?_⟩
  refine List.forall_mem_cons.2 ⟨⟨Try.f108, Try.func108, K_impl_WayTo⟩, ?_⟩
  refine List.forall_mem_cons.2 ⟨⟨Try.f109, Try.func109, K_impl_CanCome⟩, ?_⟩
  refine List.forall_mem_cons.2 ⟨⟨Try.f110, Try.func110, K_laws_hasMark⟩, ?_⟩
  refine List.forall_mem_cons.2 ⟨⟨Try.f149, Try.func149, K_impl_areTrans⟩, ?_⟩
  refine List.forall_mem_cons.2 ⟨⟨Try.f35, Try.func35, K_impl_FireAll⟩, ?_⟩
  refine List.forall_mem_cons.2 ⟨⟨Try.f13, Try.func13, K_laws_FnSpace⟩, ?_⟩
  exact fun _ h => (by cases h)
theorem hF (f : FuncId) (i : IFun) (h : F f = some i) : ∃ fn, Try.prog.funcs[f]? = some fn ∧ compile Try.prog mf fn = some i := by
  unfold F at h
  simp only [Option.map_eq_some_iff] at h
  obtain ⟨p, hp, rfl⟩ := h
  have h1 := List.mem_of_find?_eq_some hp
  have h2 := List.find?_some hp
  have h3 : p.1 = f := by simpa using h2
  subst h3
  exact tblOk p h1
theorem extsOk : ∀ p ∈ exts, ExtOk Try.prog p.1 p.2 := by
  unfold exts
  refine List.forall_mem_cons.2 ⟨extClone_ok (mf := mf) (Checked.mixed Try.checked) Try.func150 (show compile Try.prog mf Try.f150 = some (irClone t_int true 1) by kernel_rfl), ?_⟩
  exact fun _ h => (by cases h)
theorem hE (f : FuncId) (e : List PV → Option PV) (h : ext f = some e) : ExtOk Try.prog f e := by
  unfold ext at h
  simp only [Option.map_eq_some_iff] at h
  obtain ⟨p, hp, rfl⟩ := h
  have h1 := List.mem_of_find?_eq_some hp
  have h2 := List.find?_some hp
  have h3 : p.1 = f := by simpa using h2
  subst h3
  exact extsOk p h1
end Go.Proofs.Ytngjepmopahgdaa.Pi
