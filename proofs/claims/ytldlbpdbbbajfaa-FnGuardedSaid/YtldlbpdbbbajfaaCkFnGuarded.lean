/- The forms are those of the program. No condition. -/
import Derived.Test.YtldlbpdbbbajfaaChecked
import Derived.Test.YtldlbpdbbbajfaaIrFnGuarded
import Derived.Test.YtldlbpdbbbajfaaPiTop
import Derived.Test.YtldlbpdbbbajfaaPiDz
import Derived.KernelRfl
namespace Go.Proofs.Ytldlbpdbbbajfaa.Pi
open Go
set_option linter.all false
def mf (f : FuncId) : Bool := [233, 137, 136, 244, 232, 211, 134, 243, 193, 171, 135].contains f
theorem K_laws_big : compile Try.prog mf Try.f15 = some ir_laws_big := by kernel_rfl
theorem K_spec_l1Cur_next : compile Try.prog mf Try.f233 = some ir_spec_l1Cur_next := by kernel_rfl
theorem K_spec_l1Cur_pick : compile Try.prog mf Try.f137 = some ir_spec_l1Cur_pick := by kernel_rfl
theorem K_spec_l1Cur_one : compile Try.prog mf Try.f136 = some ir_spec_l1Cur_one := by kernel_rfl
theorem K_spec_l1Put : compile Try.prog mf Try.f244 = some ir_spec_l1Put := by kernel_rfl
theorem K_spec_l1Cur_someOf : compile Try.prog mf Try.f232 = some ir_spec_l1Cur_someOf := by kernel_rfl
theorem K_spec_l1Cur_among : compile Try.prog mf Try.f211 = some ir_spec_l1Cur_among := by kernel_rfl
theorem K_spec_l1Cur_net : compile Try.prog mf Try.f134 = some ir_spec_l1Cur_net := by kernel_rfl
theorem K_spec_l1Most : compile Try.prog mf Try.f148 = some ir_spec_l1Most := by kernel_rfl
theorem K_spec_l1Least : compile Try.prog mf Try.f240 = some ir_spec_l1Least := by kernel_rfl
theorem K_spec_l1Cur_grow : compile Try.prog mf Try.f243 = some ir_spec_l1Cur_grow := by kernel_rfl
theorem K_spec_l1Cur_flow : compile Try.prog mf Try.f193 = some ir_spec_l1Cur_flow := by kernel_rfl
theorem K_spec_l1Cur_kept : compile Try.prog mf Try.f171 = some ir_spec_l1Cur_kept := by kernel_rfl
theorem K_spec_l1Cur_markOf : compile Try.prog mf Try.f135 = some ir_spec_l1Cur_markOf := by kernel_rfl
theorem K_spec_DrawIsGuarded : compile Try.prog mf Try.f97 = some ir_spec_DrawIsGuarded := by kernel_rfl
theorem K_impl_within : compile Try.prog mf Try.f127 = some ir_impl_within := by kernel_rfl
theorem K_impl_increasing : compile Try.prog mf Try.f237 = some ir_impl_increasing := by kernel_rfl
theorem K_impl_allWithin : compile Try.prog mf Try.f128 = some ir_impl_allWithin := by kernel_rfl
theorem K_impl_arePlaces : compile Try.prog mf Try.f153 = some ir_impl_arePlaces := by kernel_rfl
theorem K_impl_GoodNet_1 : compile Try.prog mf Try.f152 = some ir_impl_GoodNet_1 := by kernel_rfl
theorem K_slices_IndexFunc_sl_impl_Trans_impl_Trans : compile Try.prog mf Try.f236 = some ir_slices_IndexFunc_sl_impl_Trans_impl_Trans := by kernel_rfl
theorem K_slices_ContainsFunc_sl_impl_Trans_impl_Trans : compile Try.prog mf Try.f151 = some ir_slices_ContainsFunc_sl_impl_Trans_impl_Trans := by kernel_rfl
theorem K_impl_GoodNet : compile Try.prog mf Try.f37 = some ir_impl_GoodNet := by kernel_rfl
theorem K_impl_hasResets_1 : compile Try.prog mf Try.f235 = some ir_impl_hasResets_1 := by kernel_rfl
theorem K_impl_hasResets : compile Try.prog mf Try.f146 = some ir_impl_hasResets := by kernel_rfl
theorem K_impl_isPlain : compile Try.prog mf Try.f173 = some ir_impl_isPlain := by kernel_rfl
theorem K_impl_isSmall : compile Try.prog mf Try.f197 = some ir_impl_isSmall := by kernel_rfl
theorem K_impl_GoodMark : compile Try.prog mf Try.f24 = some ir_impl_GoodMark := by kernel_rfl
theorem K_impl_maskOf : compile Try.prog mf Try.f175 = some ir_impl_maskOf := by kernel_rfl
theorem K_impl_bigTrap : compile Try.prog mf Try.f178 = some ir_impl_bigTrap := by kernel_rfl
theorem K_impl_isSiphon : compile Try.prog mf Try.f174 = some ir_impl_isSiphon := by kernel_rfl
theorem K_impl_IsGuarded_1 : compile Try.prog mf Try.f215 = some ir_impl_IsGuarded_1 := by kernel_rfl
theorem K_impl_smallSets_1 : compile Try.prog mf Try.f251 = some ir_impl_smallSets_1 := by kernel_rfl
theorem K_slices_IndexFunc_sl_int_int : compile Try.prog mf Try.f238 = some ir_slices_IndexFunc_sl_int_int := by kernel_rfl
theorem K_slices_ContainsFunc_sl_int_int : compile Try.prog mf Try.f165 = some ir_slices_ContainsFunc_sl_int_int := by kernel_rfl
theorem K_impl_smallSets : compile Try.prog mf Try.f214 = some ir_impl_smallSets := by kernel_rfl
theorem K_impl_setOf : compile Try.prog mf Try.f180 = some ir_impl_setOf := by kernel_rfl
theorem K_impl_IsGuarded_2 : compile Try.prog mf Try.f216 = some ir_impl_IsGuarded_2 := by kernel_rfl
theorem K_impl_IsGuarded : compile Try.prog mf Try.f98 = some ir_impl_IsGuarded := by kernel_rfl
theorem K_spec_l1In : compile Try.prog mf Try.f143 = some ir_spec_l1In := by kernel_rfl
theorem K_spec_l1Places : compile Try.prog mf Try.f129 = some ir_spec_l1Places := by kernel_rfl
theorem K_spec_l1Rising : compile Try.prog mf Try.f154 = some ir_spec_l1Rising := by kernel_rfl
theorem K_spec_GoodNet : compile Try.prog mf Try.f38 = some ir_spec_GoodNet := by kernel_rfl
theorem K_spec_l2Resets : compile Try.prog mf Try.f159 = some ir_spec_l2Resets := by kernel_rfl
theorem K_spec_l7Plain : compile Try.prog mf Try.f200 = some ir_spec_l7Plain := by kernel_rfl
theorem K_spec_l1All : compile Try.prog mf Try.f130 = some ir_spec_l1All := by kernel_rfl
theorem K_spec_GoodMark : compile Try.prog mf Try.f25 = some ir_spec_GoodMark := by kernel_rfl
theorem K_spec_l1Set : compile Try.prog mf Try.f249 = some ir_spec_l1Set := by kernel_rfl
theorem K_spec_l1Has : compile Try.prog mf Try.f192 = some ir_spec_l1Has := by kernel_rfl
theorem K_spec_l2Meet : compile Try.prog mf Try.f169 = some ir_spec_l2Meet := by kernel_rfl
theorem K_spec_l8Siphon : compile Try.prog mf Try.f177 = some ir_spec_l8Siphon := by kernel_rfl
theorem K_spec_l8Small : compile Try.prog mf Try.f217 = some ir_spec_l8Small := by kernel_rfl
theorem K_spec_l1Own : compile Try.prog mf Try.f147 = some ir_spec_l1Own := by kernel_rfl
theorem K_spec_l8Trap : compile Try.prog mf Try.f179 = some ir_spec_l8Trap := by kernel_rfl
theorem K_spec_l8Without : compile Try.prog mf Try.f182 = some ir_spec_l8Without := by kernel_rfl
theorem K_spec_l8BigTrap : compile Try.prog mf Try.f181 = some ir_spec_l8BigTrap := by kernel_rfl
theorem K_spec_IsGuarded : compile Try.prog mf Try.f99 = some ir_spec_IsGuarded := by kernel_rfl
theorem K_impl_isMarked : compile Try.prog mf Try.f138 = some ir_impl_isMarked := by kernel_rfl
theorem K_impl_isEnabled_1 : compile Try.prog mf Try.f234 = some ir_impl_isEnabled_1 := by kernel_rfl
theorem K_impl_isEnabled : compile Try.prog mf Try.f140 = some ir_impl_isEnabled := by kernel_rfl
theorem K_impl_enabled : compile Try.prog mf Try.f155 = some ir_impl_enabled := by kernel_rfl
theorem K_impl_Enabled : compile Try.prog mf Try.f39 = some ir_impl_Enabled := by kernel_rfl
theorem K_laws_numberOf : compile Try.prog mf Try.f33 = some ir_laws_numberOf := by kernel_rfl
theorem K_impl_isTrans : compile Try.prog mf Try.f139 = some ir_impl_isTrans := by kernel_rfl
theorem K_impl_fired : compile Try.prog mf Try.f141 = some ir_impl_fired := by kernel_rfl
theorem K_impl_checkedMark : compile Try.prog mf Try.f120 = some ir_impl_checkedMark := by kernel_rfl
theorem K_impl_Fire : compile Try.prog mf Try.f30 = some ir_impl_Fire := by kernel_rfl
theorem K_slices_Equal_sl_int_int : compile Try.prog mf Try.f168 = some ir_slices_Equal_sl_int_int := by kernel_rfl
theorem K_impl_Space_find_1 : compile Try.prog mf Try.f257 = some ir_impl_Space_find_1 := by kernel_rfl
theorem K_slices_IndexFunc_sl_sl_int_sl_int : compile Try.prog mf Try.f256 = some ir_slices_IndexFunc_sl_sl_int_sl_int := by kernel_rfl
theorem K_impl_Space_find : compile Try.prog mf Try.f225 = some ir_impl_Space_find := by kernel_rfl
theorem K_impl_explore : compile Try.prog mf Try.f221 = some ir_impl_explore := by kernel_rfl
theorem K_impl_Explore : compile Try.prog mf Try.f105 = some ir_impl_Explore := by kernel_rfl
theorem K_impl_wholeSpace : compile Try.prog mf Try.f218 = some ir_impl_wholeSpace := by kernel_rfl
theorem K_impl_FirstDead : compile Try.prog mf Try.f100 = some ir_impl_FirstDead := by kernel_rfl
theorem K_spec_DrawSmallInvariants : compile Try.prog mf Try.f79 = some ir_spec_DrawSmallInvariants := by kernel_rfl
theorem K_spec_DrawSmallSiphons : compile Try.prog mf Try.f101 = some ir_spec_DrawSmallSiphons := by kernel_rfl
theorem K_impl_SmallSiphons_1 : compile Try.prog mf Try.f219 = some ir_impl_SmallSiphons_1 := by kernel_rfl
theorem K_impl_setsOf : compile Try.prog mf Try.f198 = some ir_impl_setsOf := by kernel_rfl
theorem K_impl_SmallSiphons : compile Try.prog mf Try.f102 = some ir_impl_SmallSiphons := by kernel_rfl
theorem K_spec_SmallSiphons : compile Try.prog mf Try.f103 = some ir_spec_SmallSiphons := by kernel_rfl
theorem K_laws_sameInts : compile Try.prog mf Try.f23 = some ir_laws_sameInts := by kernel_rfl
theorem K_laws_sameLists : compile Try.prog mf Try.f84 = some ir_laws_sameLists := by kernel_rfl
theorem K_impl_IsSiphon : compile Try.prog mf Try.f55 = some ir_impl_IsSiphon := by kernel_rfl
theorem K_laws_has : compile Try.prog mf Try.f40 = some ir_laws_has := by kernel_rfl
theorem K_laws_within : compile Try.prog mf Try.f63 = some ir_laws_within := by kernel_rfl
theorem K_laws_FnGuarded : compile Try.prog mf Try.f12 = some ir_laws_FnGuarded := by kernel_rfl
theorem tblOk : ∀ p ∈ tbl, ∃ fn, Try.prog.funcs[p.1]? = some fn ∧ compile Try.prog mf fn = some p.2 := by
  unfold tbl
  refine List.forall_mem_cons.2 ⟨⟨Try.f15, Try.func15, K_laws_big⟩, ?_⟩
  refine List.forall_mem_cons.2 ⟨⟨Try.f233, Try.func233, K_spec_l1Cur_next⟩, ?_⟩
  refine List.forall_mem_cons.2 ⟨⟨Try.f137, Try.func137, K_spec_l1Cur_pick⟩, ?_⟩
  refine List.forall_mem_cons.2 ⟨⟨Try.f136, Try.func136, K_spec_l1Cur_one⟩, ?_⟩
  refine List.forall_mem_cons.2 ⟨⟨Try.f244, Try.func244, K_spec_l1Put⟩, ?_⟩
  refine List.forall_mem_cons.2 ⟨⟨Try.f232, Try.func232, K_spec_l1Cur_someOf⟩, ?_⟩
  refine List.forall_mem_cons.2 ⟨⟨Try.f211, Try.func211, K_spec_l1Cur_among⟩, ?_⟩
  refine List.forall_mem_cons.2 ⟨⟨Try.f134, Try.func134, K_spec_l1Cur_net⟩, ?_⟩
  refine List.forall_mem_cons.2 ⟨⟨Try.f148, Try.func148, K_spec_l1Most⟩, ?_⟩
  refine List.forall_mem_cons.2 ⟨⟨Try.f240, Try.func240, K_spec_l1Least⟩, ?_⟩
  refine List.forall_mem_cons.2 ⟨⟨Try.f243, Try.func243, K_spec_l1Cur_grow⟩, ?_⟩
  refine List.forall_mem_cons.2 ⟨⟨Try.f193, Try.func193, K_spec_l1Cur_flow⟩, ?_⟩
  refine List.forall_mem_cons.2 ⟨⟨Try.f171, Try.func171, K_spec_l1Cur_kept⟩, ?_⟩
  refine List.forall_mem_cons.2 ⟨⟨Try.f135, Try.func135, K_spec_l1Cur_markOf⟩, ?_⟩
  refine List.forall_mem_cons.2 ⟨⟨Try.f97, Try.func97, K_spec_DrawIsGuarded⟩, ?_⟩
  refine List.forall_mem_cons.2 ⟨⟨Try.f127, Try.func127, K_impl_within⟩, ?_⟩
  refine List.forall_mem_cons.2 ⟨⟨Try.f237, Try.func237, K_impl_increasing⟩, ?_⟩
  refine List.forall_mem_cons.2 ⟨⟨Try.f128, Try.func128, K_impl_allWithin⟩, ?_⟩
  refine List.forall_mem_cons.2 ⟨⟨Try.f153, Try.func153, K_impl_arePlaces⟩, ?_⟩
  refine List.forall_mem_cons.2 ⟨⟨Try.f152, Try.func152, K_impl_GoodNet_1⟩, ?_⟩
  refine List.forall_mem_cons.2 ⟨⟨Try.f236, Try.func236, K_slices_IndexFunc_sl_impl_Trans_impl_Trans⟩, ?_⟩
  refine List.forall_mem_cons.2 ⟨⟨Try.f151, Try.func151, K_slices_ContainsFunc_sl_impl_Trans_impl_Trans⟩, ?_⟩
  refine List.forall_mem_cons.2 ⟨⟨Try.f37, Try.func37, K_impl_GoodNet⟩, ?_⟩
  refine List.forall_mem_cons.2 ⟨⟨Try.f235, Try.func235, K_impl_hasResets_1⟩, ?_⟩
  refine List.forall_mem_cons.2 ⟨⟨Try.f146, Try.func146, K_impl_hasResets⟩, ?_⟩
  refine List.forall_mem_cons.2 ⟨⟨Try.f173, Try.func173, K_impl_isPlain⟩, ?_⟩
  refine List.forall_mem_cons.2 ⟨⟨Try.f197, Try.func197, K_impl_isSmall⟩, ?_⟩
  refine List.forall_mem_cons.2 ⟨⟨Try.f24, Try.func24, K_impl_GoodMark⟩, ?_⟩
  refine List.forall_mem_cons.2 ⟨⟨Try.f175, Try.func175, K_impl_maskOf⟩, ?_⟩
  refine List.forall_mem_cons.2 ⟨⟨Try.f178, Try.func178, K_impl_bigTrap⟩, ?_⟩
  refine List.forall_mem_cons.2 ⟨⟨Try.f174, Try.func174, K_impl_isSiphon⟩, ?_⟩
  refine List.forall_mem_cons.2 ⟨⟨Try.f215, Try.func215, K_impl_IsGuarded_1⟩, ?_⟩
  refine List.forall_mem_cons.2 ⟨⟨Try.f251, Try.func251, K_impl_smallSets_1⟩, ?_⟩
  refine List.forall_mem_cons.2 ⟨⟨Try.f238, Try.func238, K_slices_IndexFunc_sl_int_int⟩, ?_⟩
  refine List.forall_mem_cons.2 ⟨⟨Try.f165, Try.func165, K_slices_ContainsFunc_sl_int_int⟩, ?_⟩
  refine List.forall_mem_cons.2 ⟨⟨Try.f214, Try.func214, K_impl_smallSets⟩, ?_⟩
  refine List.forall_mem_cons.2 ⟨⟨Try.f180, Try.func180, K_impl_setOf⟩, ?_⟩
  refine List.forall_mem_cons.2 ⟨⟨Try.f216, Try.func216, K_impl_IsGuarded_2⟩, ?_⟩
  refine List.forall_mem_cons.2 ⟨⟨Try.f98, Try.func98, K_impl_IsGuarded⟩, ?_⟩
  refine List.forall_mem_cons.2 ⟨⟨Try.f143, Try.func143, K_spec_l1In⟩, ?_⟩
  refine List.forall_mem_cons.2 ⟨⟨Try.f129, Try.func129, K_spec_l1Places⟩, ?_⟩
  refine List.forall_mem_cons.2 ⟨⟨Try.f154, Try.func154, K_spec_l1Rising⟩, ?_⟩
  refine List.forall_mem_cons.2 ⟨⟨Try.f38, Try.func38, K_spec_GoodNet⟩, ?_⟩
  refine List.forall_mem_cons.2 ⟨⟨Try.f159, Try.func159, K_spec_l2Resets⟩, ?_⟩
  refine List.forall_mem_cons.2 ⟨⟨Try.f200, Try.func200, K_spec_l7Plain⟩, ?_⟩
  refine List.forall_mem_cons.2 ⟨⟨Try.f130, Try.func130, K_spec_l1All⟩, ?_⟩
  refine List.forall_mem_cons.2 ⟨⟨Try.f25, Try.func25, K_spec_GoodMark⟩, ?_⟩
  refine List.forall_mem_cons.2 ⟨⟨Try.f249, Try.func249, K_spec_l1Set⟩, ?_⟩
  refine List.forall_mem_cons.2 ⟨⟨Try.f192, Try.func192, K_spec_l1Has⟩, ?_⟩
  refine List.forall_mem_cons.2 ⟨⟨Try.f169, Try.func169, K_spec_l2Meet⟩, ?_⟩
  refine List.forall_mem_cons.2 ⟨⟨Try.f177, Try.func177, K_spec_l8Siphon⟩, ?_⟩
  refine List.forall_mem_cons.2 ⟨⟨Try.f217, Try.func217, K_spec_l8Small⟩, ?_⟩
  refine List.forall_mem_cons.2 ⟨⟨Try.f147, Try.func147, K_spec_l1Own⟩, ?_⟩
  refine List.forall_mem_cons.2 ⟨⟨Try.f179, Try.func179, K_spec_l8Trap⟩, ?_⟩
  refine List.forall_mem_cons.2 ⟨⟨Try.f182, Try.func182, K_spec_l8Without⟩, ?_⟩
  refine List.forall_mem_cons.2 ⟨⟨Try.f181, Try.func181, K_spec_l8BigTrap⟩, ?_⟩
  refine List.forall_mem_cons.2 ⟨⟨Try.f99, Try.func99, K_spec_IsGuarded⟩, ?_⟩
  refine List.forall_mem_cons.2 ⟨⟨Try.f138, Try.func138, K_impl_isMarked⟩, ?_⟩
  refine List.forall_mem_cons.2 ⟨⟨Try.f234, Try.func234, K_impl_isEnabled_1⟩, ?_⟩
  refine List.forall_mem_cons.2 ⟨⟨Try.f140, Try.func140, K_impl_isEnabled⟩, ?_⟩
  refine List.forall_mem_cons.2 ⟨⟨Try.f155, Try.func155, K_impl_enabled⟩, ?_⟩
  refine List.forall_mem_cons.2 ⟨⟨Try.f39, Try.func39, K_impl_Enabled⟩, ?_⟩
  refine List.forall_mem_cons.2 ⟨⟨Try.f33, Try.func33, K_laws_numberOf⟩, ?_⟩
  refine List.forall_mem_cons.2 ⟨⟨Try.f139, Try.func139, K_impl_isTrans⟩, ?_⟩
  refine List.forall_mem_cons.2 ⟨⟨Try.f141, Try.func141, K_impl_fired⟩, ?_⟩
  refine List.forall_mem_cons.2 ⟨⟨Try.f120, Try.func120, K_impl_checkedMark⟩, ?_⟩
  refine List.forall_mem_cons.2 ⟨⟨Try.f30, Try.func30, K_impl_Fire⟩, ?_⟩
  refine List.forall_mem_cons.2 ⟨⟨Try.f168, Try.func168, K_slices_Equal_sl_int_int⟩, ?_⟩
  refine List.forall_mem_cons.2 ⟨⟨Try.f257, Try.func257, K_impl_Space_find_1⟩, ?_⟩
  refine List.forall_mem_cons.2 ⟨⟨Try.f256, Try.func256, K_slices_IndexFunc_sl_sl_int_sl_int⟩, ?_⟩
  refine List.forall_mem_cons.2 ⟨⟨Try.f225, Try.func225, K_impl_Space_find⟩, ?_⟩
  refine List.forall_mem_cons.2 ⟨⟨Try.f221, Try.func221, K_impl_explore⟩, ?_⟩
  refine List.forall_mem_cons.2 ⟨⟨Try.f105, Try.func105, K_impl_Explore⟩, ?_⟩
  refine List.forall_mem_cons.2 ⟨⟨Try.f218, Try.func218, K_impl_wholeSpace⟩, ?_⟩
  refine List.forall_mem_cons.2 ⟨⟨Try.f100, Try.func100, K_impl_FirstDead⟩, ?_⟩
  refine List.forall_mem_cons.2 ⟨⟨Try.f79, Try.func79, K_spec_DrawSmallInvariants⟩, ?_⟩
  refine List.forall_mem_cons.2 ⟨⟨Try.f101, Try.func101, K_spec_DrawSmallSiphons⟩, ?_⟩
  refine List.forall_mem_cons.2 ⟨⟨Try.f219, Try.func219, K_impl_SmallSiphons_1⟩, ?_⟩
  refine List.forall_mem_cons.2 ⟨⟨Try.f198, Try.func198, K_impl_setsOf⟩, ?_⟩
  refine List.forall_mem_cons.2 ⟨⟨Try.f102, Try.func102, K_impl_SmallSiphons⟩, ?_⟩
  refine List.forall_mem_cons.2 ⟨⟨Try.f103, Try.func103, K_spec_SmallSiphons⟩, ?_⟩
  refine List.forall_mem_cons.2 ⟨⟨Try.f23, Try.func23, K_laws_sameInts⟩, ?_⟩
  refine List.forall_mem_cons.2 ⟨⟨Try.f84, Try.func84, K_laws_sameLists⟩, ?_⟩
  refine List.forall_mem_cons.2 ⟨⟨Try.f55, Try.func55, K_impl_IsSiphon⟩, ?_⟩
  refine List.forall_mem_cons.2 ⟨⟨Try.f40, Try.func40, K_laws_has⟩, ?_⟩
  refine List.forall_mem_cons.2 ⟨⟨Try.f63, Try.func63, K_laws_within⟩, ?_⟩
  refine List.forall_mem_cons.2 ⟨⟨Try.f12, Try.func12, K_laws_FnGuarded⟩, ?_⟩
  exact fun _ h => (by cases h)
theorem hF (f : FuncId) (i : IFun) (h : F f = some i) : ∃ fn, Try.prog.funcs[f]? = some fn ∧ compile Try.prog mf fn = some i := by
  unfold F at h
  simp only [Option.map_eq_some_iff] at h
  obtain ⟨p, hp, rfl⟩ := h
  have h1 := List.mem_of_find?_eq_some hp
  have h2 := List.find?_some hp
  have h3 : p.1 = f := by simpa using h2
  subst h3
  exact tblOk p h1
theorem extsOk : ∀ p ∈ exts, ExtOk Try.prog p.1 p.2 := by
  unfold exts
  refine List.forall_mem_cons.2 ⟨extClone_ok (mf := mf) (Checked.mixed Try.checked) Try.func150 (show compile Try.prog mf Try.f150 = some (irClone t_int true 1) by kernel_rfl), ?_⟩
  exact fun _ h => (by cases h)
theorem hE (f : FuncId) (e : List PV → Option PV) (h : ext f = some e) : ExtOk Try.prog f e := by
  unfold ext at h
  simp only [Option.map_eq_some_iff] at h
  obtain ⟨p, hp, rfl⟩ := h
  have h1 := List.mem_of_find?_eq_some hp
  have h2 := List.find?_some hp
  have h3 : p.1 = f := by simpa using h2
  subst h3
  exact extsOk p h1
end Go.Proofs.Ytldlbpdbbbajfaa.Pi
