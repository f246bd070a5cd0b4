/- The forms are those of the program. No condition. -/
import Derived.Test.YtkkifebmicbbaaaChecked
import Derived.Test.YtkkifebmicbbaaaIrFnHome
import Derived.Test.YtkkifebmicbbaaaPiTop
import Derived.Test.YtkkifebmicbbaaaPiDz
import Derived.KernelRfl
namespace Go.Proofs.Ytkkifebmicbbaaa.Pi
open Go
set_option linter.all false
def mf (f : FuncId) : Bool := [184, 105, 107, 135, 214, 215, 104, 171, 173, 174, 95, 96, 97, 179].contains f
theorem K_laws_big : compile Try.prog ⟨mf, false, false⟩ Try.f34 = some ir_laws_big := by kernel_rfl
theorem K_spec_l1Cur_next : compile Try.prog ⟨mf, false, false⟩ Try.f184 = some ir_spec_l1Cur_next := by kernel_rfl
theorem K_spec_l1Cur_pick : compile Try.prog ⟨mf, false, false⟩ Try.f105 = some ir_spec_l1Cur_pick := by kernel_rfl
theorem K_spec_l1Cur_one : compile Try.prog ⟨mf, false, false⟩ Try.f107 = some ir_spec_l1Cur_one := by kernel_rfl
theorem K_spec_l1Put : compile Try.prog ⟨mf, false, false⟩ Try.f135 = some ir_spec_l1Put := by kernel_rfl
theorem K_spec_l1Cur_grow : compile Try.prog ⟨mf, false, false⟩ Try.f214 = some ir_spec_l1Cur_grow := by kernel_rfl
theorem K_spec_l1Cur_someOf : compile Try.prog ⟨mf, false, false⟩ Try.f215 = some ir_spec_l1Cur_someOf := by kernel_rfl
theorem K_spec_l1Cur_among : compile Try.prog ⟨mf, false, false⟩ Try.f104 = some ir_spec_l1Cur_among := by kernel_rfl
theorem K_spec_l1Cur_flow : compile Try.prog ⟨mf, false, false⟩ Try.f171 = some ir_spec_l1Cur_flow := by kernel_rfl
theorem K_spec_l1In : compile Try.prog ⟨mf, false, false⟩ Try.f71 = some ir_spec_l1In := by kernel_rfl
theorem K_spec_l1Places : compile Try.prog ⟨mf, false, false⟩ Try.f111 = some ir_spec_l1Places := by kernel_rfl
theorem K_spec_l1Rising : compile Try.prog ⟨mf, false, false⟩ Try.f226 = some ir_spec_l1Rising := by kernel_rfl
theorem K_spec_GoodNet : compile Try.prog ⟨mf, false, false⟩ Try.f193 = some ir_spec_GoodNet := by kernel_rfl
theorem K_spec_l3Forward : compile Try.prog ⟨mf, false, false⟩ Try.f204 = some ir_spec_l3Forward := by kernel_rfl
theorem K_spec_l3Back : compile Try.prog ⟨mf, false, false⟩ Try.f205 = some ir_spec_l3Back := by kernel_rfl
theorem K_spec_l3Both : compile Try.prog ⟨mf, false, false⟩ Try.f206 = some ir_spec_l3Both := by kernel_rfl
theorem K_spec_OnWay : compile Try.prog ⟨mf, false, false⟩ Try.f153 = some ir_spec_OnWay := by kernel_rfl
theorem K_spec_l1Has : compile Try.prog ⟨mf, false, false⟩ Try.f147 = some ir_spec_l1Has := by kernel_rfl
theorem K_spec_GoodFlow : compile Try.prog ⟨mf, false, false⟩ Try.f77 = some ir_spec_GoodFlow := by kernel_rfl
theorem K_spec_l3One : compile Try.prog ⟨mf, false, false⟩ Try.f216 = some ir_spec_l3One := by kernel_rfl
theorem K_spec_StartOf : compile Try.prog ⟨mf, false, false⟩ Try.f172 = some ir_spec_StartOf := by kernel_rfl
theorem K_spec_l1Cur_net : compile Try.prog ⟨mf, false, false⟩ Try.f173 = some ir_spec_l1Cur_net := by kernel_rfl
theorem K_spec_l1Most : compile Try.prog ⟨mf, false, false⟩ Try.f217 = some ir_spec_l1Most := by kernel_rfl
theorem K_spec_l1Cur_markOf : compile Try.prog ⟨mf, false, false⟩ Try.f174 = some ir_spec_l1Cur_markOf := by kernel_rfl
theorem K_spec_l1Cur_walked : compile Try.prog ⟨mf, false, false⟩ Try.f95 = some ir_spec_l1Cur_walked := by kernel_rfl
theorem K_spec_l1Cur_budget : compile Try.prog ⟨mf, false, false⟩ Try.f96 = some ir_spec_l1Cur_budget := by kernel_rfl
theorem K_spec_l1Own : compile Try.prog ⟨mf, false, false⟩ Try.f122 = some ir_spec_l1Own := by kernel_rfl
theorem K_spec_l1All : compile Try.prog ⟨mf, false, false⟩ Try.f168 = some ir_spec_l1All := by kernel_rfl
theorem K_spec_GoodMark : compile Try.prog ⟨mf, false, false⟩ Try.f92 = some ir_spec_GoodMark := by kernel_rfl
theorem K_spec_l2Marked : compile Try.prog ⟨mf, false, false⟩ Try.f218 = some ir_spec_l2Marked := by kernel_rfl
theorem K_spec_l2Can : compile Try.prog ⟨mf, false, false⟩ Try.f220 = some ir_spec_l2Can := by kernel_rfl
theorem K_spec_l2Enabled : compile Try.prog ⟨mf, false, false⟩ Try.f219 = some ir_spec_l2Enabled := by kernel_rfl
theorem K_spec_Enabled : compile Try.prog ⟨mf, false, false⟩ Try.f175 = some ir_spec_Enabled := by kernel_rfl
theorem K_spec_l2Fire : compile Try.prog ⟨mf, false, false⟩ Try.f221 = some ir_spec_l2Fire := by kernel_rfl
theorem K_spec_Fire : compile Try.prog ⟨mf, false, false⟩ Try.f176 = some ir_spec_Fire := by kernel_rfl
theorem K_spec_l1Cur_metMark : compile Try.prog ⟨mf, false, false⟩ Try.f97 = some ir_spec_l1Cur_metMark := by kernel_rfl
theorem K_spec_DrawWayTo : compile Try.prog ⟨mf, false, false⟩ Try.f40 = some ir_spec_DrawWayTo := by kernel_rfl
theorem K_spec_DrawIsHome : compile Try.prog ⟨mf, false, false⟩ Try.f35 = some ir_spec_DrawIsHome := by kernel_rfl
theorem K_impl_within : compile Try.prog ⟨mf, false, false⟩ Try.f108 = some ir_impl_within := by kernel_rfl
theorem K_impl_increasing : compile Try.prog ⟨mf, false, false⟩ Try.f237 = some ir_impl_increasing := by kernel_rfl
theorem K_impl_allWithin : compile Try.prog ⟨mf, false, false⟩ Try.f163 = some ir_impl_allWithin := by kernel_rfl
theorem K_impl_arePlaces : compile Try.prog ⟨mf, false, false⟩ Try.f208 = some ir_impl_arePlaces := by kernel_rfl
theorem K_impl_GoodNet_1 : compile Try.prog ⟨mf, false, false⟩ Try.f207 = some ir_impl_GoodNet_1 := by kernel_rfl
theorem K_slices_IndexFunc_sl_impl_Trans_impl_Trans : compile Try.prog ⟨mf, false, false⟩ Try.f203 = some ir_slices_IndexFunc_sl_impl_Trans_impl_Trans := by kernel_rfl
theorem K_slices_ContainsFunc_sl_impl_Trans_impl_Trans : compile Try.prog ⟨mf, false, false⟩ Try.f148 = some ir_slices_ContainsFunc_sl_impl_Trans_impl_Trans := by kernel_rfl
theorem K_impl_GoodNet : compile Try.prog ⟨mf, false, false⟩ Try.f156 = some ir_impl_GoodNet := by kernel_rfl
theorem K_impl_GoodMark : compile Try.prog ⟨mf, false, false⟩ Try.f87 = some ir_impl_GoodMark := by kernel_rfl
theorem K_impl_isMarked : compile Try.prog ⟨mf, false, false⟩ Try.f100 = some ir_impl_isMarked := by kernel_rfl
theorem K_impl_isEnabled_1 : compile Try.prog ⟨mf, false, false⟩ Try.f223 = some ir_impl_isEnabled_1 := by kernel_rfl
theorem K_slices_IndexFunc_sl_int_int : compile Try.prog ⟨mf, false, false⟩ Try.f240 = some ir_slices_IndexFunc_sl_int_int := by kernel_rfl
theorem K_slices_ContainsFunc_sl_int_int : compile Try.prog ⟨mf, false, false⟩ Try.f222 = some ir_slices_ContainsFunc_sl_int_int := by kernel_rfl
theorem K_impl_isEnabled : compile Try.prog ⟨mf, false, false⟩ Try.f181 = some ir_impl_isEnabled := by kernel_rfl
theorem K_impl_enabled : compile Try.prog ⟨mf, false, false⟩ Try.f239 = some ir_impl_enabled := by kernel_rfl
theorem K_impl_fired : compile Try.prog ⟨mf, false, false⟩ Try.f183 = some ir_impl_fired := by kernel_rfl
theorem K_slices_Equal_sl_int_int : compile Try.prog ⟨mf, false, false⟩ Try.f160 = some ir_slices_Equal_sl_int_int := by kernel_rfl
theorem K_impl_Space_find_1 : compile Try.prog ⟨mf, false, false⟩ Try.f165 = some ir_impl_Space_find_1 := by kernel_rfl
theorem K_slices_IndexFunc_sl_sl_int_sl_int : compile Try.prog ⟨mf, false, false⟩ Try.f164 = some ir_slices_IndexFunc_sl_sl_int_sl_int := by kernel_rfl
theorem K_impl_Space_find : compile Try.prog ⟨mf, false, false⟩ Try.f88 = some ir_impl_Space_find := by kernel_rfl
theorem K_impl_explore : compile Try.prog ⟨mf, false, false⟩ Try.f211 = some ir_impl_explore := by kernel_rfl
theorem K_impl_Explore : compile Try.prog ⟨mf, false, false⟩ Try.f162 = some ir_impl_Explore := by kernel_rfl
theorem K_impl_wholeSpace : compile Try.prog ⟨mf, false, false⟩ Try.f86 = some ir_impl_wholeSpace := by kernel_rfl
theorem K_impl_Space_leadingTo : compile Try.prog ⟨mf, true, true⟩ Try.f90 = some ir_impl_Space_leadingTo := by kernel_rfl
theorem K_slices_Index_sl_bool_bool : compile Try.prog ⟨mf, false, false⟩ Try.f166 = some ir_slices_Index_sl_bool_bool := by kernel_rfl
theorem K_slices_Contains_sl_bool_bool : compile Try.prog ⟨mf, false, false⟩ Try.f89 = some ir_slices_Contains_sl_bool_bool := by kernel_rfl
theorem K_impl_IsHome : compile Try.prog ⟨mf, false, false⟩ Try.f36 = some ir_impl_IsHome := by kernel_rfl
theorem K_spec_l4Asked : compile Try.prog ⟨mf, false, false⟩ Try.f212 = some ir_spec_l4Asked := by kernel_rfl
theorem K_spec_l1Same : compile Try.prog ⟨mf, false, false⟩ Try.f169 = some ir_spec_l1Same := by kernel_rfl
theorem K_spec_l4Find : compile Try.prog ⟨mf, false, false⟩ Try.f93 = some ir_spec_l4Find := by kernel_rfl
theorem K_spec_l4Explore : compile Try.prog ⟨mf, false, false⟩ Try.f213 = some ir_spec_l4Explore := by kernel_rfl
theorem K_spec_Explore : compile Try.prog ⟨mf, false, false⟩ Try.f167 = some ir_spec_Explore := by kernel_rfl
theorem K_spec_l4All : compile Try.prog ⟨mf, false, false⟩ Try.f91 = some ir_spec_l4All := by kernel_rfl
theorem K_spec_l4To : compile Try.prog ⟨mf, false, false⟩ Try.f170 = some ir_spec_l4To := by kernel_rfl
theorem K_spec_l4Everywhere : compile Try.prog ⟨mf, false, false⟩ Try.f94 = some ir_spec_l4Everywhere := by kernel_rfl
theorem K_spec_IsHome : compile Try.prog ⟨mf, false, false⟩ Try.f37 = some ir_spec_IsHome := by kernel_rfl
theorem K_impl_CanCome : compile Try.prog ⟨mf, false, false⟩ Try.f38 = some ir_impl_CanCome := by kernel_rfl
theorem K_spec_CanCome : compile Try.prog ⟨mf, false, false⟩ Try.f39 = some ir_spec_CanCome := by kernel_rfl
theorem K_impl_Space_wayTo_1 : compile Try.prog ⟨mf, false, false⟩ Try.f178 = some ir_impl_Space_wayTo_1 := by kernel_rfl
theorem K_slices_IndexFunc_sl_impl_Arc_impl_Arc : compile Try.prog ⟨mf, false, false⟩ Try.f177 = some ir_slices_IndexFunc_sl_impl_Arc_impl_Arc := by kernel_rfl
theorem K_slices_Reverse_sl_int_int : compile Try.prog ⟨mf, false, false⟩ Try.f179 = some ir_slices_Reverse_sl_int_int := by kernel_rfl
theorem K_impl_Space_wayTo : compile Try.prog ⟨mf, false, false⟩ Try.f98 = some ir_impl_Space_wayTo := by kernel_rfl
theorem K_impl_WayTo : compile Try.prog ⟨mf, false, false⟩ Try.f41 = some ir_impl_WayTo := by kernel_rfl
theorem K_spec_l4Way : compile Try.prog ⟨mf, false, true⟩ Try.f99 = some ir_spec_l4Way := by kernel_rfl
theorem K_spec_WayTo : compile Try.prog ⟨mf, false, false⟩ Try.f42 = some ir_spec_WayTo := by kernel_rfl
theorem K_laws_sameInts : compile Try.prog ⟨mf, false, false⟩ Try.f43 = some ir_laws_sameInts := by kernel_rfl
theorem K_impl_areTrans : compile Try.prog ⟨mf, false, false⟩ Try.f101 = some ir_impl_areTrans := by kernel_rfl
theorem K_impl_isTrans : compile Try.prog ⟨mf, false, false⟩ Try.f180 = some ir_impl_isTrans := by kernel_rfl
theorem K_impl_checkedMark : compile Try.prog ⟨mf, false, false⟩ Try.f182 = some ir_impl_checkedMark := by kernel_rfl
theorem K_impl_Fire : compile Try.prog ⟨mf, false, false⟩ Try.f103 = some ir_impl_Fire := by kernel_rfl
theorem K_impl_FireAll : compile Try.prog ⟨mf, false, false⟩ Try.f44 = some ir_impl_FireAll := by kernel_rfl
theorem K_laws_FnHome : compile Try.prog ⟨mf, false, false⟩ Try.f8 = some ir_laws_FnHome := by kernel_rfl
theorem tblOk : ∀ p ∈ tbl, ∃ (fn : Func) (m : Md), Try.prog.funcs[p.1]? = some fn ∧ compile Try.prog m fn = some p.2 := by
  unfold tbl
  refine List.forall_mem_cons.2 ⟨⟨Try.f34, ⟨mf, false, false⟩, Try.func34, K_laws_big⟩, ?_⟩
  refine List.forall_mem_cons.2 ⟨⟨Try.f184, ⟨mf, false, false⟩, Try.func184, K_spec_l1Cur_next⟩, ?_⟩
  refine List.forall_mem_cons.2 ⟨⟨Try.f105, ⟨mf, false, false⟩, Try.func105, K_spec_l1Cur_pick⟩, ?_⟩
  refine List.forall_mem_cons.2 ⟨⟨Try.f107, ⟨mf, false, false⟩, Try.func107, K_spec_l1Cur_one⟩, ?_⟩
  refine List.forall_mem_cons.2 ⟨⟨Try.f135, ⟨mf, false, false⟩, Try.func135, K_spec_l1Put⟩, ?_⟩
  refine List.forall_mem_cons.2 ⟨⟨Try.f214, ⟨mf, false, false⟩, Try.func214, K_spec_l1Cur_grow⟩, ?_⟩
  refine List.forall_mem_cons.2 ⟨⟨Try.f215, ⟨mf, false, false⟩, Try.func215, K_spec_l1Cur_someOf⟩, ?_⟩
  refine List.forall_mem_cons.2 ⟨⟨Try.f104, ⟨mf, false, false⟩, Try.func104, K_spec_l1Cur_among⟩, ?_⟩
  refine List.forall_mem_cons.2 ⟨⟨Try.f171, ⟨mf, false, false⟩, Try.func171, K_spec_l1Cur_flow⟩, ?_⟩
  refine List.forall_mem_cons.2 ⟨⟨Try.f71, ⟨mf, false, false⟩, Try.func71, K_spec_l1In⟩, ?_⟩
  refine List.forall_mem_cons.2 ⟨⟨Try.f111, ⟨mf, false, false⟩, Try.func111, K_spec_l1Places⟩, ?_⟩
  refine List.forall_mem_cons.2 ⟨⟨Try.f226, ⟨mf, false, false⟩, Try.func226, K_spec_l1Rising⟩, ?_⟩
  refine List.forall_mem_cons.2 ⟨⟨Try.f193, ⟨mf, false, false⟩, Try.func193, K_spec_GoodNet⟩, ?_⟩
  refine List.forall_mem_cons.2 ⟨⟨Try.f204, ⟨mf, false, false⟩, Try.func204, K_spec_l3Forward⟩, ?_⟩
  refine List.forall_mem_cons.2 ⟨⟨Try.f205, ⟨mf, false, false⟩, Try.func205, K_spec_l3Back⟩, ?_⟩
  refine List.forall_mem_cons.2 ⟨⟨Try.f206, ⟨mf, false, false⟩, Try.func206, K_spec_l3Both⟩, ?_⟩
  refine List.forall_mem_cons.2 ⟨⟨Try.f153, ⟨mf, false, false⟩, Try.func153, K_spec_OnWay⟩, ?_⟩
  refine List.forall_mem_cons.2 ⟨⟨Try.f147, ⟨mf, false, false⟩, Try.func147, K_spec_l1Has⟩, ?_⟩
  refine List.forall_mem_cons.2 ⟨⟨Try.f77, ⟨mf, false, false⟩, Try.func77, K_spec_GoodFlow⟩, ?_⟩
  refine List.forall_mem_cons.2 ⟨⟨Try.f216, ⟨mf, false, false⟩, Try.func216, K_spec_l3One⟩, ?_⟩
  refine List.forall_mem_cons.2 ⟨⟨Try.f172, ⟨mf, false, false⟩, Try.func172, K_spec_StartOf⟩, ?_⟩
  refine List.forall_mem_cons.2 ⟨⟨Try.f173, ⟨mf, false, false⟩, Try.func173, K_spec_l1Cur_net⟩, ?_⟩
  refine List.forall_mem_cons.2 ⟨⟨Try.f217, ⟨mf, false, false⟩, Try.func217, K_spec_l1Most⟩, ?_⟩
  refine List.forall_mem_cons.2 ⟨⟨Try.f174, ⟨mf, false, false⟩, Try.func174, K_spec_l1Cur_markOf⟩, ?_⟩
  refine List.forall_mem_cons.2 ⟨⟨Try.f95, ⟨mf, false, false⟩, Try.func95, K_spec_l1Cur_walked⟩, ?_⟩
  refine List.forall_mem_cons.2 ⟨⟨Try.f96, ⟨mf, false, false⟩, Try.func96, K_spec_l1Cur_budget⟩, ?_⟩
  refine List.forall_mem_cons.2 ⟨⟨Try.f122, ⟨mf, false, false⟩, Try.func122, K_spec_l1Own⟩, ?_⟩
  refine List.forall_mem_cons.2 ⟨⟨Try.f168, ⟨mf, false, false⟩, Try.func168, K_spec_l1All⟩, ?_⟩
  refine List.forall_mem_cons.2 ⟨⟨Try.f92, ⟨mf, false, false⟩, Try.func92, K_spec_GoodMark⟩, ?_⟩
  refine List.forall_mem_cons.2 ⟨⟨Try.f218, ⟨mf, false, false⟩, Try.func218, K_spec_l2Marked⟩, ?_⟩
  refine List.forall_mem_cons.2 ⟨⟨Try.f220, ⟨mf, false, false⟩, Try.func220, K_spec_l2Can⟩, ?_⟩
  refine List.forall_mem_cons.2 ⟨⟨Try.f219, ⟨mf, false, false⟩, Try.func219, K_spec_l2Enabled⟩, ?_⟩
  refine List.forall_mem_cons.2 ⟨⟨Try.f175, ⟨mf, false, false⟩, Try.func175, K_spec_Enabled⟩, ?_⟩
  refine List.forall_mem_cons.2 ⟨⟨Try.f221, ⟨mf, false, false⟩, Try.func221, K_spec_l2Fire⟩, ?_⟩
  refine List.forall_mem_cons.2 ⟨⟨Try.f176, ⟨mf, false, false⟩, Try.func176, K_spec_Fire⟩, ?_⟩
  refine List.forall_mem_cons.2 ⟨⟨Try.f97, ⟨mf, false, false⟩, Try.func97, K_spec_l1Cur_metMark⟩, ?_⟩
  refine List.forall_mem_cons.2 ⟨⟨Try.f40, ⟨mf, false, false⟩, Try.func40, K_spec_DrawWayTo⟩, ?_⟩
  refine List.forall_mem_cons.2 ⟨⟨Try.f35, ⟨mf, false, false⟩, Try.func35, K_spec_DrawIsHome⟩, ?_⟩
  refine List.forall_mem_cons.2 ⟨⟨Try.f108, ⟨mf, false, false⟩, Try.func108, K_impl_within⟩, ?_⟩
  refine List.forall_mem_cons.2 ⟨⟨Try.f237, ⟨mf, false, false⟩, Try.func237, K_impl_increasing⟩, ?_⟩
  refine List.forall_mem_cons.2 ⟨⟨Try.f163, ⟨mf, false, false⟩, Try.func163, K_impl_allWithin⟩, ?_⟩
  refine List.forall_mem_cons.2 ⟨⟨Try.f208, ⟨mf, false, false⟩, Try.func208, K_impl_arePlaces⟩, ?_⟩
  refine List.forall_mem_cons.2 ⟨⟨Try.f207, ⟨mf, false, false⟩, Try.func207, K_impl_GoodNet_1⟩, ?_⟩
  refine List.forall_mem_cons.2 ⟨⟨Try.f203, ⟨mf, false, false⟩, Try.func203, K_slices_IndexFunc_sl_impl_Trans_impl_Trans⟩, ?_⟩
  refine List.forall_mem_cons.2 ⟨⟨Try.f148, ⟨mf, false, false⟩, Try.func148, K_slices_ContainsFunc_sl_impl_Trans_impl_Trans⟩, ?_⟩
  refine List.forall_mem_cons.2 ⟨⟨Try.f156, ⟨mf, false, false⟩, Try.func156, K_impl_GoodNet⟩, ?_⟩
  refine List.forall_mem_cons.2 ⟨⟨Try.f87, ⟨mf, false, false⟩, Try.func87, K_impl_GoodMark⟩, ?_⟩
  refine List.forall_mem_cons.2 ⟨⟨Try.f100, ⟨mf, false, false⟩, Try.func100, K_impl_isMarked⟩, ?_⟩
  refine List.forall_mem_cons.2 ⟨⟨Try.f223, ⟨mf, false, false⟩, Try.func223, K_impl_isEnabled_1⟩, ?_⟩
  refine List.forall_mem_cons.2 ⟨⟨Try.f240, ⟨mf, false, false⟩, Try.func240, K_slices_IndexFunc_sl_int_int⟩, ?_⟩
  refine List.forall_mem_cons.2 ⟨⟨Try.f222, ⟨mf, false, false⟩, Try.func222, K_slices_ContainsFunc_sl_int_int⟩, ?_⟩
  refine List.forall_mem_cons.2 ⟨⟨Try.f181, ⟨mf, false, false⟩, Try.func181, K_impl_isEnabled⟩, ?_⟩
  refine List.forall_mem_cons.2 ⟨⟨Try.f239, ⟨mf, false, false⟩, Try.func239, K_impl_enabled⟩, ?_⟩
  refine List.forall_mem_cons.2 ⟨⟨Try.f183, ⟨mf, false, false⟩, Try.func183, K_impl_fired⟩, ?_⟩
  refine List.forall_mem_cons.2 ⟨⟨Try.f160, ⟨mf, false, false⟩, Try.func160, K_slices_Equal_sl_int_int⟩, ?_⟩
  refine List.forall_mem_cons.2 ⟨⟨Try.f165, ⟨mf, false, false⟩, Try.func165, K_impl_Space_find_1⟩, ?_⟩
  refine List.forall_mem_cons.2 ⟨⟨Try.f164, ⟨mf, false, false⟩, Try.func164, K_slices_IndexFunc_sl_sl_int_sl_int⟩, ?_⟩
  refine List.forall_mem_cons.2 ⟨⟨Try.f88, ⟨mf, false, false⟩, Try.func88, K_impl_Space_find⟩, ?_⟩
  refine List.forall_mem_cons.2 ⟨⟨Try.f211, ⟨mf, false, false⟩, Try.func211, K_impl_explore⟩, ?_⟩
  refine List.forall_mem_cons.2 ⟨⟨Try.f162, ⟨mf, false, false⟩, Try.func162, K_impl_Explore⟩, ?_⟩
  refine List.forall_mem_cons.2 ⟨⟨Try.f86, ⟨mf, false, false⟩, Try.func86, K_impl_wholeSpace⟩, ?_⟩
  refine List.forall_mem_cons.2 ⟨⟨Try.f90, ⟨mf, true, true⟩, Try.func90, K_impl_Space_leadingTo⟩, ?_⟩
  refine List.forall_mem_cons.2 ⟨⟨Try.f166, ⟨mf, false, false⟩, Try.func166, K_slices_Index_sl_bool_bool⟩, ?_⟩
  refine List.forall_mem_cons.2 ⟨⟨Try.f89, ⟨mf, false, false⟩, Try.func89, K_slices_Contains_sl_bool_bool⟩, ?_⟩
  refine List.forall_mem_cons.2 ⟨⟨Try.f36, ⟨mf, false, false⟩, Try.func36, K_impl_IsHome⟩, ?_⟩
  refine List.forall_mem_cons.2 ⟨⟨Try.f212, ⟨mf, false, false⟩, Try.func212, K_spec_l4Asked⟩, ?_⟩
  refine List.forall_mem_cons.2 ⟨⟨Try.f169, ⟨mf, false, false⟩, Try.func169, K_spec_l1Same⟩, ?_⟩
  refine List.forall_mem_cons.2 ⟨⟨Try.f93, ⟨mf, false, false⟩, Try.func93, K_spec_l4Find⟩, ?_⟩
  refine List.forall_mem_cons.2 ⟨⟨Try.f213, ⟨mf, false, false⟩, Try.func213, K_spec_l4Explore⟩, ?_⟩
  refine List.forall_mem_cons.2 ⟨⟨Try.f167, ⟨mf, false, false⟩, Try.func167, K_spec_Explore⟩, ?_⟩
  refine List.forall_mem_cons.2 ⟨⟨Try.f91, ⟨mf, false, false⟩, Try.func91, K_spec_l4All⟩, ?_⟩
  refine List.forall_mem_cons.2 ⟨⟨Try.f170, ⟨mf, false, false⟩, Try.func170, K_spec_l4To⟩, ?_⟩
  refine List.forall_mem_cons.2 ⟨⟨Try.f94, ⟨mf, false, false⟩, Try.func94, K_spec_l4Everywhere⟩, ?_⟩
  refine List.forall_mem_cons.2 ⟨⟨Try.f37, ⟨mf, false, false⟩, Try.func37, K_spec_IsHome⟩, ?_⟩
  refine List.forall_mem_cons.2 ⟨⟨Try.f38, ⟨mf, false, false⟩, Try.func38, K_impl_CanCome⟩, ?_⟩
  refine List.forall_mem_cons.2 ⟨⟨Try.f39, ⟨mf, false, false⟩, Try.func39, K_spec_CanCome⟩, ?_⟩
  refine List.forall_mem_cons.2 ⟨⟨Try.f178, ⟨mf, false, false⟩, Try.func178, K_impl_Space_wayTo_1⟩, ?_⟩
  refine List.forall_mem_cons.2 ⟨⟨Try.f177, ⟨mf, false, false⟩, Try.func177, K_slices_IndexFunc_sl_impl_Arc_impl_Arc⟩, ?_⟩
  refine List.forall_mem_cons.2 ⟨⟨Try.f179, ⟨mf, false, false⟩, Try.func179, K_slices_Reverse_sl_int_int⟩, ?_⟩
  refine List.forall_mem_cons.2 ⟨⟨Try.f98, ⟨mf, false, false⟩, Try.func98, K_impl_Space_wayTo⟩, ?_⟩
  refine List.forall_mem_cons.2 ⟨⟨Try.f41, ⟨mf, false, false⟩, Try.func41, K_impl_WayTo⟩, ?_⟩
  refine List.forall_mem_cons.2 ⟨⟨Try.f99, ⟨mf, false, true⟩, Try.func99, K_spec_l4Way⟩, ?_⟩
  refine List.forall_mem_cons.2 ⟨⟨Try.f42, ⟨mf, false, false⟩, Try.func42, K_spec_WayTo⟩, ?_⟩
  refine List.forall_mem_cons.2 ⟨⟨Try.f43, ⟨mf, false, false⟩, Try.func43, K_laws_sameInts⟩, ?_⟩
  refine List.forall_mem_cons.2 ⟨⟨Try.f101, ⟨mf, false, false⟩, Try.func101, K_impl_areTrans⟩, ?_⟩
  refine List.forall_mem_cons.2 ⟨⟨Try.f180, ⟨mf, false, false⟩, Try.func180, K_impl_isTrans⟩, ?_⟩
  refine List.forall_mem_cons.2 ⟨⟨Try.f182, ⟨mf, false, false⟩, Try.func182, K_impl_checkedMark⟩, ?_⟩
  refine List.forall_mem_cons.2 ⟨⟨Try.f103, ⟨mf, false, false⟩, Try.func103, K_impl_Fire⟩, ?_⟩
  refine List.forall_mem_cons.2 ⟨⟨Try.f44, ⟨mf, false, false⟩, Try.func44, K_impl_FireAll⟩, ?_⟩
  refine List.forall_mem_cons.2 ⟨⟨Try.f8, ⟨mf, false, false⟩, Try.func8, K_laws_FnHome⟩, ?_⟩
  exact fun _ h => (by cases h)
theorem hF (f : FuncId) (i : IFun) (h : F f = some i) : ∃ (fn : Func) (m : Md), Try.prog.funcs[f]? = some fn ∧ compile Try.prog m fn = some i := by
  unfold F at h
  simp only [Option.map_eq_some_iff] at h
  obtain ⟨p, hp, rfl⟩ := h
  have h1 := List.mem_of_find?_eq_some hp
  have h2 := List.find?_some hp
  have h3 : p.1 = f := by simpa using h2
  subst h3
  exact tblOk p h1
theorem extsOk : ∀ p ∈ exts, ExtOk Try.prog p.1 p.2 := by
  unfold exts
  refine List.forall_mem_cons.2 ⟨extClone_ok (mf := ⟨mf, false, false⟩) (Checked.mixed Try.checked) Try.func102 (show compile Try.prog ⟨mf, false, false⟩ Try.f102 = some (irClone t_int true 1) by kernel_rfl), ?_⟩
  exact fun _ h => (by cases h)
theorem hE (f : FuncId) (e : List PV → Option PV) (h : ext f = some e) : ExtOk Try.prog f e := by
  unfold ext at h
  simp only [Option.map_eq_some_iff] at h
  obtain ⟨p, hp, rfl⟩ := h
  have h1 := List.mem_of_find?_eq_some hp
  have h2 := List.find?_some hp
  have h3 : p.1 = f := by simpa using h2
  subst h3
  exact extsOk p h1
end Go.Proofs.Ytkkifebmicbbaaa.Pi
