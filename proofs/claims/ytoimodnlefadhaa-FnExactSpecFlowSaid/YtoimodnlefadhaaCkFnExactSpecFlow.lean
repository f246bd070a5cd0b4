/- The forms are those of the program. No condition. -/
import Derived.Test.YtoimodnlefadhaaChecked
import Derived.Test.YtoimodnlefadhaaIrFnExactSpecFlow
import Derived.Test.YtoimodnlefadhaaPiTop
import Derived.Test.YtoimodnlefadhaaPiDz
import Derived.KernelRfl
namespace Go.Proofs.Ytoimodnlefadhaa.Pi
open Go
set_option linter.all false
def mf (f : FuncId) : Bool := [19, 64, 32, 51, 18, 33].contains f
theorem K_laws_szIntS : compile Try.prog ⟨mf, false⟩ Try.f108 = some ir_laws_szIntS := by kernel_rfl
theorem K_laws_szTask : compile Try.prog ⟨mf, false⟩ Try.f83 = some ir_laws_szTask := by kernel_rfl
theorem K_laws_szTaskS : compile Try.prog ⟨mf, false⟩ Try.f57 = some ir_laws_szTaskS := by kernel_rfl
theorem K_laws_szSpec : compile Try.prog ⟨mf, false⟩ Try.f26 = some ir_laws_szSpec := by kernel_rfl
theorem K_laws_toIntS : compile Try.prog ⟨mf, false⟩ Try.f12 = some ir_laws_toIntS := by kernel_rfl
theorem K_laws_toTask : compile Try.prog ⟨mf, false⟩ Try.f89 = some ir_laws_toTask := by kernel_rfl
theorem K_laws_toTaskS : compile Try.prog ⟨mf, true⟩ Try.f60 = some ir_laws_toTaskS := by kernel_rfl
theorem K_laws_toSpec : compile Try.prog ⟨mf, true⟩ Try.f28 = some ir_laws_toSpec := by kernel_rfl
theorem K_spec_l1In : compile Try.prog ⟨mf, false⟩ Try.f66 = some ir_spec_l1In := by kernel_rfl
theorem K_spec_l1Has : compile Try.prog ⟨mf, false⟩ Try.f111 = some ir_spec_l1Has := by kernel_rfl
theorem K_spec_l1Rising : compile Try.prog ⟨mf, false⟩ Try.f74 = some ir_spec_l1Rising := by kernel_rfl
theorem K_spec_l13Task : compile Try.prog ⟨mf, false⟩ Try.f84 = some ir_spec_l13Task := by kernel_rfl
theorem K_spec_l1Own : compile Try.prog ⟨mf, false⟩ Try.f86 = some ir_spec_l1Own := by kernel_rfl
theorem K_spec_l1Set : compile Try.prog ⟨mf, false⟩ Try.f113 = some ir_spec_l1Set := by kernel_rfl
theorem K_spec_l13Some : compile Try.prog ⟨mf, false⟩ Try.f87 = some ir_spec_l13Some := by kernel_rfl
theorem K_spec_l13Region : compile Try.prog ⟨mf, false⟩ Try.f88 = some ir_spec_l13Region := by kernel_rfl
theorem K_spec_l13Lay : compile Try.prog ⟨mf, false⟩ Try.f59 = some ir_spec_l13Lay := by kernel_rfl
theorem K_spec_l1Places : compile Try.prog ⟨mf, false⟩ Try.f73 = some ir_spec_l1Places := by kernel_rfl
theorem K_spec_GoodNet : compile Try.prog ⟨mf, false⟩ Try.f44 = some ir_spec_GoodNet := by kernel_rfl
theorem K_spec_l3Forward : compile Try.prog ⟨mf, false⟩ Try.f123 = some ir_spec_l3Forward := by kernel_rfl
theorem K_spec_l3Back : compile Try.prog ⟨mf, false⟩ Try.f124 = some ir_spec_l3Back := by kernel_rfl
theorem K_spec_l3Both : compile Try.prog ⟨mf, false⟩ Try.f125 = some ir_spec_l3Both := by kernel_rfl
theorem K_spec_OnWay : compile Try.prog ⟨mf, false⟩ Try.f112 = some ir_spec_OnWay := by kernel_rfl
theorem K_spec_GoodFlow : compile Try.prog ⟨mf, false⟩ Try.f85 = some ir_spec_GoodFlow := by kernel_rfl
theorem K_spec_GoodSpec : compile Try.prog ⟨mf, false⟩ Try.f58 = some ir_spec_GoodSpec := by kernel_rfl
theorem K_spec_SpecFlow : compile Try.prog ⟨mf, false⟩ Try.f27 = some ir_spec_SpecFlow := by kernel_rfl
theorem K_impl_within : compile Try.prog ⟨mf, false⟩ Try.f76 = some ir_impl_within := by kernel_rfl
theorem K_impl_increasing : compile Try.prog ⟨mf, false⟩ Try.f110 = some ir_impl_increasing := by kernel_rfl
theorem K_impl_allWithin : compile Try.prog ⟨mf, false⟩ Try.f48 = some ir_impl_allWithin := by kernel_rfl
theorem K_impl_areConds : compile Try.prog ⟨mf, false⟩ Try.f114 = some ir_impl_areConds := by kernel_rfl
theorem K_slices_Index_sl_int_int : compile Try.prog ⟨mf, false⟩ Try.f126 = some ir_slices_Index_sl_int_int := by kernel_rfl
theorem K_slices_Contains_sl_int_int : compile Try.prog ⟨mf, false⟩ Try.f115 = some ir_slices_Contains_sl_int_int := by kernel_rfl
theorem K_impl_isTask : compile Try.prog ⟨mf, false⟩ Try.f90 = some ir_impl_isTask := by kernel_rfl
theorem K_impl_movesOf : compile Try.prog ⟨mf, false⟩ Try.f92 = some ir_impl_movesOf := by kernel_rfl
theorem K_impl_setOf : compile Try.prog ⟨mf, false⟩ Try.f118 = some ir_impl_setOf := by kernel_rfl
theorem K_impl_regionOf : compile Try.prog ⟨mf, false⟩ Try.f119 = some ir_impl_regionOf := by kernel_rfl
theorem K_impl_transOf : compile Try.prog ⟨mf, false⟩ Try.f93 = some ir_impl_transOf := by kernel_rfl
theorem K_impl_specFlow : compile Try.prog ⟨mf, true⟩ Try.f62 = some ir_impl_specFlow := by kernel_rfl
theorem K_impl_arePlaces : compile Try.prog ⟨mf, false⟩ Try.f79 = some ir_impl_arePlaces := by kernel_rfl
theorem K_impl_GoodNet_1 : compile Try.prog ⟨mf, false⟩ Try.f78 = some ir_impl_GoodNet_1 := by kernel_rfl
theorem K_slices_IndexFunc_sl_impl_Trans_impl_Trans : compile Try.prog ⟨mf, false⟩ Try.f109 = some ir_slices_IndexFunc_sl_impl_Trans_impl_Trans := by kernel_rfl
theorem K_slices_ContainsFunc_sl_impl_Trans_impl_Trans : compile Try.prog ⟨mf, false⟩ Try.f77 = some ir_slices_ContainsFunc_sl_impl_Trans_impl_Trans := by kernel_rfl
theorem K_impl_GoodNet : compile Try.prog ⟨mf, false⟩ Try.f47 = some ir_impl_GoodNet := by kernel_rfl
theorem K_impl_reachedFrom_1 : compile Try.prog ⟨mf, false⟩ Try.f130 = some ir_impl_reachedFrom_1 := by kernel_rfl
theorem K_slices_IndexFunc_sl_int_int : compile Try.prog ⟨mf, false⟩ Try.f131 = some ir_slices_IndexFunc_sl_int_int := by kernel_rfl
theorem K_slices_ContainsFunc_sl_int_int : compile Try.prog ⟨mf, false⟩ Try.f129 = some ir_slices_ContainsFunc_sl_int_int := by kernel_rfl
theorem K_impl_reachedFrom : compile Try.prog ⟨mf, false⟩ Try.f127 = some ir_impl_reachedFrom := by kernel_rfl
theorem K_impl_bothOf : compile Try.prog ⟨mf, false⟩ Try.f128 = some ir_impl_bothOf := by kernel_rfl
theorem K_impl_onWay : compile Try.prog ⟨mf, false⟩ Try.f116 = some ir_impl_onWay := by kernel_rfl
theorem K_impl_GoodFlow : compile Try.prog ⟨mf, false⟩ Try.f91 = some ir_impl_GoodFlow := by kernel_rfl
theorem K_impl_isSpec : compile Try.prog ⟨mf, false⟩ Try.f61 = some ir_impl_isSpec := by kernel_rfl
theorem K_impl_SpecFlow : compile Try.prog ⟨mf, true⟩ Try.f29 = some ir_impl_SpecFlow := by kernel_rfl
theorem K_laws_eqIntS : compile Try.prog ⟨mf, false⟩ Try.f15 = some ir_laws_eqIntS := by kernel_rfl
theorem K_laws_eqTrans : compile Try.prog ⟨mf, false⟩ Try.f80 = some ir_laws_eqTrans := by kernel_rfl
theorem K_laws_eqTransS : compile Try.prog ⟨mf, false⟩ Try.f49 = some ir_laws_eqTransS := by kernel_rfl
theorem K_laws_eqNet : compile Try.prog ⟨mf, false⟩ Try.f14 = some ir_laws_eqNet := by kernel_rfl
theorem K_laws_eqFlow : compile Try.prog ⟨mf, false⟩ Try.f30 = some ir_laws_eqFlow := by kernel_rfl
theorem K_laws_eqTask : compile Try.prog ⟨mf, false⟩ Try.f94 = some ir_laws_eqTask := by kernel_rfl
theorem K_laws_eqTaskS : compile Try.prog ⟨mf, false⟩ Try.f63 = some ir_laws_eqTaskS := by kernel_rfl
theorem K_laws_eqSpec : compile Try.prog ⟨mf, false⟩ Try.f31 = some ir_laws_eqSpec := by kernel_rfl
theorem K_laws_markIntS : compile Try.prog ⟨mf, true⟩ Try.f19 = some ir_laws_markIntS := by kernel_rfl
theorem K_laws_markTaskS : compile Try.prog ⟨mf, true⟩ Try.f64 = some ir_laws_markTaskS := by kernel_rfl
theorem K_laws_markSpec : compile Try.prog ⟨mf, true⟩ Try.f32 = some ir_laws_markSpec := by kernel_rfl
theorem K_laws_markTransS : compile Try.prog ⟨mf, true⟩ Try.f51 = some ir_laws_markTransS := by kernel_rfl
theorem K_laws_markNet : compile Try.prog ⟨mf, true⟩ Try.f18 = some ir_laws_markNet := by kernel_rfl
theorem K_laws_markFlow : compile Try.prog ⟨mf, true⟩ Try.f33 = some ir_laws_markFlow := by kernel_rfl
theorem K_laws_heldIntS : compile Try.prog ⟨mf, false⟩ Try.f20 = some ir_laws_heldIntS := by kernel_rfl
theorem K_laws_heldTransS : compile Try.prog ⟨mf, false⟩ Try.f95 = some ir_laws_heldTransS := by kernel_rfl
theorem K_laws_heldNet : compile Try.prog ⟨mf, false⟩ Try.f65 = some ir_laws_heldNet := by kernel_rfl
theorem K_laws_heldFlow : compile Try.prog ⟨mf, false⟩ Try.f34 = some ir_laws_heldFlow := by kernel_rfl
theorem K_laws_FnExactSpecFlow : compile Try.prog ⟨mf, false⟩ Try.f6 = some ir_laws_FnExactSpecFlow := by kernel_rfl
theorem tblOk : ∀ p ∈ tbl, ∃ (fn : Func) (m : Md), Try.prog.funcs[p.1]? = some fn ∧ compile Try.prog m fn = some p.2 := by
  unfold tbl
  refine List.forall_mem_cons.2 ⟨⟨Try.f108, ⟨mf, false⟩, Try.func108, K_laws_szIntS⟩, ?_⟩
  refine List.forall_mem_cons.2 ⟨⟨Try.f83, ⟨mf, false⟩, Try.func83, K_laws_szTask⟩, ?_⟩
  refine List.forall_mem_cons.2 ⟨⟨Try.f57, ⟨mf, false⟩, Try.func57, K_laws_szTaskS⟩, ?_⟩
  refine List.forall_mem_cons.2 ⟨⟨Try.f26, ⟨mf, false⟩, Try.func26, K_laws_szSpec⟩, ?_⟩
  refine List.forall_mem_cons.2 ⟨⟨Try.f12, ⟨mf, false⟩, Try.func12, K_laws_toIntS⟩, ?_⟩
  refine List.forall_mem_cons.2 ⟨⟨Try.f89, ⟨mf, false⟩, Try.func89, K_laws_toTask⟩, ?_⟩
  refine List.forall_mem_cons.2 ⟨⟨Try.f60, ⟨mf, true⟩, Try.func60, K_laws_toTaskS⟩, ?_⟩
  refine List.forall_mem_cons.2 ⟨⟨Try.f28, ⟨mf, true⟩, Try.func28, K_laws_toSpec⟩, ?_⟩
  refine List.forall_mem_cons.2 ⟨⟨Try.f66, ⟨mf, false⟩, Try.func66, K_spec_l1In⟩, ?_⟩
  refine List.forall_mem_cons.2 ⟨⟨Try.f111, ⟨mf, false⟩, Try.func111, K_spec_l1Has⟩, ?_⟩
  refine List.forall_mem_cons.2 ⟨⟨Try.f74, ⟨mf, false⟩, Try.func74, K_spec_l1Rising⟩, ?_⟩
  refine List.forall_mem_cons.2 ⟨⟨Try.f84, ⟨mf, false⟩, Try.func84, K_spec_l13Task⟩, ?_⟩
  refine List.forall_mem_cons.2 ⟨⟨Try.f86, ⟨mf, false⟩, Try.func86, K_spec_l1Own⟩, ?_⟩
  refine List.forall_mem_cons.2 ⟨⟨Try.f113, ⟨mf, false⟩, Try.func113, K_spec_l1Set⟩, ?_⟩
  refine List.forall_mem_cons.2 ⟨⟨Try.f87, ⟨mf, false⟩, Try.func87, K_spec_l13Some⟩, ?_⟩
  refine List.forall_mem_cons.2 ⟨⟨Try.f88, ⟨mf, false⟩, Try.func88, K_spec_l13Region⟩, ?_⟩
  refine List.forall_mem_cons.2 ⟨⟨Try.f59, ⟨mf, false⟩, Try.func59, K_spec_l13Lay⟩, ?_⟩
  refine List.forall_mem_cons.2 ⟨⟨Try.f73, ⟨mf, false⟩, Try.func73, K_spec_l1Places⟩, ?_⟩
  refine List.forall_mem_cons.2 ⟨⟨Try.f44, ⟨mf, false⟩, Try.func44, K_spec_GoodNet⟩, ?_⟩
  refine List.forall_mem_cons.2 ⟨⟨Try.f123, ⟨mf, false⟩, Try.func123, K_spec_l3Forward⟩, ?_⟩
  refine List.forall_mem_cons.2 ⟨⟨Try.f124, ⟨mf, false⟩, Try.func124, K_spec_l3Back⟩, ?_⟩
  refine List.forall_mem_cons.2 ⟨⟨Try.f125, ⟨mf, false⟩, Try.func125, K_spec_l3Both⟩, ?_⟩
  refine List.forall_mem_cons.2 ⟨⟨Try.f112, ⟨mf, false⟩, Try.func112, K_spec_OnWay⟩, ?_⟩
  refine List.forall_mem_cons.2 ⟨⟨Try.f85, ⟨mf, false⟩, Try.func85, K_spec_GoodFlow⟩, ?_⟩
  refine List.forall_mem_cons.2 ⟨⟨Try.f58, ⟨mf, false⟩, Try.func58, K_spec_GoodSpec⟩, ?_⟩
  refine List.forall_mem_cons.2 ⟨⟨Try.f27, ⟨mf, false⟩, Try.func27, K_spec_SpecFlow⟩, ?_⟩
  refine List.forall_mem_cons.2 ⟨⟨Try.f76, ⟨mf, false⟩, Try.func76, K_impl_within⟩, ?_⟩
  refine List.forall_mem_cons.2 ⟨⟨Try.f110, ⟨mf, false⟩, Try.func110, K_impl_increasing⟩, ?_⟩
  refine List.forall_mem_cons.2 ⟨⟨Try.f48, ⟨mf, false⟩, Try.func48, K_impl_allWithin⟩, ?_⟩
  refine List.forall_mem_cons.2 ⟨⟨Try.f114, ⟨mf, false⟩, Try.func114, K_impl_areConds⟩, ?_⟩
  refine List.forall_mem_cons.2 ⟨⟨Try.f126, ⟨mf, false⟩, Try.func126, K_slices_Index_sl_int_int⟩, ?_⟩
  refine List.forall_mem_cons.2 ⟨⟨Try.f115, ⟨mf, false⟩, Try.func115, K_slices_Contains_sl_int_int⟩, ?_⟩
  refine List.forall_mem_cons.2 ⟨⟨Try.f90, ⟨mf, false⟩, Try.func90, K_impl_isTask⟩, ?_⟩
  refine List.forall_mem_cons.2 ⟨⟨Try.f92, ⟨mf, false⟩, Try.func92, K_impl_movesOf⟩, ?_⟩
  refine List.forall_mem_cons.2 ⟨⟨Try.f118, ⟨mf, false⟩, Try.func118, K_impl_setOf⟩, ?_⟩
  refine List.forall_mem_cons.2 ⟨⟨Try.f119, ⟨mf, false⟩, Try.func119, K_impl_regionOf⟩, ?_⟩
  refine List.forall_mem_cons.2 ⟨⟨Try.f93, ⟨mf, false⟩, Try.func93, K_impl_transOf⟩, ?_⟩
  refine List.forall_mem_cons.2 ⟨⟨Try.f62, ⟨mf, true⟩, Try.func62, K_impl_specFlow⟩, ?_⟩
  refine List.forall_mem_cons.2 ⟨⟨Try.f79, ⟨mf, false⟩, Try.func79, K_impl_arePlaces⟩, ?_⟩
  refine List.forall_mem_cons.2 ⟨⟨Try.f78, ⟨mf, false⟩, Try.func78, K_impl_GoodNet_1⟩, ?_⟩
  refine List.forall_mem_cons.2 ⟨⟨Try.f109, ⟨mf, false⟩, Try.func109, K_slices_IndexFunc_sl_impl_Trans_impl_Trans⟩, ?_⟩
  refine List.forall_mem_cons.2 ⟨⟨Try.f77, ⟨mf, false⟩, Try.func77, K_slices_ContainsFunc_sl_impl_Trans_impl_Trans⟩, ?_⟩
  refine List.forall_mem_cons.2 ⟨⟨Try.f47, ⟨mf, false⟩, Try.func47, K_impl_GoodNet⟩, ?_⟩
  refine List.forall_mem_cons.2 ⟨⟨Try.f130, ⟨mf, false⟩, Try.func130, K_impl_reachedFrom_1⟩, ?_⟩
  refine List.forall_mem_cons.2 ⟨⟨Try.f131, ⟨mf, false⟩, Try.func131, K_slices_IndexFunc_sl_int_int⟩, ?_⟩
  refine List.forall_mem_cons.2 ⟨⟨Try.f129, ⟨mf, false⟩, Try.func129, K_slices_ContainsFunc_sl_int_int⟩, ?_⟩
  refine List.forall_mem_cons.2 ⟨⟨Try.f127, ⟨mf, false⟩, Try.func127, K_impl_reachedFrom⟩, ?_⟩
  refine List.forall_mem_cons.2 ⟨⟨Try.f128, ⟨mf, false⟩, Try.func128, K_impl_bothOf⟩, ?_⟩
  refine List.forall_mem_cons.2 ⟨⟨Try.f116, ⟨mf, false⟩, Try.func116, K_impl_onWay⟩, ?_⟩
  refine List.forall_mem_cons.2 ⟨⟨Try.f91, ⟨mf, false⟩, Try.func91, K_impl_GoodFlow⟩, ?_⟩
  refine List.forall_mem_cons.2 ⟨⟨Try.f61, ⟨mf, false⟩, Try.func61, K_impl_isSpec⟩, ?_⟩
  refine List.forall_mem_cons.2 ⟨⟨Try.f29, ⟨mf, true⟩, Try.func29, K_impl_SpecFlow⟩, ?_⟩
  refine List.forall_mem_cons.2 ⟨⟨Try.f15, ⟨mf, false⟩, Try.func15, K_laws_eqIntS⟩, ?_⟩
  refine List.forall_mem_cons.2 ⟨⟨Try.f80, ⟨mf, false⟩, Try.func80, K_laws_eqTrans⟩, ?_⟩
  refine List.forall_mem_cons.2 ⟨⟨Try.f49, ⟨mf, false⟩, Try.func49, K_laws_eqTransS⟩, ?_⟩
  refine List.forall_mem_cons.2 ⟨⟨Try.f14, ⟨mf, false⟩, Try.func14, K_laws_eqNet⟩, ?_⟩
  refine List.forall_mem_cons.2 ⟨⟨Try.f30, ⟨mf, false⟩, Try.func30, K_laws_eqFlow⟩, ?_⟩
  refine List.forall_mem_cons.2 ⟨⟨Try.f94, ⟨mf, false⟩, Try.func94, K_laws_eqTask⟩, ?_⟩
  refine List.forall_mem_cons.2 ⟨⟨Try.f63, ⟨mf, false⟩, Try.func63, K_laws_eqTaskS⟩, ?_⟩
  refine List.forall_mem_cons.2 ⟨⟨Try.f31, ⟨mf, false⟩, Try.func31, K_laws_eqSpec⟩, ?_⟩
  refine List.forall_mem_cons.2 ⟨⟨Try.f19, ⟨mf, true⟩, Try.func19, K_laws_markIntS⟩, ?_⟩
  refine List.forall_mem_cons.2 ⟨⟨Try.f64, ⟨mf, true⟩, Try.func64, K_laws_markTaskS⟩, ?_⟩
  refine List.forall_mem_cons.2 ⟨⟨Try.f32, ⟨mf, true⟩, Try.func32, K_laws_markSpec⟩, ?_⟩
  refine List.forall_mem_cons.2 ⟨⟨Try.f51, ⟨mf, true⟩, Try.func51, K_laws_markTransS⟩, ?_⟩
  refine List.forall_mem_cons.2 ⟨⟨Try.f18, ⟨mf, true⟩, Try.func18, K_laws_markNet⟩, ?_⟩
  refine List.forall_mem_cons.2 ⟨⟨Try.f33, ⟨mf, true⟩, Try.func33, K_laws_markFlow⟩, ?_⟩
  refine List.forall_mem_cons.2 ⟨⟨Try.f20, ⟨mf, false⟩, Try.func20, K_laws_heldIntS⟩, ?_⟩
  refine List.forall_mem_cons.2 ⟨⟨Try.f95, ⟨mf, false⟩, Try.func95, K_laws_heldTransS⟩, ?_⟩
  refine List.forall_mem_cons.2 ⟨⟨Try.f65, ⟨mf, false⟩, Try.func65, K_laws_heldNet⟩, ?_⟩
  refine List.forall_mem_cons.2 ⟨⟨Try.f34, ⟨mf, false⟩, Try.func34, K_laws_heldFlow⟩, ?_⟩
  refine List.forall_mem_cons.2 ⟨⟨Try.f6, ⟨mf, false⟩, Try.func6, K_laws_FnExactSpecFlow⟩, ?_⟩
  exact fun _ h => (by cases h)
theorem hF (f : FuncId) (i : IFun) (h : F f = some i) : ∃ (fn : Func) (m : Md), Try.prog.funcs[f]? = some fn ∧ compile Try.prog m fn = some i := by
  unfold F at h
  simp only [Option.map_eq_some_iff] at h
  obtain ⟨p, hp, rfl⟩ := h
  have h1 := List.mem_of_find?_eq_some hp
  have h2 := List.find?_some hp
  have h3 : p.1 = f := by simpa using h2
  subst h3
  exact tblOk p h1
theorem extsOk : ∀ p ∈ exts, ExtOk Try.prog p.1 p.2 := by
  unfold exts
  refine List.forall_mem_cons.2 ⟨extClone_ok (mf := ⟨mf, false⟩) (Checked.mixed Try.checked) Try.func117 (show compile Try.prog ⟨mf, false⟩ Try.f117 = some (irClone t_int true 1) by kernel_rfl), ?_⟩
  exact fun _ h => (by cases h)
theorem hE (f : FuncId) (e : List PV → Option PV) (h : ext f = some e) : ExtOk Try.prog f e := by
  unfold ext at h
  simp only [Option.map_eq_some_iff] at h
  obtain ⟨p, hp, rfl⟩ := h
  have h1 := List.mem_of_find?_eq_some hp
  have h2 := List.find?_some hp
  have h3 : p.1 = f := by simpa using h2
  subst h3
  exact extsOk p h1
end Go.Proofs.Ytoimodnlefadhaa.Pi
