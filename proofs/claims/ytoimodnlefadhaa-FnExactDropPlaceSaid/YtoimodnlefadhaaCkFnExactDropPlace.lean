/- The forms are those of the program. No condition. -/
import Derived.Test.YtoimodnlefadhaaChecked
import Derived.Test.YtoimodnlefadhaaIrFnExactDropPlace
import Derived.Test.YtoimodnlefadhaaPiTop
import Derived.Test.YtoimodnlefadhaaPiDz
import Derived.KernelRfl
namespace Go.Proofs.Ytoimodnlefadhaa.Pi
open Go
set_option linter.all false
def mf (f : FuncId) : Bool := [19, 51, 18, 33].contains f
theorem K_laws_szIntS : compile Try.prog ⟨mf, false⟩ Try.f108 = some ir_laws_szIntS := by kernel_rfl
theorem K_laws_szTrans : compile Try.prog ⟨mf, false⟩ Try.f72 = some ir_laws_szTrans := by kernel_rfl
theorem K_laws_szTransS : compile Try.prog ⟨mf, false⟩ Try.f43 = some ir_laws_szTransS := by kernel_rfl
theorem K_laws_szNet : compile Try.prog ⟨mf, false⟩ Try.f9 = some ir_laws_szNet := by kernel_rfl
theorem K_laws_szFlow : compile Try.prog ⟨mf, false⟩ Try.f39 = some ir_laws_szFlow := by kernel_rfl
theorem K_laws_toIntS : compile Try.prog ⟨mf, false⟩ Try.f12 = some ir_laws_toIntS := by kernel_rfl
theorem K_laws_toTrans : compile Try.prog ⟨mf, false⟩ Try.f75 = some ir_laws_toTrans := by kernel_rfl
theorem K_laws_toTransS : compile Try.prog ⟨mf, true⟩ Try.f46 = some ir_laws_toTransS := by kernel_rfl
theorem K_laws_toNet : compile Try.prog ⟨mf, true⟩ Try.f11 = some ir_laws_toNet := by kernel_rfl
theorem K_laws_toFlow : compile Try.prog ⟨mf, true⟩ Try.f41 = some ir_laws_toFlow := by kernel_rfl
theorem K_spec_l1In : compile Try.prog ⟨mf, false⟩ Try.f66 = some ir_spec_l1In := by kernel_rfl
theorem K_spec_l1Places : compile Try.prog ⟨mf, false⟩ Try.f73 = some ir_spec_l1Places := by kernel_rfl
theorem K_spec_l1Rising : compile Try.prog ⟨mf, false⟩ Try.f74 = some ir_spec_l1Rising := by kernel_rfl
theorem K_spec_GoodNet : compile Try.prog ⟨mf, false⟩ Try.f44 = some ir_spec_GoodNet := by kernel_rfl
theorem K_spec_l3Forward : compile Try.prog ⟨mf, false⟩ Try.f123 = some ir_spec_l3Forward := by kernel_rfl
theorem K_spec_l3Back : compile Try.prog ⟨mf, false⟩ Try.f124 = some ir_spec_l3Back := by kernel_rfl
theorem K_spec_l3Both : compile Try.prog ⟨mf, false⟩ Try.f125 = some ir_spec_l3Both := by kernel_rfl
theorem K_spec_OnWay : compile Try.prog ⟨mf, false⟩ Try.f112 = some ir_spec_OnWay := by kernel_rfl
theorem K_spec_l1Has : compile Try.prog ⟨mf, false⟩ Try.f111 = some ir_spec_l1Has := by kernel_rfl
theorem K_spec_GoodFlow : compile Try.prog ⟨mf, false⟩ Try.f85 = some ir_spec_GoodFlow := by kernel_rfl
theorem K_spec_l2Resets : compile Try.prog ⟨mf, false⟩ Try.f97 = some ir_spec_l2Resets := by kernel_rfl
theorem K_spec_l10Asked : compile Try.prog ⟨mf, false⟩ Try.f68 = some ir_spec_l10Asked := by kernel_rfl
theorem K_spec_l10Inner : compile Try.prog ⟨mf, false⟩ Try.f98 = some ir_spec_l10Inner := by kernel_rfl
theorem K_spec_l2Takers : compile Try.prog ⟨mf, false⟩ Try.f100 = some ir_spec_l2Takers := by kernel_rfl
theorem K_spec_l1Same : compile Try.prog ⟨mf, false⟩ Try.f99 = some ir_spec_l1Same := by kernel_rfl
theorem K_spec_l2Givers : compile Try.prog ⟨mf, false⟩ Try.f101 = some ir_spec_l2Givers := by kernel_rfl
theorem K_spec_l10Leave : compile Try.prog ⟨mf, false⟩ Try.f102 = some ir_spec_l10Leave := by kernel_rfl
theorem K_spec_l10DropPlace : compile Try.prog ⟨mf, false⟩ Try.f69 = some ir_spec_l10DropPlace := by kernel_rfl
theorem K_spec_DropPlace : compile Try.prog ⟨mf, false⟩ Try.f40 = some ir_spec_DropPlace := by kernel_rfl
theorem K_impl_within : compile Try.prog ⟨mf, false⟩ Try.f76 = some ir_impl_within := by kernel_rfl
theorem K_impl_increasing : compile Try.prog ⟨mf, false⟩ Try.f110 = some ir_impl_increasing := by kernel_rfl
theorem K_impl_allWithin : compile Try.prog ⟨mf, false⟩ Try.f48 = some ir_impl_allWithin := by kernel_rfl
theorem K_impl_arePlaces : compile Try.prog ⟨mf, false⟩ Try.f79 = some ir_impl_arePlaces := by kernel_rfl
theorem K_impl_GoodNet_1 : compile Try.prog ⟨mf, false⟩ Try.f78 = some ir_impl_GoodNet_1 := by kernel_rfl
theorem K_slices_IndexFunc_sl_impl_Trans_impl_Trans : compile Try.prog ⟨mf, false⟩ Try.f109 = some ir_slices_IndexFunc_sl_impl_Trans_impl_Trans := by kernel_rfl
theorem K_slices_ContainsFunc_sl_impl_Trans_impl_Trans : compile Try.prog ⟨mf, false⟩ Try.f77 = some ir_slices_ContainsFunc_sl_impl_Trans_impl_Trans := by kernel_rfl
theorem K_impl_GoodNet : compile Try.prog ⟨mf, false⟩ Try.f47 = some ir_impl_GoodNet := by kernel_rfl
theorem K_slices_Index_sl_int_int : compile Try.prog ⟨mf, false⟩ Try.f126 = some ir_slices_Index_sl_int_int := by kernel_rfl
theorem K_slices_Contains_sl_int_int : compile Try.prog ⟨mf, false⟩ Try.f115 = some ir_slices_Contains_sl_int_int := by kernel_rfl
theorem K_impl_reachedFrom_1 : compile Try.prog ⟨mf, false⟩ Try.f130 = some ir_impl_reachedFrom_1 := by kernel_rfl
theorem K_slices_IndexFunc_sl_int_int : compile Try.prog ⟨mf, false⟩ Try.f131 = some ir_slices_IndexFunc_sl_int_int := by kernel_rfl
theorem K_slices_ContainsFunc_sl_int_int : compile Try.prog ⟨mf, false⟩ Try.f129 = some ir_slices_ContainsFunc_sl_int_int := by kernel_rfl
theorem K_impl_reachedFrom : compile Try.prog ⟨mf, false⟩ Try.f127 = some ir_impl_reachedFrom := by kernel_rfl
theorem K_impl_bothOf : compile Try.prog ⟨mf, false⟩ Try.f128 = some ir_impl_bothOf := by kernel_rfl
theorem K_impl_onWay : compile Try.prog ⟨mf, false⟩ Try.f116 = some ir_impl_onWay := by kernel_rfl
theorem K_impl_GoodFlow : compile Try.prog ⟨mf, false⟩ Try.f91 = some ir_impl_GoodFlow := by kernel_rfl
theorem K_impl_hasResets_1 : compile Try.prog ⟨mf, false⟩ Try.f120 = some ir_impl_hasResets_1 := by kernel_rfl
theorem K_impl_hasResets : compile Try.prog ⟨mf, false⟩ Try.f103 = some ir_impl_hasResets := by kernel_rfl
theorem K_impl_isReducible : compile Try.prog ⟨mf, false⟩ Try.f70 = some ir_impl_isReducible := by kernel_rfl
theorem K_impl_isInner : compile Try.prog ⟨mf, false⟩ Try.f104 = some ir_impl_isInner := by kernel_rfl
theorem K_impl_withTrans : compile Try.prog ⟨mf, false⟩ Try.f106 = some ir_impl_withTrans := by kernel_rfl
theorem K_slices_Equal_sl_int_int : compile Try.prog ⟨mf, false⟩ Try.f105 = some ir_slices_Equal_sl_int_int := by kernel_rfl
theorem K_impl_withoutPlace_1 : compile Try.prog ⟨mf, true⟩ Try.f121 = some ir_impl_withoutPlace_1 := by kernel_rfl
theorem K_impl_withoutPlace_2 : compile Try.prog ⟨mf, true⟩ Try.f122 = some ir_impl_withoutPlace_2 := by kernel_rfl
theorem K_impl_withoutPlace : compile Try.prog ⟨mf, true⟩ Try.f107 = some ir_impl_withoutPlace := by kernel_rfl
theorem K_impl_dropPlace : compile Try.prog ⟨mf, true⟩ Try.f71 = some ir_impl_dropPlace := by kernel_rfl
theorem K_impl_DropPlace : compile Try.prog ⟨mf, true⟩ Try.f42 = some ir_impl_DropPlace := by kernel_rfl
theorem K_laws_eqIntS : compile Try.prog ⟨mf, false⟩ Try.f15 = some ir_laws_eqIntS := by kernel_rfl
theorem K_laws_eqTrans : compile Try.prog ⟨mf, false⟩ Try.f80 = some ir_laws_eqTrans := by kernel_rfl
theorem K_laws_eqTransS : compile Try.prog ⟨mf, false⟩ Try.f49 = some ir_laws_eqTransS := by kernel_rfl
theorem K_laws_eqNet : compile Try.prog ⟨mf, false⟩ Try.f14 = some ir_laws_eqNet := by kernel_rfl
theorem K_laws_eqFlow : compile Try.prog ⟨mf, false⟩ Try.f30 = some ir_laws_eqFlow := by kernel_rfl
theorem K_laws_markIntS : compile Try.prog ⟨mf, true⟩ Try.f19 = some ir_laws_markIntS := by kernel_rfl
theorem K_laws_markTransS : compile Try.prog ⟨mf, true⟩ Try.f51 = some ir_laws_markTransS := by kernel_rfl
theorem K_laws_markNet : compile Try.prog ⟨mf, true⟩ Try.f18 = some ir_laws_markNet := by kernel_rfl
theorem K_laws_markFlow : compile Try.prog ⟨mf, true⟩ Try.f33 = some ir_laws_markFlow := by kernel_rfl
theorem K_laws_heldIntS : compile Try.prog ⟨mf, false⟩ Try.f20 = some ir_laws_heldIntS := by kernel_rfl
theorem K_laws_heldTransS : compile Try.prog ⟨mf, false⟩ Try.f95 = some ir_laws_heldTransS := by kernel_rfl
theorem K_laws_heldNet : compile Try.prog ⟨mf, false⟩ Try.f65 = some ir_laws_heldNet := by kernel_rfl
theorem K_laws_heldFlow : compile Try.prog ⟨mf, false⟩ Try.f34 = some ir_laws_heldFlow := by kernel_rfl
theorem K_laws_FnExactDropPlace : compile Try.prog ⟨mf, false⟩ Try.f8 = some ir_laws_FnExactDropPlace := by kernel_rfl
theorem tblOk : ∀ p ∈ tbl, ∃ (fn : Func) (m : Md), Try.prog.funcs[p.1]? = some fn ∧ compile Try.prog m fn = some p.2 := by
  unfold tbl
  refine List.forall_mem_cons.2 ⟨⟨Try.f108, ⟨mf, false⟩, Try.func108, K_laws_szIntS⟩, ?_⟩
  refine List.forall_mem_cons.2 ⟨⟨Try.f72, ⟨mf, false⟩, Try.func72, K_laws_szTrans⟩, ?_⟩
  refine List.forall_mem_cons.2 ⟨⟨Try.f43, ⟨mf, false⟩, Try.func43, K_laws_szTransS⟩, ?_⟩
  refine List.forall_mem_cons.2 ⟨⟨Try.f9, ⟨mf, false⟩, Try.func9, K_laws_szNet⟩, ?_⟩
  refine List.forall_mem_cons.2 ⟨⟨Try.f39, ⟨mf, false⟩, Try.func39, K_laws_szFlow⟩, ?_⟩
  refine List.forall_mem_cons.2 ⟨⟨Try.f12, ⟨mf, false⟩, Try.func12, K_laws_toIntS⟩, ?_⟩
  refine List.forall_mem_cons.2 ⟨⟨Try.f75, ⟨mf, false⟩, Try.func75, K_laws_toTrans⟩, ?_⟩
  refine List.forall_mem_cons.2 ⟨⟨Try.f46, ⟨mf, true⟩, Try.func46, K_laws_toTransS⟩, ?_⟩
  refine List.forall_mem_cons.2 ⟨⟨Try.f11, ⟨mf, true⟩, Try.func11, K_laws_toNet⟩, ?_⟩
  refine List.forall_mem_cons.2 ⟨⟨Try.f41, ⟨mf, true⟩, Try.func41, K_laws_toFlow⟩, ?_⟩
  refine List.forall_mem_cons.2 ⟨⟨Try.f66, ⟨mf, false⟩, Try.func66, K_spec_l1In⟩, ?_⟩
  refine List.forall_mem_cons.2 ⟨⟨Try.f73, ⟨mf, false⟩, Try.func73, K_spec_l1Places⟩, ?_⟩
  refine List.forall_mem_cons.2 ⟨⟨Try.f74, ⟨mf, false⟩, Try.func74, K_spec_l1Rising⟩, ?_⟩
  refine List.forall_mem_cons.2 ⟨⟨Try.f44, ⟨mf, false⟩, Try.func44, K_spec_GoodNet⟩, ?_⟩
  refine List.forall_mem_cons.2 ⟨⟨Try.f123, ⟨mf, false⟩, Try.func123, K_spec_l3Forward⟩, ?_⟩
  refine List.forall_mem_cons.2 ⟨⟨Try.f124, ⟨mf, false⟩, Try.func124, K_spec_l3Back⟩, ?_⟩
  refine List.forall_mem_cons.2 ⟨⟨Try.f125, ⟨mf, false⟩, Try.func125, K_spec_l3Both⟩, ?_⟩
  refine List.forall_mem_cons.2 ⟨⟨Try.f112, ⟨mf, false⟩, Try.func112, K_spec_OnWay⟩, ?_⟩
  refine List.forall_mem_cons.2 ⟨⟨Try.f111, ⟨mf, false⟩, Try.func111, K_spec_l1Has⟩, ?_⟩
  refine List.forall_mem_cons.2 ⟨⟨Try.f85, ⟨mf, false⟩, Try.func85, K_spec_GoodFlow⟩, ?_⟩
  refine List.forall_mem_cons.2 ⟨⟨Try.f97, ⟨mf, false⟩, Try.func97, K_spec_l2Resets⟩, ?_⟩
  refine List.forall_mem_cons.2 ⟨⟨Try.f68, ⟨mf, false⟩, Try.func68, K_spec_l10Asked⟩, ?_⟩
  refine List.forall_mem_cons.2 ⟨⟨Try.f98, ⟨mf, false⟩, Try.func98, K_spec_l10Inner⟩, ?_⟩
  refine List.forall_mem_cons.2 ⟨⟨Try.f100, ⟨mf, false⟩, Try.func100, K_spec_l2Takers⟩, ?_⟩
  refine List.forall_mem_cons.2 ⟨⟨Try.f99, ⟨mf, false⟩, Try.func99, K_spec_l1Same⟩, ?_⟩
  refine List.forall_mem_cons.2 ⟨⟨Try.f101, ⟨mf, false⟩, Try.func101, K_spec_l2Givers⟩, ?_⟩
  refine List.forall_mem_cons.2 ⟨⟨Try.f102, ⟨mf, false⟩, Try.func102, K_spec_l10Leave⟩, ?_⟩
  refine List.forall_mem_cons.2 ⟨⟨Try.f69, ⟨mf, false⟩, Try.func69, K_spec_l10DropPlace⟩, ?_⟩
  refine List.forall_mem_cons.2 ⟨⟨Try.f40, ⟨mf, false⟩, Try.func40, K_spec_DropPlace⟩, ?_⟩
  refine List.forall_mem_cons.2 ⟨⟨Try.f76, ⟨mf, false⟩, Try.func76, K_impl_within⟩, ?_⟩
  refine List.forall_mem_cons.2 ⟨⟨Try.f110, ⟨mf, false⟩, Try.func110, K_impl_increasing⟩, ?_⟩
  refine List.forall_mem_cons.2 ⟨⟨Try.f48, ⟨mf, false⟩, Try.func48, K_impl_allWithin⟩, ?_⟩
  refine List.forall_mem_cons.2 ⟨⟨Try.f79, ⟨mf, false⟩, Try.func79, K_impl_arePlaces⟩, ?_⟩
  refine List.forall_mem_cons.2 ⟨⟨Try.f78, ⟨mf, false⟩, Try.func78, K_impl_GoodNet_1⟩, ?_⟩
  refine List.forall_mem_cons.2 ⟨⟨Try.f109, ⟨mf, false⟩, Try.func109, K_slices_IndexFunc_sl_impl_Trans_impl_Trans⟩, ?_⟩
  refine List.forall_mem_cons.2 ⟨⟨Try.f77, ⟨mf, false⟩, Try.func77, K_slices_ContainsFunc_sl_impl_Trans_impl_Trans⟩, ?_⟩
  refine List.forall_mem_cons.2 ⟨⟨Try.f47, ⟨mf, false⟩, Try.func47, K_impl_GoodNet⟩, ?_⟩
  refine List.forall_mem_cons.2 ⟨⟨Try.f126, ⟨mf, false⟩, Try.func126, K_slices_Index_sl_int_int⟩, ?_⟩
  refine List.forall_mem_cons.2 ⟨⟨Try.f115, ⟨mf, false⟩, Try.func115, K_slices_Contains_sl_int_int⟩, ?_⟩
  refine List.forall_mem_cons.2 ⟨⟨Try.f130, ⟨mf, false⟩, Try.func130, K_impl_reachedFrom_1⟩, ?_⟩
  refine List.forall_mem_cons.2 ⟨⟨Try.f131, ⟨mf, false⟩, Try.func131, K_slices_IndexFunc_sl_int_int⟩, ?_⟩
  refine List.forall_mem_cons.2 ⟨⟨Try.f129, ⟨mf, false⟩, Try.func129, K_slices_ContainsFunc_sl_int_int⟩, ?_⟩
  refine List.forall_mem_cons.2 ⟨⟨Try.f127, ⟨mf, false⟩, Try.func127, K_impl_reachedFrom⟩, ?_⟩
  refine List.forall_mem_cons.2 ⟨⟨Try.f128, ⟨mf, false⟩, Try.func128, K_impl_bothOf⟩, ?_⟩
  refine List.forall_mem_cons.2 ⟨⟨Try.f116, ⟨mf, false⟩, Try.func116, K_impl_onWay⟩, ?_⟩
  refine List.forall_mem_cons.2 ⟨⟨Try.f91, ⟨mf, false⟩, Try.func91, K_impl_GoodFlow⟩, ?_⟩
  refine List.forall_mem_cons.2 ⟨⟨Try.f120, ⟨mf, false⟩, Try.func120, K_impl_hasResets_1⟩, ?_⟩
  refine List.forall_mem_cons.2 ⟨⟨Try.f103, ⟨mf, false⟩, Try.func103, K_impl_hasResets⟩, ?_⟩
  refine List.forall_mem_cons.2 ⟨⟨Try.f70, ⟨mf, false⟩, Try.func70, K_impl_isReducible⟩, ?_⟩
  refine List.forall_mem_cons.2 ⟨⟨Try.f104, ⟨mf, false⟩, Try.func104, K_impl_isInner⟩, ?_⟩
  refine List.forall_mem_cons.2 ⟨⟨Try.f106, ⟨mf, false⟩, Try.func106, K_impl_withTrans⟩, ?_⟩
  refine List.forall_mem_cons.2 ⟨⟨Try.f105, ⟨mf, false⟩, Try.func105, K_slices_Equal_sl_int_int⟩, ?_⟩
  refine List.forall_mem_cons.2 ⟨⟨Try.f121, ⟨mf, true⟩, Try.func121, K_impl_withoutPlace_1⟩, ?_⟩
  refine List.forall_mem_cons.2 ⟨⟨Try.f122, ⟨mf, true⟩, Try.func122, K_impl_withoutPlace_2⟩, ?_⟩
  refine List.forall_mem_cons.2 ⟨⟨Try.f107, ⟨mf, true⟩, Try.func107, K_impl_withoutPlace⟩, ?_⟩
  refine List.forall_mem_cons.2 ⟨⟨Try.f71, ⟨mf, true⟩, Try.func71, K_impl_dropPlace⟩, ?_⟩
  refine List.forall_mem_cons.2 ⟨⟨Try.f42, ⟨mf, true⟩, Try.func42, K_impl_DropPlace⟩, ?_⟩
  refine List.forall_mem_cons.2 ⟨⟨Try.f15, ⟨mf, false⟩, Try.func15, K_laws_eqIntS⟩, ?_⟩
  refine List.forall_mem_cons.2 ⟨⟨Try.f80, ⟨mf, false⟩, Try.func80, K_laws_eqTrans⟩, ?_⟩
  refine List.forall_mem_cons.2 ⟨⟨Try.f49, ⟨mf, false⟩, Try.func49, K_laws_eqTransS⟩, ?_⟩
  refine List.forall_mem_cons.2 ⟨⟨Try.f14, ⟨mf, false⟩, Try.func14, K_laws_eqNet⟩, ?_⟩
  refine List.forall_mem_cons.2 ⟨⟨Try.f30, ⟨mf, false⟩, Try.func30, K_laws_eqFlow⟩, ?_⟩
  refine List.forall_mem_cons.2 ⟨⟨Try.f19, ⟨mf, true⟩, Try.func19, K_laws_markIntS⟩, ?_⟩
  refine List.forall_mem_cons.2 ⟨⟨Try.f51, ⟨mf, true⟩, Try.func51, K_laws_markTransS⟩, ?_⟩
  refine List.forall_mem_cons.2 ⟨⟨Try.f18, ⟨mf, true⟩, Try.func18, K_laws_markNet⟩, ?_⟩
  refine List.forall_mem_cons.2 ⟨⟨Try.f33, ⟨mf, true⟩, Try.func33, K_laws_markFlow⟩, ?_⟩
  refine List.forall_mem_cons.2 ⟨⟨Try.f20, ⟨mf, false⟩, Try.func20, K_laws_heldIntS⟩, ?_⟩
  refine List.forall_mem_cons.2 ⟨⟨Try.f95, ⟨mf, false⟩, Try.func95, K_laws_heldTransS⟩, ?_⟩
  refine List.forall_mem_cons.2 ⟨⟨Try.f65, ⟨mf, false⟩, Try.func65, K_laws_heldNet⟩, ?_⟩
  refine List.forall_mem_cons.2 ⟨⟨Try.f34, ⟨mf, false⟩, Try.func34, K_laws_heldFlow⟩, ?_⟩
  refine List.forall_mem_cons.2 ⟨⟨Try.f8, ⟨mf, false⟩, Try.func8, K_laws_FnExactDropPlace⟩, ?_⟩
  exact fun _ h => (by cases h)
theorem hF (f : FuncId) (i : IFun) (h : F f = some i) : ∃ (fn : Func) (m : Md), Try.prog.funcs[f]? = some fn ∧ compile Try.prog m fn = some i := by
  unfold F at h
  simp only [Option.map_eq_some_iff] at h
  obtain ⟨p, hp, rfl⟩ := h
  have h1 := List.mem_of_find?_eq_some hp
  have h2 := List.find?_some hp
  have h3 : p.1 = f := by simpa using h2
  subst h3
  exact tblOk p h1
theorem hE (f : FuncId) (e : List PV → Option PV) (h : ext f = some e) : ExtOk Try.prog f e := by
  simp [ext, exts] at h
end Go.Proofs.Ytoimodnlefadhaa.Pi
