/- The forms are those of the program. No condition. -/
import Derived.Test.YtoimodnlefadhaaChecked
import Derived.Test.YtoimodnlefadhaaIrFnExactGoodLetters
import Derived.Test.YtoimodnlefadhaaPiTop
import Derived.Test.YtoimodnlefadhaaPiDz
import Derived.KernelRfl
namespace Go.Proofs.Ytoimodnlefadhaa.Pi
open Go
set_option linter.all false
def mf (f : FuncId) : Bool := [].contains f
theorem K_laws_szIntS : compile Try.prog ⟨mf, false⟩ Try.f108 = some ir_laws_szIntS := by kernel_rfl
theorem K_laws_szTrans : compile Try.prog ⟨mf, false⟩ Try.f72 = some ir_laws_szTrans := by kernel_rfl
theorem K_laws_szTransS : compile Try.prog ⟨mf, false⟩ Try.f43 = some ir_laws_szTransS := by kernel_rfl
theorem K_laws_szNet : compile Try.prog ⟨mf, false⟩ Try.f9 = some ir_laws_szNet := by kernel_rfl
theorem K_laws_toIntS : compile Try.prog ⟨mf, false⟩ Try.f12 = some ir_laws_toIntS := by kernel_rfl
theorem K_laws_toTrans : compile Try.prog ⟨mf, false⟩ Try.f75 = some ir_laws_toTrans := by kernel_rfl
theorem K_laws_toTransS : compile Try.prog ⟨mf, true⟩ Try.f46 = some ir_laws_toTransS := by kernel_rfl
theorem K_laws_toNet : compile Try.prog ⟨mf, true⟩ Try.f11 = some ir_laws_toNet := by kernel_rfl
theorem K_spec_l1In : compile Try.prog ⟨mf, false⟩ Try.f66 = some ir_spec_l1In := by kernel_rfl
theorem K_spec_l1Places : compile Try.prog ⟨mf, false⟩ Try.f73 = some ir_spec_l1Places := by kernel_rfl
theorem K_spec_l1Rising : compile Try.prog ⟨mf, false⟩ Try.f74 = some ir_spec_l1Rising := by kernel_rfl
theorem K_spec_GoodNet : compile Try.prog ⟨mf, false⟩ Try.f44 = some ir_spec_GoodNet := by kernel_rfl
theorem K_spec_l1All : compile Try.prog ⟨mf, false⟩ Try.f45 = some ir_spec_l1All := by kernel_rfl
theorem K_spec_GoodLetters : compile Try.prog ⟨mf, false⟩ Try.f10 = some ir_spec_GoodLetters := by kernel_rfl
theorem K_impl_within : compile Try.prog ⟨mf, false⟩ Try.f76 = some ir_impl_within := by kernel_rfl
theorem K_impl_increasing : compile Try.prog ⟨mf, false⟩ Try.f110 = some ir_impl_increasing := by kernel_rfl
theorem K_impl_allWithin : compile Try.prog ⟨mf, false⟩ Try.f48 = some ir_impl_allWithin := by kernel_rfl
theorem K_impl_arePlaces : compile Try.prog ⟨mf, false⟩ Try.f79 = some ir_impl_arePlaces := by kernel_rfl
theorem K_impl_GoodNet_1 : compile Try.prog ⟨mf, false⟩ Try.f78 = some ir_impl_GoodNet_1 := by kernel_rfl
theorem K_slices_IndexFunc_sl_impl_Trans_impl_Trans : compile Try.prog ⟨mf, false⟩ Try.f109 = some ir_slices_IndexFunc_sl_impl_Trans_impl_Trans := by kernel_rfl
theorem K_slices_ContainsFunc_sl_impl_Trans_impl_Trans : compile Try.prog ⟨mf, false⟩ Try.f77 = some ir_slices_ContainsFunc_sl_impl_Trans_impl_Trans := by kernel_rfl
theorem K_impl_GoodNet : compile Try.prog ⟨mf, false⟩ Try.f47 = some ir_impl_GoodNet := by kernel_rfl
theorem K_impl_GoodLetters : compile Try.prog ⟨mf, false⟩ Try.f13 = some ir_impl_GoodLetters := by kernel_rfl
theorem K_laws_eqIntS : compile Try.prog ⟨mf, false⟩ Try.f15 = some ir_laws_eqIntS := by kernel_rfl
theorem K_laws_eqTrans : compile Try.prog ⟨mf, false⟩ Try.f80 = some ir_laws_eqTrans := by kernel_rfl
theorem K_laws_eqTransS : compile Try.prog ⟨mf, false⟩ Try.f49 = some ir_laws_eqTransS := by kernel_rfl
theorem K_laws_eqNet : compile Try.prog ⟨mf, false⟩ Try.f14 = some ir_laws_eqNet := by kernel_rfl
theorem K_laws_FnExactGoodLetters : compile Try.prog ⟨mf, false⟩ Try.f3 = some ir_laws_FnExactGoodLetters := by kernel_rfl
theorem tblOk : ∀ p ∈ tbl, ∃ (fn : Func) (m : Md), Try.prog.funcs[p.1]? = some fn ∧ compile Try.prog m fn = some p.2 := by
  unfold tbl
  refine List.forall_mem_cons.2 ⟨⟨Try.f108, ⟨mf, false⟩, Try.func108, K_laws_szIntS⟩, ?_⟩
  refine List.forall_mem_cons.2 ⟨⟨Try.f72, ⟨mf, false⟩, Try.func72, K_laws_szTrans⟩, ?_⟩
  refine List.forall_mem_cons.2 ⟨⟨Try.f43, ⟨mf, false⟩, Try.func43, K_laws_szTransS⟩, ?_⟩
  refine List.forall_mem_cons.2 ⟨⟨Try.f9, ⟨mf, false⟩, Try.func9, K_laws_szNet⟩, ?_⟩
  refine List.forall_mem_cons.2 ⟨⟨Try.f12, ⟨mf, false⟩, Try.func12, K_laws_toIntS⟩, ?_⟩
  refine List.forall_mem_cons.2 ⟨⟨Try.f75, ⟨mf, false⟩, Try.func75, K_laws_toTrans⟩, ?_⟩
  refine List.forall_mem_cons.2 ⟨⟨Try.f46, ⟨mf, true⟩, Try.func46, K_laws_toTransS⟩, ?_⟩
  refine List.forall_mem_cons.2 ⟨⟨Try.f11, ⟨mf, true⟩, Try.func11, K_laws_toNet⟩, ?_⟩
  refine List.forall_mem_cons.2 ⟨⟨Try.f66, ⟨mf, false⟩, Try.func66, K_spec_l1In⟩, ?_⟩
  refine List.forall_mem_cons.2 ⟨⟨Try.f73, ⟨mf, false⟩, Try.func73, K_spec_l1Places⟩, ?_⟩
  refine List.forall_mem_cons.2 ⟨⟨Try.f74, ⟨mf, false⟩, Try.func74, K_spec_l1Rising⟩, ?_⟩
  refine List.forall_mem_cons.2 ⟨⟨Try.f44, ⟨mf, false⟩, Try.func44, K_spec_GoodNet⟩, ?_⟩
  refine List.forall_mem_cons.2 ⟨⟨Try.f45, ⟨mf, false⟩, Try.func45, K_spec_l1All⟩, ?_⟩
  refine List.forall_mem_cons.2 ⟨⟨Try.f10, ⟨mf, false⟩, Try.func10, K_spec_GoodLetters⟩, ?_⟩
  refine List.forall_mem_cons.2 ⟨⟨Try.f76, ⟨mf, false⟩, Try.func76, K_impl_within⟩, ?_⟩
  refine List.forall_mem_cons.2 ⟨⟨Try.f110, ⟨mf, false⟩, Try.func110, K_impl_increasing⟩, ?_⟩
  refine List.forall_mem_cons.2 ⟨⟨Try.f48, ⟨mf, false⟩, Try.func48, K_impl_allWithin⟩, ?_⟩
  refine List.forall_mem_cons.2 ⟨⟨Try.f79, ⟨mf, false⟩, Try.func79, K_impl_arePlaces⟩, ?_⟩
  refine List.forall_mem_cons.2 ⟨⟨Try.f78, ⟨mf, false⟩, Try.func78, K_impl_GoodNet_1⟩, ?_⟩
  refine List.forall_mem_cons.2 ⟨⟨Try.f109, ⟨mf, false⟩, Try.func109, K_slices_IndexFunc_sl_impl_Trans_impl_Trans⟩, ?_⟩
  refine List.forall_mem_cons.2 ⟨⟨Try.f77, ⟨mf, false⟩, Try.func77, K_slices_ContainsFunc_sl_impl_Trans_impl_Trans⟩, ?_⟩
  refine List.forall_mem_cons.2 ⟨⟨Try.f47, ⟨mf, false⟩, Try.func47, K_impl_GoodNet⟩, ?_⟩
  refine List.forall_mem_cons.2 ⟨⟨Try.f13, ⟨mf, false⟩, Try.func13, K_impl_GoodLetters⟩, ?_⟩
  refine List.forall_mem_cons.2 ⟨⟨Try.f15, ⟨mf, false⟩, Try.func15, K_laws_eqIntS⟩, ?_⟩
  refine List.forall_mem_cons.2 ⟨⟨Try.f80, ⟨mf, false⟩, Try.func80, K_laws_eqTrans⟩, ?_⟩
  refine List.forall_mem_cons.2 ⟨⟨Try.f49, ⟨mf, false⟩, Try.func49, K_laws_eqTransS⟩, ?_⟩
  refine List.forall_mem_cons.2 ⟨⟨Try.f14, ⟨mf, false⟩, Try.func14, K_laws_eqNet⟩, ?_⟩
  refine List.forall_mem_cons.2 ⟨⟨Try.f3, ⟨mf, false⟩, Try.func3, K_laws_FnExactGoodLetters⟩, ?_⟩
  exact fun _ h => (by cases h)
theorem hF (f : FuncId) (i : IFun) (h : F f = some i) : ∃ (fn : Func) (m : Md), Try.prog.funcs[f]? = some fn ∧ compile Try.prog m fn = some i := by
  unfold F at h
  simp only [Option.map_eq_some_iff] at h
  obtain ⟨p, hp, rfl⟩ := h
  have h1 := List.mem_of_find?_eq_some hp
  have h2 := List.find?_some hp
  have h3 : p.1 = f := by simpa using h2
  subst h3
  exact tblOk p h1
theorem hE (f : FuncId) (e : List PV → Option PV) (h : ext f = some e) : ExtOk Try.prog f e := by
  simp [ext, exts] at h
end Go.Proofs.Ytoimodnlefadhaa.Pi
