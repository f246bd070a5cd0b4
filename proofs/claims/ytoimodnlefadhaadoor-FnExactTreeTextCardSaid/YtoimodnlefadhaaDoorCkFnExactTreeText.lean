/- The forms are those of the program. No condition. -/
import Derived.Test.YtoimodnlefadhaaDoorChecked
import Derived.Test.YtoimodnlefadhaaDoorIrFnExactTreeText
import Derived.Test.YtoimodnlefadhaaDoorPiTop
import Derived.Test.YtoimodnlefadhaaDoorPiDz
import Derived.KernelRfl
namespace Go.Proofs.YtoimodnlefadhaaDoor.Pi
open Go
set_option linter.all false
def mf (f : FuncId) : Bool := [].contains f
theorem K_laws_szBranchS : compile Tryd.prog ⟨mf, false⟩ Tryd.f5 = some ir_laws_szBranchS := by kernel_rfl
theorem K_laws_toBranch : compile Tryd.prog ⟨mf, false⟩ Tryd.f16 = some ir_laws_toBranch := by kernel_rfl
theorem K_laws_toBranchS : compile Tryd.prog ⟨mf, false⟩ Tryd.f7 = some ir_laws_toBranchS := by kernel_rfl
theorem K_spec_l1In : compile Tryd.prog ⟨mf, false⟩ Tryd.f25 = some ir_spec_l1In := by kernel_rfl
theorem K_spec_l11Good : compile Tryd.prog ⟨mf, false⟩ Tryd.f14 = some ir_spec_l11Good := by kernel_rfl
theorem K_spec_l1Num : compile Tryd.prog ⟨mf, false⟩ Tryd.f26 = some ir_spec_l1Num := by kernel_rfl
theorem K_spec_l11First : compile Tryd.prog ⟨mf, false⟩ Tryd.f27 = some ir_spec_l11First := by kernel_rfl
theorem K_spec_l11Text : compile Tryd.prog ⟨mf, false⟩ Tryd.f15 = some ir_spec_l11Text := by kernel_rfl
theorem K_spec_TreeText : compile Tryd.prog ⟨mf, false⟩ Tryd.f6 = some ir_spec_TreeText := by kernel_rfl
theorem K_impl_within : compile Tryd.prog ⟨mf, false⟩ Tryd.f28 = some ir_impl_within := by kernel_rfl
theorem K_impl_isTree : compile Tryd.prog ⟨mf, false⟩ Tryd.f17 = some ir_impl_isTree := by kernel_rfl
theorem K_impl_parsed : compile Tryd.prog ⟨mf, false⟩ Tryd.f19 = some ir_impl_parsed := by kernel_rfl
theorem K_internal_strconv_small : compile Tryd.prog ⟨mf, false⟩ Tryd.f44 = some ir_internal_strconv_small := by kernel_rfl
theorem K_math_bits_Len64 : compile Tryd.prog ⟨mf, false⟩ Tryd.f49 = some ir_math_bits_Len64 := by kernel_rfl
theorem K_internal_strconv_log10Pow2 : compile Tryd.prog ⟨mf, false⟩ Tryd.f48 = some ir_internal_strconv_log10Pow2 := by kernel_rfl
theorem K_internal_strconv_bool2_int : compile Tryd.prog ⟨mf, false⟩ Tryd.f50 = some ir_internal_strconv_bool2_int := by kernel_rfl
theorem K_internal_strconv_numDigits : compile Tryd.prog ⟨mf, false⟩ Tryd.f45 = some ir_internal_strconv_numDigits := by kernel_rfl
theorem K_internal_strconv_formatBase10 : compile Tryd.prog ⟨mf, false⟩ Tryd.f46 = some ir_internal_strconv_formatBase10 := by kernel_rfl
theorem K_internal_strconv_isPowerOfTwo : compile Tryd.prog ⟨mf, false⟩ Tryd.f51 = some ir_internal_strconv_isPowerOfTwo := by kernel_rfl
theorem K_math_bits_TrailingZeros32 : compile Tryd.prog ⟨mf, false⟩ Tryd.f42 = some ir_math_bits_TrailingZeros32 := by kernel_rfl
theorem K_math_bits_TrailingZeros64 : compile Tryd.prog ⟨mf, false⟩ Tryd.f43 = some ir_math_bits_TrailingZeros64 := by kernel_rfl
theorem K_math_bits_TrailingZeros : compile Tryd.prog ⟨mf, false⟩ Tryd.f36 = some ir_math_bits_TrailingZeros := by kernel_rfl
theorem K_internal_strconv_formatBits : compile Tryd.prog ⟨mf, false⟩ Tryd.f47 = some ir_internal_strconv_formatBits := by kernel_rfl
theorem K_internal_strconv_FormatInt : compile Tryd.prog ⟨mf, false⟩ Tryd.f41 = some ir_internal_strconv_FormatInt := by kernel_rfl
theorem K_internal_strconv_Itoa : compile Tryd.prog ⟨mf, false⟩ Tryd.f35 = some ir_internal_strconv_Itoa := by kernel_rfl
theorem K_strconv_Itoa : compile Tryd.prog ⟨mf, false⟩ Tryd.f29 = some ir_strconv_Itoa := by kernel_rfl
theorem K_impl_treeText : compile Tryd.prog ⟨mf, false⟩ Tryd.f18 = some ir_impl_treeText := by kernel_rfl
theorem K_impl_TreeText : compile Tryd.prog ⟨mf, false⟩ Tryd.f8 = some ir_impl_TreeText := by kernel_rfl
theorem K_laws_eqBranch : compile Tryd.prog ⟨mf, false⟩ Tryd.f20 = some ir_laws_eqBranch := by kernel_rfl
theorem K_laws_eqBranchS : compile Tryd.prog ⟨mf, false⟩ Tryd.f9 = some ir_laws_eqBranchS := by kernel_rfl
theorem K_laws_FnExactTreeText : compile Tryd.prog ⟨mf, false⟩ Tryd.f3 = some ir_laws_FnExactTreeText := by kernel_rfl
theorem tblOk : ∀ p ∈ tbl, ∃ (fn : Func) (m : Md), Tryd.prog.funcs[p.1]? = some fn ∧ compile Tryd.prog m fn = some p.2 := by
  unfold tbl
  refine List.forall_mem_cons.2 ⟨⟨Tryd.f5, ⟨mf, false⟩, Tryd.func5, K_laws_szBranchS⟩, ?_⟩
  refine List.forall_mem_cons.2 ⟨⟨Tryd.f16, ⟨mf, false⟩, Tryd.func16, K_laws_toBranch⟩, ?_⟩
  refine List.forall_mem_cons.2 ⟨⟨Tryd.f7, ⟨mf, false⟩, Tryd.func7, K_laws_toBranchS⟩, ?_⟩
  refine List.forall_mem_cons.2 ⟨⟨Tryd.f25, ⟨mf, false⟩, Tryd.func25, K_spec_l1In⟩, ?_⟩
  refine List.forall_mem_cons.2 ⟨⟨Tryd.f14, ⟨mf, false⟩, Tryd.func14, K_spec_l11Good⟩, ?_⟩
  refine List.forall_mem_cons.2 ⟨⟨Tryd.f26, ⟨mf, false⟩, Tryd.func26, K_spec_l1Num⟩, ?_⟩
  refine List.forall_mem_cons.2 ⟨⟨Tryd.f27, ⟨mf, false⟩, Tryd.func27, K_spec_l11First⟩, ?_⟩
  refine List.forall_mem_cons.2 ⟨⟨Tryd.f15, ⟨mf, false⟩, Tryd.func15, K_spec_l11Text⟩, ?_⟩
  refine List.forall_mem_cons.2 ⟨⟨Tryd.f6, ⟨mf, false⟩, Tryd.func6, K_spec_TreeText⟩, ?_⟩
  refine List.forall_mem_cons.2 ⟨⟨Tryd.f28, ⟨mf, false⟩, Tryd.func28, K_impl_within⟩, ?_⟩
  refine List.forall_mem_cons.2 ⟨⟨Tryd.f17, ⟨mf, false⟩, Tryd.func17, K_impl_isTree⟩, ?_⟩
  refine List.forall_mem_cons.2 ⟨⟨Tryd.f19, ⟨mf, false⟩, Tryd.func19, K_impl_parsed⟩, ?_⟩
  refine List.forall_mem_cons.2 ⟨⟨Tryd.f44, ⟨mf, false⟩, Tryd.func44, K_internal_strconv_small⟩, ?_⟩
  refine List.forall_mem_cons.2 ⟨⟨Tryd.f49, ⟨mf, false⟩, Tryd.func49, K_math_bits_Len64⟩, ?_⟩
  refine List.forall_mem_cons.2 ⟨⟨Tryd.f48, ⟨mf, false⟩, Tryd.func48, K_internal_strconv_log10Pow2⟩, ?_⟩
  refine List.forall_mem_cons.2 ⟨⟨Tryd.f50, ⟨mf, false⟩, Tryd.func50, K_internal_strconv_bool2_int⟩, ?_⟩
  refine List.forall_mem_cons.2 ⟨⟨Tryd.f45, ⟨mf, false⟩, Tryd.func45, K_internal_strconv_numDigits⟩, ?_⟩
  refine List.forall_mem_cons.2 ⟨⟨Tryd.f46, ⟨mf, false⟩, Tryd.func46, K_internal_strconv_formatBase10⟩, ?_⟩
  refine List.forall_mem_cons.2 ⟨⟨Tryd.f51, ⟨mf, false⟩, Tryd.func51, K_internal_strconv_isPowerOfTwo⟩, ?_⟩
  refine List.forall_mem_cons.2 ⟨⟨Tryd.f42, ⟨mf, false⟩, Tryd.func42, K_math_bits_TrailingZeros32⟩, ?_⟩
  refine List.forall_mem_cons.2 ⟨⟨Tryd.f43, ⟨mf, false⟩, Tryd.func43, K_math_bits_TrailingZeros64⟩, ?_⟩
  refine List.forall_mem_cons.2 ⟨⟨Tryd.f36, ⟨mf, false⟩, Tryd.func36, K_math_bits_TrailingZeros⟩, ?_⟩
  refine List.forall_mem_cons.2 ⟨⟨Tryd.f47, ⟨mf, false⟩, Tryd.func47, K_internal_strconv_formatBits⟩, ?_⟩
  refine List.forall_mem_cons.2 ⟨⟨Tryd.f41, ⟨mf, false⟩, Tryd.func41, K_internal_strconv_FormatInt⟩, ?_⟩
  refine List.forall_mem_cons.2 ⟨⟨Tryd.f35, ⟨mf, false⟩, Tryd.func35, K_internal_strconv_Itoa⟩, ?_⟩
  refine List.forall_mem_cons.2 ⟨⟨Tryd.f29, ⟨mf, false⟩, Tryd.func29, K_strconv_Itoa⟩, ?_⟩
  refine List.forall_mem_cons.2 ⟨⟨Tryd.f18, ⟨mf, false⟩, Tryd.func18, K_impl_treeText⟩, ?_⟩
  refine List.forall_mem_cons.2 ⟨⟨Tryd.f8, ⟨mf, false⟩, Tryd.func8, K_impl_TreeText⟩, ?_⟩
  refine List.forall_mem_cons.2 ⟨⟨Tryd.f20, ⟨mf, false⟩, Tryd.func20, K_laws_eqBranch⟩, ?_⟩
  refine List.forall_mem_cons.2 ⟨⟨Tryd.f9, ⟨mf, false⟩, Tryd.func9, K_laws_eqBranchS⟩, ?_⟩
  refine List.forall_mem_cons.2 ⟨⟨Tryd.f3, ⟨mf, false⟩, Tryd.func3, K_laws_FnExactTreeText⟩, ?_⟩
  exact fun _ h => (by cases h)
theorem hF (f : FuncId) (i : IFun) (h : F f = some i) : ∃ (fn : Func) (m : Md), Tryd.prog.funcs[f]? = some fn ∧ compile Tryd.prog m fn = some i := by
  unfold F at h
  simp only [Option.map_eq_some_iff] at h
  obtain ⟨p, hp, rfl⟩ := h
  have h1 := List.mem_of_find?_eq_some hp
  have h2 := List.find?_some hp
  have h3 : p.1 = f := by simpa using h2
  subst h3
  exact tblOk p h1
theorem hE (f : FuncId) (e : List PV → Option PV) (h : ext f = some e) : ExtOk Tryd.prog f e := by
  simp [ext, exts] at h
end Go.Proofs.YtoimodnlefadhaaDoor.Pi
