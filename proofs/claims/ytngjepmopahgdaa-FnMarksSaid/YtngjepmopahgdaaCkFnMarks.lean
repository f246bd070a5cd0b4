/- The forms are those of the program. No condition. -/
import Derived.Test.YtngjepmopahgdaaChecked
import Derived.Test.YtngjepmopahgdaaIrFnMarks
import Derived.Test.YtngjepmopahgdaaPiTop
import Derived.Test.YtngjepmopahgdaaPiDz
import Derived.KernelRfl
namespace Go.Proofs.Ytngjepmopahgdaa.Pi
open Go
set_option linter.all false
def mf (f : FuncId) : Bool := [233, 137, 206, 117, 136, 118].contains f
theorem K_laws_big : compile Try.prog mf Try.f15 = some ir_laws_big := by kernel_rfl
theorem K_spec_l1Cur_next : compile Try.prog mf Try.f233 = some ir_spec_l1Cur_next := by kernel_rfl
theorem K_spec_l1Cur_pick : compile Try.prog mf Try.f137 = some ir_spec_l1Cur_pick := by kernel_rfl
theorem K_spec_l1Cur_among : compile Try.prog mf Try.f206 = some ir_spec_l1Cur_among := by kernel_rfl
theorem K_spec_l1Cur_places : compile Try.prog mf Try.f117 = some ir_spec_l1Cur_places := by kernel_rfl
theorem K_spec_l1Cur_one : compile Try.prog mf Try.f136 = some ir_spec_l1Cur_one := by kernel_rfl
theorem K_spec_l1Cur_mark : compile Try.prog mf Try.f118 = some ir_spec_l1Cur_mark := by kernel_rfl
theorem K_spec_DrawAddMarks : compile Try.prog mf Try.f16 = some ir_spec_DrawAddMarks := by kernel_rfl
theorem K_impl_within : compile Try.prog mf Try.f127 = some ir_impl_within := by kernel_rfl
theorem K_impl_allWithin : compile Try.prog mf Try.f128 = some ir_impl_allWithin := by kernel_rfl
theorem K_impl_GoodMark : compile Try.prog mf Try.f24 = some ir_impl_GoodMark := by kernel_rfl
theorem K_impl_areMarks_1 : compile Try.prog mf Try.f231 = some ir_impl_areMarks_1 := by kernel_rfl
theorem K_slices_IndexFunc_sl_sl_int_sl_int : compile Try.prog mf Try.f256 = some ir_slices_IndexFunc_sl_sl_int_sl_int := by kernel_rfl
theorem K_slices_ContainsFunc_sl_sl_int_sl_int : compile Try.prog mf Try.f230 = some ir_slices_ContainsFunc_sl_sl_int_sl_int := by kernel_rfl
theorem K_impl_areMarks : compile Try.prog mf Try.f119 = some ir_impl_areMarks := by kernel_rfl
theorem K_impl_combined : compile Try.prog mf Try.f121 = some ir_impl_combined := by kernel_rfl
theorem K_impl_AddMarks_1 : compile Try.prog mf Try.f122 = some ir_impl_AddMarks_1 := by kernel_rfl
theorem K_impl_checkedMark : compile Try.prog mf Try.f120 = some ir_impl_checkedMark := by kernel_rfl
theorem K_impl_AddMarks : compile Try.prog mf Try.f17 = some ir_impl_AddMarks := by kernel_rfl
theorem K_spec_l1In : compile Try.prog mf Try.f143 = some ir_spec_l1In := by kernel_rfl
theorem K_spec_l1Places : compile Try.prog mf Try.f129 = some ir_spec_l1Places := by kernel_rfl
theorem K_spec_l1All : compile Try.prog mf Try.f130 = some ir_spec_l1All := by kernel_rfl
theorem K_spec_GoodMark : compile Try.prog mf Try.f25 = some ir_spec_GoodMark := by kernel_rfl
theorem K_spec_l1Two : compile Try.prog mf Try.f123 = some ir_spec_l1Two := by kernel_rfl
theorem K_spec_AddMarks : compile Try.prog mf Try.f18 = some ir_spec_AddMarks := by kernel_rfl
theorem K_impl_covers : compile Try.prog mf Try.f124 = some ir_impl_covers := by kernel_rfl
theorem K_impl_Covers : compile Try.prog mf Try.f19 = some ir_impl_Covers := by kernel_rfl
theorem K_spec_l1Covers : compile Try.prog mf Try.f125 = some ir_spec_l1Covers := by kernel_rfl
theorem K_spec_Covers : compile Try.prog mf Try.f20 = some ir_spec_Covers := by kernel_rfl
theorem K_impl_TakeMarks_1 : compile Try.prog mf Try.f126 = some ir_impl_TakeMarks_1 := by kernel_rfl
theorem K_impl_TakeMarks : compile Try.prog mf Try.f21 = some ir_impl_TakeMarks := by kernel_rfl
theorem K_spec_TakeMarks : compile Try.prog mf Try.f22 = some ir_spec_TakeMarks := by kernel_rfl
theorem K_laws_sameInts : compile Try.prog mf Try.f23 = some ir_laws_sameInts := by kernel_rfl
theorem K_impl_sumOf : compile Try.prog mf Try.f131 = some ir_impl_sumOf := by kernel_rfl
theorem K_impl_TotalOf : compile Try.prog mf Try.f26 = some ir_impl_TotalOf := by kernel_rfl
theorem K_spec_DrawGoodMark : compile Try.prog mf Try.f132 = some ir_spec_DrawGoodMark := by kernel_rfl
theorem K_spec_DrawTotalOf : compile Try.prog mf Try.f27 = some ir_spec_DrawTotalOf := by kernel_rfl
theorem K_spec_l1Total : compile Try.prog mf Try.f133 = some ir_spec_l1Total := by kernel_rfl
theorem K_spec_TotalOf : compile Try.prog mf Try.f28 = some ir_spec_TotalOf := by kernel_rfl
theorem K_laws_FnMarks : compile Try.prog mf Try.f3 = some ir_laws_FnMarks := by kernel_rfl
theorem tblOk : ∀ p ∈ tbl, ∃ fn, Try.prog.funcs[p.1]? = some fn ∧ compile Try.prog mf fn = some p.2 := by
  unfold tbl
  refine List.forall_mem_cons.2 ⟨⟨Try.f15, Try.func15, K_laws_big⟩, ?_⟩
  refine List.forall_mem_cons.2 ⟨⟨Try.f233, Try.func233, K_spec_l1Cur_next⟩, ?_⟩
  refine List.forall_mem_cons.2 ⟨⟨Try.f137, Try.func137, K_spec_l1Cur_pick⟩, ?_⟩
  refine List.forall_mem_cons.2 ⟨⟨Try.f206, Try.func206, K_spec_l1Cur_among⟩, ?_⟩
  refine List.forall_mem_cons.2 ⟨⟨Try.f117, Try.func117, K_spec_l1Cur_places⟩, ?_⟩
  refine List.forall_mem_cons.2 ⟨⟨Try.f136, Try.func136, K_spec_l1Cur_one⟩, ?_⟩
  refine List.forall_mem_cons.2 ⟨⟨Try.f118, Try.func118, K_spec_l1Cur_mark⟩, ?_⟩
  refine List.forall_mem_cons.2 ⟨⟨Try.f16, Try.func16, K_spec_DrawAddMarks⟩, ?_⟩
  refine List.forall_mem_cons.2 ⟨⟨Try.f127, Try.func127, K_impl_within⟩, ?_⟩
  refine List.forall_mem_cons.2 ⟨⟨Try.f128, Try.func128, K_impl_allWithin⟩, ?_⟩
  refine List.forall_mem_cons.2 ⟨⟨Try.f24, Try.func24, K_impl_GoodMark⟩, ?_⟩
  refine List.forall_mem_cons.2 ⟨⟨Try.f231, Try.func231, K_impl_areMarks_1⟩, ?_⟩
  refine List.forall_mem_cons.2 ⟨⟨Try.f256, Try.func256, K_slices_IndexFunc_sl_sl_int_sl_int⟩, ?_⟩
  refine List.forall_mem_cons.2 ⟨⟨Try.f230, Try.func230, K_slices_ContainsFunc_sl_sl_int_sl_int⟩, ?_⟩
  refine List.forall_mem_cons.2 ⟨⟨Try.f119, Try.func119, K_impl_areMarks⟩, ?_⟩
  refine List.forall_mem_cons.2 ⟨⟨Try.f121, Try.func121, K_impl_combined⟩, ?_⟩
  refine List.forall_mem_cons.2 ⟨⟨Try.f122, Try.func122, K_impl_AddMarks_1⟩, ?_⟩
  refine List.forall_mem_cons.2 ⟨⟨Try.f120, Try.func120, K_impl_checkedMark⟩, ?_⟩
  refine List.forall_mem_cons.2 ⟨⟨Try.f17, Try.func17, K_impl_AddMarks⟩, ?_⟩
  refine List.forall_mem_cons.2 ⟨⟨Try.f143, Try.func143, K_spec_l1In⟩, ?_⟩
  refine List.forall_mem_cons.2 ⟨⟨Try.f129, Try.func129, K_spec_l1Places⟩, ?_⟩
  refine List.forall_mem_cons.2 ⟨⟨Try.f130, Try.func130, K_spec_l1All⟩, ?_⟩
  refine List.forall_mem_cons.2 ⟨⟨Try.f25, Try.func25, K_spec_GoodMark⟩, ?_⟩
  refine List.forall_mem_cons.2 ⟨⟨Try.f123, Try.func123, K_spec_l1Two⟩, ?_⟩
  refine List.forall_mem_cons.2 ⟨⟨Try.f18, Try.func18, K_spec_AddMarks⟩, ?_⟩
  refine List.forall_mem_cons.2 ⟨⟨Try.f124, Try.func124, K_impl_covers⟩, ?_⟩
  refine List.forall_mem_cons.2 ⟨⟨Try.f19, Try.func19, K_impl_Covers⟩, ?_⟩
  refine List.forall_mem_cons.2 ⟨⟨Try.f125, Try.func125, K_spec_l1Covers⟩, ?_⟩
  refine List.forall_mem_cons.2 ⟨⟨Try.f20, Try.func20, K_spec_Covers⟩, ?_⟩
  refine List.forall_mem_cons.2 ⟨⟨Try.f126, Try.func126, K_impl_TakeMarks_1⟩, ?_⟩
  refine List.forall_mem_cons.2 ⟨⟨Try.f21, Try.func21, K_impl_TakeMarks⟩, ?_⟩
  refine List.forall_mem_cons.2 ⟨⟨Try.f22, Try.func22, K_spec_TakeMarks⟩, ?_⟩
  refine List.forall_mem_cons.2 ⟨⟨Try.f23, Try.func23, K_laws_sameInts⟩, ?_⟩
  refine List.forall_mem_cons.2 ⟨⟨Try.f131, Try.func131, K_impl_sumOf⟩, ?_⟩
  refine List.forall_mem_cons.2 ⟨⟨Try.f26, Try.func26, K_impl_TotalOf⟩, ?_⟩
  refine List.forall_mem_cons.2 ⟨⟨Try.f132, Try.func132, K_spec_DrawGoodMark⟩, ?_⟩
  refine List.forall_mem_cons.2 ⟨⟨Try.f27, Try.func27, K_spec_DrawTotalOf⟩, ?_⟩
  refine List.forall_mem_cons.2 ⟨⟨Try.f133, Try.func133, K_spec_l1Total⟩, ?_⟩
  refine List.forall_mem_cons.2 ⟨⟨Try.f28, Try.func28, K_spec_TotalOf⟩, ?_⟩
  refine List.forall_mem_cons.2 ⟨⟨Try.f3, Try.func3, K_laws_FnMarks⟩, ?_⟩
  exact fun _ h => (by cases h)
theorem hF (f : FuncId) (i : IFun) (h : F f = some i) : ∃ fn, Try.prog.funcs[f]? = some fn ∧ compile Try.prog mf fn = some i := by
  unfold F at h
  simp only [Option.map_eq_some_iff] at h
  obtain ⟨p, hp, rfl⟩ := h
  have h1 := List.mem_of_find?_eq_some hp
  have h2 := List.find?_some hp
  have h3 : p.1 = f := by simpa using h2
  subst h3
  exact tblOk p h1
theorem hE (f : FuncId) (e : List PV → Option PV) (h : ext f = some e) : ExtOk Try.prog f e := by
  simp [ext, exts] at h
end Go.Proofs.Ytngjepmopahgdaa.Pi
