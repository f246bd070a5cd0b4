/- The forms are those of the program. No condition. -/
import Derived.Test.YtkkifebmicbbaaaChecked
import Derived.Test.YtkkifebmicbbaaaIrFnLeastMarks
import Derived.Test.YtkkifebmicbbaaaPiTop
import Derived.Test.YtkkifebmicbbaaaPiDz
import Derived.KernelRfl
namespace Go.Proofs.Ytkkifebmicbbaaa.Pi
open Go
set_option linter.all false
def mf (f : FuncId) : Bool := [184, 105, 104, 107, 106, 227, 241, 228, 243, 229, 246, 245, 244, 230, 231, 232, 233, 234, 196, 126, 188, 191].contains f
theorem w22 : zal Try.prog ⟨mf, false, false⟩ Try.f34 = some w5z := by kernel_rfl
theorem w34 : zal Try.prog ⟨mf, false, false⟩ Try.f184 = some w71 := by kernel_rfl
theorem w36 : zal Try.prog ⟨mf, false, false⟩ Try.f105 = some w73 := by kernel_rfl
theorem w32 : zal Try.prog ⟨mf, false, false⟩ Try.f104 = some w6z := by kernel_rfl
theorem w35 : zal Try.prog ⟨mf, false, false⟩ Try.f107 = some w72 := by kernel_rfl
theorem w33 : zal Try.prog ⟨mf, false, false⟩ Try.f106 = some w70 := by kernel_rfl
theorem w2w : zal Try.prog ⟨mf, false, false⟩ Try.f45 = some w6t := by kernel_rfl
theorem w20 : zal Try.prog ⟨mf, false, false⟩ Try.f108 = some w5x := by kernel_rfl
theorem w1v : zal Try.prog ⟨mf, false, false⟩ Try.f163 = some w5s := by kernel_rfl
theorem w1t : zal Try.prog ⟨mf, false, false⟩ Try.f87 = some w5q := by kernel_rfl
theorem w1x : zal Try.prog ⟨mf, false, false⟩ Try.f186 = some w5u := by kernel_rfl
theorem w2c : zal Try.prog ⟨mf, false, false⟩ Try.f164 = some w69 := by kernel_rfl
theorem w2a : zal Try.prog ⟨mf, false, false⟩ Try.f185 = some w67 := by kernel_rfl
theorem w1w : zal Try.prog ⟨mf, false, false⟩ Try.f109 = some w5t := by kernel_rfl
theorem w26 : zal Try.prog ⟨mf, false, false⟩ Try.f235 = some w63 := by kernel_rfl
theorem w27 : zal Try.prog ⟨mf, false, false⟩ Try.f236 = some w64 := by kernel_rfl
theorem w25 : zal Try.prog ⟨mf, false, false⟩ Try.f197 = some w62 := by kernel_rfl
theorem w2h : zal Try.prog ⟨mf, false, false⟩ Try.f227 = some w6e := by kernel_rfl
theorem w2r : zal Try.prog ⟨mf, false, false⟩ Try.f241 = some w6o := by kernel_rfl
theorem w2g : zal Try.prog ⟨mf, false, false⟩ Try.f228 = some w6d := by kernel_rfl
theorem w2k : zal Try.prog ⟨mf, false, false⟩ Try.f242 = some w6h := by kernel_rfl
theorem w2s : zal Try.prog ⟨mf, false, false⟩ Try.f243 = some w6p := by kernel_rfl
theorem w2e : zal Try.prog ⟨mf, false, false⟩ Try.f229 = some w6b := by kernel_rfl
theorem w2l : zal Try.prog ⟨mf, false, false⟩ Try.f246 = some w6i := by kernel_rfl
theorem w2j : zal Try.prog ⟨mf, false, false⟩ Try.f245 = some w6g := by kernel_rfl
theorem w2i : zal Try.prog ⟨mf, false, false⟩ Try.f244 = some w6f := by kernel_rfl
theorem w2f : zal Try.prog ⟨mf, false, false⟩ Try.f230 = some w6c := by kernel_rfl
theorem w2q : zal Try.prog ⟨mf, false, false⟩ Try.f231 = some w6n := by kernel_rfl
theorem w2m : zal Try.prog ⟨mf, false, false⟩ Try.f232 = some w6j := by kernel_rfl
theorem w2o : zal Try.prog ⟨mf, false, false⟩ Try.f233 = some w6l := by kernel_rfl
theorem w2n : zal Try.prog ⟨mf, false, false⟩ Try.f234 = some w6k := by kernel_rfl
theorem w2p : zal Try.prog ⟨mf, false, false⟩ Try.f196 = some w6m := by kernel_rfl
theorem w2d : zal Try.prog ⟨mf, false, false⟩ Try.f126 = some w6a := by kernel_rfl
theorem w1q : zal Try.prog ⟨mf, false, false⟩ Try.f224 = some w5n := by kernel_rfl
theorem w1p : zal Try.prog ⟨mf, false, false⟩ Try.f190 = some w5m := by kernel_rfl
theorem w29 : zal Try.prog ⟨mf, false, false⟩ Try.f114 = some w66 := by kernel_rfl
theorem w28 : zal Try.prog ⟨mf, false, false⟩ Try.f188 = some w65 := by kernel_rfl
theorem w2b : zal Try.prog ⟨mf, false, false⟩ Try.f160 = some w68 := by kernel_rfl
theorem w1y : zal Try.prog ⟨mf, false, false⟩ Try.f113 = some w5v := by kernel_rfl
theorem w1z : zal Try.prog ⟨mf, false, false⟩ Try.f110 = some w5w := by kernel_rfl
theorem w1u : zal Try.prog ⟨mf, false, false⟩ Try.f46 = some w5r := by kernel_rfl
theorem w38 : zal Try.prog ⟨mf, false, false⟩ Try.f71 = some w75 := by kernel_rfl
theorem w3c : zal Try.prog ⟨mf, false, false⟩ Try.f111 = some w79 := by kernel_rfl
theorem w2z : zal Try.prog ⟨mf, false, false⟩ Try.f168 = some w6w := by kernel_rfl
theorem w2x : zal Try.prog ⟨mf, false, false⟩ Try.f92 = some w6u := by kernel_rfl
theorem w31 : zal Try.prog ⟨mf, false, false⟩ Try.f189 = some w6y := by kernel_rfl
theorem w3d : zal Try.prog ⟨mf, false, false⟩ Try.f169 = some w7a := by kernel_rfl
theorem w3b : zal Try.prog ⟨mf, false, false⟩ Try.f122 = some w78 := by kernel_rfl
theorem w30 : zal Try.prog ⟨mf, false, false⟩ Try.f117 = some w6x := by kernel_rfl
theorem w39 : zal Try.prog ⟨mf, false, false⟩ Try.f121 = some w76 := by kernel_rfl
theorem w3a : zal Try.prog ⟨mf, false, false⟩ Try.f112 = some w77 := by kernel_rfl
theorem w2y : zal Try.prog ⟨mf, false, false⟩ Try.f47 = some w6v := by kernel_rfl
theorem w23 : zal Try.prog ⟨mf, false, false⟩ Try.f43 = some w60 := by kernel_rfl
theorem w24 : zal Try.prog ⟨mf, false, false⟩ Try.f48 = some w61 := by kernel_rfl
theorem w1s : zal Try.prog ⟨mf, false, false⟩ Try.f49 = some w5p := by kernel_rfl
theorem w1r : zal Try.prog ⟨mf, false, false⟩ Try.f50 = some w5o := by kernel_rfl
theorem w37 : zal Try.prog ⟨mf, false, false⟩ Try.f191 = some w74 := by kernel_rfl
theorem w2u : zal Try.prog ⟨mf, false, false⟩ Try.f115 = some w6r := by kernel_rfl
theorem w2v : zal Try.prog ⟨mf, false, false⟩ Try.f51 = some w6s := by kernel_rfl
theorem w3e : zal Try.prog ⟨mf, false, false⟩ Try.f116 = some w7b := by kernel_rfl
theorem w2t : zal Try.prog ⟨mf, false, false⟩ Try.f52 = some w6q := by kernel_rfl
theorem w21 : zal Try.prog ⟨mf, false, false⟩ Try.f9 = some w5y := by kernel_rfl
theorem tblOk : ∀ p ∈ tbl, ∃ (fn : Func) (m : Md), Try.prog.funcs[p.1]? = some fn ∧ zal Try.prog m fn = some p.2 := by
  unfold tbl
  refine List.forall_mem_cons.2 ⟨⟨Try.f34, ⟨mf, false, false⟩, Try.func34, w22⟩, ?_⟩
  refine List.forall_mem_cons.2 ⟨⟨Try.f184, ⟨mf, false, false⟩, Try.func184, w34⟩, ?_⟩
  refine List.forall_mem_cons.2 ⟨⟨Try.f105, ⟨mf, false, false⟩, Try.func105, w36⟩, ?_⟩
  refine List.forall_mem_cons.2 ⟨⟨Try.f104, ⟨mf, false, false⟩, Try.func104, w32⟩, ?_⟩
  refine List.forall_mem_cons.2 ⟨⟨Try.f107, ⟨mf, false, false⟩, Try.func107, w35⟩, ?_⟩
  refine List.forall_mem_cons.2 ⟨⟨Try.f106, ⟨mf, false, false⟩, Try.func106, w33⟩, ?_⟩
  refine List.forall_mem_cons.2 ⟨⟨Try.f45, ⟨mf, false, false⟩, Try.func45, w2w⟩, ?_⟩
  refine List.forall_mem_cons.2 ⟨⟨Try.f108, ⟨mf, false, false⟩, Try.func108, w20⟩, ?_⟩
  refine List.forall_mem_cons.2 ⟨⟨Try.f163, ⟨mf, false, false⟩, Try.func163, w1v⟩, ?_⟩
  refine List.forall_mem_cons.2 ⟨⟨Try.f87, ⟨mf, false, false⟩, Try.func87, w1t⟩, ?_⟩
  refine List.forall_mem_cons.2 ⟨⟨Try.f186, ⟨mf, false, false⟩, Try.func186, w1x⟩, ?_⟩
  refine List.forall_mem_cons.2 ⟨⟨Try.f164, ⟨mf, false, false⟩, Try.func164, w2c⟩, ?_⟩
  refine List.forall_mem_cons.2 ⟨⟨Try.f185, ⟨mf, false, false⟩, Try.func185, w2a⟩, ?_⟩
  refine List.forall_mem_cons.2 ⟨⟨Try.f109, ⟨mf, false, false⟩, Try.func109, w1w⟩, ?_⟩
  refine List.forall_mem_cons.2 ⟨⟨Try.f235, ⟨mf, false, false⟩, Try.func235, w26⟩, ?_⟩
  refine List.forall_mem_cons.2 ⟨⟨Try.f236, ⟨mf, false, false⟩, Try.func236, w27⟩, ?_⟩
  refine List.forall_mem_cons.2 ⟨⟨Try.f197, ⟨mf, false, false⟩, Try.func197, w25⟩, ?_⟩
  refine List.forall_mem_cons.2 ⟨⟨Try.f227, ⟨mf, false, false⟩, Try.func227, w2h⟩, ?_⟩
  refine List.forall_mem_cons.2 ⟨⟨Try.f241, ⟨mf, false, false⟩, Try.func241, w2r⟩, ?_⟩
  refine List.forall_mem_cons.2 ⟨⟨Try.f228, ⟨mf, false, false⟩, Try.func228, w2g⟩, ?_⟩
  refine List.forall_mem_cons.2 ⟨⟨Try.f242, ⟨mf, false, false⟩, Try.func242, w2k⟩, ?_⟩
  refine List.forall_mem_cons.2 ⟨⟨Try.f243, ⟨mf, false, false⟩, Try.func243, w2s⟩, ?_⟩
  refine List.forall_mem_cons.2 ⟨⟨Try.f229, ⟨mf, false, false⟩, Try.func229, w2e⟩, ?_⟩
  refine List.forall_mem_cons.2 ⟨⟨Try.f246, ⟨mf, false, false⟩, Try.func246, w2l⟩, ?_⟩
  refine List.forall_mem_cons.2 ⟨⟨Try.f245, ⟨mf, false, false⟩, Try.func245, w2j⟩, ?_⟩
  refine List.forall_mem_cons.2 ⟨⟨Try.f244, ⟨mf, false, false⟩, Try.func244, w2i⟩, ?_⟩
  refine List.forall_mem_cons.2 ⟨⟨Try.f230, ⟨mf, false, false⟩, Try.func230, w2f⟩, ?_⟩
  refine List.forall_mem_cons.2 ⟨⟨Try.f231, ⟨mf, false, false⟩, Try.func231, w2q⟩, ?_⟩
  refine List.forall_mem_cons.2 ⟨⟨Try.f232, ⟨mf, false, false⟩, Try.func232, w2m⟩, ?_⟩
  refine List.forall_mem_cons.2 ⟨⟨Try.f233, ⟨mf, false, false⟩, Try.func233, w2o⟩, ?_⟩
  refine List.forall_mem_cons.2 ⟨⟨Try.f234, ⟨mf, false, false⟩, Try.func234, w2n⟩, ?_⟩
  refine List.forall_mem_cons.2 ⟨⟨Try.f196, ⟨mf, false, false⟩, Try.func196, w2p⟩, ?_⟩
  refine List.forall_mem_cons.2 ⟨⟨Try.f126, ⟨mf, false, false⟩, Try.func126, w2d⟩, ?_⟩
  refine List.forall_mem_cons.2 ⟨⟨Try.f224, ⟨mf, false, false⟩, Try.func224, w1q⟩, ?_⟩
  refine List.forall_mem_cons.2 ⟨⟨Try.f190, ⟨mf, false, false⟩, Try.func190, w1p⟩, ?_⟩
  refine List.forall_mem_cons.2 ⟨⟨Try.f114, ⟨mf, false, false⟩, Try.func114, w29⟩, ?_⟩
  refine List.forall_mem_cons.2 ⟨⟨Try.f188, ⟨mf, false, false⟩, Try.func188, w28⟩, ?_⟩
  refine List.forall_mem_cons.2 ⟨⟨Try.f160, ⟨mf, false, false⟩, Try.func160, w2b⟩, ?_⟩
  refine List.forall_mem_cons.2 ⟨⟨Try.f113, ⟨mf, false, false⟩, Try.func113, w1y⟩, ?_⟩
  refine List.forall_mem_cons.2 ⟨⟨Try.f110, ⟨mf, false, false⟩, Try.func110, w1z⟩, ?_⟩
  refine List.forall_mem_cons.2 ⟨⟨Try.f46, ⟨mf, false, false⟩, Try.func46, w1u⟩, ?_⟩
  refine List.forall_mem_cons.2 ⟨⟨Try.f71, ⟨mf, false, false⟩, Try.func71, w38⟩, ?_⟩
  refine List.forall_mem_cons.2 ⟨⟨Try.f111, ⟨mf, false, false⟩, Try.func111, w3c⟩, ?_⟩
  refine List.forall_mem_cons.2 ⟨⟨Try.f168, ⟨mf, false, false⟩, Try.func168, w2z⟩, ?_⟩
  refine List.forall_mem_cons.2 ⟨⟨Try.f92, ⟨mf, false, false⟩, Try.func92, w2x⟩, ?_⟩
  refine List.forall_mem_cons.2 ⟨⟨Try.f189, ⟨mf, false, false⟩, Try.func189, w31⟩, ?_⟩
  refine List.forall_mem_cons.2 ⟨⟨Try.f169, ⟨mf, false, false⟩, Try.func169, w3d⟩, ?_⟩
  refine List.forall_mem_cons.2 ⟨⟨Try.f122, ⟨mf, false, false⟩, Try.func122, w3b⟩, ?_⟩
  refine List.forall_mem_cons.2 ⟨⟨Try.f117, ⟨mf, false, false⟩, Try.func117, w30⟩, ?_⟩
  refine List.forall_mem_cons.2 ⟨⟨Try.f121, ⟨mf, false, false⟩, Try.func121, w39⟩, ?_⟩
  refine List.forall_mem_cons.2 ⟨⟨Try.f112, ⟨mf, false, false⟩, Try.func112, w3a⟩, ?_⟩
  refine List.forall_mem_cons.2 ⟨⟨Try.f47, ⟨mf, false, false⟩, Try.func47, w2y⟩, ?_⟩
  refine List.forall_mem_cons.2 ⟨⟨Try.f43, ⟨mf, false, false⟩, Try.func43, w23⟩, ?_⟩
  refine List.forall_mem_cons.2 ⟨⟨Try.f48, ⟨mf, false, false⟩, Try.func48, w24⟩, ?_⟩
  refine List.forall_mem_cons.2 ⟨⟨Try.f49, ⟨mf, false, false⟩, Try.func49, w1s⟩, ?_⟩
  refine List.forall_mem_cons.2 ⟨⟨Try.f50, ⟨mf, false, false⟩, Try.func50, w1r⟩, ?_⟩
  refine List.forall_mem_cons.2 ⟨⟨Try.f191, ⟨mf, false, false⟩, Try.func191, w37⟩, ?_⟩
  refine List.forall_mem_cons.2 ⟨⟨Try.f115, ⟨mf, false, false⟩, Try.func115, w2u⟩, ?_⟩
  refine List.forall_mem_cons.2 ⟨⟨Try.f51, ⟨mf, false, false⟩, Try.func51, w2v⟩, ?_⟩
  refine List.forall_mem_cons.2 ⟨⟨Try.f116, ⟨mf, false, false⟩, Try.func116, w3e⟩, ?_⟩
  refine List.forall_mem_cons.2 ⟨⟨Try.f52, ⟨mf, false, false⟩, Try.func52, w2t⟩, ?_⟩
  refine List.forall_mem_cons.2 ⟨⟨Try.f9, ⟨mf, false, false⟩, Try.func9, w21⟩, ?_⟩
  exact fun _ h => (by cases h)
theorem hF (f : FuncId) (i : IFun) (h : F f = some i) : ∃ (fn : Func) (m : Md), Try.prog.funcs[f]? = some fn ∧ zal Try.prog m fn = some i := by
  unfold F at h
  simp only [Option.map_eq_some_iff] at h
  obtain ⟨p, hp, rfl⟩ := h
  have h1 := List.mem_of_find?_eq_some hp
  have h2 := List.find?_some hp
  have h3 : p.1 = f := by simpa using h2
  subst h3
  exact tblOk p h1
theorem w3j : ∀ p ∈ exts, ExtOk Try.prog p.1 p.2 := by
  unfold exts
  refine List.forall_mem_cons.2 ⟨zdu (mf := ⟨mf, false, false⟩) (Checked.mixed Try.checked) Try.func187 (show zal Try.prog ⟨mf, false, false⟩ Try.f187 = some (zkx w8t false 1) by kernel_rfl), ?_⟩
  refine List.forall_mem_cons.2 ⟨zdu (mf := ⟨mf, false, false⟩) (Checked.mixed Try.checked) Try.func102 (show zal Try.prog ⟨mf, false, false⟩ Try.f102 = some (zkx t_int true 1) by kernel_rfl), ?_⟩
  exact fun _ h => (by cases h)
theorem hE (f : FuncId) (e : List PV → Option PV) (h : ext f = some e) : ExtOk Try.prog f e := by
  unfold ext at h
  simp only [Option.map_eq_some_iff] at h
  obtain ⟨p, hp, rfl⟩ := h
  have h1 := List.mem_of_find?_eq_some hp
  have h2 := List.find?_some hp
  have h3 : p.1 = f := by simpa using h2
  subst h3
  exact w3j p h1
end Go.Proofs.Ytkkifebmicbbaaa.Pi
