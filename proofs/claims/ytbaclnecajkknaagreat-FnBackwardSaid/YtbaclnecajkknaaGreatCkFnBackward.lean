/- The forms are those of the program. No condition. -/
import Derived.Test.YtbaclnecajkknaaGreatChecked
import Derived.Test.YtbaclnecajkknaaGreatIrFnBackward
import Derived.Test.YtbaclnecajkknaaGreatPiTop
import Derived.Test.YtbaclnecajkknaaGreatPiDz
import Derived.KernelRfl
namespace Go.Proofs.YtbaclnecajkknaaGreat.Pi
open Go
set_option linter.all false
def mf (f : FuncId) : Bool := [174, 91, 108, 113, 122, 123, 124, 54, 175, 161, 94, 75, 95, 224, 258, 225, 260, 226, 268, 262, 261, 227, 228, 229, 230, 231, 163, 78, 185].contains f
theorem w40 : zb8 Tryz.prog ⟨mf, false, false⟩ Tryz.f7 = some wbo := by kernel_rfl
theorem w5j : zb8 Tryz.prog ⟨mf, false, false⟩ Tryz.f174 = some wd7 := by kernel_rfl
theorem w5l : zb8 Tryz.prog ⟨mf, false, false⟩ Tryz.f91 = some wd9 := by kernel_rfl
theorem w5k : zb8 Tryz.prog ⟨mf, false, false⟩ Tryz.f108 = some wd8 := by kernel_rfl
theorem w5v : zb8 Tryz.prog ⟨mf, false, false⟩ Tryz.f113 = some wdj := by kernel_rfl
theorem w5f : zb8 Tryz.prog ⟨mf, false, false⟩ Tryz.f122 = some wd3 := by kernel_rfl
theorem w5m : zb8 Tryz.prog ⟨mf, false, false⟩ Tryz.f123 = some wda := by kernel_rfl
theorem w5c : zb8 Tryz.prog ⟨mf, false, false⟩ Tryz.f124 = some wd0 := by kernel_rfl
theorem w5e : zb8 Tryz.prog ⟨mf, false, false⟩ Tryz.f54 = some wd2 := by kernel_rfl
theorem w5p : zb8 Tryz.prog ⟨mf, false, false⟩ Tryz.f136 = some wdd := by kernel_rfl
theorem w5u : zb8 Tryz.prog ⟨mf, false, false⟩ Tryz.f170 = some wdi := by kernel_rfl
theorem w5w : zb8 Tryz.prog ⟨mf, false, false⟩ Tryz.f171 = some wdk := by kernel_rfl
theorem w56 : zb8 Tryz.prog ⟨mf, false, false⟩ Tryz.f84 = some wcu := by kernel_rfl
theorem w64 : zb8 Tryz.prog ⟨mf, false, false⟩ Tryz.f243 = some wds := by kernel_rfl
theorem w62 : zb8 Tryz.prog ⟨mf, false, false⟩ Tryz.f244 = some wdq := by kernel_rfl
theorem w63 : zb8 Tryz.prog ⟨mf, false, false⟩ Tryz.f245 = some wdr := by kernel_rfl
theorem w57 : zb8 Tryz.prog ⟨mf, false, false⟩ Tryz.f213 = some wcv := by kernel_rfl
theorem w5o : zb8 Tryz.prog ⟨mf, false, false⟩ Tryz.f112 = some wdc := by kernel_rfl
theorem w54 : zb8 Tryz.prog ⟨mf, false, false⟩ Tryz.f135 = some wcs := by kernel_rfl
theorem w65 : zb8 Tryz.prog ⟨mf, false, false⟩ Tryz.f137 = some wdt := by kernel_rfl
theorem w58 : zb8 Tryz.prog ⟨mf, false, false⟩ Tryz.f74 = some wcw := by kernel_rfl
theorem w5i : zb8 Tryz.prog ⟨mf, false, false⟩ Tryz.f175 = some wd6 := by kernel_rfl
theorem w5s : zb8 Tryz.prog ⟨mf, false, false⟩ Tryz.f92 = some wdg := by kernel_rfl
theorem w5g : zb8 Tryz.prog ⟨mf, false, false⟩ Tryz.f161 = some wd4 := by kernel_rfl
theorem w5n : zb8 Tryz.prog ⟨mf, false, false⟩ Tryz.f94 = some wdb := by kernel_rfl
theorem w5t : zb8 Tryz.prog ⟨mf, false, false⟩ Tryz.f66 = some wdh := by kernel_rfl
theorem w59 : zb8 Tryz.prog ⟨mf, false, false⟩ Tryz.f85 = some wcx := by kernel_rfl
theorem w55 : zb8 Tryz.prog ⟨mf, false, false⟩ Tryz.f101 = some wct := by kernel_rfl
theorem w61 : zb8 Tryz.prog ⟨mf, false, false⟩ Tryz.f180 = some wdp := by kernel_rfl
theorem w5y : zb8 Tryz.prog ⟨mf, false, false⟩ Tryz.f214 = some wdm := by kernel_rfl
theorem w5z : zb8 Tryz.prog ⟨mf, false, false⟩ Tryz.f138 = some wdn := by kernel_rfl
theorem w52 : zb8 Tryz.prog ⟨mf, false, false⟩ Tryz.f159 = some wcq := by kernel_rfl
theorem w60 : zb8 Tryz.prog ⟨mf, false, false⟩ Tryz.f139 = some wdo := by kernel_rfl
theorem w53 : zb8 Tryz.prog ⟨mf, false, false⟩ Tryz.f160 = some wcr := by kernel_rfl
theorem w5h : zb8 Tryz.prog ⟨mf, false, false⟩ Tryz.f75 = some wd5 := by kernel_rfl
theorem w5d : zb8 Tryz.prog ⟨mf, false, false⟩ Tryz.f95 = some wd1 := by kernel_rfl
theorem w51 : zb8 Tryz.prog ⟨mf, false, false⟩ Tryz.f31 = some wcp := by kernel_rfl
theorem w3y : zb8 Tryz.prog ⟨mf, false, false⟩ Tryz.f69 = some wbm := by kernel_rfl
theorem w3s : zb8 Tryz.prog ⟨mf, false, false⟩ Tryz.f237 = some wbg := by kernel_rfl
theorem w3j : zb8 Tryz.prog ⟨mf, false, false⟩ Tryz.f83 = some wb7 := by kernel_rfl
theorem w3m : zb8 Tryz.prog ⟨mf, false, false⟩ Tryz.f169 = some wba := by kernel_rfl
theorem w3f : zb8 Tryz.prog ⟨mf, false, false⟩ Tryz.f168 = some wb3 := by kernel_rfl
theorem w4e : zb8 Tryz.prog ⟨mf, false, false⟩ Tryz.f236 = some wc2 := by kernel_rfl
theorem w48 : zb8 Tryz.prog ⟨mf, false, false⟩ Tryz.f167 = some wbw := by kernel_rfl
theorem w3e : zb8 Tryz.prog ⟨mf, false, false⟩ Tryz.f82 = some wb2 := by kernel_rfl
theorem w3d : zb8 Tryz.prog ⟨mf, false, false⟩ Tryz.f97 = some wb1 := by kernel_rfl
theorem w3v : zb8 Tryz.prog ⟨mf, false, false⟩ Tryz.f86 = some wbj := by kernel_rfl
theorem w4h : zb8 Tryz.prog ⟨mf, false, false⟩ Tryz.f162 = some wc5 := by kernel_rfl
theorem w4b : zb8 Tryz.prog ⟨mf, false, false⟩ Tryz.f77 = some wbz := by kernel_rfl
theorem w3x : zb8 Tryz.prog ⟨mf, false, false⟩ Tryz.f177 = some wbl := by kernel_rfl
theorem w44 : zb8 Tryz.prog ⟨mf, false, false⟩ Tryz.f232 = some wbs := by kernel_rfl
theorem w45 : zb8 Tryz.prog ⟨mf, false, false⟩ Tryz.f233 = some wbt := by kernel_rfl
theorem w43 : zb8 Tryz.prog ⟨mf, false, false⟩ Tryz.f164 = some wbr := by kernel_rfl
theorem w4m : zb8 Tryz.prog ⟨mf, false, false⟩ Tryz.f224 = some wca := by kernel_rfl
theorem w4w : zb8 Tryz.prog ⟨mf, false, false⟩ Tryz.f258 = some wck := by kernel_rfl
theorem w4l : zb8 Tryz.prog ⟨mf, false, false⟩ Tryz.f225 = some wc9 := by kernel_rfl
theorem w4p : zb8 Tryz.prog ⟨mf, false, false⟩ Tryz.f259 = some wcd := by kernel_rfl
theorem w4x : zb8 Tryz.prog ⟨mf, false, false⟩ Tryz.f260 = some wcl := by kernel_rfl
theorem w4j : zb8 Tryz.prog ⟨mf, false, false⟩ Tryz.f226 = some wc7 := by kernel_rfl
theorem w4q : zb8 Tryz.prog ⟨mf, false, false⟩ Tryz.f268 = some wce := by kernel_rfl
theorem w4o : zb8 Tryz.prog ⟨mf, false, false⟩ Tryz.f262 = some wcc := by kernel_rfl
theorem w4n : zb8 Tryz.prog ⟨mf, false, false⟩ Tryz.f261 = some wcb := by kernel_rfl
theorem w4k : zb8 Tryz.prog ⟨mf, false, false⟩ Tryz.f227 = some wc8 := by kernel_rfl
theorem w4v : zb8 Tryz.prog ⟨mf, false, false⟩ Tryz.f228 = some wcj := by kernel_rfl
theorem w4r : zb8 Tryz.prog ⟨mf, false, false⟩ Tryz.f229 = some wcf := by kernel_rfl
theorem w4t : zb8 Tryz.prog ⟨mf, false, false⟩ Tryz.f230 = some wch := by kernel_rfl
theorem w4s : zb8 Tryz.prog ⟨mf, false, false⟩ Tryz.f231 = some wcg := by kernel_rfl
theorem w4u : zb8 Tryz.prog ⟨mf, false, false⟩ Tryz.f163 = some wci := by kernel_rfl
theorem w4i : zb8 Tryz.prog ⟨mf, false, false⟩ Tryz.f78 = some wc6 := by kernel_rfl
theorem w36 : zb8 Tryz.prog ⟨mf, false, false⟩ Tryz.f234 = some wat := by kernel_rfl
theorem w35 : zb8 Tryz.prog ⟨mf, false, false⟩ Tryz.f165 = some war := by kernel_rfl
theorem w47 : zb8 Tryz.prog ⟨mf, false, false⟩ Tryz.f79 = some wbv := by kernel_rfl
theorem w46 : zb8 Tryz.prog ⟨mf, false, false⟩ Tryz.f185 = some wbu := by kernel_rfl
theorem w4d : zb8 Tryz.prog ⟨mf, false, false⟩ Tryz.f179 = some wc1 := by kernel_rfl
theorem w3o : zb8 Tryz.prog ⟨mf, false, false⟩ Tryz.f100 = some wbc := by kernel_rfl
theorem w3w : zb8 Tryz.prog ⟨mf, false, false⟩ Tryz.f106 = some wbk := by kernel_rfl
theorem w4c : zb8 Tryz.prog ⟨mf, false, false⟩ Tryz.f178 = some wc0 := by kernel_rfl
theorem w3n : zb8 Tryz.prog ⟨mf, false, false⟩ Tryz.f96 = some wbb := by kernel_rfl
theorem w3b : zb8 Tryz.prog ⟨mf, false, false⟩ Tryz.f99 = some waz := by kernel_rfl
theorem w4g : zb8 Tryz.prog ⟨mf, false, false⟩ Tryz.f130 = some wc4 := by kernel_rfl
theorem w4a : zb8 Tryz.prog ⟨mf, false, false⟩ Tryz.f98 = some wby := by kernel_rfl
theorem w3a : zb8 Tryz.prog ⟨mf, false, false⟩ Tryz.f32 = some wax := by kernel_rfl
theorem w66 : zb8 Tryz.prog ⟨mf, false, false⟩ Tryz.f103 = some wdu := by kernel_rfl
theorem w69 : zb8 Tryz.prog ⟨mf, false, false⟩ Tryz.f181 = some wdx := by kernel_rfl
theorem w5b : zb8 Tryz.prog ⟨mf, false, false⟩ Tryz.f102 = some wcz := by kernel_rfl
theorem w5x : zb8 Tryz.prog ⟨mf, false, false⟩ Tryz.f142 = some wdl := by kernel_rfl
theorem w5a : zb8 Tryz.prog ⟨mf, false, false⟩ Tryz.f147 = some wcy := by kernel_rfl
theorem w5q : zb8 Tryz.prog ⟨mf, false, false⟩ Tryz.f65 = some wde := by kernel_rfl
theorem w5r : zb8 Tryz.prog ⟨mf, false, false⟩ Tryz.f182 = some wdf := by kernel_rfl
theorem w68 : zb8 Tryz.prog ⟨mf, false, false⟩ Tryz.f183 = some wdw := by kernel_rfl
theorem w67 : zb8 Tryz.prog ⟨mf, false, false⟩ Tryz.f104 = some wdv := by kernel_rfl
theorem w4y : zb8 Tryz.prog ⟨mf, false, false⟩ Tryz.f35 = some wcm := by kernel_rfl
theorem w50 : zb8 Tryz.prog ⟨mf, false, false⟩ Tryz.f33 = some wco := by kernel_rfl
theorem w37 : zb8 Tryz.prog ⟨mf, false, false⟩ Tryz.f34 = some wau := by kernel_rfl
theorem w38 : zb8 Tryz.prog ⟨mf, false, false⟩ Tryz.f36 = some wav := by kernel_rfl
theorem w4z : zb8 Tryz.prog ⟨mf, false, false⟩ Tryz.f37 = some wcn := by kernel_rfl
theorem w41 : zb8 Tryz.prog ⟨mf, false, false⟩ Tryz.f30 = some wbp := by kernel_rfl
theorem w42 : zb8 Tryz.prog ⟨mf, false, false⟩ Tryz.f22 = some wbq := by kernel_rfl
theorem w3l : zb8 Tryz.prog ⟨mf, false, false⟩ Tryz.f184 = some wb9 := by kernel_rfl
theorem w3k : zb8 Tryz.prog ⟨mf, false, false⟩ Tryz.f105 = some wb8 := by kernel_rfl
theorem w3g : zb8 Tryz.prog ⟨mf, false, false⟩ Tryz.f38 = some wb4 := by kernel_rfl
theorem w39 : zb8 Tryz.prog ⟨mf, false, false⟩ Tryz.f39 = some waw := by kernel_rfl
theorem w3u : zb8 Tryz.prog ⟨mf, false, false⟩ Tryz.f173 = some wbi := by kernel_rfl
theorem w4f : zb8 Tryz.prog ⟨mf, false, false⟩ Tryz.f238 = some wc3 := by kernel_rfl
theorem w49 : zb8 Tryz.prog ⟨mf, false, false⟩ Tryz.f172 = some wbx := by kernel_rfl
theorem w3t : zb8 Tryz.prog ⟨mf, false, false⟩ Tryz.f88 = some wbh := by kernel_rfl
theorem w3p : zb8 Tryz.prog ⟨mf, false, false⟩ Tryz.f151 = some wbd := by kernel_rfl
theorem w3r : zb8 Tryz.prog ⟨mf, false, false⟩ Tryz.f90 = some wbf := by kernel_rfl
theorem w3i : zb8 Tryz.prog ⟨mf, false, false⟩ Tryz.f207 = some wb6 := by kernel_rfl
theorem w3h : zb8 Tryz.prog ⟨mf, false, false⟩ Tryz.f127 = some wb5 := by kernel_rfl
theorem w3q : zb8 Tryz.prog ⟨mf, false, false⟩ Tryz.f107 = some wbe := by kernel_rfl
theorem w3c : zb8 Tryz.prog ⟨mf, false, false⟩ Tryz.f40 = some wb0 := by kernel_rfl
theorem w3z : zb8 Tryz.prog ⟨mf, false, false⟩ Tryz.f5 = some wbn := by kernel_rfl
theorem tblOk : ∀ p ∈ tbl, ∃ (fn : Func) (m : Md), Tryz.prog.funcs[p.1]? = some fn ∧ zb8 Tryz.prog m fn = some p.2 := by
  unfold tbl
  refine List.forall_mem_cons.2 ⟨⟨Tryz.f7, ⟨mf, false, false⟩, Tryz.func7, w40⟩, ?_⟩
  refine List.forall_mem_cons.2 ⟨⟨Tryz.f174, ⟨mf, false, false⟩, Tryz.func174, w5j⟩, ?_⟩
  refine List.forall_mem_cons.2 ⟨⟨Tryz.f91, ⟨mf, false, false⟩, Tryz.func91, w5l⟩, ?_⟩
  refine List.forall_mem_cons.2 ⟨⟨Tryz.f108, ⟨mf, false, false⟩, Tryz.func108, w5k⟩, ?_⟩
  refine List.forall_mem_cons.2 ⟨⟨Tryz.f113, ⟨mf, false, false⟩, Tryz.func113, w5v⟩, ?_⟩
  refine List.forall_mem_cons.2 ⟨⟨Tryz.f122, ⟨mf, false, false⟩, Tryz.func122, w5f⟩, ?_⟩
  refine List.forall_mem_cons.2 ⟨⟨Tryz.f123, ⟨mf, false, false⟩, Tryz.func123, w5m⟩, ?_⟩
  refine List.forall_mem_cons.2 ⟨⟨Tryz.f124, ⟨mf, false, false⟩, Tryz.func124, w5c⟩, ?_⟩
  refine List.forall_mem_cons.2 ⟨⟨Tryz.f54, ⟨mf, false, false⟩, Tryz.func54, w5e⟩, ?_⟩
  refine List.forall_mem_cons.2 ⟨⟨Tryz.f136, ⟨mf, false, false⟩, Tryz.func136, w5p⟩, ?_⟩
  refine List.forall_mem_cons.2 ⟨⟨Tryz.f170, ⟨mf, false, false⟩, Tryz.func170, w5u⟩, ?_⟩
  refine List.forall_mem_cons.2 ⟨⟨Tryz.f171, ⟨mf, false, false⟩, Tryz.func171, w5w⟩, ?_⟩
  refine List.forall_mem_cons.2 ⟨⟨Tryz.f84, ⟨mf, false, false⟩, Tryz.func84, w56⟩, ?_⟩
  refine List.forall_mem_cons.2 ⟨⟨Tryz.f243, ⟨mf, false, false⟩, Tryz.func243, w64⟩, ?_⟩
  refine List.forall_mem_cons.2 ⟨⟨Tryz.f244, ⟨mf, false, false⟩, Tryz.func244, w62⟩, ?_⟩
  refine List.forall_mem_cons.2 ⟨⟨Tryz.f245, ⟨mf, false, false⟩, Tryz.func245, w63⟩, ?_⟩
  refine List.forall_mem_cons.2 ⟨⟨Tryz.f213, ⟨mf, false, false⟩, Tryz.func213, w57⟩, ?_⟩
  refine List.forall_mem_cons.2 ⟨⟨Tryz.f112, ⟨mf, false, false⟩, Tryz.func112, w5o⟩, ?_⟩
  refine List.forall_mem_cons.2 ⟨⟨Tryz.f135, ⟨mf, false, false⟩, Tryz.func135, w54⟩, ?_⟩
  refine List.forall_mem_cons.2 ⟨⟨Tryz.f137, ⟨mf, false, false⟩, Tryz.func137, w65⟩, ?_⟩
  refine List.forall_mem_cons.2 ⟨⟨Tryz.f74, ⟨mf, false, false⟩, Tryz.func74, w58⟩, ?_⟩
  refine List.forall_mem_cons.2 ⟨⟨Tryz.f175, ⟨mf, false, false⟩, Tryz.func175, w5i⟩, ?_⟩
  refine List.forall_mem_cons.2 ⟨⟨Tryz.f92, ⟨mf, false, false⟩, Tryz.func92, w5s⟩, ?_⟩
  refine List.forall_mem_cons.2 ⟨⟨Tryz.f161, ⟨mf, false, false⟩, Tryz.func161, w5g⟩, ?_⟩
  refine List.forall_mem_cons.2 ⟨⟨Tryz.f94, ⟨mf, false, false⟩, Tryz.func94, w5n⟩, ?_⟩
  refine List.forall_mem_cons.2 ⟨⟨Tryz.f66, ⟨mf, false, false⟩, Tryz.func66, w5t⟩, ?_⟩
  refine List.forall_mem_cons.2 ⟨⟨Tryz.f85, ⟨mf, false, false⟩, Tryz.func85, w59⟩, ?_⟩
  refine List.forall_mem_cons.2 ⟨⟨Tryz.f101, ⟨mf, false, false⟩, Tryz.func101, w55⟩, ?_⟩
  refine List.forall_mem_cons.2 ⟨⟨Tryz.f180, ⟨mf, false, false⟩, Tryz.func180, w61⟩, ?_⟩
  refine List.forall_mem_cons.2 ⟨⟨Tryz.f214, ⟨mf, false, false⟩, Tryz.func214, w5y⟩, ?_⟩
  refine List.forall_mem_cons.2 ⟨⟨Tryz.f138, ⟨mf, false, false⟩, Tryz.func138, w5z⟩, ?_⟩
  refine List.forall_mem_cons.2 ⟨⟨Tryz.f159, ⟨mf, false, false⟩, Tryz.func159, w52⟩, ?_⟩
  refine List.forall_mem_cons.2 ⟨⟨Tryz.f139, ⟨mf, false, false⟩, Tryz.func139, w60⟩, ?_⟩
  refine List.forall_mem_cons.2 ⟨⟨Tryz.f160, ⟨mf, false, false⟩, Tryz.func160, w53⟩, ?_⟩
  refine List.forall_mem_cons.2 ⟨⟨Tryz.f75, ⟨mf, false, false⟩, Tryz.func75, w5h⟩, ?_⟩
  refine List.forall_mem_cons.2 ⟨⟨Tryz.f95, ⟨mf, false, false⟩, Tryz.func95, w5d⟩, ?_⟩
  refine List.forall_mem_cons.2 ⟨⟨Tryz.f31, ⟨mf, false, false⟩, Tryz.func31, w51⟩, ?_⟩
  refine List.forall_mem_cons.2 ⟨⟨Tryz.f69, ⟨mf, false, false⟩, Tryz.func69, w3y⟩, ?_⟩
  refine List.forall_mem_cons.2 ⟨⟨Tryz.f237, ⟨mf, false, false⟩, Tryz.func237, w3s⟩, ?_⟩
  refine List.forall_mem_cons.2 ⟨⟨Tryz.f83, ⟨mf, false, false⟩, Tryz.func83, w3j⟩, ?_⟩
  refine List.forall_mem_cons.2 ⟨⟨Tryz.f169, ⟨mf, false, false⟩, Tryz.func169, w3m⟩, ?_⟩
  refine List.forall_mem_cons.2 ⟨⟨Tryz.f168, ⟨mf, false, false⟩, Tryz.func168, w3f⟩, ?_⟩
  refine List.forall_mem_cons.2 ⟨⟨Tryz.f236, ⟨mf, false, false⟩, Tryz.func236, w4e⟩, ?_⟩
  refine List.forall_mem_cons.2 ⟨⟨Tryz.f167, ⟨mf, false, false⟩, Tryz.func167, w48⟩, ?_⟩
  refine List.forall_mem_cons.2 ⟨⟨Tryz.f82, ⟨mf, false, false⟩, Tryz.func82, w3e⟩, ?_⟩
  refine List.forall_mem_cons.2 ⟨⟨Tryz.f97, ⟨mf, false, false⟩, Tryz.func97, w3d⟩, ?_⟩
  refine List.forall_mem_cons.2 ⟨⟨Tryz.f86, ⟨mf, false, false⟩, Tryz.func86, w3v⟩, ?_⟩
  refine List.forall_mem_cons.2 ⟨⟨Tryz.f162, ⟨mf, false, false⟩, Tryz.func162, w4h⟩, ?_⟩
  refine List.forall_mem_cons.2 ⟨⟨Tryz.f77, ⟨mf, false, false⟩, Tryz.func77, w4b⟩, ?_⟩
  refine List.forall_mem_cons.2 ⟨⟨Tryz.f177, ⟨mf, false, false⟩, Tryz.func177, w3x⟩, ?_⟩
  refine List.forall_mem_cons.2 ⟨⟨Tryz.f232, ⟨mf, false, false⟩, Tryz.func232, w44⟩, ?_⟩
  refine List.forall_mem_cons.2 ⟨⟨Tryz.f233, ⟨mf, false, false⟩, Tryz.func233, w45⟩, ?_⟩
  refine List.forall_mem_cons.2 ⟨⟨Tryz.f164, ⟨mf, false, false⟩, Tryz.func164, w43⟩, ?_⟩
  refine List.forall_mem_cons.2 ⟨⟨Tryz.f224, ⟨mf, false, false⟩, Tryz.func224, w4m⟩, ?_⟩
  refine List.forall_mem_cons.2 ⟨⟨Tryz.f258, ⟨mf, false, false⟩, Tryz.func258, w4w⟩, ?_⟩
  refine List.forall_mem_cons.2 ⟨⟨Tryz.f225, ⟨mf, false, false⟩, Tryz.func225, w4l⟩, ?_⟩
  refine List.forall_mem_cons.2 ⟨⟨Tryz.f259, ⟨mf, false, false⟩, Tryz.func259, w4p⟩, ?_⟩
  refine List.forall_mem_cons.2 ⟨⟨Tryz.f260, ⟨mf, false, false⟩, Tryz.func260, w4x⟩, ?_⟩
  refine List.forall_mem_cons.2 ⟨⟨Tryz.f226, ⟨mf, false, false⟩, Tryz.func226, w4j⟩, ?_⟩
  refine List.forall_mem_cons.2 ⟨⟨Tryz.f268, ⟨mf, false, false⟩, Tryz.func268, w4q⟩, ?_⟩
  refine List.forall_mem_cons.2 ⟨⟨Tryz.f262, ⟨mf, false, false⟩, Tryz.func262, w4o⟩, ?_⟩
  refine List.forall_mem_cons.2 ⟨⟨Tryz.f261, ⟨mf, false, false⟩, Tryz.func261, w4n⟩, ?_⟩
  refine List.forall_mem_cons.2 ⟨⟨Tryz.f227, ⟨mf, false, false⟩, Tryz.func227, w4k⟩, ?_⟩
  refine List.forall_mem_cons.2 ⟨⟨Tryz.f228, ⟨mf, false, false⟩, Tryz.func228, w4v⟩, ?_⟩
  refine List.forall_mem_cons.2 ⟨⟨Tryz.f229, ⟨mf, false, false⟩, Tryz.func229, w4r⟩, ?_⟩
  refine List.forall_mem_cons.2 ⟨⟨Tryz.f230, ⟨mf, false, false⟩, Tryz.func230, w4t⟩, ?_⟩
  refine List.forall_mem_cons.2 ⟨⟨Tryz.f231, ⟨mf, false, false⟩, Tryz.func231, w4s⟩, ?_⟩
  refine List.forall_mem_cons.2 ⟨⟨Tryz.f163, ⟨mf, false, false⟩, Tryz.func163, w4u⟩, ?_⟩
  refine List.forall_mem_cons.2 ⟨⟨Tryz.f78, ⟨mf, false, false⟩, Tryz.func78, w4i⟩, ?_⟩
  refine List.forall_mem_cons.2 ⟨⟨Tryz.f234, ⟨mf, false, false⟩, Tryz.func234, w36⟩, ?_⟩
  refine List.forall_mem_cons.2 ⟨⟨Tryz.f165, ⟨mf, false, false⟩, Tryz.func165, w35⟩, ?_⟩
  refine List.forall_mem_cons.2 ⟨⟨Tryz.f79, ⟨mf, false, false⟩, Tryz.func79, w47⟩, ?_⟩
  refine List.forall_mem_cons.2 ⟨⟨Tryz.f185, ⟨mf, false, false⟩, Tryz.func185, w46⟩, ?_⟩
  refine List.forall_mem_cons.2 ⟨⟨Tryz.f179, ⟨mf, false, false⟩, Tryz.func179, w4d⟩, ?_⟩
  refine List.forall_mem_cons.2 ⟨⟨Tryz.f100, ⟨mf, false, false⟩, Tryz.func100, w3o⟩, ?_⟩
  refine List.forall_mem_cons.2 ⟨⟨Tryz.f106, ⟨mf, false, false⟩, Tryz.func106, w3w⟩, ?_⟩
  refine List.forall_mem_cons.2 ⟨⟨Tryz.f178, ⟨mf, false, false⟩, Tryz.func178, w4c⟩, ?_⟩
  refine List.forall_mem_cons.2 ⟨⟨Tryz.f96, ⟨mf, false, false⟩, Tryz.func96, w3n⟩, ?_⟩
  refine List.forall_mem_cons.2 ⟨⟨Tryz.f99, ⟨mf, false, false⟩, Tryz.func99, w3b⟩, ?_⟩
  refine List.forall_mem_cons.2 ⟨⟨Tryz.f130, ⟨mf, false, false⟩, Tryz.func130, w4g⟩, ?_⟩
  refine List.forall_mem_cons.2 ⟨⟨Tryz.f98, ⟨mf, false, false⟩, Tryz.func98, w4a⟩, ?_⟩
  refine List.forall_mem_cons.2 ⟨⟨Tryz.f32, ⟨mf, false, false⟩, Tryz.func32, w3a⟩, ?_⟩
  refine List.forall_mem_cons.2 ⟨⟨Tryz.f103, ⟨mf, false, false⟩, Tryz.func103, w66⟩, ?_⟩
  refine List.forall_mem_cons.2 ⟨⟨Tryz.f181, ⟨mf, false, false⟩, Tryz.func181, w69⟩, ?_⟩
  refine List.forall_mem_cons.2 ⟨⟨Tryz.f102, ⟨mf, false, false⟩, Tryz.func102, w5b⟩, ?_⟩
  refine List.forall_mem_cons.2 ⟨⟨Tryz.f142, ⟨mf, false, false⟩, Tryz.func142, w5x⟩, ?_⟩
  refine List.forall_mem_cons.2 ⟨⟨Tryz.f147, ⟨mf, false, false⟩, Tryz.func147, w5a⟩, ?_⟩
  refine List.forall_mem_cons.2 ⟨⟨Tryz.f65, ⟨mf, false, false⟩, Tryz.func65, w5q⟩, ?_⟩
  refine List.forall_mem_cons.2 ⟨⟨Tryz.f182, ⟨mf, false, false⟩, Tryz.func182, w5r⟩, ?_⟩
  refine List.forall_mem_cons.2 ⟨⟨Tryz.f183, ⟨mf, false, false⟩, Tryz.func183, w68⟩, ?_⟩
  refine List.forall_mem_cons.2 ⟨⟨Tryz.f104, ⟨mf, false, false⟩, Tryz.func104, w67⟩, ?_⟩
  refine List.forall_mem_cons.2 ⟨⟨Tryz.f35, ⟨mf, false, false⟩, Tryz.func35, w4y⟩, ?_⟩
  refine List.forall_mem_cons.2 ⟨⟨Tryz.f33, ⟨mf, false, false⟩, Tryz.func33, w50⟩, ?_⟩
  refine List.forall_mem_cons.2 ⟨⟨Tryz.f34, ⟨mf, false, false⟩, Tryz.func34, w37⟩, ?_⟩
  refine List.forall_mem_cons.2 ⟨⟨Tryz.f36, ⟨mf, false, false⟩, Tryz.func36, w38⟩, ?_⟩
  refine List.forall_mem_cons.2 ⟨⟨Tryz.f37, ⟨mf, false, false⟩, Tryz.func37, w4z⟩, ?_⟩
  refine List.forall_mem_cons.2 ⟨⟨Tryz.f30, ⟨mf, false, false⟩, Tryz.func30, w41⟩, ?_⟩
  refine List.forall_mem_cons.2 ⟨⟨Tryz.f22, ⟨mf, false, false⟩, Tryz.func22, w42⟩, ?_⟩
  refine List.forall_mem_cons.2 ⟨⟨Tryz.f184, ⟨mf, false, false⟩, Tryz.func184, w3l⟩, ?_⟩
  refine List.forall_mem_cons.2 ⟨⟨Tryz.f105, ⟨mf, false, false⟩, Tryz.func105, w3k⟩, ?_⟩
  refine List.forall_mem_cons.2 ⟨⟨Tryz.f38, ⟨mf, false, false⟩, Tryz.func38, w3g⟩, ?_⟩
  refine List.forall_mem_cons.2 ⟨⟨Tryz.f39, ⟨mf, false, false⟩, Tryz.func39, w39⟩, ?_⟩
  refine List.forall_mem_cons.2 ⟨⟨Tryz.f173, ⟨mf, false, false⟩, Tryz.func173, w3u⟩, ?_⟩
  refine List.forall_mem_cons.2 ⟨⟨Tryz.f238, ⟨mf, false, false⟩, Tryz.func238, w4f⟩, ?_⟩
  refine List.forall_mem_cons.2 ⟨⟨Tryz.f172, ⟨mf, false, false⟩, Tryz.func172, w49⟩, ?_⟩
  refine List.forall_mem_cons.2 ⟨⟨Tryz.f88, ⟨mf, false, false⟩, Tryz.func88, w3t⟩, ?_⟩
  refine List.forall_mem_cons.2 ⟨⟨Tryz.f151, ⟨mf, false, false⟩, Tryz.func151, w3p⟩, ?_⟩
  refine List.forall_mem_cons.2 ⟨⟨Tryz.f90, ⟨mf, false, false⟩, Tryz.func90, w3r⟩, ?_⟩
  refine List.forall_mem_cons.2 ⟨⟨Tryz.f207, ⟨mf, false, false⟩, Tryz.func207, w3i⟩, ?_⟩
  refine List.forall_mem_cons.2 ⟨⟨Tryz.f127, ⟨mf, false, false⟩, Tryz.func127, w3h⟩, ?_⟩
  refine List.forall_mem_cons.2 ⟨⟨Tryz.f107, ⟨mf, false, false⟩, Tryz.func107, w3q⟩, ?_⟩
  refine List.forall_mem_cons.2 ⟨⟨Tryz.f40, ⟨mf, false, false⟩, Tryz.func40, w3c⟩, ?_⟩
  refine List.forall_mem_cons.2 ⟨⟨Tryz.f5, ⟨mf, false, false⟩, Tryz.func5, w3z⟩, ?_⟩
  exact fun _ h => (by cases h)
theorem hF (f : FuncId) (i : IFun) (h : F f = some i) : ∃ (fn : Func) (m : Md), Tryz.prog.funcs[f]? = some fn ∧ zb8 Tryz.prog m fn = some i := by
  unfold F at h
  simp only [Option.map_eq_some_iff] at h
  obtain ⟨p, hp, rfl⟩ := h
  have h1 := List.mem_of_find?_eq_some hp
  have h2 := List.find?_some hp
  have h3 : p.1 = f := by simpa using h2
  subst h3
  exact tblOk p h1
theorem w6o : ∀ p ∈ exts, ExtOk Tryz.prog p.1 p.2 := by
  unfold exts
  refine List.forall_mem_cons.2 ⟨zf4 (mf := ⟨mf, false, false⟩) (Checked.mixed Tryz.checked) Tryz.func71 (show zb8 Tryz.prog ⟨mf, false, false⟩ Tryz.f71 = some (zmk t_int true 1) by kernel_rfl), ?_⟩
  refine List.forall_mem_cons.2 ⟨zf4 (mf := ⟨mf, false, false⟩) (Checked.mixed Tryz.checked) Tryz.func176 (show zb8 Tryz.prog ⟨mf, false, false⟩ Tryz.f176 = some (zmk wgp false 1) by kernel_rfl), ?_⟩
  exact fun _ h => (by cases h)
theorem hE (f : FuncId) (e : List PV → Option PV) (h : ext f = some e) : ExtOk Tryz.prog f e := by
  unfold ext at h
  simp only [Option.map_eq_some_iff] at h
  obtain ⟨p, hp, rfl⟩ := h
  have h1 := List.mem_of_find?_eq_some hp
  have h2 := List.find?_some hp
  have h3 : p.1 = f := by simpa using h2
  subst h3
  exact w6o p h1
end Go.Proofs.YtbaclnecajkknaaGreat.Pi
