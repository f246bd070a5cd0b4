/- The forms are those of the program. No condition. -/
import Derived.Test.YtkkifebmicbbaaaGreatChecked
import Derived.Test.YtkkifebmicbbaaaGreatIrFnExactAdmitSpec
import Derived.Test.YtkkifebmicbbaaaGreatPiTop
import Derived.Test.YtkkifebmicbbaaaGreatPiDz
import Derived.KernelRfl
namespace Go.Proofs.YtkkifebmicbbaaaGreat.Pi
open Go
set_option linter.all false
def mf (f : FuncId) : Bool := [175, 53, 52, 13, 14].contains f
theorem w4l : za5 Tryz.prog ⟨mf, false, false⟩ Tryz.f156 = some wc7 := by kernel_rfl
theorem w4n : za5 Tryz.prog ⟨mf, false, false⟩ Tryz.f93 = some wc9 := by kernel_rfl
theorem w4o : za5 Tryz.prog ⟨mf, false, false⟩ Tryz.f42 = some wca := by kernel_rfl
theorem w4m : za5 Tryz.prog ⟨mf, false, false⟩ Tryz.f7 = some wc8 := by kernel_rfl
theorem w4p : za5 Tryz.prog ⟨mf, false, false⟩ Tryz.f163 = some wcb := by kernel_rfl
theorem w4r : za5 Tryz.prog ⟨mf, false, false⟩ Tryz.f98 = some wcd := by kernel_rfl
theorem w4s : za5 Tryz.prog ⟨mf, true, false⟩ Tryz.f46 = some wce := by kernel_rfl
theorem w4q : za5 Tryz.prog ⟨mf, true, false⟩ Tryz.f9 = some wcc := by kernel_rfl
theorem w5m : za5 Tryz.prog ⟨mf, false, false⟩ Tryz.f44 = some wd8 := by kernel_rfl
theorem w5l : za5 Tryz.prog ⟨mf, false, false⟩ Tryz.f157 = some wd7 := by kernel_rfl
theorem w5p : za5 Tryz.prog ⟨mf, false, false⟩ Tryz.f158 = some wdb := by kernel_rfl
theorem w5i : za5 Tryz.prog ⟨mf, false, false⟩ Tryz.f94 = some wd4 := by kernel_rfl
theorem w5n : za5 Tryz.prog ⟨mf, false, false⟩ Tryz.f86 = some wd9 := by kernel_rfl
theorem w5r : za5 Tryz.prog ⟨mf, false, false⟩ Tryz.f201 = some wdd := by kernel_rfl
theorem w5h : za5 Tryz.prog ⟨mf, false, false⟩ Tryz.f159 = some wd3 := by kernel_rfl
theorem w5g : za5 Tryz.prog ⟨mf, false, false⟩ Tryz.f160 = some wd2 := by kernel_rfl
theorem w5f : za5 Tryz.prog ⟨mf, false, false⟩ Tryz.f95 = some wd1 := by kernel_rfl
theorem w5o : za5 Tryz.prog ⟨mf, false, false⟩ Tryz.f184 = some wda := by kernel_rfl
theorem w5a : za5 Tryz.prog ⟨mf, false, false⟩ Tryz.f202 = some wcw := by kernel_rfl
theorem w5x : za5 Tryz.prog ⟨mf, false, false⟩ Tryz.f203 = some wdj := by kernel_rfl
theorem w5v : za5 Tryz.prog ⟨mf, false, false⟩ Tryz.f204 = some wdh := by kernel_rfl
theorem w5w : za5 Tryz.prog ⟨mf, false, false⟩ Tryz.f205 = some wdi := by kernel_rfl
theorem w5d : za5 Tryz.prog ⟨mf, false, false⟩ Tryz.f161 = some wcz := by kernel_rfl
theorem w58 : za5 Tryz.prog ⟨mf, false, false⟩ Tryz.f96 = some wcu := by kernel_rfl
theorem w5b : za5 Tryz.prog ⟨mf, false, false⟩ Tryz.f43 = some wcx := by kernel_rfl
theorem w64 : za5 Tryz.prog ⟨mf, false, false⟩ Tryz.f78 = some wdq := by kernel_rfl
theorem w5y : za5 Tryz.prog ⟨mf, false, false⟩ Tryz.f76 = some wdk := by kernel_rfl
theorem w66 : za5 Tryz.prog ⟨mf, false, false⟩ Tryz.f79 = some wds := by kernel_rfl
theorem w5s : za5 Tryz.prog ⟨mf, false, false⟩ Tryz.f180 = some wde := by kernel_rfl
theorem w5t : za5 Tryz.prog ⟨mf, false, false⟩ Tryz.f133 = some wdf := by kernel_rfl
theorem w5u : za5 Tryz.prog ⟨mf, false, false⟩ Tryz.f134 = some wdg := by kernel_rfl
theorem w5j : za5 Tryz.prog ⟨mf, false, false⟩ Tryz.f162 = some wd5 := by kernel_rfl
theorem w59 : za5 Tryz.prog ⟨mf, false, false⟩ Tryz.f135 = some wcv := by kernel_rfl
theorem w5q : za5 Tryz.prog ⟨mf, false, false⟩ Tryz.f139 = some wdc := by kernel_rfl
theorem w61 : za5 Tryz.prog ⟨mf, false, false⟩ Tryz.f84 = some wdn := by kernel_rfl
theorem w60 : za5 Tryz.prog ⟨mf, false, false⟩ Tryz.f80 = some wdm := by kernel_rfl
theorem w62 : za5 Tryz.prog ⟨mf, false, false⟩ Tryz.f136 = some wdo := by kernel_rfl
theorem w63 : za5 Tryz.prog ⟨mf, false, true⟩ Tryz.f137 = some wdp := by kernel_rfl
theorem w5k : za5 Tryz.prog ⟨mf, false, false⟩ Tryz.f138 = some wd6 := by kernel_rfl
theorem w5z : za5 Tryz.prog ⟨mf, false, false⟩ Tryz.f140 = some wdl := by kernel_rfl
theorem w65 : za5 Tryz.prog ⟨mf, false, false⟩ Tryz.f81 = some wdr := by kernel_rfl
theorem w57 : za5 Tryz.prog ⟨mf, false, false⟩ Tryz.f34 = some wct := by kernel_rfl
theorem w5c : za5 Tryz.prog ⟨mf, false, false⟩ Tryz.f97 = some wcy := by kernel_rfl
theorem w5e : za5 Tryz.prog ⟨mf, false, false⟩ Tryz.f45 = some wd0 := by kernel_rfl
theorem w56 : za5 Tryz.prog ⟨mf, false, false⟩ Tryz.f8 = some wcs := by kernel_rfl
theorem w48 : za5 Tryz.prog ⟨mf, false, false⟩ Tryz.f48 = some wbu := by kernel_rfl
theorem w3s : za5 Tryz.prog ⟨mf, false, false⟩ Tryz.f165 = some wbe := by kernel_rfl
theorem w3h : za5 Tryz.prog ⟨mf, false, false⟩ Tryz.f65 = some wb3 := by kernel_rfl
theorem w3i : za5 Tryz.prog ⟨mf, false, false⟩ Tryz.f164 = some wb4 := by kernel_rfl
theorem w54 : za5 Tryz.prog ⟨mf, false, false⟩ Tryz.f192 = some wcq := by kernel_rfl
theorem w4x : za5 Tryz.prog ⟨mf, false, false⟩ Tryz.f147 = some wcj := by kernel_rfl
theorem w3x : za5 Tryz.prog ⟨mf, false, false⟩ Tryz.f99 = some wbj := by kernel_rfl
theorem w3y : za5 Tryz.prog ⟨mf, false, false⟩ Tryz.f108 = some wbk := by kernel_rfl
theorem w43 : za5 Tryz.prog ⟨mf, false, false⟩ Tryz.f168 = some wbp := by kernel_rfl
theorem w42 : za5 Tryz.prog ⟨mf, false, false⟩ Tryz.f169 = some wbo := by kernel_rfl
theorem w47 : za5 Tryz.prog ⟨mf, false, false⟩ Tryz.f109 = some wbt := by kernel_rfl
theorem w45 : za5 Tryz.prog ⟨mf, false, false⟩ Tryz.f58 = some wbr := by kernel_rfl
theorem w3j : za5 Tryz.prog ⟨mf, false, false⟩ Tryz.f191 = some wb5 := by kernel_rfl
theorem w37 : za5 Tryz.prog ⟨mf, false, false⟩ Tryz.f190 = some war := by kernel_rfl
theorem w50 : za5 Tryz.prog ⟨mf, false, false⟩ Tryz.f219 = some wcm := by kernel_rfl
theorem w4u : za5 Tryz.prog ⟨mf, false, false⟩ Tryz.f189 = some wcg := by kernel_rfl
theorem w36 : za5 Tryz.prog ⟨mf, false, false⟩ Tryz.f146 = some waq := by kernel_rfl
theorem w41 : za5 Tryz.prog ⟨mf, false, false⟩ Tryz.f220 = some wbn := by kernel_rfl
theorem w51 : za5 Tryz.prog ⟨mf, false, false⟩ Tryz.f206 = some wcn := by kernel_rfl
theorem w4v : za5 Tryz.prog ⟨mf, false, false⟩ Tryz.f182 = some wch := by kernel_rfl
theorem w40 : za5 Tryz.prog ⟨mf, false, false⟩ Tryz.f193 = some wbm := by kernel_rfl
theorem w3k : za5 Tryz.prog ⟨mf, false, false⟩ Tryz.f194 = some wb6 := by kernel_rfl
theorem w3z : za5 Tryz.prog ⟨mf, false, false⟩ Tryz.f148 = some wbl := by kernel_rfl
theorem w35 : za5 Tryz.prog ⟨mf, false, false⟩ Tryz.f88 = some wap := by kernel_rfl
theorem w3w : za5 Tryz.prog ⟨mf, false, false⟩ Tryz.f47 = some wbi := by kernel_rfl
theorem w44 : za5 Tryz.prog ⟨mf, false, false⟩ Tryz.f121 = some wbq := by kernel_rfl
theorem w46 : za5 Tryz.prog ⟨mf, false, false⟩ Tryz.f62 = some wbs := by kernel_rfl
theorem w3u : za5 Tryz.prog ⟨mf, false, false⟩ Tryz.f183 = some wbg := by kernel_rfl
theorem w3t : za5 Tryz.prog ⟨mf, false, false⟩ Tryz.f130 = some wbf := by kernel_rfl
theorem w3o : za5 Tryz.prog ⟨mf, false, false⟩ Tryz.f119 = some wba := by kernel_rfl
theorem w3r : za5 Tryz.prog ⟨mf, false, false⟩ Tryz.f120 = some wbd := by kernel_rfl
theorem w4y : za5 Tryz.prog ⟨mf, false, false⟩ Tryz.f171 = some wck := by kernel_rfl
theorem w3b : za5 Tryz.prog ⟨mf, false, false⟩ Tryz.f170 = some waw := by kernel_rfl
theorem w52 : za5 Tryz.prog ⟨mf, false, false⟩ Tryz.f114 = some wco := by kernel_rfl
theorem w3a : za5 Tryz.prog ⟨mf, false, false⟩ Tryz.f111 = some wav := by kernel_rfl
theorem w3q : za5 Tryz.prog ⟨mf, false, false⟩ Tryz.f61 = some wbc := by kernel_rfl
theorem w3p : za5 Tryz.prog ⟨mf, false, false⟩ Tryz.f110 = some wbb := by kernel_rfl
theorem w3c : za5 Tryz.prog ⟨mf, true, true⟩ Tryz.f112 = some wax := by kernel_rfl
theorem w53 : za5 Tryz.prog ⟨mf, false, false⟩ Tryz.f113 = some wcp := by kernel_rfl
theorem w3n : za5 Tryz.prog ⟨mf, false, false⟩ Tryz.f172 = some wb9 := by kernel_rfl
theorem w3v : za5 Tryz.prog ⟨mf, false, false⟩ Tryz.f116 = some wbh := by kernel_rfl
theorem w3m : za5 Tryz.prog ⟨mf, false, false⟩ Tryz.f115 = some wb8 := by kernel_rfl
theorem w3e : za5 Tryz.prog ⟨mf, false, false⟩ Tryz.f174 = some wb0 := by kernel_rfl
theorem w4z : za5 Tryz.prog ⟨mf, false, false⟩ Tryz.f173 = some wcl := by kernel_rfl
theorem w55 : za5 Tryz.prog ⟨mf, false, false⟩ Tryz.f175 = some wcr := by kernel_rfl
theorem w3d : za5 Tryz.prog ⟨mf, false, false⟩ Tryz.f117 = some waz := by kernel_rfl
theorem w39 : za5 Tryz.prog ⟨mf, false, false⟩ Tryz.f177 = some wau := by kernel_rfl
theorem w4t : za5 Tryz.prog ⟨mf, false, false⟩ Tryz.f176 = some wcf := by kernel_rfl
theorem w38 : za5 Tryz.prog ⟨mf, false, false⟩ Tryz.f118 = some wat := by kernel_rfl
theorem w3l : za5 Tryz.prog ⟨mf, false, false⟩ Tryz.f60 = some wb7 := by kernel_rfl
theorem w4w : za5 Tryz.prog ⟨mf, false, false⟩ Tryz.f63 = some wci := by kernel_rfl
theorem w3g : za5 Tryz.prog ⟨mf, false, false⟩ Tryz.f100 = some wb2 := by kernel_rfl
theorem w3f : za5 Tryz.prog ⟨mf, false, false⟩ Tryz.f49 = some wb1 := by kernel_rfl
theorem w34 : za5 Tryz.prog ⟨mf, false, false⟩ Tryz.f10 = some wao := by kernel_rfl
theorem w4a : za5 Tryz.prog ⟨mf, false, false⟩ Tryz.f50 = some wbw := by kernel_rfl
theorem w4e : za5 Tryz.prog ⟨mf, false, false⟩ Tryz.f11 = some wc0 := by kernel_rfl
theorem w4c : za5 Tryz.prog ⟨mf, false, false⟩ Tryz.f101 = some wby := by kernel_rfl
theorem w4d : za5 Tryz.prog ⟨mf, false, false⟩ Tryz.f51 = some wbz := by kernel_rfl
theorem w4b : za5 Tryz.prog ⟨mf, false, false⟩ Tryz.f12 = some wbx := by kernel_rfl
theorem w4h : za5 Tryz.prog ⟨mf, true, false⟩ Tryz.f53 = some wc3 := by kernel_rfl
theorem w4j : za5 Tryz.prog ⟨mf, true, false⟩ Tryz.f52 = some wc5 := by kernel_rfl
theorem w4i : za5 Tryz.prog ⟨mf, true, false⟩ Tryz.f13 = some wc4 := by kernel_rfl
theorem w4k : za5 Tryz.prog ⟨mf, true, false⟩ Tryz.f14 = some wc6 := by kernel_rfl
theorem w4f : za5 Tryz.prog ⟨mf, false, false⟩ Tryz.f54 = some wc1 := by kernel_rfl
theorem w4g : za5 Tryz.prog ⟨mf, false, false⟩ Tryz.f15 = some wc2 := by kernel_rfl
theorem w49 : za5 Tryz.prog ⟨mf, false, false⟩ Tryz.f3 = some wbv := by kernel_rfl
theorem tblOk : ∀ p ∈ tbl, ∃ (fn : Func) (m : Md), Tryz.prog.funcs[p.1]? = some fn ∧ za5 Tryz.prog m fn = some p.2 := by
  unfold tbl
  refine List.forall_mem_cons.2 ⟨⟨Tryz.f156, ⟨mf, false, false⟩, Tryz.func156, w4l⟩, ?_⟩
  refine List.forall_mem_cons.2 ⟨⟨Tryz.f93, ⟨mf, false, false⟩, Tryz.func93, w4n⟩, ?_⟩
  refine List.forall_mem_cons.2 ⟨⟨Tryz.f42, ⟨mf, false, false⟩, Tryz.func42, w4o⟩, ?_⟩
  refine List.forall_mem_cons.2 ⟨⟨Tryz.f7, ⟨mf, false, false⟩, Tryz.func7, w4m⟩, ?_⟩
  refine List.forall_mem_cons.2 ⟨⟨Tryz.f163, ⟨mf, false, false⟩, Tryz.func163, w4p⟩, ?_⟩
  refine List.forall_mem_cons.2 ⟨⟨Tryz.f98, ⟨mf, false, false⟩, Tryz.func98, w4r⟩, ?_⟩
  refine List.forall_mem_cons.2 ⟨⟨Tryz.f46, ⟨mf, true, false⟩, Tryz.func46, w4s⟩, ?_⟩
  refine List.forall_mem_cons.2 ⟨⟨Tryz.f9, ⟨mf, true, false⟩, Tryz.func9, w4q⟩, ?_⟩
  refine List.forall_mem_cons.2 ⟨⟨Tryz.f44, ⟨mf, false, false⟩, Tryz.func44, w5m⟩, ?_⟩
  refine List.forall_mem_cons.2 ⟨⟨Tryz.f157, ⟨mf, false, false⟩, Tryz.func157, w5l⟩, ?_⟩
  refine List.forall_mem_cons.2 ⟨⟨Tryz.f158, ⟨mf, false, false⟩, Tryz.func158, w5p⟩, ?_⟩
  refine List.forall_mem_cons.2 ⟨⟨Tryz.f94, ⟨mf, false, false⟩, Tryz.func94, w5i⟩, ?_⟩
  refine List.forall_mem_cons.2 ⟨⟨Tryz.f86, ⟨mf, false, false⟩, Tryz.func86, w5n⟩, ?_⟩
  refine List.forall_mem_cons.2 ⟨⟨Tryz.f201, ⟨mf, false, false⟩, Tryz.func201, w5r⟩, ?_⟩
  refine List.forall_mem_cons.2 ⟨⟨Tryz.f159, ⟨mf, false, false⟩, Tryz.func159, w5h⟩, ?_⟩
  refine List.forall_mem_cons.2 ⟨⟨Tryz.f160, ⟨mf, false, false⟩, Tryz.func160, w5g⟩, ?_⟩
  refine List.forall_mem_cons.2 ⟨⟨Tryz.f95, ⟨mf, false, false⟩, Tryz.func95, w5f⟩, ?_⟩
  refine List.forall_mem_cons.2 ⟨⟨Tryz.f184, ⟨mf, false, false⟩, Tryz.func184, w5o⟩, ?_⟩
  refine List.forall_mem_cons.2 ⟨⟨Tryz.f202, ⟨mf, false, false⟩, Tryz.func202, w5a⟩, ?_⟩
  refine List.forall_mem_cons.2 ⟨⟨Tryz.f203, ⟨mf, false, false⟩, Tryz.func203, w5x⟩, ?_⟩
  refine List.forall_mem_cons.2 ⟨⟨Tryz.f204, ⟨mf, false, false⟩, Tryz.func204, w5v⟩, ?_⟩
  refine List.forall_mem_cons.2 ⟨⟨Tryz.f205, ⟨mf, false, false⟩, Tryz.func205, w5w⟩, ?_⟩
  refine List.forall_mem_cons.2 ⟨⟨Tryz.f161, ⟨mf, false, false⟩, Tryz.func161, w5d⟩, ?_⟩
  refine List.forall_mem_cons.2 ⟨⟨Tryz.f96, ⟨mf, false, false⟩, Tryz.func96, w58⟩, ?_⟩
  refine List.forall_mem_cons.2 ⟨⟨Tryz.f43, ⟨mf, false, false⟩, Tryz.func43, w5b⟩, ?_⟩
  refine List.forall_mem_cons.2 ⟨⟨Tryz.f78, ⟨mf, false, false⟩, Tryz.func78, w64⟩, ?_⟩
  refine List.forall_mem_cons.2 ⟨⟨Tryz.f76, ⟨mf, false, false⟩, Tryz.func76, w5y⟩, ?_⟩
  refine List.forall_mem_cons.2 ⟨⟨Tryz.f79, ⟨mf, false, false⟩, Tryz.func79, w66⟩, ?_⟩
  refine List.forall_mem_cons.2 ⟨⟨Tryz.f180, ⟨mf, false, false⟩, Tryz.func180, w5s⟩, ?_⟩
  refine List.forall_mem_cons.2 ⟨⟨Tryz.f133, ⟨mf, false, false⟩, Tryz.func133, w5t⟩, ?_⟩
  refine List.forall_mem_cons.2 ⟨⟨Tryz.f134, ⟨mf, false, false⟩, Tryz.func134, w5u⟩, ?_⟩
  refine List.forall_mem_cons.2 ⟨⟨Tryz.f162, ⟨mf, false, false⟩, Tryz.func162, w5j⟩, ?_⟩
  refine List.forall_mem_cons.2 ⟨⟨Tryz.f135, ⟨mf, false, false⟩, Tryz.func135, w59⟩, ?_⟩
  refine List.forall_mem_cons.2 ⟨⟨Tryz.f139, ⟨mf, false, false⟩, Tryz.func139, w5q⟩, ?_⟩
  refine List.forall_mem_cons.2 ⟨⟨Tryz.f84, ⟨mf, false, false⟩, Tryz.func84, w61⟩, ?_⟩
  refine List.forall_mem_cons.2 ⟨⟨Tryz.f80, ⟨mf, false, false⟩, Tryz.func80, w60⟩, ?_⟩
  refine List.forall_mem_cons.2 ⟨⟨Tryz.f136, ⟨mf, false, false⟩, Tryz.func136, w62⟩, ?_⟩
  refine List.forall_mem_cons.2 ⟨⟨Tryz.f137, ⟨mf, false, true⟩, Tryz.func137, w63⟩, ?_⟩
  refine List.forall_mem_cons.2 ⟨⟨Tryz.f138, ⟨mf, false, false⟩, Tryz.func138, w5k⟩, ?_⟩
  refine List.forall_mem_cons.2 ⟨⟨Tryz.f140, ⟨mf, false, false⟩, Tryz.func140, w5z⟩, ?_⟩
  refine List.forall_mem_cons.2 ⟨⟨Tryz.f81, ⟨mf, false, false⟩, Tryz.func81, w65⟩, ?_⟩
  refine List.forall_mem_cons.2 ⟨⟨Tryz.f34, ⟨mf, false, false⟩, Tryz.func34, w57⟩, ?_⟩
  refine List.forall_mem_cons.2 ⟨⟨Tryz.f97, ⟨mf, false, false⟩, Tryz.func97, w5c⟩, ?_⟩
  refine List.forall_mem_cons.2 ⟨⟨Tryz.f45, ⟨mf, false, false⟩, Tryz.func45, w5e⟩, ?_⟩
  refine List.forall_mem_cons.2 ⟨⟨Tryz.f8, ⟨mf, false, false⟩, Tryz.func8, w56⟩, ?_⟩
  refine List.forall_mem_cons.2 ⟨⟨Tryz.f48, ⟨mf, false, false⟩, Tryz.func48, w48⟩, ?_⟩
  refine List.forall_mem_cons.2 ⟨⟨Tryz.f165, ⟨mf, false, false⟩, Tryz.func165, w3s⟩, ?_⟩
  refine List.forall_mem_cons.2 ⟨⟨Tryz.f65, ⟨mf, false, false⟩, Tryz.func65, w3h⟩, ?_⟩
  refine List.forall_mem_cons.2 ⟨⟨Tryz.f164, ⟨mf, false, false⟩, Tryz.func164, w3i⟩, ?_⟩
  refine List.forall_mem_cons.2 ⟨⟨Tryz.f192, ⟨mf, false, false⟩, Tryz.func192, w54⟩, ?_⟩
  refine List.forall_mem_cons.2 ⟨⟨Tryz.f147, ⟨mf, false, false⟩, Tryz.func147, w4x⟩, ?_⟩
  refine List.forall_mem_cons.2 ⟨⟨Tryz.f99, ⟨mf, false, false⟩, Tryz.func99, w3x⟩, ?_⟩
  refine List.forall_mem_cons.2 ⟨⟨Tryz.f108, ⟨mf, false, false⟩, Tryz.func108, w3y⟩, ?_⟩
  refine List.forall_mem_cons.2 ⟨⟨Tryz.f168, ⟨mf, false, false⟩, Tryz.func168, w43⟩, ?_⟩
  refine List.forall_mem_cons.2 ⟨⟨Tryz.f169, ⟨mf, false, false⟩, Tryz.func169, w42⟩, ?_⟩
  refine List.forall_mem_cons.2 ⟨⟨Tryz.f109, ⟨mf, false, false⟩, Tryz.func109, w47⟩, ?_⟩
  refine List.forall_mem_cons.2 ⟨⟨Tryz.f58, ⟨mf, false, false⟩, Tryz.func58, w45⟩, ?_⟩
  refine List.forall_mem_cons.2 ⟨⟨Tryz.f191, ⟨mf, false, false⟩, Tryz.func191, w3j⟩, ?_⟩
  refine List.forall_mem_cons.2 ⟨⟨Tryz.f190, ⟨mf, false, false⟩, Tryz.func190, w37⟩, ?_⟩
  refine List.forall_mem_cons.2 ⟨⟨Tryz.f219, ⟨mf, false, false⟩, Tryz.func219, w50⟩, ?_⟩
  refine List.forall_mem_cons.2 ⟨⟨Tryz.f189, ⟨mf, false, false⟩, Tryz.func189, w4u⟩, ?_⟩
  refine List.forall_mem_cons.2 ⟨⟨Tryz.f146, ⟨mf, false, false⟩, Tryz.func146, w36⟩, ?_⟩
  refine List.forall_mem_cons.2 ⟨⟨Tryz.f220, ⟨mf, false, false⟩, Tryz.func220, w41⟩, ?_⟩
  refine List.forall_mem_cons.2 ⟨⟨Tryz.f206, ⟨mf, false, false⟩, Tryz.func206, w51⟩, ?_⟩
  refine List.forall_mem_cons.2 ⟨⟨Tryz.f182, ⟨mf, false, false⟩, Tryz.func182, w4v⟩, ?_⟩
  refine List.forall_mem_cons.2 ⟨⟨Tryz.f193, ⟨mf, false, false⟩, Tryz.func193, w40⟩, ?_⟩
  refine List.forall_mem_cons.2 ⟨⟨Tryz.f194, ⟨mf, false, false⟩, Tryz.func194, w3k⟩, ?_⟩
  refine List.forall_mem_cons.2 ⟨⟨Tryz.f148, ⟨mf, false, false⟩, Tryz.func148, w3z⟩, ?_⟩
  refine List.forall_mem_cons.2 ⟨⟨Tryz.f88, ⟨mf, false, false⟩, Tryz.func88, w35⟩, ?_⟩
  refine List.forall_mem_cons.2 ⟨⟨Tryz.f47, ⟨mf, false, false⟩, Tryz.func47, w3w⟩, ?_⟩
  refine List.forall_mem_cons.2 ⟨⟨Tryz.f121, ⟨mf, false, false⟩, Tryz.func121, w44⟩, ?_⟩
  refine List.forall_mem_cons.2 ⟨⟨Tryz.f62, ⟨mf, false, false⟩, Tryz.func62, w46⟩, ?_⟩
  refine List.forall_mem_cons.2 ⟨⟨Tryz.f183, ⟨mf, false, false⟩, Tryz.func183, w3u⟩, ?_⟩
  refine List.forall_mem_cons.2 ⟨⟨Tryz.f130, ⟨mf, false, false⟩, Tryz.func130, w3t⟩, ?_⟩
  refine List.forall_mem_cons.2 ⟨⟨Tryz.f119, ⟨mf, false, false⟩, Tryz.func119, w3o⟩, ?_⟩
  refine List.forall_mem_cons.2 ⟨⟨Tryz.f120, ⟨mf, false, false⟩, Tryz.func120, w3r⟩, ?_⟩
  refine List.forall_mem_cons.2 ⟨⟨Tryz.f171, ⟨mf, false, false⟩, Tryz.func171, w4y⟩, ?_⟩
  refine List.forall_mem_cons.2 ⟨⟨Tryz.f170, ⟨mf, false, false⟩, Tryz.func170, w3b⟩, ?_⟩
  refine List.forall_mem_cons.2 ⟨⟨Tryz.f114, ⟨mf, false, false⟩, Tryz.func114, w52⟩, ?_⟩
  refine List.forall_mem_cons.2 ⟨⟨Tryz.f111, ⟨mf, false, false⟩, Tryz.func111, w3a⟩, ?_⟩
  refine List.forall_mem_cons.2 ⟨⟨Tryz.f61, ⟨mf, false, false⟩, Tryz.func61, w3q⟩, ?_⟩
  refine List.forall_mem_cons.2 ⟨⟨Tryz.f110, ⟨mf, false, false⟩, Tryz.func110, w3p⟩, ?_⟩
  refine List.forall_mem_cons.2 ⟨⟨Tryz.f112, ⟨mf, true, true⟩, Tryz.func112, w3c⟩, ?_⟩
  refine List.forall_mem_cons.2 ⟨⟨Tryz.f113, ⟨mf, false, false⟩, Tryz.func113, w53⟩, ?_⟩
  refine List.forall_mem_cons.2 ⟨⟨Tryz.f172, ⟨mf, false, false⟩, Tryz.func172, w3n⟩, ?_⟩
  refine List.forall_mem_cons.2 ⟨⟨Tryz.f116, ⟨mf, false, false⟩, Tryz.func116, w3v⟩, ?_⟩
  refine List.forall_mem_cons.2 ⟨⟨Tryz.f115, ⟨mf, false, false⟩, Tryz.func115, w3m⟩, ?_⟩
  refine List.forall_mem_cons.2 ⟨⟨Tryz.f174, ⟨mf, false, false⟩, Tryz.func174, w3e⟩, ?_⟩
  refine List.forall_mem_cons.2 ⟨⟨Tryz.f173, ⟨mf, false, false⟩, Tryz.func173, w4z⟩, ?_⟩
  refine List.forall_mem_cons.2 ⟨⟨Tryz.f175, ⟨mf, false, false⟩, Tryz.func175, w55⟩, ?_⟩
  refine List.forall_mem_cons.2 ⟨⟨Tryz.f117, ⟨mf, false, false⟩, Tryz.func117, w3d⟩, ?_⟩
  refine List.forall_mem_cons.2 ⟨⟨Tryz.f177, ⟨mf, false, false⟩, Tryz.func177, w39⟩, ?_⟩
  refine List.forall_mem_cons.2 ⟨⟨Tryz.f176, ⟨mf, false, false⟩, Tryz.func176, w4t⟩, ?_⟩
  refine List.forall_mem_cons.2 ⟨⟨Tryz.f118, ⟨mf, false, false⟩, Tryz.func118, w38⟩, ?_⟩
  refine List.forall_mem_cons.2 ⟨⟨Tryz.f60, ⟨mf, false, false⟩, Tryz.func60, w3l⟩, ?_⟩
  refine List.forall_mem_cons.2 ⟨⟨Tryz.f63, ⟨mf, false, false⟩, Tryz.func63, w4w⟩, ?_⟩
  refine List.forall_mem_cons.2 ⟨⟨Tryz.f100, ⟨mf, false, false⟩, Tryz.func100, w3g⟩, ?_⟩
  refine List.forall_mem_cons.2 ⟨⟨Tryz.f49, ⟨mf, false, false⟩, Tryz.func49, w3f⟩, ?_⟩
  refine List.forall_mem_cons.2 ⟨⟨Tryz.f10, ⟨mf, false, false⟩, Tryz.func10, w34⟩, ?_⟩
  refine List.forall_mem_cons.2 ⟨⟨Tryz.f50, ⟨mf, false, false⟩, Tryz.func50, w4a⟩, ?_⟩
  refine List.forall_mem_cons.2 ⟨⟨Tryz.f11, ⟨mf, false, false⟩, Tryz.func11, w4e⟩, ?_⟩
  refine List.forall_mem_cons.2 ⟨⟨Tryz.f101, ⟨mf, false, false⟩, Tryz.func101, w4c⟩, ?_⟩
  refine List.forall_mem_cons.2 ⟨⟨Tryz.f51, ⟨mf, false, false⟩, Tryz.func51, w4d⟩, ?_⟩
  refine List.forall_mem_cons.2 ⟨⟨Tryz.f12, ⟨mf, false, false⟩, Tryz.func12, w4b⟩, ?_⟩
  refine List.forall_mem_cons.2 ⟨⟨Tryz.f53, ⟨mf, true, false⟩, Tryz.func53, w4h⟩, ?_⟩
  refine List.forall_mem_cons.2 ⟨⟨Tryz.f52, ⟨mf, true, false⟩, Tryz.func52, w4j⟩, ?_⟩
  refine List.forall_mem_cons.2 ⟨⟨Tryz.f13, ⟨mf, true, false⟩, Tryz.func13, w4i⟩, ?_⟩
  refine List.forall_mem_cons.2 ⟨⟨Tryz.f14, ⟨mf, true, false⟩, Tryz.func14, w4k⟩, ?_⟩
  refine List.forall_mem_cons.2 ⟨⟨Tryz.f54, ⟨mf, false, false⟩, Tryz.func54, w4f⟩, ?_⟩
  refine List.forall_mem_cons.2 ⟨⟨Tryz.f15, ⟨mf, false, false⟩, Tryz.func15, w4g⟩, ?_⟩
  refine List.forall_mem_cons.2 ⟨⟨Tryz.f3, ⟨mf, false, false⟩, Tryz.func3, w49⟩, ?_⟩
  exact fun _ h => (by cases h)
theorem hF (f : FuncId) (i : IFun) (h : F f = some i) : ∃ (fn : Func) (m : Md), Tryz.prog.funcs[f]? = some fn ∧ za5 Tryz.prog m fn = some i := by
  unfold F at h
  simp only [Option.map_eq_some_iff] at h
  obtain ⟨p, hp, rfl⟩ := h
  have h1 := List.mem_of_find?_eq_some hp
  have h2 := List.find?_some hp
  have h3 : p.1 = f := by simpa using h2
  subst h3
  exact tblOk p h1
theorem w6b : ∀ p ∈ exts, ExtOk Tryz.prog p.1 p.2 := by
  unfold exts
  refine List.forall_mem_cons.2 ⟨zd8 (mf := ⟨mf, false, false⟩) (Checked.mixed Tryz.checked) Tryz.func91 (show za5 Tryz.prog ⟨mf, false, false⟩ Tryz.f91 = some (zk4 t_int true 1) by kernel_rfl), ?_⟩
  exact fun _ h => (by cases h)
theorem hE (f : FuncId) (e : List PV → Option PV) (h : ext f = some e) : ExtOk Tryz.prog f e := by
  unfold ext at h
  simp only [Option.map_eq_some_iff] at h
  obtain ⟨p, hp, rfl⟩ := h
  have h1 := List.mem_of_find?_eq_some hp
  have h2 := List.find?_some hp
  have h3 : p.1 = f := by simpa using h2
  subst h3
  exact w6b p h1
end Go.Proofs.YtkkifebmicbbaaaGreat.Pi
