/- The forms are those of the program. No condition. -/
import Derived.Test.YtkkifebmicbbaaaGreatChecked
import Derived.Test.YtkkifebmicbbaaaGreatIrFnAdmitted
import Derived.Test.YtkkifebmicbbaaaGreatPiTop
import Derived.Test.YtkkifebmicbbaaaGreatPiDz
import Derived.KernelRfl
namespace Go.Proofs.YtkkifebmicbbaaaGreat.Pi
open Go
set_option linter.all false
def mf (f : FuncId) : Bool := [167, 103, 166, 102, 104, 105, 106, 107, 55, 56, 175].contains f
theorem w4e : zaa Tryz.prog ⟨mf, false, false⟩ Tryz.f16 = some wc4 := by kernel_rfl
theorem w5c : zaa Tryz.prog ⟨mf, false, false⟩ Tryz.f167 = some wd2 := by kernel_rfl
theorem w5e : zaa Tryz.prog ⟨mf, false, false⟩ Tryz.f103 = some wd4 := by kernel_rfl
theorem w5i : zaa Tryz.prog ⟨mf, false, false⟩ Tryz.f166 = some wd8 := by kernel_rfl
theorem w5g : zaa Tryz.prog ⟨mf, false, false⟩ Tryz.f102 = some wd6 := by kernel_rfl
theorem w5n : zaa Tryz.prog ⟨mf, false, false⟩ Tryz.f104 = some wdd := by kernel_rfl
theorem w5f : zaa Tryz.prog ⟨mf, false, false⟩ Tryz.f105 = some wd5 := by kernel_rfl
theorem w5d : zaa Tryz.prog ⟨mf, false, false⟩ Tryz.f106 = some wd3 := by kernel_rfl
theorem w5a : zaa Tryz.prog ⟨mf, false, false⟩ Tryz.f107 = some wd0 := by kernel_rfl
theorem w5h : zaa Tryz.prog ⟨mf, false, false⟩ Tryz.f55 = some wd7 := by kernel_rfl
theorem w5b : zaa Tryz.prog ⟨mf, false, false⟩ Tryz.f56 = some wd1 := by kernel_rfl
theorem w4w : zaa Tryz.prog ⟨mf, false, false⟩ Tryz.f17 = some wcm := by kernel_rfl
theorem w4c : zaa Tryz.prog ⟨mf, false, false⟩ Tryz.f48 = some wc2 := by kernel_rfl
theorem w3v : zaa Tryz.prog ⟨mf, false, false⟩ Tryz.f165 = some wbl := by kernel_rfl
theorem w3k : zaa Tryz.prog ⟨mf, false, false⟩ Tryz.f65 = some wba := by kernel_rfl
theorem w3l : zaa Tryz.prog ⟨mf, false, false⟩ Tryz.f164 = some wbb := by kernel_rfl
theorem w4s : zaa Tryz.prog ⟨mf, false, false⟩ Tryz.f192 = some wci := by kernel_rfl
theorem w4l : zaa Tryz.prog ⟨mf, false, false⟩ Tryz.f147 = some wcb := by kernel_rfl
theorem w41 : zaa Tryz.prog ⟨mf, false, false⟩ Tryz.f99 = some wbr := by kernel_rfl
theorem w42 : zaa Tryz.prog ⟨mf, false, false⟩ Tryz.f108 = some wbs := by kernel_rfl
theorem w47 : zaa Tryz.prog ⟨mf, false, false⟩ Tryz.f168 = some wbx := by kernel_rfl
theorem w46 : zaa Tryz.prog ⟨mf, false, false⟩ Tryz.f169 = some wbw := by kernel_rfl
theorem w4b : zaa Tryz.prog ⟨mf, false, false⟩ Tryz.f109 = some wc1 := by kernel_rfl
theorem w49 : zaa Tryz.prog ⟨mf, false, false⟩ Tryz.f58 = some wbz := by kernel_rfl
theorem w3m : zaa Tryz.prog ⟨mf, false, false⟩ Tryz.f191 = some wbc := by kernel_rfl
theorem w37 : zaa Tryz.prog ⟨mf, false, false⟩ Tryz.f190 = some waw := by kernel_rfl
theorem w4o : zaa Tryz.prog ⟨mf, false, false⟩ Tryz.f219 = some wce := by kernel_rfl
theorem w4i : zaa Tryz.prog ⟨mf, false, false⟩ Tryz.f189 = some wc8 := by kernel_rfl
theorem w36 : zaa Tryz.prog ⟨mf, false, false⟩ Tryz.f146 = some wav := by kernel_rfl
theorem w45 : zaa Tryz.prog ⟨mf, false, false⟩ Tryz.f220 = some wbv := by kernel_rfl
theorem w4p : zaa Tryz.prog ⟨mf, false, false⟩ Tryz.f206 = some wcf := by kernel_rfl
theorem w4j : zaa Tryz.prog ⟨mf, false, false⟩ Tryz.f182 = some wc9 := by kernel_rfl
theorem w44 : zaa Tryz.prog ⟨mf, false, false⟩ Tryz.f193 = some wbu := by kernel_rfl
theorem w3n : zaa Tryz.prog ⟨mf, false, false⟩ Tryz.f194 = some wbd := by kernel_rfl
theorem w43 : zaa Tryz.prog ⟨mf, false, false⟩ Tryz.f148 = some wbt := by kernel_rfl
theorem w35 : zaa Tryz.prog ⟨mf, false, false⟩ Tryz.f88 = some wau := by kernel_rfl
theorem w40 : zaa Tryz.prog ⟨mf, false, false⟩ Tryz.f47 = some wbq := by kernel_rfl
theorem w48 : zaa Tryz.prog ⟨mf, false, false⟩ Tryz.f121 = some wby := by kernel_rfl
theorem w4a : zaa Tryz.prog ⟨mf, false, false⟩ Tryz.f62 = some wc0 := by kernel_rfl
theorem w3y : zaa Tryz.prog ⟨mf, false, false⟩ Tryz.f183 = some wbo := by kernel_rfl
theorem w3x : zaa Tryz.prog ⟨mf, false, false⟩ Tryz.f130 = some wbn := by kernel_rfl
theorem w3r : zaa Tryz.prog ⟨mf, false, false⟩ Tryz.f119 = some wbh := by kernel_rfl
theorem w3u : zaa Tryz.prog ⟨mf, false, false⟩ Tryz.f120 = some wbk := by kernel_rfl
theorem w4m : zaa Tryz.prog ⟨mf, false, false⟩ Tryz.f171 = some wcc := by kernel_rfl
theorem w3d : zaa Tryz.prog ⟨mf, false, false⟩ Tryz.f170 = some wb3 := by kernel_rfl
theorem w4q : zaa Tryz.prog ⟨mf, false, false⟩ Tryz.f114 = some wcg := by kernel_rfl
theorem w3c : zaa Tryz.prog ⟨mf, false, false⟩ Tryz.f111 = some wb2 := by kernel_rfl
theorem w3t : zaa Tryz.prog ⟨mf, false, false⟩ Tryz.f61 = some wbj := by kernel_rfl
theorem w3s : zaa Tryz.prog ⟨mf, false, false⟩ Tryz.f110 = some wbi := by kernel_rfl
theorem w3e : zaa Tryz.prog ⟨mf, true, true⟩ Tryz.f112 = some wb4 := by kernel_rfl
theorem w4r : zaa Tryz.prog ⟨mf, false, false⟩ Tryz.f113 = some wch := by kernel_rfl
theorem w3q : zaa Tryz.prog ⟨mf, false, false⟩ Tryz.f172 = some wbg := by kernel_rfl
theorem w3z : zaa Tryz.prog ⟨mf, false, false⟩ Tryz.f116 = some wbp := by kernel_rfl
theorem w3p : zaa Tryz.prog ⟨mf, false, false⟩ Tryz.f115 = some wbf := by kernel_rfl
theorem w3g : zaa Tryz.prog ⟨mf, false, false⟩ Tryz.f174 = some wb6 := by kernel_rfl
theorem w4n : zaa Tryz.prog ⟨mf, false, false⟩ Tryz.f173 = some wcd := by kernel_rfl
theorem w4t : zaa Tryz.prog ⟨mf, false, false⟩ Tryz.f175 = some wcj := by kernel_rfl
theorem w3f : zaa Tryz.prog ⟨mf, false, false⟩ Tryz.f117 = some wb5 := by kernel_rfl
theorem w3b : zaa Tryz.prog ⟨mf, false, false⟩ Tryz.f177 = some wb1 := by kernel_rfl
theorem w4h : zaa Tryz.prog ⟨mf, false, false⟩ Tryz.f176 = some wc7 := by kernel_rfl
theorem w3a : zaa Tryz.prog ⟨mf, false, false⟩ Tryz.f118 = some wb0 := by kernel_rfl
theorem w3o : zaa Tryz.prog ⟨mf, false, false⟩ Tryz.f60 = some wbe := by kernel_rfl
theorem w4k : zaa Tryz.prog ⟨mf, false, false⟩ Tryz.f63 = some wca := by kernel_rfl
theorem w3j : zaa Tryz.prog ⟨mf, false, false⟩ Tryz.f100 = some wb9 := by kernel_rfl
theorem w3i : zaa Tryz.prog ⟨mf, false, false⟩ Tryz.f49 = some wb8 := by kernel_rfl
theorem w33 : zaa Tryz.prog ⟨mf, false, false⟩ Tryz.f10 = some war := by kernel_rfl
theorem w5k : zaa Tryz.prog ⟨mf, false, false⟩ Tryz.f44 = some wda := by kernel_rfl
theorem w5j : zaa Tryz.prog ⟨mf, false, false⟩ Tryz.f157 = some wd9 := by kernel_rfl
theorem w5o : zaa Tryz.prog ⟨mf, false, false⟩ Tryz.f158 = some wde := by kernel_rfl
theorem w57 : zaa Tryz.prog ⟨mf, false, false⟩ Tryz.f94 = some wcx := by kernel_rfl
theorem w5l : zaa Tryz.prog ⟨mf, false, false⟩ Tryz.f86 = some wdb := by kernel_rfl
theorem w5q : zaa Tryz.prog ⟨mf, false, false⟩ Tryz.f201 = some wdg := by kernel_rfl
theorem w56 : zaa Tryz.prog ⟨mf, false, false⟩ Tryz.f159 = some wcw := by kernel_rfl
theorem w55 : zaa Tryz.prog ⟨mf, false, false⟩ Tryz.f160 = some wcv := by kernel_rfl
theorem w54 : zaa Tryz.prog ⟨mf, false, false⟩ Tryz.f95 = some wcu := by kernel_rfl
theorem w5m : zaa Tryz.prog ⟨mf, false, false⟩ Tryz.f184 = some wdc := by kernel_rfl
theorem w4z : zaa Tryz.prog ⟨mf, false, false⟩ Tryz.f202 = some wcp := by kernel_rfl
theorem w5w : zaa Tryz.prog ⟨mf, false, false⟩ Tryz.f203 = some wdm := by kernel_rfl
theorem w5u : zaa Tryz.prog ⟨mf, false, false⟩ Tryz.f204 = some wdk := by kernel_rfl
theorem w5v : zaa Tryz.prog ⟨mf, false, false⟩ Tryz.f205 = some wdl := by kernel_rfl
theorem w52 : zaa Tryz.prog ⟨mf, false, false⟩ Tryz.f161 = some wcs := by kernel_rfl
theorem w4x : zaa Tryz.prog ⟨mf, false, false⟩ Tryz.f96 = some wcn := by kernel_rfl
theorem w50 : zaa Tryz.prog ⟨mf, false, false⟩ Tryz.f43 = some wcq := by kernel_rfl
theorem w63 : zaa Tryz.prog ⟨mf, false, false⟩ Tryz.f78 = some wdt := by kernel_rfl
theorem w5x : zaa Tryz.prog ⟨mf, false, false⟩ Tryz.f76 = some wdn := by kernel_rfl
theorem w65 : zaa Tryz.prog ⟨mf, false, false⟩ Tryz.f79 = some wdv := by kernel_rfl
theorem w5r : zaa Tryz.prog ⟨mf, false, false⟩ Tryz.f180 = some wdh := by kernel_rfl
theorem w5s : zaa Tryz.prog ⟨mf, false, false⟩ Tryz.f133 = some wdi := by kernel_rfl
theorem w5t : zaa Tryz.prog ⟨mf, false, false⟩ Tryz.f134 = some wdj := by kernel_rfl
theorem w58 : zaa Tryz.prog ⟨mf, false, false⟩ Tryz.f162 = some wcy := by kernel_rfl
theorem w4y : zaa Tryz.prog ⟨mf, false, false⟩ Tryz.f135 = some wco := by kernel_rfl
theorem w5p : zaa Tryz.prog ⟨mf, false, false⟩ Tryz.f139 = some wdf := by kernel_rfl
theorem w60 : zaa Tryz.prog ⟨mf, false, false⟩ Tryz.f84 = some wdq := by kernel_rfl
theorem w5z : zaa Tryz.prog ⟨mf, false, false⟩ Tryz.f80 = some wdp := by kernel_rfl
theorem w61 : zaa Tryz.prog ⟨mf, false, false⟩ Tryz.f136 = some wdr := by kernel_rfl
theorem w62 : zaa Tryz.prog ⟨mf, false, true⟩ Tryz.f137 = some wds := by kernel_rfl
theorem w59 : zaa Tryz.prog ⟨mf, false, false⟩ Tryz.f138 = some wcz := by kernel_rfl
theorem w5y : zaa Tryz.prog ⟨mf, false, false⟩ Tryz.f140 = some wdo := by kernel_rfl
theorem w64 : zaa Tryz.prog ⟨mf, false, false⟩ Tryz.f81 = some wdu := by kernel_rfl
theorem w4v : zaa Tryz.prog ⟨mf, false, false⟩ Tryz.f34 = some wcl := by kernel_rfl
theorem w51 : zaa Tryz.prog ⟨mf, false, false⟩ Tryz.f97 = some wcr := by kernel_rfl
theorem w53 : zaa Tryz.prog ⟨mf, false, false⟩ Tryz.f45 = some wct := by kernel_rfl
theorem w4u : zaa Tryz.prog ⟨mf, false, false⟩ Tryz.f8 = some wck := by kernel_rfl
theorem w4f : zaa Tryz.prog ⟨mf, false, false⟩ Tryz.f57 = some wc5 := by kernel_rfl
theorem w4g : zaa Tryz.prog ⟨mf, false, false⟩ Tryz.f18 = some wc6 := by kernel_rfl
theorem w3h : zaa Tryz.prog ⟨mf, false, false⟩ Tryz.f19 = some wb7 := by kernel_rfl
theorem w3w : zaa Tryz.prog ⟨mf, false, false⟩ Tryz.f59 = some wbm := by kernel_rfl
theorem w34 : zaa Tryz.prog ⟨mf, false, false⟩ Tryz.f20 = some wat := by kernel_rfl
theorem w39 : zaa Tryz.prog ⟨mf, false, false⟩ Tryz.f64 = some waz := by kernel_rfl
theorem w38 : zaa Tryz.prog ⟨mf, false, false⟩ Tryz.f21 = some wax := by kernel_rfl
theorem w4d : zaa Tryz.prog ⟨mf, false, false⟩ Tryz.f4 = some wc3 := by kernel_rfl
theorem tblOk : ∀ p ∈ tbl, ∃ (fn : Func) (m : Md), Tryz.prog.funcs[p.1]? = some fn ∧ zaa Tryz.prog m fn = some p.2 := by
  unfold tbl
  refine List.forall_mem_cons.2 ⟨⟨Tryz.f16, ⟨mf, false, false⟩, Tryz.func16, w4e⟩, ?_⟩
  refine List.forall_mem_cons.2 ⟨⟨Tryz.f167, ⟨mf, false, false⟩, Tryz.func167, w5c⟩, ?_⟩
  refine List.forall_mem_cons.2 ⟨⟨Tryz.f103, ⟨mf, false, false⟩, Tryz.func103, w5e⟩, ?_⟩
  refine List.forall_mem_cons.2 ⟨⟨Tryz.f166, ⟨mf, false, false⟩, Tryz.func166, w5i⟩, ?_⟩
  refine List.forall_mem_cons.2 ⟨⟨Tryz.f102, ⟨mf, false, false⟩, Tryz.func102, w5g⟩, ?_⟩
  refine List.forall_mem_cons.2 ⟨⟨Tryz.f104, ⟨mf, false, false⟩, Tryz.func104, w5n⟩, ?_⟩
  refine List.forall_mem_cons.2 ⟨⟨Tryz.f105, ⟨mf, false, false⟩, Tryz.func105, w5f⟩, ?_⟩
  refine List.forall_mem_cons.2 ⟨⟨Tryz.f106, ⟨mf, false, false⟩, Tryz.func106, w5d⟩, ?_⟩
  refine List.forall_mem_cons.2 ⟨⟨Tryz.f107, ⟨mf, false, false⟩, Tryz.func107, w5a⟩, ?_⟩
  refine List.forall_mem_cons.2 ⟨⟨Tryz.f55, ⟨mf, false, false⟩, Tryz.func55, w5h⟩, ?_⟩
  refine List.forall_mem_cons.2 ⟨⟨Tryz.f56, ⟨mf, false, false⟩, Tryz.func56, w5b⟩, ?_⟩
  refine List.forall_mem_cons.2 ⟨⟨Tryz.f17, ⟨mf, false, false⟩, Tryz.func17, w4w⟩, ?_⟩
  refine List.forall_mem_cons.2 ⟨⟨Tryz.f48, ⟨mf, false, false⟩, Tryz.func48, w4c⟩, ?_⟩
  refine List.forall_mem_cons.2 ⟨⟨Tryz.f165, ⟨mf, false, false⟩, Tryz.func165, w3v⟩, ?_⟩
  refine List.forall_mem_cons.2 ⟨⟨Tryz.f65, ⟨mf, false, false⟩, Tryz.func65, w3k⟩, ?_⟩
  refine List.forall_mem_cons.2 ⟨⟨Tryz.f164, ⟨mf, false, false⟩, Tryz.func164, w3l⟩, ?_⟩
  refine List.forall_mem_cons.2 ⟨⟨Tryz.f192, ⟨mf, false, false⟩, Tryz.func192, w4s⟩, ?_⟩
  refine List.forall_mem_cons.2 ⟨⟨Tryz.f147, ⟨mf, false, false⟩, Tryz.func147, w4l⟩, ?_⟩
  refine List.forall_mem_cons.2 ⟨⟨Tryz.f99, ⟨mf, false, false⟩, Tryz.func99, w41⟩, ?_⟩
  refine List.forall_mem_cons.2 ⟨⟨Tryz.f108, ⟨mf, false, false⟩, Tryz.func108, w42⟩, ?_⟩
  refine List.forall_mem_cons.2 ⟨⟨Tryz.f168, ⟨mf, false, false⟩, Tryz.func168, w47⟩, ?_⟩
  refine List.forall_mem_cons.2 ⟨⟨Tryz.f169, ⟨mf, false, false⟩, Tryz.func169, w46⟩, ?_⟩
  refine List.forall_mem_cons.2 ⟨⟨Tryz.f109, ⟨mf, false, false⟩, Tryz.func109, w4b⟩, ?_⟩
  refine List.forall_mem_cons.2 ⟨⟨Tryz.f58, ⟨mf, false, false⟩, Tryz.func58, w49⟩, ?_⟩
  refine List.forall_mem_cons.2 ⟨⟨Tryz.f191, ⟨mf, false, false⟩, Tryz.func191, w3m⟩, ?_⟩
  refine List.forall_mem_cons.2 ⟨⟨Tryz.f190, ⟨mf, false, false⟩, Tryz.func190, w37⟩, ?_⟩
  refine List.forall_mem_cons.2 ⟨⟨Tryz.f219, ⟨mf, false, false⟩, Tryz.func219, w4o⟩, ?_⟩
  refine List.forall_mem_cons.2 ⟨⟨Tryz.f189, ⟨mf, false, false⟩, Tryz.func189, w4i⟩, ?_⟩
  refine List.forall_mem_cons.2 ⟨⟨Tryz.f146, ⟨mf, false, false⟩, Tryz.func146, w36⟩, ?_⟩
  refine List.forall_mem_cons.2 ⟨⟨Tryz.f220, ⟨mf, false, false⟩, Tryz.func220, w45⟩, ?_⟩
  refine List.forall_mem_cons.2 ⟨⟨Tryz.f206, ⟨mf, false, false⟩, Tryz.func206, w4p⟩, ?_⟩
  refine List.forall_mem_cons.2 ⟨⟨Tryz.f182, ⟨mf, false, false⟩, Tryz.func182, w4j⟩, ?_⟩
  refine List.forall_mem_cons.2 ⟨⟨Tryz.f193, ⟨mf, false, false⟩, Tryz.func193, w44⟩, ?_⟩
  refine List.forall_mem_cons.2 ⟨⟨Tryz.f194, ⟨mf, false, false⟩, Tryz.func194, w3n⟩, ?_⟩
  refine List.forall_mem_cons.2 ⟨⟨Tryz.f148, ⟨mf, false, false⟩, Tryz.func148, w43⟩, ?_⟩
  refine List.forall_mem_cons.2 ⟨⟨Tryz.f88, ⟨mf, false, false⟩, Tryz.func88, w35⟩, ?_⟩
  refine List.forall_mem_cons.2 ⟨⟨Tryz.f47, ⟨mf, false, false⟩, Tryz.func47, w40⟩, ?_⟩
  refine List.forall_mem_cons.2 ⟨⟨Tryz.f121, ⟨mf, false, false⟩, Tryz.func121, w48⟩, ?_⟩
  refine List.forall_mem_cons.2 ⟨⟨Tryz.f62, ⟨mf, false, false⟩, Tryz.func62, w4a⟩, ?_⟩
  refine List.forall_mem_cons.2 ⟨⟨Tryz.f183, ⟨mf, false, false⟩, Tryz.func183, w3y⟩, ?_⟩
  refine List.forall_mem_cons.2 ⟨⟨Tryz.f130, ⟨mf, false, false⟩, Tryz.func130, w3x⟩, ?_⟩
  refine List.forall_mem_cons.2 ⟨⟨Tryz.f119, ⟨mf, false, false⟩, Tryz.func119, w3r⟩, ?_⟩
  refine List.forall_mem_cons.2 ⟨⟨Tryz.f120, ⟨mf, false, false⟩, Tryz.func120, w3u⟩, ?_⟩
  refine List.forall_mem_cons.2 ⟨⟨Tryz.f171, ⟨mf, false, false⟩, Tryz.func171, w4m⟩, ?_⟩
  refine List.forall_mem_cons.2 ⟨⟨Tryz.f170, ⟨mf, false, false⟩, Tryz.func170, w3d⟩, ?_⟩
  refine List.forall_mem_cons.2 ⟨⟨Tryz.f114, ⟨mf, false, false⟩, Tryz.func114, w4q⟩, ?_⟩
  refine List.forall_mem_cons.2 ⟨⟨Tryz.f111, ⟨mf, false, false⟩, Tryz.func111, w3c⟩, ?_⟩
  refine List.forall_mem_cons.2 ⟨⟨Tryz.f61, ⟨mf, false, false⟩, Tryz.func61, w3t⟩, ?_⟩
  refine List.forall_mem_cons.2 ⟨⟨Tryz.f110, ⟨mf, false, false⟩, Tryz.func110, w3s⟩, ?_⟩
  refine List.forall_mem_cons.2 ⟨⟨Tryz.f112, ⟨mf, true, true⟩, Tryz.func112, w3e⟩, ?_⟩
  refine List.forall_mem_cons.2 ⟨⟨Tryz.f113, ⟨mf, false, false⟩, Tryz.func113, w4r⟩, ?_⟩
  refine List.forall_mem_cons.2 ⟨⟨Tryz.f172, ⟨mf, false, false⟩, Tryz.func172, w3q⟩, ?_⟩
  refine List.forall_mem_cons.2 ⟨⟨Tryz.f116, ⟨mf, false, false⟩, Tryz.func116, w3z⟩, ?_⟩
  refine List.forall_mem_cons.2 ⟨⟨Tryz.f115, ⟨mf, false, false⟩, Tryz.func115, w3p⟩, ?_⟩
  refine List.forall_mem_cons.2 ⟨⟨Tryz.f174, ⟨mf, false, false⟩, Tryz.func174, w3g⟩, ?_⟩
  refine List.forall_mem_cons.2 ⟨⟨Tryz.f173, ⟨mf, false, false⟩, Tryz.func173, w4n⟩, ?_⟩
  refine List.forall_mem_cons.2 ⟨⟨Tryz.f175, ⟨mf, false, false⟩, Tryz.func175, w4t⟩, ?_⟩
  refine List.forall_mem_cons.2 ⟨⟨Tryz.f117, ⟨mf, false, false⟩, Tryz.func117, w3f⟩, ?_⟩
  refine List.forall_mem_cons.2 ⟨⟨Tryz.f177, ⟨mf, false, false⟩, Tryz.func177, w3b⟩, ?_⟩
  refine List.forall_mem_cons.2 ⟨⟨Tryz.f176, ⟨mf, false, false⟩, Tryz.func176, w4h⟩, ?_⟩
  refine List.forall_mem_cons.2 ⟨⟨Tryz.f118, ⟨mf, false, false⟩, Tryz.func118, w3a⟩, ?_⟩
  refine List.forall_mem_cons.2 ⟨⟨Tryz.f60, ⟨mf, false, false⟩, Tryz.func60, w3o⟩, ?_⟩
  refine List.forall_mem_cons.2 ⟨⟨Tryz.f63, ⟨mf, false, false⟩, Tryz.func63, w4k⟩, ?_⟩
  refine List.forall_mem_cons.2 ⟨⟨Tryz.f100, ⟨mf, false, false⟩, Tryz.func100, w3j⟩, ?_⟩
  refine List.forall_mem_cons.2 ⟨⟨Tryz.f49, ⟨mf, false, false⟩, Tryz.func49, w3i⟩, ?_⟩
  refine List.forall_mem_cons.2 ⟨⟨Tryz.f10, ⟨mf, false, false⟩, Tryz.func10, w33⟩, ?_⟩
  refine List.forall_mem_cons.2 ⟨⟨Tryz.f44, ⟨mf, false, false⟩, Tryz.func44, w5k⟩, ?_⟩
  refine List.forall_mem_cons.2 ⟨⟨Tryz.f157, ⟨mf, false, false⟩, Tryz.func157, w5j⟩, ?_⟩
  refine List.forall_mem_cons.2 ⟨⟨Tryz.f158, ⟨mf, false, false⟩, Tryz.func158, w5o⟩, ?_⟩
  refine List.forall_mem_cons.2 ⟨⟨Tryz.f94, ⟨mf, false, false⟩, Tryz.func94, w57⟩, ?_⟩
  refine List.forall_mem_cons.2 ⟨⟨Tryz.f86, ⟨mf, false, false⟩, Tryz.func86, w5l⟩, ?_⟩
  refine List.forall_mem_cons.2 ⟨⟨Tryz.f201, ⟨mf, false, false⟩, Tryz.func201, w5q⟩, ?_⟩
  refine List.forall_mem_cons.2 ⟨⟨Tryz.f159, ⟨mf, false, false⟩, Tryz.func159, w56⟩, ?_⟩
  refine List.forall_mem_cons.2 ⟨⟨Tryz.f160, ⟨mf, false, false⟩, Tryz.func160, w55⟩, ?_⟩
  refine List.forall_mem_cons.2 ⟨⟨Tryz.f95, ⟨mf, false, false⟩, Tryz.func95, w54⟩, ?_⟩
  refine List.forall_mem_cons.2 ⟨⟨Tryz.f184, ⟨mf, false, false⟩, Tryz.func184, w5m⟩, ?_⟩
  refine List.forall_mem_cons.2 ⟨⟨Tryz.f202, ⟨mf, false, false⟩, Tryz.func202, w4z⟩, ?_⟩
  refine List.forall_mem_cons.2 ⟨⟨Tryz.f203, ⟨mf, false, false⟩, Tryz.func203, w5w⟩, ?_⟩
  refine List.forall_mem_cons.2 ⟨⟨Tryz.f204, ⟨mf, false, false⟩, Tryz.func204, w5u⟩, ?_⟩
  refine List.forall_mem_cons.2 ⟨⟨Tryz.f205, ⟨mf, false, false⟩, Tryz.func205, w5v⟩, ?_⟩
  refine List.forall_mem_cons.2 ⟨⟨Tryz.f161, ⟨mf, false, false⟩, Tryz.func161, w52⟩, ?_⟩
  refine List.forall_mem_cons.2 ⟨⟨Tryz.f96, ⟨mf, false, false⟩, Tryz.func96, w4x⟩, ?_⟩
  refine List.forall_mem_cons.2 ⟨⟨Tryz.f43, ⟨mf, false, false⟩, Tryz.func43, w50⟩, ?_⟩
  refine List.forall_mem_cons.2 ⟨⟨Tryz.f78, ⟨mf, false, false⟩, Tryz.func78, w63⟩, ?_⟩
  refine List.forall_mem_cons.2 ⟨⟨Tryz.f76, ⟨mf, false, false⟩, Tryz.func76, w5x⟩, ?_⟩
  refine List.forall_mem_cons.2 ⟨⟨Tryz.f79, ⟨mf, false, false⟩, Tryz.func79, w65⟩, ?_⟩
  refine List.forall_mem_cons.2 ⟨⟨Tryz.f180, ⟨mf, false, false⟩, Tryz.func180, w5r⟩, ?_⟩
  refine List.forall_mem_cons.2 ⟨⟨Tryz.f133, ⟨mf, false, false⟩, Tryz.func133, w5s⟩, ?_⟩
  refine List.forall_mem_cons.2 ⟨⟨Tryz.f134, ⟨mf, false, false⟩, Tryz.func134, w5t⟩, ?_⟩
  refine List.forall_mem_cons.2 ⟨⟨Tryz.f162, ⟨mf, false, false⟩, Tryz.func162, w58⟩, ?_⟩
  refine List.forall_mem_cons.2 ⟨⟨Tryz.f135, ⟨mf, false, false⟩, Tryz.func135, w4y⟩, ?_⟩
  refine List.forall_mem_cons.2 ⟨⟨Tryz.f139, ⟨mf, false, false⟩, Tryz.func139, w5p⟩, ?_⟩
  refine List.forall_mem_cons.2 ⟨⟨Tryz.f84, ⟨mf, false, false⟩, Tryz.func84, w60⟩, ?_⟩
  refine List.forall_mem_cons.2 ⟨⟨Tryz.f80, ⟨mf, false, false⟩, Tryz.func80, w5z⟩, ?_⟩
  refine List.forall_mem_cons.2 ⟨⟨Tryz.f136, ⟨mf, false, false⟩, Tryz.func136, w61⟩, ?_⟩
  refine List.forall_mem_cons.2 ⟨⟨Tryz.f137, ⟨mf, false, true⟩, Tryz.func137, w62⟩, ?_⟩
  refine List.forall_mem_cons.2 ⟨⟨Tryz.f138, ⟨mf, false, false⟩, Tryz.func138, w59⟩, ?_⟩
  refine List.forall_mem_cons.2 ⟨⟨Tryz.f140, ⟨mf, false, false⟩, Tryz.func140, w5y⟩, ?_⟩
  refine List.forall_mem_cons.2 ⟨⟨Tryz.f81, ⟨mf, false, false⟩, Tryz.func81, w64⟩, ?_⟩
  refine List.forall_mem_cons.2 ⟨⟨Tryz.f34, ⟨mf, false, false⟩, Tryz.func34, w4v⟩, ?_⟩
  refine List.forall_mem_cons.2 ⟨⟨Tryz.f97, ⟨mf, false, false⟩, Tryz.func97, w51⟩, ?_⟩
  refine List.forall_mem_cons.2 ⟨⟨Tryz.f45, ⟨mf, false, false⟩, Tryz.func45, w53⟩, ?_⟩
  refine List.forall_mem_cons.2 ⟨⟨Tryz.f8, ⟨mf, false, false⟩, Tryz.func8, w4u⟩, ?_⟩
  refine List.forall_mem_cons.2 ⟨⟨Tryz.f57, ⟨mf, false, false⟩, Tryz.func57, w4f⟩, ?_⟩
  refine List.forall_mem_cons.2 ⟨⟨Tryz.f18, ⟨mf, false, false⟩, Tryz.func18, w4g⟩, ?_⟩
  refine List.forall_mem_cons.2 ⟨⟨Tryz.f19, ⟨mf, false, false⟩, Tryz.func19, w3h⟩, ?_⟩
  refine List.forall_mem_cons.2 ⟨⟨Tryz.f59, ⟨mf, false, false⟩, Tryz.func59, w3w⟩, ?_⟩
  refine List.forall_mem_cons.2 ⟨⟨Tryz.f20, ⟨mf, false, false⟩, Tryz.func20, w34⟩, ?_⟩
  refine List.forall_mem_cons.2 ⟨⟨Tryz.f64, ⟨mf, false, false⟩, Tryz.func64, w39⟩, ?_⟩
  refine List.forall_mem_cons.2 ⟨⟨Tryz.f21, ⟨mf, false, false⟩, Tryz.func21, w38⟩, ?_⟩
  refine List.forall_mem_cons.2 ⟨⟨Tryz.f4, ⟨mf, false, false⟩, Tryz.func4, w4d⟩, ?_⟩
  exact fun _ h => (by cases h)
theorem hF (f : FuncId) (i : IFun) (h : F f = some i) : ∃ (fn : Func) (m : Md), Tryz.prog.funcs[f]? = some fn ∧ zaa Tryz.prog m fn = some i := by
  unfold F at h
  simp only [Option.map_eq_some_iff] at h
  obtain ⟨p, hp, rfl⟩ := h
  have h1 := List.mem_of_find?_eq_some hp
  have h2 := List.find?_some hp
  have h3 : p.1 = f := by simpa using h2
  subst h3
  exact tblOk p h1
theorem w6b : ∀ p ∈ exts, ExtOk Tryz.prog p.1 p.2 := by
  unfold exts
  refine List.forall_mem_cons.2 ⟨zdf (mf := ⟨mf, false, false⟩) (Checked.mixed Tryz.checked) Tryz.func91 (show zaa Tryz.prog ⟨mf, false, false⟩ Tryz.f91 = some (zki t_int true 1) by kernel_rfl), ?_⟩
  exact fun _ h => (by cases h)
theorem hE (f : FuncId) (e : List PV → Option PV) (h : ext f = some e) : ExtOk Tryz.prog f e := by
  unfold ext at h
  simp only [Option.map_eq_some_iff] at h
  obtain ⟨p, hp, rfl⟩ := h
  have h1 := List.mem_of_find?_eq_some hp
  have h2 := List.find?_some hp
  have h3 : p.1 = f := by simpa using h2
  subst h3
  exact w6b p h1
end Go.Proofs.YtkkifebmicbbaaaGreat.Pi
