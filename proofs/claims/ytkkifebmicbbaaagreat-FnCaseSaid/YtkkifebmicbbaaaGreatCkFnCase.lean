/- The forms are those of the program. No condition. -/
import Derived.Test.YtkkifebmicbbaaaGreatChecked
import Derived.Test.YtkkifebmicbbaaaGreatIrFnCase
import Derived.Test.YtkkifebmicbbaaaGreatPiTop
import Derived.Test.YtkkifebmicbbaaaGreatPiDz
import Derived.KernelRfl
namespace Go.Proofs.YtkkifebmicbbaaaGreat.Pi
open Go
set_option linter.all false
def mf (f : FuncId) : Bool := [167, 103, 166, 102, 104, 105, 106, 107, 55, 66, 128, 124, 175].contains f
theorem w4z : zal Tryz.prog ⟨mf, false, false⟩ Tryz.f16 = some wdn := by kernel_rfl
theorem w66 : zal Tryz.prog ⟨mf, false, false⟩ Tryz.f167 = some weu := by kernel_rfl
theorem w68 : zal Tryz.prog ⟨mf, false, false⟩ Tryz.f103 = some wew := by kernel_rfl
theorem w6c : zal Tryz.prog ⟨mf, false, false⟩ Tryz.f166 = some wf2 := by kernel_rfl
theorem w6a : zal Tryz.prog ⟨mf, false, false⟩ Tryz.f102 = some wey := by kernel_rfl
theorem w6h : zal Tryz.prog ⟨mf, false, false⟩ Tryz.f104 = some wf7 := by kernel_rfl
theorem w69 : zal Tryz.prog ⟨mf, false, false⟩ Tryz.f105 = some wex := by kernel_rfl
theorem w67 : zal Tryz.prog ⟨mf, false, false⟩ Tryz.f106 = some wev := by kernel_rfl
theorem w64 : zal Tryz.prog ⟨mf, false, false⟩ Tryz.f107 = some wes := by kernel_rfl
theorem w6b : zal Tryz.prog ⟨mf, false, false⟩ Tryz.f55 = some wez := by kernel_rfl
theorem w6e : zal Tryz.prog ⟨mf, false, false⟩ Tryz.f44 = some wf4 := by kernel_rfl
theorem w6d : zal Tryz.prog ⟨mf, false, false⟩ Tryz.f157 = some wf3 := by kernel_rfl
theorem w6i : zal Tryz.prog ⟨mf, false, false⟩ Tryz.f158 = some wf8 := by kernel_rfl
theorem w5z : zal Tryz.prog ⟨mf, false, false⟩ Tryz.f94 = some wen := by kernel_rfl
theorem w6f : zal Tryz.prog ⟨mf, false, false⟩ Tryz.f86 = some wf5 := by kernel_rfl
theorem w6j : zal Tryz.prog ⟨mf, false, false⟩ Tryz.f201 = some wf9 := by kernel_rfl
theorem w5y : zal Tryz.prog ⟨mf, false, false⟩ Tryz.f159 = some wem := by kernel_rfl
theorem w5x : zal Tryz.prog ⟨mf, false, false⟩ Tryz.f160 = some wel := by kernel_rfl
theorem w5v : zal Tryz.prog ⟨mf, false, false⟩ Tryz.f95 = some wej := by kernel_rfl
theorem w6g : zal Tryz.prog ⟨mf, false, false⟩ Tryz.f184 = some wf6 := by kernel_rfl
theorem w5q : zal Tryz.prog ⟨mf, false, false⟩ Tryz.f202 = some wee := by kernel_rfl
theorem w6q : zal Tryz.prog ⟨mf, false, false⟩ Tryz.f203 = some wfg := by kernel_rfl
theorem w6o : zal Tryz.prog ⟨mf, false, false⟩ Tryz.f204 = some wfe := by kernel_rfl
theorem w6p : zal Tryz.prog ⟨mf, false, false⟩ Tryz.f205 = some wff := by kernel_rfl
theorem w5t : zal Tryz.prog ⟨mf, false, false⟩ Tryz.f161 = some weh := by kernel_rfl
theorem w5o : zal Tryz.prog ⟨mf, false, false⟩ Tryz.f96 = some wec := by kernel_rfl
theorem w5r : zal Tryz.prog ⟨mf, false, false⟩ Tryz.f43 = some wef := by kernel_rfl
theorem w6r : zal Tryz.prog ⟨mf, false, false⟩ Tryz.f76 = some wfh := by kernel_rfl
theorem w5s : zal Tryz.prog ⟨mf, false, false⟩ Tryz.f32 = some weg := by kernel_rfl
theorem w6k : zal Tryz.prog ⟨mf, false, false⟩ Tryz.f180 = some wfa := by kernel_rfl
theorem w6l : zal Tryz.prog ⟨mf, false, false⟩ Tryz.f133 = some wfb := by kernel_rfl
theorem w60 : zal Tryz.prog ⟨mf, false, false⟩ Tryz.f122 = some weo := by kernel_rfl
theorem w5w : zal Tryz.prog ⟨mf, false, false⟩ Tryz.f125 = some wek := by kernel_rfl
theorem w63 : zal Tryz.prog ⟨mf, false, false⟩ Tryz.f162 = some wer := by kernel_rfl
theorem w5p : zal Tryz.prog ⟨mf, false, false⟩ Tryz.f135 = some wed := by kernel_rfl
theorem w6n : zal Tryz.prog ⟨mf, false, false⟩ Tryz.f179 = some wfd := by kernel_rfl
theorem w6m : zal Tryz.prog ⟨mf, false, false⟩ Tryz.f134 = some wfc := by kernel_rfl
theorem w5n : zal Tryz.prog ⟨mf, false, false⟩ Tryz.f126 = some web := by kernel_rfl
theorem w62 : zal Tryz.prog ⟨mf, false, false⟩ Tryz.f69 = some weq := by kernel_rfl
theorem w65 : zal Tryz.prog ⟨mf, false, false⟩ Tryz.f66 = some wet := by kernel_rfl
theorem w5m : zal Tryz.prog ⟨mf, false, false⟩ Tryz.f22 = some wea := by kernel_rfl
theorem w4x : zal Tryz.prog ⟨mf, false, false⟩ Tryz.f48 = some wdl := by kernel_rfl
theorem w4b : zal Tryz.prog ⟨mf, false, false⟩ Tryz.f165 = some wcz := by kernel_rfl
theorem w3x : zal Tryz.prog ⟨mf, false, false⟩ Tryz.f65 = some wcl := by kernel_rfl
theorem w3y : zal Tryz.prog ⟨mf, false, false⟩ Tryz.f164 = some wcm := by kernel_rfl
theorem w5i : zal Tryz.prog ⟨mf, false, false⟩ Tryz.f192 = some we6 := by kernel_rfl
theorem w58 : zal Tryz.prog ⟨mf, false, false⟩ Tryz.f147 = some wdw := by kernel_rfl
theorem w4h : zal Tryz.prog ⟨mf, false, false⟩ Tryz.f99 = some wd5 := by kernel_rfl
theorem w4k : zal Tryz.prog ⟨mf, false, false⟩ Tryz.f108 = some wd8 := by kernel_rfl
theorem w4q : zal Tryz.prog ⟨mf, false, false⟩ Tryz.f168 = some wde := by kernel_rfl
theorem w4p : zal Tryz.prog ⟨mf, false, false⟩ Tryz.f169 = some wdd := by kernel_rfl
theorem w4w : zal Tryz.prog ⟨mf, false, false⟩ Tryz.f109 = some wdk := by kernel_rfl
theorem w4s : zal Tryz.prog ⟨mf, false, false⟩ Tryz.f58 = some wdg := by kernel_rfl
theorem w41 : zal Tryz.prog ⟨mf, false, false⟩ Tryz.f191 = some wcp := by kernel_rfl
theorem w3j : zal Tryz.prog ⟨mf, false, false⟩ Tryz.f190 = some wc7 := by kernel_rfl
theorem w5d : zal Tryz.prog ⟨mf, false, false⟩ Tryz.f219 = some we1 := by kernel_rfl
theorem w54 : zal Tryz.prog ⟨mf, false, false⟩ Tryz.f189 = some wds := by kernel_rfl
theorem w3i : zal Tryz.prog ⟨mf, false, false⟩ Tryz.f146 = some wc6 := by kernel_rfl
theorem w4o : zal Tryz.prog ⟨mf, false, false⟩ Tryz.f220 = some wdc := by kernel_rfl
theorem w5e : zal Tryz.prog ⟨mf, false, false⟩ Tryz.f206 = some we2 := by kernel_rfl
theorem w55 : zal Tryz.prog ⟨mf, false, false⟩ Tryz.f182 = some wdt := by kernel_rfl
theorem w4n : zal Tryz.prog ⟨mf, false, false⟩ Tryz.f193 = some wdb := by kernel_rfl
theorem w42 : zal Tryz.prog ⟨mf, false, false⟩ Tryz.f194 = some wcq := by kernel_rfl
theorem w4m : zal Tryz.prog ⟨mf, false, false⟩ Tryz.f148 = some wda := by kernel_rfl
theorem w3g : zal Tryz.prog ⟨mf, false, false⟩ Tryz.f88 = some wc4 := by kernel_rfl
theorem w4g : zal Tryz.prog ⟨mf, false, false⟩ Tryz.f47 = some wd4 := by kernel_rfl
theorem w4r : zal Tryz.prog ⟨mf, false, false⟩ Tryz.f121 = some wdf := by kernel_rfl
theorem w4l : zal Tryz.prog ⟨mf, false, false⟩ Tryz.f67 = some wd9 := by kernel_rfl
theorem w4e : zal Tryz.prog ⟨mf, false, false⟩ Tryz.f183 = some wd2 := by kernel_rfl
theorem w4d : zal Tryz.prog ⟨mf, false, false⟩ Tryz.f130 = some wd1 := by kernel_rfl
theorem w4j : zal Tryz.prog ⟨mf, false, false⟩ Tryz.f129 = some wd7 := by kernel_rfl
theorem w5c : zal Tryz.prog ⟨mf, false, false⟩ Tryz.f181 = some we0 := by kernel_rfl
theorem w59 : zal Tryz.prog ⟨mf, false, false⟩ Tryz.f128 = some wdx := by kernel_rfl
theorem w4i : zal Tryz.prog ⟨mf, false, false⟩ Tryz.f72 = some wd6 := by kernel_rfl
theorem w5h : zal Tryz.prog ⟨mf, false, false⟩ Tryz.f178 = some we5 := by kernel_rfl
theorem w57 : zal Tryz.prog ⟨mf, false, false⟩ Tryz.f123 = some wdv := by kernel_rfl
theorem w4a : zal Tryz.prog ⟨mf, false, false⟩ Tryz.f120 = some wcy := by kernel_rfl
theorem w45 : zal Tryz.prog ⟨mf, false, false⟩ Tryz.f124 = some wct := by kernel_rfl
theorem w4u : zal Tryz.prog ⟨mf, false, false⟩ Tryz.f68 = some wdi := by kernel_rfl
theorem w3m : zal Tryz.prog ⟨mf, false, false⟩ Tryz.f23 = some wca := by kernel_rfl
theorem w61 : zal Tryz.prog ⟨mf, false, false⟩ Tryz.f70 = some wep := by kernel_rfl
theorem w5u : zal Tryz.prog ⟨mf, false, false⟩ Tryz.f24 = some wei := by kernel_rfl
theorem w50 : zal Tryz.prog ⟨mf, false, false⟩ Tryz.f25 = some wdo := by kernel_rfl
theorem w52 : zal Tryz.prog ⟨mf, false, false⟩ Tryz.f57 = some wdq := by kernel_rfl
theorem w51 : zal Tryz.prog ⟨mf, false, false⟩ Tryz.f26 = some wdp := by kernel_rfl
theorem w4t : zal Tryz.prog ⟨mf, false, false⟩ Tryz.f62 = some wdh := by kernel_rfl
theorem w47 : zal Tryz.prog ⟨mf, false, false⟩ Tryz.f119 = some wcv := by kernel_rfl
theorem w5a : zal Tryz.prog ⟨mf, false, false⟩ Tryz.f171 = some wdy := by kernel_rfl
theorem w3q : zal Tryz.prog ⟨mf, false, false⟩ Tryz.f170 = some wce := by kernel_rfl
theorem w5f : zal Tryz.prog ⟨mf, false, false⟩ Tryz.f114 = some we3 := by kernel_rfl
theorem w3p : zal Tryz.prog ⟨mf, false, false⟩ Tryz.f111 = some wcd := by kernel_rfl
theorem w49 : zal Tryz.prog ⟨mf, false, false⟩ Tryz.f61 = some wcx := by kernel_rfl
theorem w48 : zal Tryz.prog ⟨mf, false, false⟩ Tryz.f110 = some wcw := by kernel_rfl
theorem w3r : zal Tryz.prog ⟨mf, true, true⟩ Tryz.f112 = some wcf := by kernel_rfl
theorem w5g : zal Tryz.prog ⟨mf, false, false⟩ Tryz.f113 = some we4 := by kernel_rfl
theorem w46 : zal Tryz.prog ⟨mf, false, false⟩ Tryz.f172 = some wcu := by kernel_rfl
theorem w4f : zal Tryz.prog ⟨mf, false, false⟩ Tryz.f116 = some wd3 := by kernel_rfl
theorem w44 : zal Tryz.prog ⟨mf, false, false⟩ Tryz.f115 = some wcs := by kernel_rfl
theorem w3t : zal Tryz.prog ⟨mf, false, false⟩ Tryz.f174 = some wch := by kernel_rfl
theorem w5b : zal Tryz.prog ⟨mf, false, false⟩ Tryz.f173 = some wdz := by kernel_rfl
theorem w5j : zal Tryz.prog ⟨mf, false, false⟩ Tryz.f175 = some we7 := by kernel_rfl
theorem w3s : zal Tryz.prog ⟨mf, false, false⟩ Tryz.f117 = some wcg := by kernel_rfl
theorem w3o : zal Tryz.prog ⟨mf, false, false⟩ Tryz.f177 = some wcc := by kernel_rfl
theorem w53 : zal Tryz.prog ⟨mf, false, false⟩ Tryz.f176 = some wdr := by kernel_rfl
theorem w3n : zal Tryz.prog ⟨mf, false, false⟩ Tryz.f118 = some wcb := by kernel_rfl
theorem w43 : zal Tryz.prog ⟨mf, false, false⟩ Tryz.f60 = some wcr := by kernel_rfl
theorem w56 : zal Tryz.prog ⟨mf, false, false⟩ Tryz.f63 = some wdu := by kernel_rfl
theorem w3w : zal Tryz.prog ⟨mf, false, false⟩ Tryz.f100 = some wck := by kernel_rfl
theorem w3v : zal Tryz.prog ⟨mf, false, false⟩ Tryz.f49 = some wcj := by kernel_rfl
theorem w3e : zal Tryz.prog ⟨mf, false, false⟩ Tryz.f10 = some wc2 := by kernel_rfl
theorem w3h : zal Tryz.prog ⟨mf, false, false⟩ Tryz.f127 = some wc5 := by kernel_rfl
theorem w4c : zal Tryz.prog ⟨mf, false, false⟩ Tryz.f71 = some wd0 := by kernel_rfl
theorem w3k : zal Tryz.prog ⟨mf, false, false⟩ Tryz.f27 = some wc8 := by kernel_rfl
theorem w40 : zal Tryz.prog ⟨mf, false, false⟩ Tryz.f131 = some wco := by kernel_rfl
theorem w3z : zal Tryz.prog ⟨mf, false, false⟩ Tryz.f73 = some wcn := by kernel_rfl
theorem w4v : zal Tryz.prog ⟨mf, false, false⟩ Tryz.f74 = some wdj := by kernel_rfl
theorem w3u : zal Tryz.prog ⟨mf, false, false⟩ Tryz.f28 = some wci := by kernel_rfl
theorem w3f : zal Tryz.prog ⟨mf, false, false⟩ Tryz.f29 = some wc3 := by kernel_rfl
theorem w5k : zal Tryz.prog ⟨mf, false, false⟩ Tryz.f75 = some we8 := by kernel_rfl
theorem w5l : zal Tryz.prog ⟨mf, false, false⟩ Tryz.f30 = some we9 := by kernel_rfl
theorem w3l : zal Tryz.prog ⟨mf, false, false⟩ Tryz.f31 = some wc9 := by kernel_rfl
theorem w4y : zal Tryz.prog ⟨mf, false, false⟩ Tryz.f5 = some wdm := by kernel_rfl
theorem tblOk : ∀ p ∈ tbl, ∃ (fn : Func) (m : Md), Tryz.prog.funcs[p.1]? = some fn ∧ zal Tryz.prog m fn = some p.2 := by
  unfold tbl
  refine List.forall_mem_cons.2 ⟨⟨Tryz.f16, ⟨mf, false, false⟩, Tryz.func16, w4z⟩, ?_⟩
  refine List.forall_mem_cons.2 ⟨⟨Tryz.f167, ⟨mf, false, false⟩, Tryz.func167, w66⟩, ?_⟩
  refine List.forall_mem_cons.2 ⟨⟨Tryz.f103, ⟨mf, false, false⟩, Tryz.func103, w68⟩, ?_⟩
  refine List.forall_mem_cons.2 ⟨⟨Tryz.f166, ⟨mf, false, false⟩, Tryz.func166, w6c⟩, ?_⟩
  refine List.forall_mem_cons.2 ⟨⟨Tryz.f102, ⟨mf, false, false⟩, Tryz.func102, w6a⟩, ?_⟩
  refine List.forall_mem_cons.2 ⟨⟨Tryz.f104, ⟨mf, false, false⟩, Tryz.func104, w6h⟩, ?_⟩
  refine List.forall_mem_cons.2 ⟨⟨Tryz.f105, ⟨mf, false, false⟩, Tryz.func105, w69⟩, ?_⟩
  refine List.forall_mem_cons.2 ⟨⟨Tryz.f106, ⟨mf, false, false⟩, Tryz.func106, w67⟩, ?_⟩
  refine List.forall_mem_cons.2 ⟨⟨Tryz.f107, ⟨mf, false, false⟩, Tryz.func107, w64⟩, ?_⟩
  refine List.forall_mem_cons.2 ⟨⟨Tryz.f55, ⟨mf, false, false⟩, Tryz.func55, w6b⟩, ?_⟩
  refine List.forall_mem_cons.2 ⟨⟨Tryz.f44, ⟨mf, false, false⟩, Tryz.func44, w6e⟩, ?_⟩
  refine List.forall_mem_cons.2 ⟨⟨Tryz.f157, ⟨mf, false, false⟩, Tryz.func157, w6d⟩, ?_⟩
  refine List.forall_mem_cons.2 ⟨⟨Tryz.f158, ⟨mf, false, false⟩, Tryz.func158, w6i⟩, ?_⟩
  refine List.forall_mem_cons.2 ⟨⟨Tryz.f94, ⟨mf, false, false⟩, Tryz.func94, w5z⟩, ?_⟩
  refine List.forall_mem_cons.2 ⟨⟨Tryz.f86, ⟨mf, false, false⟩, Tryz.func86, w6f⟩, ?_⟩
  refine List.forall_mem_cons.2 ⟨⟨Tryz.f201, ⟨mf, false, false⟩, Tryz.func201, w6j⟩, ?_⟩
  refine List.forall_mem_cons.2 ⟨⟨Tryz.f159, ⟨mf, false, false⟩, Tryz.func159, w5y⟩, ?_⟩
  refine List.forall_mem_cons.2 ⟨⟨Tryz.f160, ⟨mf, false, false⟩, Tryz.func160, w5x⟩, ?_⟩
  refine List.forall_mem_cons.2 ⟨⟨Tryz.f95, ⟨mf, false, false⟩, Tryz.func95, w5v⟩, ?_⟩
  refine List.forall_mem_cons.2 ⟨⟨Tryz.f184, ⟨mf, false, false⟩, Tryz.func184, w6g⟩, ?_⟩
  refine List.forall_mem_cons.2 ⟨⟨Tryz.f202, ⟨mf, false, false⟩, Tryz.func202, w5q⟩, ?_⟩
  refine List.forall_mem_cons.2 ⟨⟨Tryz.f203, ⟨mf, false, false⟩, Tryz.func203, w6q⟩, ?_⟩
  refine List.forall_mem_cons.2 ⟨⟨Tryz.f204, ⟨mf, false, false⟩, Tryz.func204, w6o⟩, ?_⟩
  refine List.forall_mem_cons.2 ⟨⟨Tryz.f205, ⟨mf, false, false⟩, Tryz.func205, w6p⟩, ?_⟩
  refine List.forall_mem_cons.2 ⟨⟨Tryz.f161, ⟨mf, false, false⟩, Tryz.func161, w5t⟩, ?_⟩
  refine List.forall_mem_cons.2 ⟨⟨Tryz.f96, ⟨mf, false, false⟩, Tryz.func96, w5o⟩, ?_⟩
  refine List.forall_mem_cons.2 ⟨⟨Tryz.f43, ⟨mf, false, false⟩, Tryz.func43, w5r⟩, ?_⟩
  refine List.forall_mem_cons.2 ⟨⟨Tryz.f76, ⟨mf, false, false⟩, Tryz.func76, w6r⟩, ?_⟩
  refine List.forall_mem_cons.2 ⟨⟨Tryz.f32, ⟨mf, false, false⟩, Tryz.func32, w5s⟩, ?_⟩
  refine List.forall_mem_cons.2 ⟨⟨Tryz.f180, ⟨mf, false, false⟩, Tryz.func180, w6k⟩, ?_⟩
  refine List.forall_mem_cons.2 ⟨⟨Tryz.f133, ⟨mf, false, false⟩, Tryz.func133, w6l⟩, ?_⟩
  refine List.forall_mem_cons.2 ⟨⟨Tryz.f122, ⟨mf, false, false⟩, Tryz.func122, w60⟩, ?_⟩
  refine List.forall_mem_cons.2 ⟨⟨Tryz.f125, ⟨mf, false, false⟩, Tryz.func125, w5w⟩, ?_⟩
  refine List.forall_mem_cons.2 ⟨⟨Tryz.f162, ⟨mf, false, false⟩, Tryz.func162, w63⟩, ?_⟩
  refine List.forall_mem_cons.2 ⟨⟨Tryz.f135, ⟨mf, false, false⟩, Tryz.func135, w5p⟩, ?_⟩
  refine List.forall_mem_cons.2 ⟨⟨Tryz.f179, ⟨mf, false, false⟩, Tryz.func179, w6n⟩, ?_⟩
  refine List.forall_mem_cons.2 ⟨⟨Tryz.f134, ⟨mf, false, false⟩, Tryz.func134, w6m⟩, ?_⟩
  refine List.forall_mem_cons.2 ⟨⟨Tryz.f126, ⟨mf, false, false⟩, Tryz.func126, w5n⟩, ?_⟩
  refine List.forall_mem_cons.2 ⟨⟨Tryz.f69, ⟨mf, false, false⟩, Tryz.func69, w62⟩, ?_⟩
  refine List.forall_mem_cons.2 ⟨⟨Tryz.f66, ⟨mf, false, false⟩, Tryz.func66, w65⟩, ?_⟩
  refine List.forall_mem_cons.2 ⟨⟨Tryz.f22, ⟨mf, false, false⟩, Tryz.func22, w5m⟩, ?_⟩
  refine List.forall_mem_cons.2 ⟨⟨Tryz.f48, ⟨mf, false, false⟩, Tryz.func48, w4x⟩, ?_⟩
  refine List.forall_mem_cons.2 ⟨⟨Tryz.f165, ⟨mf, false, false⟩, Tryz.func165, w4b⟩, ?_⟩
  refine List.forall_mem_cons.2 ⟨⟨Tryz.f65, ⟨mf, false, false⟩, Tryz.func65, w3x⟩, ?_⟩
  refine List.forall_mem_cons.2 ⟨⟨Tryz.f164, ⟨mf, false, false⟩, Tryz.func164, w3y⟩, ?_⟩
  refine List.forall_mem_cons.2 ⟨⟨Tryz.f192, ⟨mf, false, false⟩, Tryz.func192, w5i⟩, ?_⟩
  refine List.forall_mem_cons.2 ⟨⟨Tryz.f147, ⟨mf, false, false⟩, Tryz.func147, w58⟩, ?_⟩
  refine List.forall_mem_cons.2 ⟨⟨Tryz.f99, ⟨mf, false, false⟩, Tryz.func99, w4h⟩, ?_⟩
  refine List.forall_mem_cons.2 ⟨⟨Tryz.f108, ⟨mf, false, false⟩, Tryz.func108, w4k⟩, ?_⟩
  refine List.forall_mem_cons.2 ⟨⟨Tryz.f168, ⟨mf, false, false⟩, Tryz.func168, w4q⟩, ?_⟩
  refine List.forall_mem_cons.2 ⟨⟨Tryz.f169, ⟨mf, false, false⟩, Tryz.func169, w4p⟩, ?_⟩
  refine List.forall_mem_cons.2 ⟨⟨Tryz.f109, ⟨mf, false, false⟩, Tryz.func109, w4w⟩, ?_⟩
  refine List.forall_mem_cons.2 ⟨⟨Tryz.f58, ⟨mf, false, false⟩, Tryz.func58, w4s⟩, ?_⟩
  refine List.forall_mem_cons.2 ⟨⟨Tryz.f191, ⟨mf, false, false⟩, Tryz.func191, w41⟩, ?_⟩
  refine List.forall_mem_cons.2 ⟨⟨Tryz.f190, ⟨mf, false, false⟩, Tryz.func190, w3j⟩, ?_⟩
  refine List.forall_mem_cons.2 ⟨⟨Tryz.f219, ⟨mf, false, false⟩, Tryz.func219, w5d⟩, ?_⟩
  refine List.forall_mem_cons.2 ⟨⟨Tryz.f189, ⟨mf, false, false⟩, Tryz.func189, w54⟩, ?_⟩
  refine List.forall_mem_cons.2 ⟨⟨Tryz.f146, ⟨mf, false, false⟩, Tryz.func146, w3i⟩, ?_⟩
  refine List.forall_mem_cons.2 ⟨⟨Tryz.f220, ⟨mf, false, false⟩, Tryz.func220, w4o⟩, ?_⟩
  refine List.forall_mem_cons.2 ⟨⟨Tryz.f206, ⟨mf, false, false⟩, Tryz.func206, w5e⟩, ?_⟩
  refine List.forall_mem_cons.2 ⟨⟨Tryz.f182, ⟨mf, false, false⟩, Tryz.func182, w55⟩, ?_⟩
  refine List.forall_mem_cons.2 ⟨⟨Tryz.f193, ⟨mf, false, false⟩, Tryz.func193, w4n⟩, ?_⟩
  refine List.forall_mem_cons.2 ⟨⟨Tryz.f194, ⟨mf, false, false⟩, Tryz.func194, w42⟩, ?_⟩
  refine List.forall_mem_cons.2 ⟨⟨Tryz.f148, ⟨mf, false, false⟩, Tryz.func148, w4m⟩, ?_⟩
  refine List.forall_mem_cons.2 ⟨⟨Tryz.f88, ⟨mf, false, false⟩, Tryz.func88, w3g⟩, ?_⟩
  refine List.forall_mem_cons.2 ⟨⟨Tryz.f47, ⟨mf, false, false⟩, Tryz.func47, w4g⟩, ?_⟩
  refine List.forall_mem_cons.2 ⟨⟨Tryz.f121, ⟨mf, false, false⟩, Tryz.func121, w4r⟩, ?_⟩
  refine List.forall_mem_cons.2 ⟨⟨Tryz.f67, ⟨mf, false, false⟩, Tryz.func67, w4l⟩, ?_⟩
  refine List.forall_mem_cons.2 ⟨⟨Tryz.f183, ⟨mf, false, false⟩, Tryz.func183, w4e⟩, ?_⟩
  refine List.forall_mem_cons.2 ⟨⟨Tryz.f130, ⟨mf, false, false⟩, Tryz.func130, w4d⟩, ?_⟩
  refine List.forall_mem_cons.2 ⟨⟨Tryz.f129, ⟨mf, false, false⟩, Tryz.func129, w4j⟩, ?_⟩
  refine List.forall_mem_cons.2 ⟨⟨Tryz.f181, ⟨mf, false, false⟩, Tryz.func181, w5c⟩, ?_⟩
  refine List.forall_mem_cons.2 ⟨⟨Tryz.f128, ⟨mf, false, false⟩, Tryz.func128, w59⟩, ?_⟩
  refine List.forall_mem_cons.2 ⟨⟨Tryz.f72, ⟨mf, false, false⟩, Tryz.func72, w4i⟩, ?_⟩
  refine List.forall_mem_cons.2 ⟨⟨Tryz.f178, ⟨mf, false, false⟩, Tryz.func178, w5h⟩, ?_⟩
  refine List.forall_mem_cons.2 ⟨⟨Tryz.f123, ⟨mf, false, false⟩, Tryz.func123, w57⟩, ?_⟩
  refine List.forall_mem_cons.2 ⟨⟨Tryz.f120, ⟨mf, false, false⟩, Tryz.func120, w4a⟩, ?_⟩
  refine List.forall_mem_cons.2 ⟨⟨Tryz.f124, ⟨mf, false, false⟩, Tryz.func124, w45⟩, ?_⟩
  refine List.forall_mem_cons.2 ⟨⟨Tryz.f68, ⟨mf, false, false⟩, Tryz.func68, w4u⟩, ?_⟩
  refine List.forall_mem_cons.2 ⟨⟨Tryz.f23, ⟨mf, false, false⟩, Tryz.func23, w3m⟩, ?_⟩
  refine List.forall_mem_cons.2 ⟨⟨Tryz.f70, ⟨mf, false, false⟩, Tryz.func70, w61⟩, ?_⟩
  refine List.forall_mem_cons.2 ⟨⟨Tryz.f24, ⟨mf, false, false⟩, Tryz.func24, w5u⟩, ?_⟩
  refine List.forall_mem_cons.2 ⟨⟨Tryz.f25, ⟨mf, false, false⟩, Tryz.func25, w50⟩, ?_⟩
  refine List.forall_mem_cons.2 ⟨⟨Tryz.f57, ⟨mf, false, false⟩, Tryz.func57, w52⟩, ?_⟩
  refine List.forall_mem_cons.2 ⟨⟨Tryz.f26, ⟨mf, false, false⟩, Tryz.func26, w51⟩, ?_⟩
  refine List.forall_mem_cons.2 ⟨⟨Tryz.f62, ⟨mf, false, false⟩, Tryz.func62, w4t⟩, ?_⟩
  refine List.forall_mem_cons.2 ⟨⟨Tryz.f119, ⟨mf, false, false⟩, Tryz.func119, w47⟩, ?_⟩
  refine List.forall_mem_cons.2 ⟨⟨Tryz.f171, ⟨mf, false, false⟩, Tryz.func171, w5a⟩, ?_⟩
  refine List.forall_mem_cons.2 ⟨⟨Tryz.f170, ⟨mf, false, false⟩, Tryz.func170, w3q⟩, ?_⟩
  refine List.forall_mem_cons.2 ⟨⟨Tryz.f114, ⟨mf, false, false⟩, Tryz.func114, w5f⟩, ?_⟩
  refine List.forall_mem_cons.2 ⟨⟨Tryz.f111, ⟨mf, false, false⟩, Tryz.func111, w3p⟩, ?_⟩
  refine List.forall_mem_cons.2 ⟨⟨Tryz.f61, ⟨mf, false, false⟩, Tryz.func61, w49⟩, ?_⟩
  refine List.forall_mem_cons.2 ⟨⟨Tryz.f110, ⟨mf, false, false⟩, Tryz.func110, w48⟩, ?_⟩
  refine List.forall_mem_cons.2 ⟨⟨Tryz.f112, ⟨mf, true, true⟩, Tryz.func112, w3r⟩, ?_⟩
  refine List.forall_mem_cons.2 ⟨⟨Tryz.f113, ⟨mf, false, false⟩, Tryz.func113, w5g⟩, ?_⟩
  refine List.forall_mem_cons.2 ⟨⟨Tryz.f172, ⟨mf, false, false⟩, Tryz.func172, w46⟩, ?_⟩
  refine List.forall_mem_cons.2 ⟨⟨Tryz.f116, ⟨mf, false, false⟩, Tryz.func116, w4f⟩, ?_⟩
  refine List.forall_mem_cons.2 ⟨⟨Tryz.f115, ⟨mf, false, false⟩, Tryz.func115, w44⟩, ?_⟩
  refine List.forall_mem_cons.2 ⟨⟨Tryz.f174, ⟨mf, false, false⟩, Tryz.func174, w3t⟩, ?_⟩
  refine List.forall_mem_cons.2 ⟨⟨Tryz.f173, ⟨mf, false, false⟩, Tryz.func173, w5b⟩, ?_⟩
  refine List.forall_mem_cons.2 ⟨⟨Tryz.f175, ⟨mf, false, false⟩, Tryz.func175, w5j⟩, ?_⟩
  refine List.forall_mem_cons.2 ⟨⟨Tryz.f117, ⟨mf, false, false⟩, Tryz.func117, w3s⟩, ?_⟩
  refine List.forall_mem_cons.2 ⟨⟨Tryz.f177, ⟨mf, false, false⟩, Tryz.func177, w3o⟩, ?_⟩
  refine List.forall_mem_cons.2 ⟨⟨Tryz.f176, ⟨mf, false, false⟩, Tryz.func176, w53⟩, ?_⟩
  refine List.forall_mem_cons.2 ⟨⟨Tryz.f118, ⟨mf, false, false⟩, Tryz.func118, w3n⟩, ?_⟩
  refine List.forall_mem_cons.2 ⟨⟨Tryz.f60, ⟨mf, false, false⟩, Tryz.func60, w43⟩, ?_⟩
  refine List.forall_mem_cons.2 ⟨⟨Tryz.f63, ⟨mf, false, false⟩, Tryz.func63, w56⟩, ?_⟩
  refine List.forall_mem_cons.2 ⟨⟨Tryz.f100, ⟨mf, false, false⟩, Tryz.func100, w3w⟩, ?_⟩
  refine List.forall_mem_cons.2 ⟨⟨Tryz.f49, ⟨mf, false, false⟩, Tryz.func49, w3v⟩, ?_⟩
  refine List.forall_mem_cons.2 ⟨⟨Tryz.f10, ⟨mf, false, false⟩, Tryz.func10, w3e⟩, ?_⟩
  refine List.forall_mem_cons.2 ⟨⟨Tryz.f127, ⟨mf, false, false⟩, Tryz.func127, w3h⟩, ?_⟩
  refine List.forall_mem_cons.2 ⟨⟨Tryz.f71, ⟨mf, false, false⟩, Tryz.func71, w4c⟩, ?_⟩
  refine List.forall_mem_cons.2 ⟨⟨Tryz.f27, ⟨mf, false, false⟩, Tryz.func27, w3k⟩, ?_⟩
  refine List.forall_mem_cons.2 ⟨⟨Tryz.f131, ⟨mf, false, false⟩, Tryz.func131, w40⟩, ?_⟩
  refine List.forall_mem_cons.2 ⟨⟨Tryz.f73, ⟨mf, false, false⟩, Tryz.func73, w3z⟩, ?_⟩
  refine List.forall_mem_cons.2 ⟨⟨Tryz.f74, ⟨mf, false, false⟩, Tryz.func74, w4v⟩, ?_⟩
  refine List.forall_mem_cons.2 ⟨⟨Tryz.f28, ⟨mf, false, false⟩, Tryz.func28, w3u⟩, ?_⟩
  refine List.forall_mem_cons.2 ⟨⟨Tryz.f29, ⟨mf, false, false⟩, Tryz.func29, w3f⟩, ?_⟩
  refine List.forall_mem_cons.2 ⟨⟨Tryz.f75, ⟨mf, false, false⟩, Tryz.func75, w5k⟩, ?_⟩
  refine List.forall_mem_cons.2 ⟨⟨Tryz.f30, ⟨mf, false, false⟩, Tryz.func30, w5l⟩, ?_⟩
  refine List.forall_mem_cons.2 ⟨⟨Tryz.f31, ⟨mf, false, false⟩, Tryz.func31, w3l⟩, ?_⟩
  refine List.forall_mem_cons.2 ⟨⟨Tryz.f5, ⟨mf, false, false⟩, Tryz.func5, w4y⟩, ?_⟩
  exact fun _ h => (by cases h)
theorem hF (f : FuncId) (i : IFun) (h : F f = some i) : ∃ (fn : Func) (m : Md), Tryz.prog.funcs[f]? = some fn ∧ zal Tryz.prog m fn = some i := by
  unfold F at h
  simp only [Option.map_eq_some_iff] at h
  obtain ⟨p, hp, rfl⟩ := h
  have h1 := List.mem_of_find?_eq_some hp
  have h2 := List.find?_some hp
  have h3 : p.1 = f := by simpa using h2
  subst h3
  exact tblOk p h1
theorem w6y : ∀ p ∈ exts, ExtOk Tryz.prog p.1 p.2 := by
  unfold exts
  refine List.forall_mem_cons.2 ⟨zdu (mf := ⟨mf, false, false⟩) (Checked.mixed Tryz.checked) Tryz.func91 (show zal Tryz.prog ⟨mf, false, false⟩ Tryz.f91 = some (zkx t_int true 1) by kernel_rfl), ?_⟩
  exact fun _ h => (by cases h)
theorem hE (f : FuncId) (e : List PV → Option PV) (h : ext f = some e) : ExtOk Tryz.prog f e := by
  unfold ext at h
  simp only [Option.map_eq_some_iff] at h
  obtain ⟨p, hp, rfl⟩ := h
  have h1 := List.mem_of_find?_eq_some hp
  have h2 := List.find?_some hp
  have h3 : p.1 = f := by simpa using h2
  subst h3
  exact w6y p h1
end Go.Proofs.YtkkifebmicbbaaaGreat.Pi
