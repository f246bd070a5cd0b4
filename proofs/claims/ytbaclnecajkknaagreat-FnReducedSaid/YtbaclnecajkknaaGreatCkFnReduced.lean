/- The forms are those of the program. No condition. -/
import Derived.Test.YtbaclnecajkknaaGreatChecked
import Derived.Test.YtbaclnecajkknaaGreatIrFnReduced
import Derived.Test.YtbaclnecajkknaaGreatPiTop
import Derived.Test.YtbaclnecajkknaaGreatPiDz
import Derived.KernelRfl
namespace Go.Proofs.YtbaclnecajkknaaGreat.Pi
open Go
set_option linter.all false
def mf(f:FuncId):Bool:=[174,91,108,113,122,123,124,54,242,210].contains f
theorem w4t:zb9 Tryz.prog ⟨mf,false,false⟩ Tryz.f7=some wda:=by kernel_rfl
theorem w5v:zb9 Tryz.prog ⟨mf,false,false⟩ Tryz.f174=some wec:=by kernel_rfl
theorem w5x:zb9 Tryz.prog ⟨mf,false,false⟩ Tryz.f91=some wee:=by kernel_rfl
theorem w5w:zb9 Tryz.prog ⟨mf,false,false⟩ Tryz.f108=some wed:=by kernel_rfl
theorem w63:zb9 Tryz.prog ⟨mf,false,false⟩ Tryz.f113=some wek:=by kernel_rfl
theorem w5u:zb9 Tryz.prog ⟨mf,false,false⟩ Tryz.f122=some web:=by kernel_rfl
theorem w5y:zb9 Tryz.prog ⟨mf,false,false⟩ Tryz.f123=some wef:=by kernel_rfl
theorem w5s:zb9 Tryz.prog ⟨mf,false,false⟩ Tryz.f124=some we9:=by kernel_rfl
theorem w5t:zb9 Tryz.prog ⟨mf,false,false⟩ Tryz.f54=some wea:=by kernel_rfl
theorem w5c:zb9 Tryz.prog ⟨mf,false,false⟩ Tryz.f41=some wdt:=by kernel_rfl
theorem w4m:zb9 Tryz.prog ⟨mf,false,false⟩ Tryz.f69=some wd3:=by kernel_rfl
theorem w46:zb9 Tryz.prog ⟨mf,false,false⟩ Tryz.f237=some wcn:=by kernel_rfl
theorem w3n:zb9 Tryz.prog ⟨mf,false,false⟩ Tryz.f83=some wc4:=by kernel_rfl
theorem w3o:zb9 Tryz.prog ⟨mf,false,false⟩ Tryz.f169=some wc5:=by kernel_rfl
theorem w3f:zb9 Tryz.prog ⟨mf,false,false⟩ Tryz.f168=some wbw:=by kernel_rfl
theorem w54:zb9 Tryz.prog ⟨mf,false,false⟩ Tryz.f236=some wdl:=by kernel_rfl
theorem w4y:zb9 Tryz.prog ⟨mf,false,false⟩ Tryz.f167=some wdf:=by kernel_rfl
theorem w3e:zb9 Tryz.prog ⟨mf,false,false⟩ Tryz.f82=some wbv:=by kernel_rfl
theorem w58:zb9 Tryz.prog ⟨mf,false,false⟩ Tryz.f162=some wdp:=by kernel_rfl
theorem w50:zb9 Tryz.prog ⟨mf,false,false⟩ Tryz.f77=some wdh:=by kernel_rfl
theorem w4h:zb9 Tryz.prog ⟨mf,false,false⟩ Tryz.f255=some wcy:=by kernel_rfl
theorem w55:zb9 Tryz.prog ⟨mf,false,false⟩ Tryz.f238=some wdm:=by kernel_rfl
theorem w4z:zb9 Tryz.prog ⟨mf,false,false⟩ Tryz.f172=some wdg:=by kernel_rfl
theorem w4g:zb9 Tryz.prog ⟨mf,false,false⟩ Tryz.f217=some wcx:=by kernel_rfl
theorem w3p:zb9 Tryz.prog ⟨mf,false,false⟩ Tryz.f218=some wc6:=by kernel_rfl
theorem w4f:zb9 Tryz.prog ⟨mf,false,false⟩ Tryz.f148=some wcw:=by kernel_rfl
theorem w3d:zb9 Tryz.prog ⟨mf,false,false⟩ Tryz.f67=some wbu:=by kernel_rfl
theorem w45:zb9 Tryz.prog ⟨mf,false,false⟩ Tryz.f239=some wcm:=by kernel_rfl
theorem w44:zb9 Tryz.prog ⟨mf,false,false⟩ Tryz.f186=some wcl:=by kernel_rfl
theorem w4c:zb9 Tryz.prog ⟨mf,false,false⟩ Tryz.f109=some wct:=by kernel_rfl
theorem w4l:zb9 Tryz.prog ⟨mf,false,false⟩ Tryz.f187=some wd2:=by kernel_rfl
theorem w4a:zb9 Tryz.prog ⟨mf,false,false⟩ Tryz.f188=some wcr:=by kernel_rfl
theorem w4d:zb9 Tryz.prog ⟨mf,false,false⟩ Tryz.f192=some wcu:=by kernel_rfl
theorem w4e:zb9 Tryz.prog ⟨mf,false,false⟩ Tryz.f189=some wcv:=by kernel_rfl
theorem w3s:zb9 Tryz.prog ⟨mf,false,false⟩ Tryz.f190=some wc9:=by kernel_rfl
theorem w4i:zb9 Tryz.prog ⟨mf,false,false⟩ Tryz.f191=some wcz:=by kernel_rfl
theorem w51:zb9 Tryz.prog ⟨mf,false,false⟩ Tryz.f242=some wdi:=by kernel_rfl
theorem w4q:zb9 Tryz.prog ⟨mf,false,false⟩ Tryz.f194=some wd7:=by kernel_rfl
theorem w4o:zb9 Tryz.prog ⟨mf,true,false⟩ Tryz.f240=some wd5:=by kernel_rfl
theorem w4p:zb9 Tryz.prog ⟨mf,true,false⟩ Tryz.f241=some wd6:=by kernel_rfl
theorem w4n:zb9 Tryz.prog ⟨mf,true,false⟩ Tryz.f193=some wd4:=by kernel_rfl
theorem w43:zb9 Tryz.prog ⟨mf,true,false⟩ Tryz.f110=some wck:=by kernel_rfl
theorem w3c:zb9 Tryz.prog ⟨mf,true,false⟩ Tryz.f42=some wbt:=by kernel_rfl
theorem w42:zb9 Tryz.prog ⟨mf,true,false⟩ Tryz.f195=some wcj:=by kernel_rfl
theorem w41:zb9 Tryz.prog ⟨mf,true,false⟩ Tryz.f111=some wci:=by kernel_rfl
theorem w3b:zb9 Tryz.prog ⟨mf,true,false⟩ Tryz.f43=some wbs:=by kernel_rfl
theorem w5z:zb9 Tryz.prog ⟨mf,false,false⟩ Tryz.f112=some weg:=by kernel_rfl
theorem w5a:zb9 Tryz.prog ⟨mf,false,false⟩ Tryz.f44=some wdr:=by kernel_rfl
theorem w52:zb9 Tryz.prog ⟨mf,false,false⟩ Tryz.f179=some wdj:=by kernel_rfl
theorem w3u:zb9 Tryz.prog ⟨mf,true,false⟩ Tryz.f114=some wcb:=by kernel_rfl
theorem w39:zb9 Tryz.prog ⟨mf,true,false⟩ Tryz.f45=some wbq:=by kernel_rfl
theorem w5b:zb9 Tryz.prog ⟨mf,false,false⟩ Tryz.f46=some wds:=by kernel_rfl
theorem w3w:zb9 Tryz.prog ⟨mf,false,false⟩ Tryz.f196=some wcd:=by kernel_rfl
theorem w3v:zb9 Tryz.prog ⟨mf,false,false⟩ Tryz.f115=some wcc:=by kernel_rfl
theorem w3a:zb9 Tryz.prog ⟨mf,false,false⟩ Tryz.f47=some wbr:=by kernel_rfl
theorem w60:zb9 Tryz.prog ⟨mf,false,false⟩ Tryz.f136=some weh:=by kernel_rfl
theorem w62:zb9 Tryz.prog ⟨mf,false,false⟩ Tryz.f170=some wej:=by kernel_rfl
theorem w64:zb9 Tryz.prog ⟨mf,false,false⟩ Tryz.f171=some wel:=by kernel_rfl
theorem w5i:zb9 Tryz.prog ⟨mf,false,false⟩ Tryz.f84=some wdz:=by kernel_rfl
theorem w6c:zb9 Tryz.prog ⟨mf,false,false⟩ Tryz.f243=some wet:=by kernel_rfl
theorem w6a:zb9 Tryz.prog ⟨mf,false,false⟩ Tryz.f244=some wer:=by kernel_rfl
theorem w6b:zb9 Tryz.prog ⟨mf,false,false⟩ Tryz.f245=some wes:=by kernel_rfl
theorem w5j:zb9 Tryz.prog ⟨mf,false,false⟩ Tryz.f213=some we0:=by kernel_rfl
theorem w5h:zb9 Tryz.prog ⟨mf,false,false⟩ Tryz.f135=some wdy:=by kernel_rfl
theorem w68:zb9 Tryz.prog ⟨mf,false,false⟩ Tryz.f197=some wep:=by kernel_rfl
theorem w5l:zb9 Tryz.prog ⟨mf,false,false⟩ Tryz.f116=some we2:=by kernel_rfl
theorem w66:zb9 Tryz.prog ⟨mf,false,false⟩ Tryz.f198=some wen:=by kernel_rfl
theorem w69:zb9 Tryz.prog ⟨mf,false,false⟩ Tryz.f199=some weq:=by kernel_rfl
theorem w5q:zb9 Tryz.prog ⟨mf,false,false⟩ Tryz.f200=some we7:=by kernel_rfl
theorem w67:zb9 Tryz.prog ⟨mf,false,false⟩ Tryz.f201=some weo:=by kernel_rfl
theorem w61:zb9 Tryz.prog ⟨mf,false,false⟩ Tryz.f66=some wei:=by kernel_rfl
theorem w6d:zb9 Tryz.prog ⟨mf,false,false⟩ Tryz.f202=some weu:=by kernel_rfl
theorem w6e:zb9 Tryz.prog ⟨mf,false,false⟩ Tryz.f203=some wev:=by kernel_rfl
theorem w5r:zb9 Tryz.prog ⟨mf,false,false⟩ Tryz.f204=some we8:=by kernel_rfl
theorem w5p:zb9 Tryz.prog ⟨mf,false,false⟩ Tryz.f117=some we6:=by kernel_rfl
theorem w5g:zb9 Tryz.prog ⟨mf,false,false⟩ Tryz.f48=some wdx:=by kernel_rfl
theorem w5k:zb9 Tryz.prog ⟨mf,false,false⟩ Tryz.f205=some we1:=by kernel_rfl
theorem w5o:zb9 Tryz.prog ⟨mf,false,false⟩ Tryz.f118=some we5:=by kernel_rfl
theorem w5f:zb9 Tryz.prog ⟨mf,false,false⟩ Tryz.f49=some wdw:=by kernel_rfl
theorem w65:zb9 Tryz.prog ⟨mf,false,false⟩ Tryz.f142=some wem:=by kernel_rfl
theorem w5m:zb9 Tryz.prog ⟨mf,false,false⟩ Tryz.f119=some we3:=by kernel_rfl
theorem w5d:zb9 Tryz.prog ⟨mf,false,false⟩ Tryz.f50=some wdu:=by kernel_rfl
theorem w5n:zb9 Tryz.prog ⟨mf,false,false⟩ Tryz.f120=some we4:=by kernel_rfl
theorem w5e:zb9 Tryz.prog ⟨mf,false,false⟩ Tryz.f51=some wdv:=by kernel_rfl
theorem w4v:zb9 Tryz.prog ⟨mf,false,false⟩ Tryz.f30=some wdc:=by kernel_rfl
theorem w4w:zb9 Tryz.prog ⟨mf,false,false⟩ Tryz.f121=some wdd:=by kernel_rfl
theorem w4u:zb9 Tryz.prog ⟨mf,false,false⟩ Tryz.f52=some wdb:=by kernel_rfl
theorem w47:zb9 Tryz.prog ⟨mf,false,false⟩ Tryz.f56=some wco:=by kernel_rfl
theorem w4j:zb9 Tryz.prog ⟨mf,false,false⟩ Tryz.f206=some wd0:=by kernel_rfl
theorem w4k:zb9 Tryz.prog ⟨mf,false,false⟩ Tryz.f125=some wd1:=by kernel_rfl
theorem w49:zb9 Tryz.prog ⟨mf,false,false⟩ Tryz.f173=some wcq:=by kernel_rfl
theorem w48:zb9 Tryz.prog ⟨mf,false,false⟩ Tryz.f88=some wcp:=by kernel_rfl
theorem w3x:zb9 Tryz.prog ⟨mf,false,false⟩ Tryz.f151=some wce:=by kernel_rfl
theorem w40:zb9 Tryz.prog ⟨mf,false,false⟩ Tryz.f90=some wch:=by kernel_rfl
theorem w3j:zb9 Tryz.prog ⟨mf,false,false⟩ Tryz.f207=some wc0:=by kernel_rfl
theorem w56:zb9 Tryz.prog ⟨mf,false,false⟩ Tryz.f130=some wdn:=by kernel_rfl
theorem w3i:zb9 Tryz.prog ⟨mf,false,false⟩ Tryz.f127=some wbz:=by kernel_rfl
theorem w3z:zb9 Tryz.prog ⟨mf,false,false⟩ Tryz.f107=some wcg:=by kernel_rfl
theorem w3y:zb9 Tryz.prog ⟨mf,false,false⟩ Tryz.f126=some wcf:=by kernel_rfl
theorem w3k:zb9 Tryz.prog ⟨mf,true,true⟩ Tryz.f128=some wc1:=by kernel_rfl
theorem w57:zb9 Tryz.prog ⟨mf,false,false⟩ Tryz.f129=some wdo:=by kernel_rfl
theorem w3t:zb9 Tryz.prog ⟨mf,false,false⟩ Tryz.f100=some wca:=by kernel_rfl
theorem w4b:zb9 Tryz.prog ⟨mf,false,false⟩ Tryz.f132=some wcs:=by kernel_rfl
theorem w3r:zb9 Tryz.prog ⟨mf,false,false⟩ Tryz.f131=some wc8:=by kernel_rfl
theorem w3m:zb9 Tryz.prog ⟨mf,false,false⟩ Tryz.f209=some wc3:=by kernel_rfl
theorem w53:zb9 Tryz.prog ⟨mf,false,false⟩ Tryz.f208=some wdk:=by kernel_rfl
theorem w59:zb9 Tryz.prog ⟨mf,false,false⟩ Tryz.f210=some wdq:=by kernel_rfl
theorem w3l:zb9 Tryz.prog ⟨mf,false,false⟩ Tryz.f133=some wc2:=by kernel_rfl
theorem w3h:zb9 Tryz.prog ⟨mf,false,false⟩ Tryz.f212=some wby:=by kernel_rfl
theorem w4x:zb9 Tryz.prog ⟨mf,false,false⟩ Tryz.f211=some wde:=by kernel_rfl
theorem w3g:zb9 Tryz.prog ⟨mf,false,false⟩ Tryz.f134=some wbx:=by kernel_rfl
theorem w3q:zb9 Tryz.prog ⟨mf,false,false⟩ Tryz.f57=some wc7:=by kernel_rfl
theorem w38:zb9 Tryz.prog ⟨mf,false,false⟩ Tryz.f9=some wbp:=by kernel_rfl
theorem w4s:zb9 Tryz.prog ⟨mf,false,false⟩ Tryz.f53=some wd9:=by kernel_rfl
theorem w4r:zb9 Tryz.prog ⟨mf,false,false⟩ Tryz.f6=some wd8:=by kernel_rfl
theorem tblOk : ∀ p∈tbl,∃ (fn:Func) (m:Md),Tryz.prog.funcs[p.1]? = some fn∧zb9 Tryz.prog m fn=some p.2:=by
 unfold tbl
 refine List.forall_mem_cons.2 ⟨⟨Tryz.f7,⟨mf,false,false⟩,Tryz.func7,w4t⟩,?_⟩
 refine List.forall_mem_cons.2 ⟨⟨Tryz.f174,⟨mf,false,false⟩,Tryz.func174,w5v⟩,?_⟩
 refine List.forall_mem_cons.2 ⟨⟨Tryz.f91,⟨mf,false,false⟩,Tryz.func91,w5x⟩,?_⟩
 refine List.forall_mem_cons.2 ⟨⟨Tryz.f108,⟨mf,false,false⟩,Tryz.func108,w5w⟩,?_⟩
 refine List.forall_mem_cons.2 ⟨⟨Tryz.f113,⟨mf,false,false⟩,Tryz.func113,w63⟩,?_⟩
 refine List.forall_mem_cons.2 ⟨⟨Tryz.f122,⟨mf,false,false⟩,Tryz.func122,w5u⟩,?_⟩
 refine List.forall_mem_cons.2 ⟨⟨Tryz.f123,⟨mf,false,false⟩,Tryz.func123,w5y⟩,?_⟩
 refine List.forall_mem_cons.2 ⟨⟨Tryz.f124,⟨mf,false,false⟩,Tryz.func124,w5s⟩,?_⟩
 refine List.forall_mem_cons.2 ⟨⟨Tryz.f54,⟨mf,false,false⟩,Tryz.func54,w5t⟩,?_⟩
 refine List.forall_mem_cons.2 ⟨⟨Tryz.f41,⟨mf,false,false⟩,Tryz.func41,w5c⟩,?_⟩
 refine List.forall_mem_cons.2 ⟨⟨Tryz.f69,⟨mf,false,false⟩,Tryz.func69,w4m⟩,?_⟩
 refine List.forall_mem_cons.2 ⟨⟨Tryz.f237,⟨mf,false,false⟩,Tryz.func237,w46⟩,?_⟩
 refine List.forall_mem_cons.2 ⟨⟨Tryz.f83,⟨mf,false,false⟩,Tryz.func83,w3n⟩,?_⟩
 refine List.forall_mem_cons.2 ⟨⟨Tryz.f169,⟨mf,false,false⟩,Tryz.func169,w3o⟩,?_⟩
 refine List.forall_mem_cons.2 ⟨⟨Tryz.f168,⟨mf,false,false⟩,Tryz.func168,w3f⟩,?_⟩
 refine List.forall_mem_cons.2 ⟨⟨Tryz.f236,⟨mf,false,false⟩,Tryz.func236,w54⟩,?_⟩
 refine List.forall_mem_cons.2 ⟨⟨Tryz.f167,⟨mf,false,false⟩,Tryz.func167,w4y⟩,?_⟩
 refine List.forall_mem_cons.2 ⟨⟨Tryz.f82,⟨mf,false,false⟩,Tryz.func82,w3e⟩,?_⟩
 refine List.forall_mem_cons.2 ⟨⟨Tryz.f162,⟨mf,false,false⟩,Tryz.func162,w58⟩,?_⟩
 refine List.forall_mem_cons.2 ⟨⟨Tryz.f77,⟨mf,false,false⟩,Tryz.func77,w50⟩,?_⟩
 refine List.forall_mem_cons.2 ⟨⟨Tryz.f255,⟨mf,false,false⟩,Tryz.func255,w4h⟩,?_⟩
 refine List.forall_mem_cons.2 ⟨⟨Tryz.f238,⟨mf,false,false⟩,Tryz.func238,w55⟩,?_⟩
 refine List.forall_mem_cons.2 ⟨⟨Tryz.f172,⟨mf,false,false⟩,Tryz.func172,w4z⟩,?_⟩
 refine List.forall_mem_cons.2 ⟨⟨Tryz.f217,⟨mf,false,false⟩,Tryz.func217,w4g⟩,?_⟩
 refine List.forall_mem_cons.2 ⟨⟨Tryz.f218,⟨mf,false,false⟩,Tryz.func218,w3p⟩,?_⟩
 refine List.forall_mem_cons.2 ⟨⟨Tryz.f148,⟨mf,false,false⟩,Tryz.func148,w4f⟩,?_⟩
 refine List.forall_mem_cons.2 ⟨⟨Tryz.f67,⟨mf,false,false⟩,Tryz.func67,w3d⟩,?_⟩
 refine List.forall_mem_cons.2 ⟨⟨Tryz.f239,⟨mf,false,false⟩,Tryz.func239,w45⟩,?_⟩
 refine List.forall_mem_cons.2 ⟨⟨Tryz.f186,⟨mf,false,false⟩,Tryz.func186,w44⟩,?_⟩
 refine List.forall_mem_cons.2 ⟨⟨Tryz.f109,⟨mf,false,false⟩,Tryz.func109,w4c⟩,?_⟩
 refine List.forall_mem_cons.2 ⟨⟨Tryz.f187,⟨mf,false,false⟩,Tryz.func187,w4l⟩,?_⟩
 refine List.forall_mem_cons.2 ⟨⟨Tryz.f188,⟨mf,false,false⟩,Tryz.func188,w4a⟩,?_⟩
 refine List.forall_mem_cons.2 ⟨⟨Tryz.f192,⟨mf,false,false⟩,Tryz.func192,w4d⟩,?_⟩
 refine List.forall_mem_cons.2 ⟨⟨Tryz.f189,⟨mf,false,false⟩,Tryz.func189,w4e⟩,?_⟩
 refine List.forall_mem_cons.2 ⟨⟨Tryz.f190,⟨mf,false,false⟩,Tryz.func190,w3s⟩,?_⟩
 refine List.forall_mem_cons.2 ⟨⟨Tryz.f191,⟨mf,false,false⟩,Tryz.func191,w4i⟩,?_⟩
 refine List.forall_mem_cons.2 ⟨⟨Tryz.f242,⟨mf,false,false⟩,Tryz.func242,w51⟩,?_⟩
 refine List.forall_mem_cons.2 ⟨⟨Tryz.f194,⟨mf,false,false⟩,Tryz.func194,w4q⟩,?_⟩
 refine List.forall_mem_cons.2 ⟨⟨Tryz.f240,⟨mf,true,false⟩,Tryz.func240,w4o⟩,?_⟩
 refine List.forall_mem_cons.2 ⟨⟨Tryz.f241,⟨mf,true,false⟩,Tryz.func241,w4p⟩,?_⟩
 refine List.forall_mem_cons.2 ⟨⟨Tryz.f193,⟨mf,true,false⟩,Tryz.func193,w4n⟩,?_⟩
 refine List.forall_mem_cons.2 ⟨⟨Tryz.f110,⟨mf,true,false⟩,Tryz.func110,w43⟩,?_⟩
 refine List.forall_mem_cons.2 ⟨⟨Tryz.f42,⟨mf,true,false⟩,Tryz.func42,w3c⟩,?_⟩
 refine List.forall_mem_cons.2 ⟨⟨Tryz.f195,⟨mf,true,false⟩,Tryz.func195,w42⟩,?_⟩
 refine List.forall_mem_cons.2 ⟨⟨Tryz.f111,⟨mf,true,false⟩,Tryz.func111,w41⟩,?_⟩
 refine List.forall_mem_cons.2 ⟨⟨Tryz.f43,⟨mf,true,false⟩,Tryz.func43,w3b⟩,?_⟩
 refine List.forall_mem_cons.2 ⟨⟨Tryz.f112,⟨mf,false,false⟩,Tryz.func112,w5z⟩,?_⟩
 refine List.forall_mem_cons.2 ⟨⟨Tryz.f44,⟨mf,false,false⟩,Tryz.func44,w5a⟩,?_⟩
 refine List.forall_mem_cons.2 ⟨⟨Tryz.f179,⟨mf,false,false⟩,Tryz.func179,w52⟩,?_⟩
 refine List.forall_mem_cons.2 ⟨⟨Tryz.f114,⟨mf,true,false⟩,Tryz.func114,w3u⟩,?_⟩
 refine List.forall_mem_cons.2 ⟨⟨Tryz.f45,⟨mf,true,false⟩,Tryz.func45,w39⟩,?_⟩
 refine List.forall_mem_cons.2 ⟨⟨Tryz.f46,⟨mf,false,false⟩,Tryz.func46,w5b⟩,?_⟩
 refine List.forall_mem_cons.2 ⟨⟨Tryz.f196,⟨mf,false,false⟩,Tryz.func196,w3w⟩,?_⟩
 refine List.forall_mem_cons.2 ⟨⟨Tryz.f115,⟨mf,false,false⟩,Tryz.func115,w3v⟩,?_⟩
 refine List.forall_mem_cons.2 ⟨⟨Tryz.f47,⟨mf,false,false⟩,Tryz.func47,w3a⟩,?_⟩
 refine List.forall_mem_cons.2 ⟨⟨Tryz.f136,⟨mf,false,false⟩,Tryz.func136,w60⟩,?_⟩
 refine List.forall_mem_cons.2 ⟨⟨Tryz.f170,⟨mf,false,false⟩,Tryz.func170,w62⟩,?_⟩
 refine List.forall_mem_cons.2 ⟨⟨Tryz.f171,⟨mf,false,false⟩,Tryz.func171,w64⟩,?_⟩
 refine List.forall_mem_cons.2 ⟨⟨Tryz.f84,⟨mf,false,false⟩,Tryz.func84,w5i⟩,?_⟩
 refine List.forall_mem_cons.2 ⟨⟨Tryz.f243,⟨mf,false,false⟩,Tryz.func243,w6c⟩,?_⟩
 refine List.forall_mem_cons.2 ⟨⟨Tryz.f244,⟨mf,false,false⟩,Tryz.func244,w6a⟩,?_⟩
 refine List.forall_mem_cons.2 ⟨⟨Tryz.f245,⟨mf,false,false⟩,Tryz.func245,w6b⟩,?_⟩
 refine List.forall_mem_cons.2 ⟨⟨Tryz.f213,⟨mf,false,false⟩,Tryz.func213,w5j⟩,?_⟩
 refine List.forall_mem_cons.2 ⟨⟨Tryz.f135,⟨mf,false,false⟩,Tryz.func135,w5h⟩,?_⟩
 refine List.forall_mem_cons.2 ⟨⟨Tryz.f197,⟨mf,false,false⟩,Tryz.func197,w68⟩,?_⟩
 refine List.forall_mem_cons.2 ⟨⟨Tryz.f116,⟨mf,false,false⟩,Tryz.func116,w5l⟩,?_⟩
 refine List.forall_mem_cons.2 ⟨⟨Tryz.f198,⟨mf,false,false⟩,Tryz.func198,w66⟩,?_⟩
 refine List.forall_mem_cons.2 ⟨⟨Tryz.f199,⟨mf,false,false⟩,Tryz.func199,w69⟩,?_⟩
 refine List.forall_mem_cons.2 ⟨⟨Tryz.f200,⟨mf,false,false⟩,Tryz.func200,w5q⟩,?_⟩
 refine List.forall_mem_cons.2 ⟨⟨Tryz.f201,⟨mf,false,false⟩,Tryz.func201,w67⟩,?_⟩
 refine List.forall_mem_cons.2 ⟨⟨Tryz.f66,⟨mf,false,false⟩,Tryz.func66,w61⟩,?_⟩
 refine List.forall_mem_cons.2 ⟨⟨Tryz.f202,⟨mf,false,false⟩,Tryz.func202,w6d⟩,?_⟩
 refine List.forall_mem_cons.2 ⟨⟨Tryz.f203,⟨mf,false,false⟩,Tryz.func203,w6e⟩,?_⟩
 refine List.forall_mem_cons.2 ⟨⟨Tryz.f204,⟨mf,false,false⟩,Tryz.func204,w5r⟩,?_⟩
 refine List.forall_mem_cons.2 ⟨⟨Tryz.f117,⟨mf,false,false⟩,Tryz.func117,w5p⟩,?_⟩
 refine List.forall_mem_cons.2 ⟨⟨Tryz.f48,⟨mf,false,false⟩,Tryz.func48,w5g⟩,?_⟩
 refine List.forall_mem_cons.2 ⟨⟨Tryz.f205,⟨mf,false,false⟩,Tryz.func205,w5k⟩,?_⟩
 refine List.forall_mem_cons.2 ⟨⟨Tryz.f118,⟨mf,false,false⟩,Tryz.func118,w5o⟩,?_⟩
 refine List.forall_mem_cons.2 ⟨⟨Tryz.f49,⟨mf,false,false⟩,Tryz.func49,w5f⟩,?_⟩
 refine List.forall_mem_cons.2 ⟨⟨Tryz.f142,⟨mf,false,false⟩,Tryz.func142,w65⟩,?_⟩
 refine List.forall_mem_cons.2 ⟨⟨Tryz.f119,⟨mf,false,false⟩,Tryz.func119,w5m⟩,?_⟩
 refine List.forall_mem_cons.2 ⟨⟨Tryz.f50,⟨mf,false,false⟩,Tryz.func50,w5d⟩,?_⟩
 refine List.forall_mem_cons.2 ⟨⟨Tryz.f120,⟨mf,false,false⟩,Tryz.func120,w5n⟩,?_⟩
 refine List.forall_mem_cons.2 ⟨⟨Tryz.f51,⟨mf,false,false⟩,Tryz.func51,w5e⟩,?_⟩
 refine List.forall_mem_cons.2 ⟨⟨Tryz.f30,⟨mf,false,false⟩,Tryz.func30,w4v⟩,?_⟩
 refine List.forall_mem_cons.2 ⟨⟨Tryz.f121,⟨mf,false,false⟩,Tryz.func121,w4w⟩,?_⟩
 refine List.forall_mem_cons.2 ⟨⟨Tryz.f52,⟨mf,false,false⟩,Tryz.func52,w4u⟩,?_⟩
 refine List.forall_mem_cons.2 ⟨⟨Tryz.f56,⟨mf,false,false⟩,Tryz.func56,w47⟩,?_⟩
 refine List.forall_mem_cons.2 ⟨⟨Tryz.f206,⟨mf,false,false⟩,Tryz.func206,w4j⟩,?_⟩
 refine List.forall_mem_cons.2 ⟨⟨Tryz.f125,⟨mf,false,false⟩,Tryz.func125,w4k⟩,?_⟩
 refine List.forall_mem_cons.2 ⟨⟨Tryz.f173,⟨mf,false,false⟩,Tryz.func173,w49⟩,?_⟩
 refine List.forall_mem_cons.2 ⟨⟨Tryz.f88,⟨mf,false,false⟩,Tryz.func88,w48⟩,?_⟩
 refine List.forall_mem_cons.2 ⟨⟨Tryz.f151,⟨mf,false,false⟩,Tryz.func151,w3x⟩,?_⟩
 refine List.forall_mem_cons.2 ⟨⟨Tryz.f90,⟨mf,false,false⟩,Tryz.func90,w40⟩,?_⟩
 refine List.forall_mem_cons.2 ⟨⟨Tryz.f207,⟨mf,false,false⟩,Tryz.func207,w3j⟩,?_⟩
 refine List.forall_mem_cons.2 ⟨⟨Tryz.f130,⟨mf,false,false⟩,Tryz.func130,w56⟩,?_⟩
 refine List.forall_mem_cons.2 ⟨⟨Tryz.f127,⟨mf,false,false⟩,Tryz.func127,w3i⟩,?_⟩
 refine List.forall_mem_cons.2 ⟨⟨Tryz.f107,⟨mf,false,false⟩,Tryz.func107,w3z⟩,?_⟩
 refine List.forall_mem_cons.2 ⟨⟨Tryz.f126,⟨mf,false,false⟩,Tryz.func126,w3y⟩,?_⟩
 refine List.forall_mem_cons.2 ⟨⟨Tryz.f128,⟨mf,true,true⟩,Tryz.func128,w3k⟩,?_⟩
 refine List.forall_mem_cons.2 ⟨⟨Tryz.f129,⟨mf,false,false⟩,Tryz.func129,w57⟩,?_⟩
 refine List.forall_mem_cons.2 ⟨⟨Tryz.f100,⟨mf,false,false⟩,Tryz.func100,w3t⟩,?_⟩
 refine List.forall_mem_cons.2 ⟨⟨Tryz.f132,⟨mf,false,false⟩,Tryz.func132,w4b⟩,?_⟩
 refine List.forall_mem_cons.2 ⟨⟨Tryz.f131,⟨mf,false,false⟩,Tryz.func131,w3r⟩,?_⟩
 refine List.forall_mem_cons.2 ⟨⟨Tryz.f209,⟨mf,false,false⟩,Tryz.func209,w3m⟩,?_⟩
 refine List.forall_mem_cons.2 ⟨⟨Tryz.f208,⟨mf,false,false⟩,Tryz.func208,w53⟩,?_⟩
 refine List.forall_mem_cons.2 ⟨⟨Tryz.f210,⟨mf,false,false⟩,Tryz.func210,w59⟩,?_⟩
 refine List.forall_mem_cons.2 ⟨⟨Tryz.f133,⟨mf,false,false⟩,Tryz.func133,w3l⟩,?_⟩
 refine List.forall_mem_cons.2 ⟨⟨Tryz.f212,⟨mf,false,false⟩,Tryz.func212,w3h⟩,?_⟩
 refine List.forall_mem_cons.2 ⟨⟨Tryz.f211,⟨mf,false,false⟩,Tryz.func211,w4x⟩,?_⟩
 refine List.forall_mem_cons.2 ⟨⟨Tryz.f134,⟨mf,false,false⟩,Tryz.func134,w3g⟩,?_⟩
 refine List.forall_mem_cons.2 ⟨⟨Tryz.f57,⟨mf,false,false⟩,Tryz.func57,w3q⟩,?_⟩
 refine List.forall_mem_cons.2 ⟨⟨Tryz.f9,⟨mf,false,false⟩,Tryz.func9,w38⟩,?_⟩
 refine List.forall_mem_cons.2 ⟨⟨Tryz.f53,⟨mf,false,false⟩,Tryz.func53,w4s⟩,?_⟩
 refine List.forall_mem_cons.2 ⟨⟨Tryz.f6,⟨mf,false,false⟩,Tryz.func6,w4r⟩,?_⟩
 exact fun _ h=>(by cases h)
theorem hF(f:FuncId)(i:IFun)(h:F f=some i) : ∃ (fn:Func) (m:Md),Tryz.prog.funcs[f]? = some fn∧zb9 Tryz.prog m fn=some i:=by
 unfold F at h
 simp only[Option.map_eq_some_iff] at h
 obtain⟨p,hp,rfl⟩:=h
 have h1:=List.mem_of_find?_eq_some hp
 have h2:=List.find?_some hp
 have h3:p.1=f:=by simpa using h2
 subst h3
 exact tblOk p h1
theorem w6s : ∀ p∈exts,ExtOk Tryz.prog p.1 p.2:=by
 unfold exts
 refine List.forall_mem_cons.2 ⟨zff (mf:=⟨mf,false,false⟩) (Checked.mixed Tryz.checked) Tryz.func71 (show zb9 Tryz.prog ⟨mf,false,false⟩ Tryz.f71=some (zn1 t_int true 1) by kernel_rfl),?_⟩
 exact fun _ h=>(by cases h)
theorem hE(f:FuncId)(e:List PV→Option PV)(h:ext f=some e):ExtOk Tryz.prog f e:=by
 unfold ext at h
 simp only[Option.map_eq_some_iff] at h
 obtain⟨p,hp,rfl⟩:=h
 have h1:=List.mem_of_find?_eq_some hp
 have h2:=List.find?_some hp
 have h3:p.1=f:=by simpa using h2
 subst h3
 exact w6s p h1
end Go.Proofs.YtbaclnecajkknaaGreat.Pi

