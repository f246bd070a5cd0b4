/- The forms are those of the program. No condition. -/
import Derived.Test.YtbaclnecajkknaaGreatChecked
import Derived.Test.YtbaclnecajkknaaGreatIrFnSilent
import Derived.Test.YtbaclnecajkknaaGreatPiTop
import Derived.Test.YtbaclnecajkknaaGreatPiDz
import Derived.KernelRfl
namespace Go.Proofs.YtbaclnecajkknaaGreat.Pi
open Go
set_option linter.all false
def mf(f:FuncId):Bool:=[174,91,108,221,124,157,256,223,113,122,123,54,73,55,161,75,224,258,225,260,226,268,262,261,227,228,229,230,231,163,78].contains f
theorem w3x:zb9 Tryz.prog ⟨mf,false,false⟩ Tryz.f7=some wba:=by kernel_rfl
theorem w5m:zb9 Tryz.prog ⟨mf,false,false⟩ Tryz.f174=some wcz:=by kernel_rfl
theorem w5o:zb9 Tryz.prog ⟨mf,false,false⟩ Tryz.f91=some wd1:=by kernel_rfl
theorem w5n:zb9 Tryz.prog ⟨mf,false,false⟩ Tryz.f108=some wd0:=by kernel_rfl
theorem w5f:zb9 Tryz.prog ⟨mf,false,false⟩ Tryz.f221=some wcs:=by kernel_rfl
theorem w5e:zb9 Tryz.prog ⟨mf,false,false⟩ Tryz.f124=some wcr:=by kernel_rfl
theorem w5q:zb9 Tryz.prog ⟨mf,false,false⟩ Tryz.f157=some wd3:=by kernel_rfl
theorem w5s:zb9 Tryz.prog ⟨mf,false,false⟩ Tryz.f136=some wd5:=by kernel_rfl
theorem w5a:zb9 Tryz.prog ⟨mf,false,false⟩ Tryz.f222=some wcn:=by kernel_rfl
theorem w58:zb9 Tryz.prog ⟨mf,false,false⟩ Tryz.f256=some wcl:=by kernel_rfl
theorem w59:zb9 Tryz.prog ⟨mf,false,false⟩ Tryz.f257=some wcm:=by kernel_rfl
theorem w57:zb9 Tryz.prog ⟨mf,false,false⟩ Tryz.f223=some wck:=by kernel_rfl
theorem w5w:zb9 Tryz.prog ⟨mf,false,false⟩ Tryz.f170=some wd9:=by kernel_rfl
theorem w5y:zb9 Tryz.prog ⟨mf,false,false⟩ Tryz.f171=some wdb:=by kernel_rfl
theorem w51:zb9 Tryz.prog ⟨mf,false,false⟩ Tryz.f84=some wce:=by kernel_rfl
theorem w66:zb9 Tryz.prog ⟨mf,false,false⟩ Tryz.f243=some wdj:=by kernel_rfl
theorem w64:zb9 Tryz.prog ⟨mf,false,false⟩ Tryz.f244=some wdh:=by kernel_rfl
theorem w65:zb9 Tryz.prog ⟨mf,false,false⟩ Tryz.f245=some wdi:=by kernel_rfl
theorem w52:zb9 Tryz.prog ⟨mf,false,false⟩ Tryz.f213=some wcf:=by kernel_rfl
theorem w5r:zb9 Tryz.prog ⟨mf,false,false⟩ Tryz.f112=some wd4:=by kernel_rfl
theorem w4y:zb9 Tryz.prog ⟨mf,false,false⟩ Tryz.f135=some wcb:=by kernel_rfl
theorem w55:zb9 Tryz.prog ⟨mf,false,false⟩ Tryz.f158=some wci:=by kernel_rfl
theorem w5x:zb9 Tryz.prog ⟨mf,false,false⟩ Tryz.f113=some wda:=by kernel_rfl
theorem w5i:zb9 Tryz.prog ⟨mf,false,false⟩ Tryz.f122=some wcv:=by kernel_rfl
theorem w5p:zb9 Tryz.prog ⟨mf,false,false⟩ Tryz.f123=some wd2:=by kernel_rfl
theorem w5h:zb9 Tryz.prog ⟨mf,false,false⟩ Tryz.f54=some wcu:=by kernel_rfl
theorem w5j:zb9 Tryz.prog ⟨mf,false,false⟩ Tryz.f73=some wcw:=by kernel_rfl
theorem w67:zb9 Tryz.prog ⟨mf,false,false⟩ Tryz.f137=some wdk:=by kernel_rfl
theorem w54:zb9 Tryz.prog ⟨mf,false,false⟩ Tryz.f74=some wch:=by kernel_rfl
theorem w5g:zb9 Tryz.prog ⟨mf,false,false⟩ Tryz.f55=some wct:=by kernel_rfl
theorem w5v:zb9 Tryz.prog ⟨mf,false,false⟩ Tryz.f66=some wd8:=by kernel_rfl
theorem w5c:zb9 Tryz.prog ⟨mf,false,false⟩ Tryz.f85=some wcp:=by kernel_rfl
theorem w50:zb9 Tryz.prog ⟨mf,false,false⟩ Tryz.f101=some wcd:=by kernel_rfl
theorem w63:zb9 Tryz.prog ⟨mf,false,false⟩ Tryz.f180=some wdg:=by kernel_rfl
theorem w60:zb9 Tryz.prog ⟨mf,false,false⟩ Tryz.f214=some wdd:=by kernel_rfl
theorem w61:zb9 Tryz.prog ⟨mf,false,false⟩ Tryz.f138=some wde:=by kernel_rfl
theorem w4v:zb9 Tryz.prog ⟨mf,false,false⟩ Tryz.f159=some wc8:=by kernel_rfl
theorem w62:zb9 Tryz.prog ⟨mf,false,false⟩ Tryz.f139=some wdf:=by kernel_rfl
theorem w4x:zb9 Tryz.prog ⟨mf,false,false⟩ Tryz.f160=some wca:=by kernel_rfl
theorem w5u:zb9 Tryz.prog ⟨mf,false,false⟩ Tryz.f92=some wd7:=by kernel_rfl
theorem w5k:zb9 Tryz.prog ⟨mf,false,false⟩ Tryz.f161=some wcx:=by kernel_rfl
theorem w5l:zb9 Tryz.prog ⟨mf,false,false⟩ Tryz.f75=some wcy:=by kernel_rfl
theorem w4t:zb9 Tryz.prog ⟨mf,false,false⟩ Tryz.f19=some wc6:=by kernel_rfl
theorem w3v:zb9 Tryz.prog ⟨mf,false,false⟩ Tryz.f69=some wb8:=by kernel_rfl
theorem w3p:zb9 Tryz.prog ⟨mf,false,false⟩ Tryz.f237=some wb2:=by kernel_rfl
theorem w3i:zb9 Tryz.prog ⟨mf,false,false⟩ Tryz.f83=some wau:=by kernel_rfl
theorem w3j:zb9 Tryz.prog ⟨mf,false,false⟩ Tryz.f169=some wav:=by kernel_rfl
theorem w3d:zb9 Tryz.prog ⟨mf,false,false⟩ Tryz.f168=some wao:=by kernel_rfl
theorem w49:zb9 Tryz.prog ⟨mf,false,false⟩ Tryz.f236=some wbm:=by kernel_rfl
theorem w45:zb9 Tryz.prog ⟨mf,false,false⟩ Tryz.f167=some wbi:=by kernel_rfl
theorem w3c:zb9 Tryz.prog ⟨mf,false,false⟩ Tryz.f82=some wan:=by kernel_rfl
theorem w3b:zb9 Tryz.prog ⟨mf,false,false⟩ Tryz.f97=some wam:=by kernel_rfl
theorem w3s:zb9 Tryz.prog ⟨mf,false,false⟩ Tryz.f86=some wb5:=by kernel_rfl
theorem w3r:zb9 Tryz.prog ⟨mf,false,false⟩ Tryz.f173=some wb4:=by kernel_rfl
theorem w4a:zb9 Tryz.prog ⟨mf,false,false⟩ Tryz.f238=some wbn:=by kernel_rfl
theorem w46:zb9 Tryz.prog ⟨mf,false,false⟩ Tryz.f172=some wbj:=by kernel_rfl
theorem w3q:zb9 Tryz.prog ⟨mf,false,false⟩ Tryz.f88=some wb3:=by kernel_rfl
theorem w3m:zb9 Tryz.prog ⟨mf,false,false⟩ Tryz.f151=some waz:=by kernel_rfl
theorem w3o:zb9 Tryz.prog ⟨mf,false,false⟩ Tryz.f90=some wb1:=by kernel_rfl
theorem w48:zb9 Tryz.prog ⟨mf,false,false⟩ Tryz.f179=some wbl:=by kernel_rfl
theorem w3g:zb9 Tryz.prog ⟨mf,false,false⟩ Tryz.f207=some war:=by kernel_rfl
theorem w4b:zb9 Tryz.prog ⟨mf,false,false⟩ Tryz.f130=some wbo:=by kernel_rfl
theorem w3f:zb9 Tryz.prog ⟨mf,false,false⟩ Tryz.f127=some waq:=by kernel_rfl
theorem w3n:zb9 Tryz.prog ⟨mf,false,false⟩ Tryz.f107=some wb0:=by kernel_rfl
theorem w38:zb9 Tryz.prog ⟨mf,false,false⟩ Tryz.f40=some waj:=by kernel_rfl
theorem w3u:zb9 Tryz.prog ⟨mf,false,false⟩ Tryz.f76=some wb7:=by kernel_rfl
theorem w3a:zb9 Tryz.prog ⟨mf,false,false⟩ Tryz.f23=some wal:=by kernel_rfl
theorem w4c:zb9 Tryz.prog ⟨mf,false,false⟩ Tryz.f162=some wbp:=by kernel_rfl
theorem w47:zb9 Tryz.prog ⟨mf,false,false⟩ Tryz.f77=some wbk:=by kernel_rfl
theorem w42:zb9 Tryz.prog ⟨mf,false,false⟩ Tryz.f232=some wbf:=by kernel_rfl
theorem w43:zb9 Tryz.prog ⟨mf,false,false⟩ Tryz.f233=some wbg:=by kernel_rfl
theorem w41:zb9 Tryz.prog ⟨mf,false,false⟩ Tryz.f164=some wbe:=by kernel_rfl
theorem w4h:zb9 Tryz.prog ⟨mf,false,false⟩ Tryz.f224=some wbu:=by kernel_rfl
theorem w4r:zb9 Tryz.prog ⟨mf,false,false⟩ Tryz.f258=some wc4:=by kernel_rfl
theorem w4g:zb9 Tryz.prog ⟨mf,false,false⟩ Tryz.f225=some wbt:=by kernel_rfl
theorem w4k:zb9 Tryz.prog ⟨mf,false,false⟩ Tryz.f259=some wbx:=by kernel_rfl
theorem w4s:zb9 Tryz.prog ⟨mf,false,false⟩ Tryz.f260=some wc5:=by kernel_rfl
theorem w4e:zb9 Tryz.prog ⟨mf,false,false⟩ Tryz.f226=some wbr:=by kernel_rfl
theorem w4l:zb9 Tryz.prog ⟨mf,false,false⟩ Tryz.f268=some wby:=by kernel_rfl
theorem w4j:zb9 Tryz.prog ⟨mf,false,false⟩ Tryz.f262=some wbw:=by kernel_rfl
theorem w4i:zb9 Tryz.prog ⟨mf,false,false⟩ Tryz.f261=some wbv:=by kernel_rfl
theorem w4f:zb9 Tryz.prog ⟨mf,false,false⟩ Tryz.f227=some wbs:=by kernel_rfl
theorem w4q:zb9 Tryz.prog ⟨mf,false,false⟩ Tryz.f228=some wc3:=by kernel_rfl
theorem w4m:zb9 Tryz.prog ⟨mf,false,false⟩ Tryz.f229=some wbz:=by kernel_rfl
theorem w4o:zb9 Tryz.prog ⟨mf,false,false⟩ Tryz.f230=some wc1:=by kernel_rfl
theorem w4n:zb9 Tryz.prog ⟨mf,false,false⟩ Tryz.f231=some wc0:=by kernel_rfl
theorem w4p:zb9 Tryz.prog ⟨mf,false,false⟩ Tryz.f163=some wc2:=by kernel_rfl
theorem w4d:zb9 Tryz.prog ⟨mf,false,false⟩ Tryz.f78=some wbq:=by kernel_rfl
theorem w37:zb9 Tryz.prog ⟨mf,false,false⟩ Tryz.f234=some wai:=by kernel_rfl
theorem w36:zb9 Tryz.prog ⟨mf,false,false⟩ Tryz.f165=some wah:=by kernel_rfl
theorem w44:zb9 Tryz.prog ⟨mf,false,false⟩ Tryz.f79=some wbh:=by kernel_rfl
theorem w3e:zb9 Tryz.prog ⟨mf,false,false⟩ Tryz.f20=some wap:=by kernel_rfl
theorem w69:zb9 Tryz.prog ⟨mf,false,false⟩ Tryz.f235=some wdm:=by kernel_rfl
theorem w5z:zb9 Tryz.prog ⟨mf,false,false⟩ Tryz.f142=some wdc:=by kernel_rfl
theorem w6b:zb9 Tryz.prog ⟨mf,false,false⟩ Tryz.f64=some wdo:=by kernel_rfl
theorem w6a:zb9 Tryz.prog ⟨mf,false,false⟩ Tryz.f60=some wdn:=by kernel_rfl
theorem w4w:zb9 Tryz.prog ⟨mf,false,false⟩ Tryz.f166=some wc9:=by kernel_rfl
theorem w68:zb9 Tryz.prog ⟨mf,false,false⟩ Tryz.f80=some wdl:=by kernel_rfl
theorem w4z:zb9 Tryz.prog ⟨mf,false,false⟩ Tryz.f24=some wcc:=by kernel_rfl
theorem w5b:zb9 Tryz.prog ⟨mf,false,false⟩ Tryz.f81=some wco:=by kernel_rfl
theorem w5d:zb9 Tryz.prog ⟨mf,false,false⟩ Tryz.f147=some wcq:=by kernel_rfl
theorem w5t:zb9 Tryz.prog ⟨mf,false,false⟩ Tryz.f65=some wd6:=by kernel_rfl
theorem w53:zb9 Tryz.prog ⟨mf,false,false⟩ Tryz.f21=some wcg:=by kernel_rfl
theorem w3z:zb9 Tryz.prog ⟨mf,false,false⟩ Tryz.f30=some wbc:=by kernel_rfl
theorem w40:zb9 Tryz.prog ⟨mf,false,false⟩ Tryz.f22=some wbd:=by kernel_rfl
theorem w3y:zb9 Tryz.prog ⟨mf,false,false⟩ Tryz.f25=some wbb:=by kernel_rfl
theorem w3t:zb9 Tryz.prog ⟨mf,false,false⟩ Tryz.f87=some wb6:=by kernel_rfl
theorem w3l:zb9 Tryz.prog ⟨mf,false,false⟩ Tryz.f89=some wax:=by kernel_rfl
theorem w39:zb9 Tryz.prog ⟨mf,false,false⟩ Tryz.f26=some wak:=by kernel_rfl
theorem w4u:zb9 Tryz.prog ⟨mf,false,false⟩ Tryz.f27=some wc7:=by kernel_rfl
theorem w3k:zb9 Tryz.prog ⟨mf,false,false⟩ Tryz.f93=some waw:=by kernel_rfl
theorem w3h:zb9 Tryz.prog ⟨mf,false,false⟩ Tryz.f28=some wat:=by kernel_rfl
theorem w56:zb9 Tryz.prog ⟨mf,false,false⟩ Tryz.f29=some wcj:=by kernel_rfl
theorem w3w:zb9 Tryz.prog ⟨mf,false,false⟩ Tryz.f4=some wb9:=by kernel_rfl
theorem tblOk : ∀ p∈tbl,∃ (fn:Func) (m:Md),Tryz.prog.funcs[p.1]? = some fn∧zb9 Tryz.prog m fn=some p.2:=by
 unfold tbl
 refine List.forall_mem_cons.2 ⟨⟨Tryz.f7,⟨mf,false,false⟩,Tryz.func7,w3x⟩,?_⟩
 refine List.forall_mem_cons.2 ⟨⟨Tryz.f174,⟨mf,false,false⟩,Tryz.func174,w5m⟩,?_⟩
 refine List.forall_mem_cons.2 ⟨⟨Tryz.f91,⟨mf,false,false⟩,Tryz.func91,w5o⟩,?_⟩
 refine List.forall_mem_cons.2 ⟨⟨Tryz.f108,⟨mf,false,false⟩,Tryz.func108,w5n⟩,?_⟩
 refine List.forall_mem_cons.2 ⟨⟨Tryz.f221,⟨mf,false,false⟩,Tryz.func221,w5f⟩,?_⟩
 refine List.forall_mem_cons.2 ⟨⟨Tryz.f124,⟨mf,false,false⟩,Tryz.func124,w5e⟩,?_⟩
 refine List.forall_mem_cons.2 ⟨⟨Tryz.f157,⟨mf,false,false⟩,Tryz.func157,w5q⟩,?_⟩
 refine List.forall_mem_cons.2 ⟨⟨Tryz.f136,⟨mf,false,false⟩,Tryz.func136,w5s⟩,?_⟩
 refine List.forall_mem_cons.2 ⟨⟨Tryz.f222,⟨mf,false,false⟩,Tryz.func222,w5a⟩,?_⟩
 refine List.forall_mem_cons.2 ⟨⟨Tryz.f256,⟨mf,false,false⟩,Tryz.func256,w58⟩,?_⟩
 refine List.forall_mem_cons.2 ⟨⟨Tryz.f257,⟨mf,false,false⟩,Tryz.func257,w59⟩,?_⟩
 refine List.forall_mem_cons.2 ⟨⟨Tryz.f223,⟨mf,false,false⟩,Tryz.func223,w57⟩,?_⟩
 refine List.forall_mem_cons.2 ⟨⟨Tryz.f170,⟨mf,false,false⟩,Tryz.func170,w5w⟩,?_⟩
 refine List.forall_mem_cons.2 ⟨⟨Tryz.f171,⟨mf,false,false⟩,Tryz.func171,w5y⟩,?_⟩
 refine List.forall_mem_cons.2 ⟨⟨Tryz.f84,⟨mf,false,false⟩,Tryz.func84,w51⟩,?_⟩
 refine List.forall_mem_cons.2 ⟨⟨Tryz.f243,⟨mf,false,false⟩,Tryz.func243,w66⟩,?_⟩
 refine List.forall_mem_cons.2 ⟨⟨Tryz.f244,⟨mf,false,false⟩,Tryz.func244,w64⟩,?_⟩
 refine List.forall_mem_cons.2 ⟨⟨Tryz.f245,⟨mf,false,false⟩,Tryz.func245,w65⟩,?_⟩
 refine List.forall_mem_cons.2 ⟨⟨Tryz.f213,⟨mf,false,false⟩,Tryz.func213,w52⟩,?_⟩
 refine List.forall_mem_cons.2 ⟨⟨Tryz.f112,⟨mf,false,false⟩,Tryz.func112,w5r⟩,?_⟩
 refine List.forall_mem_cons.2 ⟨⟨Tryz.f135,⟨mf,false,false⟩,Tryz.func135,w4y⟩,?_⟩
 refine List.forall_mem_cons.2 ⟨⟨Tryz.f158,⟨mf,false,false⟩,Tryz.func158,w55⟩,?_⟩
 refine List.forall_mem_cons.2 ⟨⟨Tryz.f113,⟨mf,false,false⟩,Tryz.func113,w5x⟩,?_⟩
 refine List.forall_mem_cons.2 ⟨⟨Tryz.f122,⟨mf,false,false⟩,Tryz.func122,w5i⟩,?_⟩
 refine List.forall_mem_cons.2 ⟨⟨Tryz.f123,⟨mf,false,false⟩,Tryz.func123,w5p⟩,?_⟩
 refine List.forall_mem_cons.2 ⟨⟨Tryz.f54,⟨mf,false,false⟩,Tryz.func54,w5h⟩,?_⟩
 refine List.forall_mem_cons.2 ⟨⟨Tryz.f73,⟨mf,false,false⟩,Tryz.func73,w5j⟩,?_⟩
 refine List.forall_mem_cons.2 ⟨⟨Tryz.f137,⟨mf,false,false⟩,Tryz.func137,w67⟩,?_⟩
 refine List.forall_mem_cons.2 ⟨⟨Tryz.f74,⟨mf,false,false⟩,Tryz.func74,w54⟩,?_⟩
 refine List.forall_mem_cons.2 ⟨⟨Tryz.f55,⟨mf,false,false⟩,Tryz.func55,w5g⟩,?_⟩
 refine List.forall_mem_cons.2 ⟨⟨Tryz.f66,⟨mf,false,false⟩,Tryz.func66,w5v⟩,?_⟩
 refine List.forall_mem_cons.2 ⟨⟨Tryz.f85,⟨mf,false,false⟩,Tryz.func85,w5c⟩,?_⟩
 refine List.forall_mem_cons.2 ⟨⟨Tryz.f101,⟨mf,false,false⟩,Tryz.func101,w50⟩,?_⟩
 refine List.forall_mem_cons.2 ⟨⟨Tryz.f180,⟨mf,false,false⟩,Tryz.func180,w63⟩,?_⟩
 refine List.forall_mem_cons.2 ⟨⟨Tryz.f214,⟨mf,false,false⟩,Tryz.func214,w60⟩,?_⟩
 refine List.forall_mem_cons.2 ⟨⟨Tryz.f138,⟨mf,false,false⟩,Tryz.func138,w61⟩,?_⟩
 refine List.forall_mem_cons.2 ⟨⟨Tryz.f159,⟨mf,false,false⟩,Tryz.func159,w4v⟩,?_⟩
 refine List.forall_mem_cons.2 ⟨⟨Tryz.f139,⟨mf,false,false⟩,Tryz.func139,w62⟩,?_⟩
 refine List.forall_mem_cons.2 ⟨⟨Tryz.f160,⟨mf,false,false⟩,Tryz.func160,w4x⟩,?_⟩
 refine List.forall_mem_cons.2 ⟨⟨Tryz.f92,⟨mf,false,false⟩,Tryz.func92,w5u⟩,?_⟩
 refine List.forall_mem_cons.2 ⟨⟨Tryz.f161,⟨mf,false,false⟩,Tryz.func161,w5k⟩,?_⟩
 refine List.forall_mem_cons.2 ⟨⟨Tryz.f75,⟨mf,false,false⟩,Tryz.func75,w5l⟩,?_⟩
 refine List.forall_mem_cons.2 ⟨⟨Tryz.f19,⟨mf,false,false⟩,Tryz.func19,w4t⟩,?_⟩
 refine List.forall_mem_cons.2 ⟨⟨Tryz.f69,⟨mf,false,false⟩,Tryz.func69,w3v⟩,?_⟩
 refine List.forall_mem_cons.2 ⟨⟨Tryz.f237,⟨mf,false,false⟩,Tryz.func237,w3p⟩,?_⟩
 refine List.forall_mem_cons.2 ⟨⟨Tryz.f83,⟨mf,false,false⟩,Tryz.func83,w3i⟩,?_⟩
 refine List.forall_mem_cons.2 ⟨⟨Tryz.f169,⟨mf,false,false⟩,Tryz.func169,w3j⟩,?_⟩
 refine List.forall_mem_cons.2 ⟨⟨Tryz.f168,⟨mf,false,false⟩,Tryz.func168,w3d⟩,?_⟩
 refine List.forall_mem_cons.2 ⟨⟨Tryz.f236,⟨mf,false,false⟩,Tryz.func236,w49⟩,?_⟩
 refine List.forall_mem_cons.2 ⟨⟨Tryz.f167,⟨mf,false,false⟩,Tryz.func167,w45⟩,?_⟩
 refine List.forall_mem_cons.2 ⟨⟨Tryz.f82,⟨mf,false,false⟩,Tryz.func82,w3c⟩,?_⟩
 refine List.forall_mem_cons.2 ⟨⟨Tryz.f97,⟨mf,false,false⟩,Tryz.func97,w3b⟩,?_⟩
 refine List.forall_mem_cons.2 ⟨⟨Tryz.f86,⟨mf,false,false⟩,Tryz.func86,w3s⟩,?_⟩
 refine List.forall_mem_cons.2 ⟨⟨Tryz.f173,⟨mf,false,false⟩,Tryz.func173,w3r⟩,?_⟩
 refine List.forall_mem_cons.2 ⟨⟨Tryz.f238,⟨mf,false,false⟩,Tryz.func238,w4a⟩,?_⟩
 refine List.forall_mem_cons.2 ⟨⟨Tryz.f172,⟨mf,false,false⟩,Tryz.func172,w46⟩,?_⟩
 refine List.forall_mem_cons.2 ⟨⟨Tryz.f88,⟨mf,false,false⟩,Tryz.func88,w3q⟩,?_⟩
 refine List.forall_mem_cons.2 ⟨⟨Tryz.f151,⟨mf,false,false⟩,Tryz.func151,w3m⟩,?_⟩
 refine List.forall_mem_cons.2 ⟨⟨Tryz.f90,⟨mf,false,false⟩,Tryz.func90,w3o⟩,?_⟩
 refine List.forall_mem_cons.2 ⟨⟨Tryz.f179,⟨mf,false,false⟩,Tryz.func179,w48⟩,?_⟩
 refine List.forall_mem_cons.2 ⟨⟨Tryz.f207,⟨mf,false,false⟩,Tryz.func207,w3g⟩,?_⟩
 refine List.forall_mem_cons.2 ⟨⟨Tryz.f130,⟨mf,false,false⟩,Tryz.func130,w4b⟩,?_⟩
 refine List.forall_mem_cons.2 ⟨⟨Tryz.f127,⟨mf,false,false⟩,Tryz.func127,w3f⟩,?_⟩
 refine List.forall_mem_cons.2 ⟨⟨Tryz.f107,⟨mf,false,false⟩,Tryz.func107,w3n⟩,?_⟩
 refine List.forall_mem_cons.2 ⟨⟨Tryz.f40,⟨mf,false,false⟩,Tryz.func40,w38⟩,?_⟩
 refine List.forall_mem_cons.2 ⟨⟨Tryz.f76,⟨mf,false,false⟩,Tryz.func76,w3u⟩,?_⟩
 refine List.forall_mem_cons.2 ⟨⟨Tryz.f23,⟨mf,false,false⟩,Tryz.func23,w3a⟩,?_⟩
 refine List.forall_mem_cons.2 ⟨⟨Tryz.f162,⟨mf,false,false⟩,Tryz.func162,w4c⟩,?_⟩
 refine List.forall_mem_cons.2 ⟨⟨Tryz.f77,⟨mf,false,false⟩,Tryz.func77,w47⟩,?_⟩
 refine List.forall_mem_cons.2 ⟨⟨Tryz.f232,⟨mf,false,false⟩,Tryz.func232,w42⟩,?_⟩
 refine List.forall_mem_cons.2 ⟨⟨Tryz.f233,⟨mf,false,false⟩,Tryz.func233,w43⟩,?_⟩
 refine List.forall_mem_cons.2 ⟨⟨Tryz.f164,⟨mf,false,false⟩,Tryz.func164,w41⟩,?_⟩
 refine List.forall_mem_cons.2 ⟨⟨Tryz.f224,⟨mf,false,false⟩,Tryz.func224,w4h⟩,?_⟩
 refine List.forall_mem_cons.2 ⟨⟨Tryz.f258,⟨mf,false,false⟩,Tryz.func258,w4r⟩,?_⟩
 refine List.forall_mem_cons.2 ⟨⟨Tryz.f225,⟨mf,false,false⟩,Tryz.func225,w4g⟩,?_⟩
 refine List.forall_mem_cons.2 ⟨⟨Tryz.f259,⟨mf,false,false⟩,Tryz.func259,w4k⟩,?_⟩
 refine List.forall_mem_cons.2 ⟨⟨Tryz.f260,⟨mf,false,false⟩,Tryz.func260,w4s⟩,?_⟩
 refine List.forall_mem_cons.2 ⟨⟨Tryz.f226,⟨mf,false,false⟩,Tryz.func226,w4e⟩,?_⟩
 refine List.forall_mem_cons.2 ⟨⟨Tryz.f268,⟨mf,false,false⟩,Tryz.func268,w4l⟩,?_⟩
 refine List.forall_mem_cons.2 ⟨⟨Tryz.f262,⟨mf,false,false⟩,Tryz.func262,w4j⟩,?_⟩
 refine List.forall_mem_cons.2 ⟨⟨Tryz.f261,⟨mf,false,false⟩,Tryz.func261,w4i⟩,?_⟩
 refine List.forall_mem_cons.2 ⟨⟨Tryz.f227,⟨mf,false,false⟩,Tryz.func227,w4f⟩,?_⟩
 refine List.forall_mem_cons.2 ⟨⟨Tryz.f228,⟨mf,false,false⟩,Tryz.func228,w4q⟩,?_⟩
 refine List.forall_mem_cons.2 ⟨⟨Tryz.f229,⟨mf,false,false⟩,Tryz.func229,w4m⟩,?_⟩
 refine List.forall_mem_cons.2 ⟨⟨Tryz.f230,⟨mf,false,false⟩,Tryz.func230,w4o⟩,?_⟩
 refine List.forall_mem_cons.2 ⟨⟨Tryz.f231,⟨mf,false,false⟩,Tryz.func231,w4n⟩,?_⟩
 refine List.forall_mem_cons.2 ⟨⟨Tryz.f163,⟨mf,false,false⟩,Tryz.func163,w4p⟩,?_⟩
 refine List.forall_mem_cons.2 ⟨⟨Tryz.f78,⟨mf,false,false⟩,Tryz.func78,w4d⟩,?_⟩
 refine List.forall_mem_cons.2 ⟨⟨Tryz.f234,⟨mf,false,false⟩,Tryz.func234,w37⟩,?_⟩
 refine List.forall_mem_cons.2 ⟨⟨Tryz.f165,⟨mf,false,false⟩,Tryz.func165,w36⟩,?_⟩
 refine List.forall_mem_cons.2 ⟨⟨Tryz.f79,⟨mf,false,false⟩,Tryz.func79,w44⟩,?_⟩
 refine List.forall_mem_cons.2 ⟨⟨Tryz.f20,⟨mf,false,false⟩,Tryz.func20,w3e⟩,?_⟩
 refine List.forall_mem_cons.2 ⟨⟨Tryz.f235,⟨mf,false,false⟩,Tryz.func235,w69⟩,?_⟩
 refine List.forall_mem_cons.2 ⟨⟨Tryz.f142,⟨mf,false,false⟩,Tryz.func142,w5z⟩,?_⟩
 refine List.forall_mem_cons.2 ⟨⟨Tryz.f64,⟨mf,false,false⟩,Tryz.func64,w6b⟩,?_⟩
 refine List.forall_mem_cons.2 ⟨⟨Tryz.f60,⟨mf,false,false⟩,Tryz.func60,w6a⟩,?_⟩
 refine List.forall_mem_cons.2 ⟨⟨Tryz.f166,⟨mf,false,false⟩,Tryz.func166,w4w⟩,?_⟩
 refine List.forall_mem_cons.2 ⟨⟨Tryz.f80,⟨mf,false,false⟩,Tryz.func80,w68⟩,?_⟩
 refine List.forall_mem_cons.2 ⟨⟨Tryz.f24,⟨mf,false,false⟩,Tryz.func24,w4z⟩,?_⟩
 refine List.forall_mem_cons.2 ⟨⟨Tryz.f81,⟨mf,false,false⟩,Tryz.func81,w5b⟩,?_⟩
 refine List.forall_mem_cons.2 ⟨⟨Tryz.f147,⟨mf,false,false⟩,Tryz.func147,w5d⟩,?_⟩
 refine List.forall_mem_cons.2 ⟨⟨Tryz.f65,⟨mf,false,false⟩,Tryz.func65,w5t⟩,?_⟩
 refine List.forall_mem_cons.2 ⟨⟨Tryz.f21,⟨mf,false,false⟩,Tryz.func21,w53⟩,?_⟩
 refine List.forall_mem_cons.2 ⟨⟨Tryz.f30,⟨mf,false,false⟩,Tryz.func30,w3z⟩,?_⟩
 refine List.forall_mem_cons.2 ⟨⟨Tryz.f22,⟨mf,false,false⟩,Tryz.func22,w40⟩,?_⟩
 refine List.forall_mem_cons.2 ⟨⟨Tryz.f25,⟨mf,false,false⟩,Tryz.func25,w3y⟩,?_⟩
 refine List.forall_mem_cons.2 ⟨⟨Tryz.f87,⟨mf,false,false⟩,Tryz.func87,w3t⟩,?_⟩
 refine List.forall_mem_cons.2 ⟨⟨Tryz.f89,⟨mf,false,false⟩,Tryz.func89,w3l⟩,?_⟩
 refine List.forall_mem_cons.2 ⟨⟨Tryz.f26,⟨mf,false,false⟩,Tryz.func26,w39⟩,?_⟩
 refine List.forall_mem_cons.2 ⟨⟨Tryz.f27,⟨mf,false,false⟩,Tryz.func27,w4u⟩,?_⟩
 refine List.forall_mem_cons.2 ⟨⟨Tryz.f93,⟨mf,false,false⟩,Tryz.func93,w3k⟩,?_⟩
 refine List.forall_mem_cons.2 ⟨⟨Tryz.f28,⟨mf,false,false⟩,Tryz.func28,w3h⟩,?_⟩
 refine List.forall_mem_cons.2 ⟨⟨Tryz.f29,⟨mf,false,false⟩,Tryz.func29,w56⟩,?_⟩
 refine List.forall_mem_cons.2 ⟨⟨Tryz.f4,⟨mf,false,false⟩,Tryz.func4,w3w⟩,?_⟩
 exact fun _ h=>(by cases h)
theorem hF(f:FuncId)(i:IFun)(h:F f=some i) : ∃ (fn:Func) (m:Md),Tryz.prog.funcs[f]? = some fn∧zb9 Tryz.prog m fn=some i:=by
 unfold F at h
 simp only[Option.map_eq_some_iff] at h
 obtain⟨p,hp,rfl⟩:=h
 have h1:=List.mem_of_find?_eq_some hp
 have h2:=List.find?_some hp
 have h3:p.1=f:=by simpa using h2
 subst h3
 exact tblOk p h1
theorem w6h : ∀ p∈exts,ExtOk Tryz.prog p.1 p.2:=by
 unfold exts
 refine List.forall_mem_cons.2 ⟨zff (mf:=⟨mf,false,false⟩) (Checked.mixed Tryz.checked) Tryz.func71 (show zb9 Tryz.prog ⟨mf,false,false⟩ Tryz.f71=some (zn1 t_int true 1) by kernel_rfl),?_⟩
 exact fun _ h=>(by cases h)
theorem hE(f:FuncId)(e:List PV→Option PV)(h:ext f=some e):ExtOk Tryz.prog f e:=by
 unfold ext at h
 simp only[Option.map_eq_some_iff] at h
 obtain⟨p,hp,rfl⟩:=h
 have h1:=List.mem_of_find?_eq_some hp
 have h2:=List.find?_some hp
 have h3:p.1=f:=by simpa using h2
 subst h3
 exact w6h p h1
end Go.Proofs.YtbaclnecajkknaaGreat.Pi

