/- The forms are those of the program. No condition. -/
import Derived.Test.YtbaclnecajkknaaChecked
import Derived.Test.YtbaclnecajkknaaIrFnChained
import Derived.Test.YtbaclnecajkknaaPiTop
import Derived.Test.YtbaclnecajkknaaPiDz
import Derived.KernelRfl
namespace Go.Proofs.Ytbaclnecajkknaa.Pi
open Go
set_option linter.all false
def mf(f:FuncId):Bool:=[123,80,81,79,82,83,84,47,126,164,127,159,128,172,166,165,129,130,131,133,134,87,51,146].contains f
theorem w3s:zbq Try.prog ⟨mf,false,false⟩ Try.f18=some waj:=by kernel_rfl
theorem w4z:zbq Try.prog ⟨mf,false,false⟩ Try.f123=some wbs:=by kernel_rfl
theorem w51:zbq Try.prog ⟨mf,false,false⟩ Try.f80=some wbu:=by kernel_rfl
theorem w57:zbq Try.prog ⟨mf,false,false⟩ Try.f81=some wc0:=by kernel_rfl
theorem w4y:zbq Try.prog ⟨mf,false,false⟩ Try.f79=some wbr:=by kernel_rfl
theorem w52:zbq Try.prog ⟨mf,false,false⟩ Try.f82=some wbv:=by kernel_rfl
theorem w50:zbq Try.prog ⟨mf,false,false⟩ Try.f83=some wbt:=by kernel_rfl
theorem w4w:zbq Try.prog ⟨mf,false,false⟩ Try.f84=some wbp:=by kernel_rfl
theorem w4x:zbq Try.prog ⟨mf,false,false⟩ Try.f47=some wbq:=by kernel_rfl
theorem w4s:zbq Try.prog ⟨mf,false,false⟩ Try.f19=some wbl:=by kernel_rfl
theorem w3q:zbq Try.prog ⟨mf,false,false⟩ Try.f85=some wah:=by kernel_rfl
theorem w3g:zbq Try.prog ⟨mf,false,false⟩ Try.f156=some wa7:=by kernel_rfl
theorem w35:zbq Try.prog ⟨mf,false,false⟩ Try.f73=some w9w:=by kernel_rfl
theorem w36:zbq Try.prog ⟨mf,false,false⟩ Try.f111=some w9x:=by kernel_rfl
theorem w2x:zbq Try.prog ⟨mf,false,false⟩ Try.f110=some w9o:=by kernel_rfl
theorem w45:zbq Try.prog ⟨mf,false,false⟩ Try.f155=some wax:=by kernel_rfl
theorem w40:zbq Try.prog ⟨mf,false,false⟩ Try.f109=some war:=by kernel_rfl
theorem w2w:zbq Try.prog ⟨mf,false,false⟩ Try.f72=some w9n:=by kernel_rfl
theorem w49:zbq Try.prog ⟨mf,false,false⟩ Try.f74=some wb2:=by kernel_rfl
theorem w42:zbq Try.prog ⟨mf,false,false⟩ Try.f40=some wau:=by kernel_rfl
theorem w3n:zbq Try.prog ⟨mf,false,false⟩ Try.f163=some wae:=by kernel_rfl
theorem w46:zbq Try.prog ⟨mf,false,false⟩ Try.f171=some waz:=by kernel_rfl
theorem w41:zbq Try.prog ⟨mf,false,false⟩ Try.f162=some wat:=by kernel_rfl
theorem w3m:zbq Try.prog ⟨mf,false,false⟩ Try.f124=some wad:=by kernel_rfl
theorem w37:zbq Try.prog ⟨mf,false,false⟩ Try.f125=some w9y:=by kernel_rfl
theorem w3l:zbq Try.prog ⟨mf,false,false⟩ Try.f86=some wac:=by kernel_rfl
theorem w2v:zbq Try.prog ⟨mf,false,false⟩ Try.f48=some w9m:=by kernel_rfl
theorem w2s:zbq Try.prog ⟨mf,false,false⟩ Try.f49=some w9j:=by kernel_rfl
theorem w3x:zbq Try.prog ⟨mf,false,false⟩ Try.f120=some wao:=by kernel_rfl
theorem w3y:zbq Try.prog ⟨mf,false,false⟩ Try.f121=some wap:=by kernel_rfl
theorem w3w:zbq Try.prog ⟨mf,false,false⟩ Try.f76=some wan:=by kernel_rfl
theorem w2q:zbq Try.prog ⟨mf,false,false⟩ Try.f122=some w9h:=by kernel_rfl
theorem w2p:zbq Try.prog ⟨mf,false,false⟩ Try.f132=some w9g:=by kernel_rfl
theorem w4f:zbq Try.prog ⟨mf,false,false⟩ Try.f126=some wb8:=by kernel_rfl
theorem w4p:zbq Try.prog ⟨mf,false,false⟩ Try.f164=some wbi:=by kernel_rfl
theorem w4e:zbq Try.prog ⟨mf,false,false⟩ Try.f127=some wb7:=by kernel_rfl
theorem w4i:zbq Try.prog ⟨mf,false,false⟩ Try.f158=some wbb:=by kernel_rfl
theorem w4q:zbq Try.prog ⟨mf,false,false⟩ Try.f159=some wbj:=by kernel_rfl
theorem w4c:zbq Try.prog ⟨mf,false,false⟩ Try.f128=some wb5:=by kernel_rfl
theorem w4j:zbq Try.prog ⟨mf,false,false⟩ Try.f172=some wbc:=by kernel_rfl
theorem w4h:zbq Try.prog ⟨mf,false,false⟩ Try.f166=some wba:=by kernel_rfl
theorem w4g:zbq Try.prog ⟨mf,false,false⟩ Try.f165=some wb9:=by kernel_rfl
theorem w4d:zbq Try.prog ⟨mf,false,false⟩ Try.f129=some wb6:=by kernel_rfl
theorem w4o:zbq Try.prog ⟨mf,false,false⟩ Try.f130=some wbh:=by kernel_rfl
theorem w4k:zbq Try.prog ⟨mf,false,false⟩ Try.f131=some wbd:=by kernel_rfl
theorem w4l:zbq Try.prog ⟨mf,false,false⟩ Try.f133=some wbe:=by kernel_rfl
theorem w4m:zbq Try.prog ⟨mf,false,false⟩ Try.f134=some wbf:=by kernel_rfl
theorem w4n:zbq Try.prog ⟨mf,false,false⟩ Try.f87=some wbg:=by kernel_rfl
theorem w4b:zbq Try.prog ⟨mf,false,false⟩ Try.f51=some wb4:=by kernel_rfl
theorem w2t:zbq Try.prog ⟨mf,false,false⟩ Try.f50=some w9k:=by kernel_rfl
theorem w3a:zbq Try.prog ⟨mf,false,false⟩ Try.f52=some wa1:=by kernel_rfl
theorem w2r:zbq Try.prog ⟨mf,false,false⟩ Try.f20=some w9i:=by kernel_rfl
theorem w54:zbq Try.prog ⟨mf,false,false⟩ Try.f60=some wbx:=by kernel_rfl
theorem w56:zbq Try.prog ⟨mf,false,false⟩ Try.f106=some wbz:=by kernel_rfl
theorem w58:zbq Try.prog ⟨mf,false,false⟩ Try.f107=some wc1:=by kernel_rfl
theorem w4u:zbq Try.prog ⟨mf,false,false⟩ Try.f67=some wbn:=by kernel_rfl
theorem w5b:zbq Try.prog ⟨mf,false,false⟩ Try.f135=some wc4:=by kernel_rfl
theorem w59:zbq Try.prog ⟨mf,false,false⟩ Try.f136=some wc2:=by kernel_rfl
theorem w5a:zbq Try.prog ⟨mf,false,false⟩ Try.f137=some wc3:=by kernel_rfl
theorem w4v:zbq Try.prog ⟨mf,false,false⟩ Try.f88=some wbo:=by kernel_rfl
theorem w53:zbq Try.prog ⟨mf,false,false⟩ Try.f89=some wbw:=by kernel_rfl
theorem w4t:zbq Try.prog ⟨mf,false,false⟩ Try.f53=some wbm:=by kernel_rfl
theorem w55:zbq Try.prog ⟨mf,false,false⟩ Try.f36=some wby:=by kernel_rfl
theorem w5d:zbq Try.prog ⟨mf,false,false⟩ Try.f54=some wc6:=by kernel_rfl
theorem w5c:zbq Try.prog ⟨mf,false,false⟩ Try.f55=some wc5:=by kernel_rfl
theorem w4r:zbq Try.prog ⟨mf,false,false⟩ Try.f21=some wbk:=by kernel_rfl
theorem w3u:zbq Try.prog ⟨mf,false,false⟩ Try.f90=some wal:=by kernel_rfl
theorem w3v:zbq Try.prog ⟨mf,false,false⟩ Try.f56=some wam:=by kernel_rfl
theorem w3t:zbq Try.prog ⟨mf,false,false⟩ Try.f22=some wak:=by kernel_rfl
theorem w3h:zbq Try.prog ⟨mf,false,false⟩ Try.f57=some wa8:=by kernel_rfl
theorem w3o:zbq Try.prog ⟨mf,false,false⟩ Try.f140=some waf:=by kernel_rfl
theorem w3p:zbq Try.prog ⟨mf,false,false⟩ Try.f92=some wag:=by kernel_rfl
theorem w3j:zbq Try.prog ⟨mf,false,false⟩ Try.f173=some waa:=by kernel_rfl
theorem w3i:zbq Try.prog ⟨mf,false,false⟩ Try.f167=some wa9:=by kernel_rfl
theorem w3c:zbq Try.prog ⟨mf,false,false⟩ Try.f138=some wa3:=by kernel_rfl
theorem w3f:zbq Try.prog ⟨mf,false,false⟩ Try.f139=some wa6:=by kernel_rfl
theorem w43:zbq Try.prog ⟨mf,false,false⟩ Try.f142=some wav:=by kernel_rfl
theorem w31:zbq Try.prog ⟨mf,false,false⟩ Try.f141=some w9s:=by kernel_rfl
theorem w47:zbq Try.prog ⟨mf,false,false⟩ Try.f97=some wb0:=by kernel_rfl
theorem w30:zbq Try.prog ⟨mf,false,false⟩ Try.f94=some w9r:=by kernel_rfl
theorem w3e:zbq Try.prog ⟨mf,false,false⟩ Try.f91=some wa5:=by kernel_rfl
theorem w3d:zbq Try.prog ⟨mf,false,false⟩ Try.f93=some wa4:=by kernel_rfl
theorem w32:zbq Try.prog ⟨mf,true,true⟩ Try.f95=some w9t:=by kernel_rfl
theorem w48:zbq Try.prog ⟨mf,false,false⟩ Try.f96=some wb1:=by kernel_rfl
theorem w3b:zbq Try.prog ⟨mf,false,false⟩ Try.f143=some wa2:=by kernel_rfl
theorem w3k:zbq Try.prog ⟨mf,false,false⟩ Try.f99=some wab:=by kernel_rfl
theorem w39:zbq Try.prog ⟨mf,false,false⟩ Try.f98=some wa0:=by kernel_rfl
theorem w34:zbq Try.prog ⟨mf,false,false⟩ Try.f145=some w9v:=by kernel_rfl
theorem w44:zbq Try.prog ⟨mf,false,false⟩ Try.f144=some waw:=by kernel_rfl
theorem w4a:zbq Try.prog ⟨mf,false,false⟩ Try.f146=some wb3:=by kernel_rfl
theorem w33:zbq Try.prog ⟨mf,false,false⟩ Try.f100=some w9u:=by kernel_rfl
theorem w2z:zbq Try.prog ⟨mf,false,false⟩ Try.f148=some w9q:=by kernel_rfl
theorem w3z:zbq Try.prog ⟨mf,false,false⟩ Try.f147=some waq:=by kernel_rfl
theorem w2y:zbq Try.prog ⟨mf,false,false⟩ Try.f101=some w9p:=by kernel_rfl
theorem w38:zbq Try.prog ⟨mf,false,false⟩ Try.f58=some w9z:=by kernel_rfl
theorem w2u:zbq Try.prog ⟨mf,false,false⟩ Try.f23=some w9l:=by kernel_rfl
theorem w3r:zbq Try.prog ⟨mf,false,false⟩ Try.f4=some wai:=by kernel_rfl
theorem tblOk : ∀ p∈tbl,∃ (fn:Func) (m:Md),Try.prog.funcs[p.1]? = some fn∧zbq Try.prog m fn=some p.2:=by
 unfold tbl
 refine List.forall_mem_cons.2 ⟨⟨Try.f18,⟨mf,false,false⟩,Try.func18,w3s⟩,?_⟩
 refine List.forall_mem_cons.2 ⟨⟨Try.f123,⟨mf,false,false⟩,Try.func123,w4z⟩,?_⟩
 refine List.forall_mem_cons.2 ⟨⟨Try.f80,⟨mf,false,false⟩,Try.func80,w51⟩,?_⟩
 refine List.forall_mem_cons.2 ⟨⟨Try.f81,⟨mf,false,false⟩,Try.func81,w57⟩,?_⟩
 refine List.forall_mem_cons.2 ⟨⟨Try.f79,⟨mf,false,false⟩,Try.func79,w4y⟩,?_⟩
 refine List.forall_mem_cons.2 ⟨⟨Try.f82,⟨mf,false,false⟩,Try.func82,w52⟩,?_⟩
 refine List.forall_mem_cons.2 ⟨⟨Try.f83,⟨mf,false,false⟩,Try.func83,w50⟩,?_⟩
 refine List.forall_mem_cons.2 ⟨⟨Try.f84,⟨mf,false,false⟩,Try.func84,w4w⟩,?_⟩
 refine List.forall_mem_cons.2 ⟨⟨Try.f47,⟨mf,false,false⟩,Try.func47,w4x⟩,?_⟩
 refine List.forall_mem_cons.2 ⟨⟨Try.f19,⟨mf,false,false⟩,Try.func19,w4s⟩,?_⟩
 refine List.forall_mem_cons.2 ⟨⟨Try.f85,⟨mf,false,false⟩,Try.func85,w3q⟩,?_⟩
 refine List.forall_mem_cons.2 ⟨⟨Try.f156,⟨mf,false,false⟩,Try.func156,w3g⟩,?_⟩
 refine List.forall_mem_cons.2 ⟨⟨Try.f73,⟨mf,false,false⟩,Try.func73,w35⟩,?_⟩
 refine List.forall_mem_cons.2 ⟨⟨Try.f111,⟨mf,false,false⟩,Try.func111,w36⟩,?_⟩
 refine List.forall_mem_cons.2 ⟨⟨Try.f110,⟨mf,false,false⟩,Try.func110,w2x⟩,?_⟩
 refine List.forall_mem_cons.2 ⟨⟨Try.f155,⟨mf,false,false⟩,Try.func155,w45⟩,?_⟩
 refine List.forall_mem_cons.2 ⟨⟨Try.f109,⟨mf,false,false⟩,Try.func109,w40⟩,?_⟩
 refine List.forall_mem_cons.2 ⟨⟨Try.f72,⟨mf,false,false⟩,Try.func72,w2w⟩,?_⟩
 refine List.forall_mem_cons.2 ⟨⟨Try.f74,⟨mf,false,false⟩,Try.func74,w49⟩,?_⟩
 refine List.forall_mem_cons.2 ⟨⟨Try.f40,⟨mf,false,false⟩,Try.func40,w42⟩,?_⟩
 refine List.forall_mem_cons.2 ⟨⟨Try.f163,⟨mf,false,false⟩,Try.func163,w3n⟩,?_⟩
 refine List.forall_mem_cons.2 ⟨⟨Try.f171,⟨mf,false,false⟩,Try.func171,w46⟩,?_⟩
 refine List.forall_mem_cons.2 ⟨⟨Try.f162,⟨mf,false,false⟩,Try.func162,w41⟩,?_⟩
 refine List.forall_mem_cons.2 ⟨⟨Try.f124,⟨mf,false,false⟩,Try.func124,w3m⟩,?_⟩
 refine List.forall_mem_cons.2 ⟨⟨Try.f125,⟨mf,false,false⟩,Try.func125,w37⟩,?_⟩
 refine List.forall_mem_cons.2 ⟨⟨Try.f86,⟨mf,false,false⟩,Try.func86,w3l⟩,?_⟩
 refine List.forall_mem_cons.2 ⟨⟨Try.f48,⟨mf,false,false⟩,Try.func48,w2v⟩,?_⟩
 refine List.forall_mem_cons.2 ⟨⟨Try.f49,⟨mf,false,false⟩,Try.func49,w2s⟩,?_⟩
 refine List.forall_mem_cons.2 ⟨⟨Try.f120,⟨mf,false,false⟩,Try.func120,w3x⟩,?_⟩
 refine List.forall_mem_cons.2 ⟨⟨Try.f121,⟨mf,false,false⟩,Try.func121,w3y⟩,?_⟩
 refine List.forall_mem_cons.2 ⟨⟨Try.f76,⟨mf,false,false⟩,Try.func76,w3w⟩,?_⟩
 refine List.forall_mem_cons.2 ⟨⟨Try.f122,⟨mf,false,false⟩,Try.func122,w2q⟩,?_⟩
 refine List.forall_mem_cons.2 ⟨⟨Try.f132,⟨mf,false,false⟩,Try.func132,w2p⟩,?_⟩
 refine List.forall_mem_cons.2 ⟨⟨Try.f126,⟨mf,false,false⟩,Try.func126,w4f⟩,?_⟩
 refine List.forall_mem_cons.2 ⟨⟨Try.f164,⟨mf,false,false⟩,Try.func164,w4p⟩,?_⟩
 refine List.forall_mem_cons.2 ⟨⟨Try.f127,⟨mf,false,false⟩,Try.func127,w4e⟩,?_⟩
 refine List.forall_mem_cons.2 ⟨⟨Try.f158,⟨mf,false,false⟩,Try.func158,w4i⟩,?_⟩
 refine List.forall_mem_cons.2 ⟨⟨Try.f159,⟨mf,false,false⟩,Try.func159,w4q⟩,?_⟩
 refine List.forall_mem_cons.2 ⟨⟨Try.f128,⟨mf,false,false⟩,Try.func128,w4c⟩,?_⟩
 refine List.forall_mem_cons.2 ⟨⟨Try.f172,⟨mf,false,false⟩,Try.func172,w4j⟩,?_⟩
 refine List.forall_mem_cons.2 ⟨⟨Try.f166,⟨mf,false,false⟩,Try.func166,w4h⟩,?_⟩
 refine List.forall_mem_cons.2 ⟨⟨Try.f165,⟨mf,false,false⟩,Try.func165,w4g⟩,?_⟩
 refine List.forall_mem_cons.2 ⟨⟨Try.f129,⟨mf,false,false⟩,Try.func129,w4d⟩,?_⟩
 refine List.forall_mem_cons.2 ⟨⟨Try.f130,⟨mf,false,false⟩,Try.func130,w4o⟩,?_⟩
 refine List.forall_mem_cons.2 ⟨⟨Try.f131,⟨mf,false,false⟩,Try.func131,w4k⟩,?_⟩
 refine List.forall_mem_cons.2 ⟨⟨Try.f133,⟨mf,false,false⟩,Try.func133,w4l⟩,?_⟩
 refine List.forall_mem_cons.2 ⟨⟨Try.f134,⟨mf,false,false⟩,Try.func134,w4m⟩,?_⟩
 refine List.forall_mem_cons.2 ⟨⟨Try.f87,⟨mf,false,false⟩,Try.func87,w4n⟩,?_⟩
 refine List.forall_mem_cons.2 ⟨⟨Try.f51,⟨mf,false,false⟩,Try.func51,w4b⟩,?_⟩
 refine List.forall_mem_cons.2 ⟨⟨Try.f50,⟨mf,false,false⟩,Try.func50,w2t⟩,?_⟩
 refine List.forall_mem_cons.2 ⟨⟨Try.f52,⟨mf,false,false⟩,Try.func52,w3a⟩,?_⟩
 refine List.forall_mem_cons.2 ⟨⟨Try.f20,⟨mf,false,false⟩,Try.func20,w2r⟩,?_⟩
 refine List.forall_mem_cons.2 ⟨⟨Try.f60,⟨mf,false,false⟩,Try.func60,w54⟩,?_⟩
 refine List.forall_mem_cons.2 ⟨⟨Try.f106,⟨mf,false,false⟩,Try.func106,w56⟩,?_⟩
 refine List.forall_mem_cons.2 ⟨⟨Try.f107,⟨mf,false,false⟩,Try.func107,w58⟩,?_⟩
 refine List.forall_mem_cons.2 ⟨⟨Try.f67,⟨mf,false,false⟩,Try.func67,w4u⟩,?_⟩
 refine List.forall_mem_cons.2 ⟨⟨Try.f135,⟨mf,false,false⟩,Try.func135,w5b⟩,?_⟩
 refine List.forall_mem_cons.2 ⟨⟨Try.f136,⟨mf,false,false⟩,Try.func136,w59⟩,?_⟩
 refine List.forall_mem_cons.2 ⟨⟨Try.f137,⟨mf,false,false⟩,Try.func137,w5a⟩,?_⟩
 refine List.forall_mem_cons.2 ⟨⟨Try.f88,⟨mf,false,false⟩,Try.func88,w4v⟩,?_⟩
 refine List.forall_mem_cons.2 ⟨⟨Try.f89,⟨mf,false,false⟩,Try.func89,w53⟩,?_⟩
 refine List.forall_mem_cons.2 ⟨⟨Try.f53,⟨mf,false,false⟩,Try.func53,w4t⟩,?_⟩
 refine List.forall_mem_cons.2 ⟨⟨Try.f36,⟨mf,false,false⟩,Try.func36,w55⟩,?_⟩
 refine List.forall_mem_cons.2 ⟨⟨Try.f54,⟨mf,false,false⟩,Try.func54,w5d⟩,?_⟩
 refine List.forall_mem_cons.2 ⟨⟨Try.f55,⟨mf,false,false⟩,Try.func55,w5c⟩,?_⟩
 refine List.forall_mem_cons.2 ⟨⟨Try.f21,⟨mf,false,false⟩,Try.func21,w4r⟩,?_⟩
 refine List.forall_mem_cons.2 ⟨⟨Try.f90,⟨mf,false,false⟩,Try.func90,w3u⟩,?_⟩
 refine List.forall_mem_cons.2 ⟨⟨Try.f56,⟨mf,false,false⟩,Try.func56,w3v⟩,?_⟩
 refine List.forall_mem_cons.2 ⟨⟨Try.f22,⟨mf,false,false⟩,Try.func22,w3t⟩,?_⟩
 refine List.forall_mem_cons.2 ⟨⟨Try.f57,⟨mf,false,false⟩,Try.func57,w3h⟩,?_⟩
 refine List.forall_mem_cons.2 ⟨⟨Try.f140,⟨mf,false,false⟩,Try.func140,w3o⟩,?_⟩
 refine List.forall_mem_cons.2 ⟨⟨Try.f92,⟨mf,false,false⟩,Try.func92,w3p⟩,?_⟩
 refine List.forall_mem_cons.2 ⟨⟨Try.f173,⟨mf,false,false⟩,Try.func173,w3j⟩,?_⟩
 refine List.forall_mem_cons.2 ⟨⟨Try.f167,⟨mf,false,false⟩,Try.func167,w3i⟩,?_⟩
 refine List.forall_mem_cons.2 ⟨⟨Try.f138,⟨mf,false,false⟩,Try.func138,w3c⟩,?_⟩
 refine List.forall_mem_cons.2 ⟨⟨Try.f139,⟨mf,false,false⟩,Try.func139,w3f⟩,?_⟩
 refine List.forall_mem_cons.2 ⟨⟨Try.f142,⟨mf,false,false⟩,Try.func142,w43⟩,?_⟩
 refine List.forall_mem_cons.2 ⟨⟨Try.f141,⟨mf,false,false⟩,Try.func141,w31⟩,?_⟩
 refine List.forall_mem_cons.2 ⟨⟨Try.f97,⟨mf,false,false⟩,Try.func97,w47⟩,?_⟩
 refine List.forall_mem_cons.2 ⟨⟨Try.f94,⟨mf,false,false⟩,Try.func94,w30⟩,?_⟩
 refine List.forall_mem_cons.2 ⟨⟨Try.f91,⟨mf,false,false⟩,Try.func91,w3e⟩,?_⟩
 refine List.forall_mem_cons.2 ⟨⟨Try.f93,⟨mf,false,false⟩,Try.func93,w3d⟩,?_⟩
 refine List.forall_mem_cons.2 ⟨⟨Try.f95,⟨mf,true,true⟩,Try.func95,w32⟩,?_⟩
 refine List.forall_mem_cons.2 ⟨⟨Try.f96,⟨mf,false,false⟩,Try.func96,w48⟩,?_⟩
 refine List.forall_mem_cons.2 ⟨⟨Try.f143,⟨mf,false,false⟩,Try.func143,w3b⟩,?_⟩
 refine List.forall_mem_cons.2 ⟨⟨Try.f99,⟨mf,false,false⟩,Try.func99,w3k⟩,?_⟩
 refine List.forall_mem_cons.2 ⟨⟨Try.f98,⟨mf,false,false⟩,Try.func98,w39⟩,?_⟩
 refine List.forall_mem_cons.2 ⟨⟨Try.f145,⟨mf,false,false⟩,Try.func145,w34⟩,?_⟩
 refine List.forall_mem_cons.2 ⟨⟨Try.f144,⟨mf,false,false⟩,Try.func144,w44⟩,?_⟩
 refine List.forall_mem_cons.2 ⟨⟨Try.f146,⟨mf,false,false⟩,Try.func146,w4a⟩,?_⟩
 refine List.forall_mem_cons.2 ⟨⟨Try.f100,⟨mf,false,false⟩,Try.func100,w33⟩,?_⟩
 refine List.forall_mem_cons.2 ⟨⟨Try.f148,⟨mf,false,false⟩,Try.func148,w2z⟩,?_⟩
 refine List.forall_mem_cons.2 ⟨⟨Try.f147,⟨mf,false,false⟩,Try.func147,w3z⟩,?_⟩
 refine List.forall_mem_cons.2 ⟨⟨Try.f101,⟨mf,false,false⟩,Try.func101,w2y⟩,?_⟩
 refine List.forall_mem_cons.2 ⟨⟨Try.f58,⟨mf,false,false⟩,Try.func58,w38⟩,?_⟩
 refine List.forall_mem_cons.2 ⟨⟨Try.f23,⟨mf,false,false⟩,Try.func23,w2u⟩,?_⟩
 refine List.forall_mem_cons.2 ⟨⟨Try.f4,⟨mf,false,false⟩,Try.func4,w3r⟩,?_⟩
 exact fun _ h=>(by cases h)
theorem hF(f:FuncId)(i:IFun)(h:F f=some i) : ∃ (fn:Func) (m:Md),Try.prog.funcs[f]? = some fn∧zbq Try.prog m fn=some i:=by
 unfold F at h
 simp only[Option.map_eq_some_iff] at h
 obtain⟨p,hp,rfl⟩:=h
 have h1:=List.mem_of_find?_eq_some hp
 have h2:=List.find?_some hp
 have h3:p.1=f:=by simpa using h2
 subst h3
 exact tblOk p h1
theorem w5n : ∀ p∈exts,ExtOk Try.prog p.1 p.2:=by
 unfold exts
 refine List.forall_mem_cons.2 ⟨zfw (mf:=⟨mf,false,false⟩) (Checked.mixed Try.checked) Try.func41 (show zbq Try.prog ⟨mf,false,false⟩ Try.f41=some (znp t_int true 1) by kernel_rfl),?_⟩
 exact fun _ h=>(by cases h)
theorem hE(f:FuncId)(e:List PV→Option PV)(h:ext f=some e):ExtOk Try.prog f e:=by
 unfold ext at h
 simp only[Option.map_eq_some_iff] at h
 obtain⟨p,hp,rfl⟩:=h
 have h1:=List.mem_of_find?_eq_some hp
 have h2:=List.find?_some hp
 have h3:p.1=f:=by simpa using h2
 subst h3
 exact w5n p h1
end Go.Proofs.Ytbaclnecajkknaa.Pi

