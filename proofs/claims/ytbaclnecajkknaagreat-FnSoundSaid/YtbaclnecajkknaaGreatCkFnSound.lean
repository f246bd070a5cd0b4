/- The forms are those of the program. No condition. -/
import Derived.Test.YtbaclnecajkknaaGreatChecked
import Derived.Test.YtbaclnecajkknaaGreatIrFnSound
import Derived.Test.YtbaclnecajkknaaGreatPiTop
import Derived.Test.YtbaclnecajkknaaGreatPiDz
import Derived.KernelRfl
open List renaming forall_mem_cons->S'0,mem_of_find?_eq_some->S'1,find?_some->S'2
open Option renaming map_eq_some_iff->M'0
namespace Go.Proofs.YtbaclnecajkknaaGreat.Pi
open Go
set_option linter.all false
def mf(f:FuncId):Bool:=[174,91,113,122,123,108,124,54,55,210,247,265,248,260,249,269,267,266,250,251,252,253,254,216,145,70].contains f
def m0:Md:=⟨mf,false,false⟩
theorem w5p:zbq Tryz.prog m0 Tryz.f7=some wg2:=by kernel_rfl
theorem w7d:zbq Tryz.prog m0 Tryz.f174=some whr:=by kernel_rfl
theorem w7f:zbq Tryz.prog m0 Tryz.f91=some wht:=by kernel_rfl
theorem w7m:zbq Tryz.prog m0 Tryz.f113=some wi1:=by kernel_rfl
theorem w7c:zbq Tryz.prog m0 Tryz.f122=some whq:=by kernel_rfl
theorem w7g:zbq Tryz.prog m0 Tryz.f123=some whu:=by kernel_rfl
theorem w7e:zbq Tryz.prog m0 Tryz.f108=some whs:=by kernel_rfl
theorem w79:zbq Tryz.prog m0 Tryz.f124=some whm:=by kernel_rfl
theorem w7b:zbq Tryz.prog m0 Tryz.f54=some whp:=by kernel_rfl
theorem w7a:zbq Tryz.prog m0 Tryz.f55=some whn:=by kernel_rfl
theorem w71:zbq Tryz.prog m0 Tryz.f8=some whe:=by kernel_rfl
theorem w5n:zbq Tryz.prog m0 Tryz.f69=some wg0:=by kernel_rfl
theorem w59:zbq Tryz.prog m0 Tryz.f237=some wfl:=by kernel_rfl
theorem w4s:zbq Tryz.prog m0 Tryz.f83=some wf4:=by kernel_rfl
theorem w4t:zbq Tryz.prog m0 Tryz.f169=some wf5:=by kernel_rfl
theorem w4j:zbq Tryz.prog m0 Tryz.f168=some wet:=by kernel_rfl
theorem w6b:zbq Tryz.prog m0 Tryz.f236=some wgo:=by kernel_rfl
theorem w63:zbq Tryz.prog m0 Tryz.f167=some wgg:=by kernel_rfl
theorem w4i:zbq Tryz.prog m0 Tryz.f82=some wes:=by kernel_rfl
theorem w6f:zbq Tryz.prog m0 Tryz.f162=some wgs:=by kernel_rfl
theorem w67:zbq Tryz.prog m0 Tryz.f77=some wgk:=by kernel_rfl
theorem w5i:zbq Tryz.prog m0 Tryz.f255=some wfv:=by kernel_rfl
theorem w6c:zbq Tryz.prog m0 Tryz.f238=some wgp:=by kernel_rfl
theorem w64:zbq Tryz.prog m0 Tryz.f172=some wgh:=by kernel_rfl
theorem w5h:zbq Tryz.prog m0 Tryz.f217=some wfu:=by kernel_rfl
theorem w4v:zbq Tryz.prog m0 Tryz.f218=some wf7:=by kernel_rfl
theorem w5g:zbq Tryz.prog m0 Tryz.f148=some wft:=by kernel_rfl
theorem w4g:zbq Tryz.prog m0 Tryz.f67=some weq:=by kernel_rfl
theorem w5a:zbq Tryz.prog m0 Tryz.f56=some wfm:=by kernel_rfl
theorem w5k:zbq Tryz.prog m0 Tryz.f206=some wfx:=by kernel_rfl
theorem w5l:zbq Tryz.prog m0 Tryz.f125=some wfy:=by kernel_rfl
theorem w5c:zbq Tryz.prog m0 Tryz.f173=some wfo:=by kernel_rfl
theorem w5b:zbq Tryz.prog m0 Tryz.f88=some wfn:=by kernel_rfl
theorem w55:zbq Tryz.prog m0 Tryz.f151=some wfh:=by kernel_rfl
theorem w58:zbq Tryz.prog m0 Tryz.f90=some wfk:=by kernel_rfl
theorem w69:zbq Tryz.prog m0 Tryz.f179=some wgm:=by kernel_rfl
theorem w4o:zbq Tryz.prog m0 Tryz.f207=some wey:=by kernel_rfl
theorem w6d:zbq Tryz.prog m0 Tryz.f130=some wgq:=by kernel_rfl
theorem w4n:zbq Tryz.prog m0 Tryz.f127=some wex:=by kernel_rfl
theorem w57:zbq Tryz.prog m0 Tryz.f107=some wfj:=by kernel_rfl
theorem w56:zbq Tryz.prog m0 Tryz.f126=some wfi:=by kernel_rfl
theorem w4p:zbq Tryz.prog ⟨mf,true,true⟩ Tryz.f128=some wez:=by kernel_rfl
theorem w6e:zbq Tryz.prog m0 Tryz.f129=some wgr:=by kernel_rfl
theorem w53:zbq Tryz.prog m0 Tryz.f100=some wff:=by kernel_rfl
theorem w5e:zbq Tryz.prog m0 Tryz.f132=some wfq:=by kernel_rfl
theorem w51:zbq Tryz.prog m0 Tryz.f131=some wfd:=by kernel_rfl
theorem w4r:zbq Tryz.prog m0 Tryz.f209=some wf3:=by kernel_rfl
theorem w6a:zbq Tryz.prog m0 Tryz.f208=some wgn:=by kernel_rfl
theorem w6i:zbq Tryz.prog m0 Tryz.f210=some wgv:=by kernel_rfl
theorem w4q:zbq Tryz.prog m0 Tryz.f133=some wf2:=by kernel_rfl
theorem w4m:zbq Tryz.prog m0 Tryz.f212=some wew:=by kernel_rfl
theorem w62:zbq Tryz.prog m0 Tryz.f211=some wgf:=by kernel_rfl
theorem w4l:zbq Tryz.prog m0 Tryz.f134=some wev:=by kernel_rfl
theorem w50:zbq Tryz.prog m0 Tryz.f57=some wfc:=by kernel_rfl
theorem w4a:zbq Tryz.prog m0 Tryz.f9=some wek:=by kernel_rfl
theorem w7i:zbq Tryz.prog m0 Tryz.f136=some whw:=by kernel_rfl
theorem w7l:zbq Tryz.prog m0 Tryz.f170=some wi0:=by kernel_rfl
theorem w7n:zbq Tryz.prog m0 Tryz.f171=some wi2:=by kernel_rfl
theorem w74:zbq Tryz.prog m0 Tryz.f84=some whh:=by kernel_rfl
theorem w7u:zbq Tryz.prog m0 Tryz.f243=some wi9:=by kernel_rfl
theorem w7s:zbq Tryz.prog m0 Tryz.f244=some wi7:=by kernel_rfl
theorem w7t:zbq Tryz.prog m0 Tryz.f245=some wi8:=by kernel_rfl
theorem w75:zbq Tryz.prog m0 Tryz.f213=some whi:=by kernel_rfl
theorem w7h:zbq Tryz.prog m0 Tryz.f112=some whv:=by kernel_rfl
theorem w72:zbq Tryz.prog m0 Tryz.f135=some whf:=by kernel_rfl
theorem w81:zbq Tryz.prog m0 Tryz.f58=some wig:=by kernel_rfl
theorem w7v:zbq Tryz.prog m0 Tryz.f137=some wia:=by kernel_rfl
theorem w83:zbq Tryz.prog m0 Tryz.f59=some wii:=by kernel_rfl
theorem w7k:zbq Tryz.prog m0 Tryz.f66=some whz:=by kernel_rfl
theorem w7p:zbq Tryz.prog m0 Tryz.f214=some wi4:=by kernel_rfl
theorem w7q:zbq Tryz.prog m0 Tryz.f138=some wi5:=by kernel_rfl
theorem w7r:zbq Tryz.prog m0 Tryz.f139=some wi6:=by kernel_rfl
theorem w76:zbq Tryz.prog m0 Tryz.f85=some whj:=by kernel_rfl
theorem w73:zbq Tryz.prog m0 Tryz.f101=some whg:=by kernel_rfl
theorem w7o:zbq Tryz.prog m0 Tryz.f142=some wi3:=by kernel_rfl
theorem w7y:zbq Tryz.prog m0 Tryz.f64=some wid:=by kernel_rfl
theorem w7x:zbq Tryz.prog m0 Tryz.f60=some wic:=by kernel_rfl
theorem w7z:zbq Tryz.prog m0 Tryz.f140=some wie:=by kernel_rfl
theorem w80:zbq Tryz.prog ⟨mf,false,true⟩ Tryz.f141=some wif:=by kernel_rfl
theorem w78:zbq Tryz.prog m0 Tryz.f102=some whl:=by kernel_rfl
theorem w7w:zbq Tryz.prog m0 Tryz.f143=some wib:=by kernel_rfl
theorem w82:zbq Tryz.prog m0 Tryz.f61=some wih:=by kernel_rfl
theorem w70:zbq Tryz.prog m0 Tryz.f10=some whd:=by kernel_rfl
theorem w5z:zbq Tryz.prog m0 Tryz.f263=some wgc:=by kernel_rfl
theorem w60:zbq Tryz.prog m0 Tryz.f264=some wgd:=by kernel_rfl
theorem w5y:zbq Tryz.prog m0 Tryz.f246=some wgb:=by kernel_rfl
theorem w6h:zbq Tryz.prog m0 Tryz.f215=some wgu:=by kernel_rfl
theorem w54:zbq Tryz.prog m0 Tryz.f144=some wfg:=by kernel_rfl
theorem w43:zbq Tryz.prog m0 Tryz.f234=some wed:=by kernel_rfl
theorem w42:zbq Tryz.prog m0 Tryz.f165=some wec:=by kernel_rfl
theorem w61:zbq Tryz.prog m0 Tryz.f79=some wge:=by kernel_rfl
theorem w4x:zbq Tryz.prog m0 Tryz.f146=some wf9:=by kernel_rfl
theorem w5w:zbq Tryz.prog m0 Tryz.f232=some wg9:=by kernel_rfl
theorem w5x:zbq Tryz.prog m0 Tryz.f233=some wga:=by kernel_rfl
theorem w5v:zbq Tryz.prog m0 Tryz.f164=some wg8:=by kernel_rfl
theorem w6n:zbq Tryz.prog m0 Tryz.f247=some wh0:=by kernel_rfl
theorem w6x:zbq Tryz.prog m0 Tryz.f265=some wha:=by kernel_rfl
theorem w6m:zbq Tryz.prog m0 Tryz.f248=some wgz:=by kernel_rfl
theorem w6q:zbq Tryz.prog m0 Tryz.f259=some wh3:=by kernel_rfl
theorem w6y:zbq Tryz.prog m0 Tryz.f260=some whb:=by kernel_rfl
theorem w6k:zbq Tryz.prog m0 Tryz.f249=some wgx:=by kernel_rfl
theorem w6r:zbq Tryz.prog m0 Tryz.f269=some wh4:=by kernel_rfl
theorem w6p:zbq Tryz.prog m0 Tryz.f267=some wh2:=by kernel_rfl
theorem w6o:zbq Tryz.prog m0 Tryz.f266=some wh1:=by kernel_rfl
theorem w6l:zbq Tryz.prog m0 Tryz.f250=some wgy:=by kernel_rfl
theorem w6w:zbq Tryz.prog m0 Tryz.f251=some wh9:=by kernel_rfl
theorem w6s:zbq Tryz.prog m0 Tryz.f252=some wh5:=by kernel_rfl
theorem w6u:zbq Tryz.prog m0 Tryz.f253=some wh7:=by kernel_rfl
theorem w6t:zbq Tryz.prog m0 Tryz.f254=some wh6:=by kernel_rfl
theorem w6v:zbq Tryz.prog m0 Tryz.f216=some wh8:=by kernel_rfl
theorem w6j:zbq Tryz.prog m0 Tryz.f145=some wgw:=by kernel_rfl
theorem w4w:zbq Tryz.prog m0 Tryz.f62=some wf8:=by kernel_rfl
theorem w45:zbq Tryz.prog m0 Tryz.f11=some wef:=by kernel_rfl
theorem w84:zbq Tryz.prog ⟨mf,false,true⟩ Tryz.f63=some wij:=by kernel_rfl
theorem w77:zbq Tryz.prog m0 Tryz.f147=some whk:=by kernel_rfl
theorem w7j:zbq Tryz.prog m0 Tryz.f65=some whx:=by kernel_rfl
theorem w6z:zbq Tryz.prog m0 Tryz.f12=some whc:=by kernel_rfl
theorem w5s:zbq Tryz.prog m0 Tryz.f30=some wg5:=by kernel_rfl
theorem w5u:zbq Tryz.prog m0 Tryz.f13=some wg7:=by kernel_rfl
theorem w5t:zbq Tryz.prog m0 Tryz.f22=some wg6:=by kernel_rfl
theorem w5r:zbq Tryz.prog m0 Tryz.f14=some wg4:=by kernel_rfl
theorem w6g:zbq Tryz.prog m0 Tryz.f219=some wgt:=by kernel_rfl
theorem w4h:zbq Tryz.prog m0 Tryz.f97=some wer:=by kernel_rfl
theorem w48:zbq Tryz.prog m0 Tryz.f149=some wei:=by kernel_rfl
theorem w47:zbq Tryz.prog m0 Tryz.f220=some weh:=by kernel_rfl
theorem w46:zbq Tryz.prog m0 Tryz.f150=some weg:=by kernel_rfl
theorem w66:zbq Tryz.prog m0 Tryz.f152=some wgj:=by kernel_rfl
theorem w4z:zbq Tryz.prog m0 Tryz.f153=some wfb:=by kernel_rfl
theorem w65:zbq Tryz.prog m0 Tryz.f98=some wgi:=by kernel_rfl
theorem w4y:zbq Tryz.prog m0 Tryz.f68=some wfa:=by kernel_rfl
theorem w49:zbq Tryz.prog m0 Tryz.f15=some wej:=by kernel_rfl
theorem w5q:zbq Tryz.prog m0 Tryz.f17=some wg3:=by kernel_rfl
theorem w68:zbq Tryz.prog m0 Tryz.f70=some wgl:=by kernel_rfl
theorem w4c:zbq Tryz.prog m0 Tryz.f16=some wem:=by kernel_rfl
theorem w5d:zbq Tryz.prog m0 Tryz.f86=some wfp:=by kernel_rfl
theorem w4d:zbq Tryz.prog m0 Tryz.f40=some wen:=by kernel_rfl
theorem w5m:zbq Tryz.prog m0 Tryz.f76=some wfz:=by kernel_rfl
theorem w4b:zbq Tryz.prog m0 Tryz.f154=some wel:=by kernel_rfl
theorem w4u:zbq Tryz.prog m0 Tryz.f93=some wf6:=by kernel_rfl
theorem w5f:zbq Tryz.prog m0 Tryz.f87=some wfr:=by kernel_rfl
theorem w52:zbq Tryz.prog m0 Tryz.f89=some wfe:=by kernel_rfl
theorem w4e:zbq Tryz.prog m0 Tryz.f26=some weo:=by kernel_rfl
theorem w4f:zbq Tryz.prog m0 Tryz.f155=some wep:=by kernel_rfl
theorem w44:zbq Tryz.prog m0 Tryz.f156=some wee:=by kernel_rfl
theorem w5j:zbq Tryz.prog m0 Tryz.f72=some wfw:=by kernel_rfl
theorem w4k:zbq Tryz.prog m0 Tryz.f18=some weu:=by kernel_rfl
theorem w5o:zbq Tryz.prog m0 Tryz.f3=some wg1:=by kernel_rfl
theorem tblOk:∀p∈tbl,∃(fn:Func)(m:Md),Tryz.prog.funcs[p.1]?=some fn/\zbq Tryz.prog m fn=some p.2:=by
 unfold tbl
 refine S'0.2 ⟨⟨Tryz.f7,m0,Tryz.func7,w5p⟩,?_⟩
 refine S'0.2 ⟨⟨Tryz.f174,m0,Tryz.func174,w7d⟩,?_⟩
 refine S'0.2 ⟨⟨Tryz.f91,m0,Tryz.func91,w7f⟩,?_⟩
 refine S'0.2 ⟨⟨Tryz.f113,m0,Tryz.func113,w7m⟩,?_⟩
 refine S'0.2 ⟨⟨Tryz.f122,m0,Tryz.func122,w7c⟩,?_⟩
 refine S'0.2 ⟨⟨Tryz.f123,m0,Tryz.func123,w7g⟩,?_⟩
 refine S'0.2 ⟨⟨Tryz.f108,m0,Tryz.func108,w7e⟩,?_⟩
 refine S'0.2 ⟨⟨Tryz.f124,m0,Tryz.func124,w79⟩,?_⟩
 refine S'0.2 ⟨⟨Tryz.f54,m0,Tryz.func54,w7b⟩,?_⟩
 refine S'0.2 ⟨⟨Tryz.f55,m0,Tryz.func55,w7a⟩,?_⟩
 refine S'0.2 ⟨⟨Tryz.f8,m0,Tryz.func8,w71⟩,?_⟩
 refine S'0.2 ⟨⟨Tryz.f69,m0,Tryz.func69,w5n⟩,?_⟩
 refine S'0.2 ⟨⟨Tryz.f237,m0,Tryz.func237,w59⟩,?_⟩
 refine S'0.2 ⟨⟨Tryz.f83,m0,Tryz.func83,w4s⟩,?_⟩
 refine S'0.2 ⟨⟨Tryz.f169,m0,Tryz.func169,w4t⟩,?_⟩
 refine S'0.2 ⟨⟨Tryz.f168,m0,Tryz.func168,w4j⟩,?_⟩
 refine S'0.2 ⟨⟨Tryz.f236,m0,Tryz.func236,w6b⟩,?_⟩
 refine S'0.2 ⟨⟨Tryz.f167,m0,Tryz.func167,w63⟩,?_⟩
 refine S'0.2 ⟨⟨Tryz.f82,m0,Tryz.func82,w4i⟩,?_⟩
 refine S'0.2 ⟨⟨Tryz.f162,m0,Tryz.func162,w6f⟩,?_⟩
 refine S'0.2 ⟨⟨Tryz.f77,m0,Tryz.func77,w67⟩,?_⟩
 refine S'0.2 ⟨⟨Tryz.f255,m0,Tryz.func255,w5i⟩,?_⟩
 refine S'0.2 ⟨⟨Tryz.f238,m0,Tryz.func238,w6c⟩,?_⟩
 refine S'0.2 ⟨⟨Tryz.f172,m0,Tryz.func172,w64⟩,?_⟩
 refine S'0.2 ⟨⟨Tryz.f217,m0,Tryz.func217,w5h⟩,?_⟩
 refine S'0.2 ⟨⟨Tryz.f218,m0,Tryz.func218,w4v⟩,?_⟩
 refine S'0.2 ⟨⟨Tryz.f148,m0,Tryz.func148,w5g⟩,?_⟩
 refine S'0.2 ⟨⟨Tryz.f67,m0,Tryz.func67,w4g⟩,?_⟩
 refine S'0.2 ⟨⟨Tryz.f56,m0,Tryz.func56,w5a⟩,?_⟩
 refine S'0.2 ⟨⟨Tryz.f206,m0,Tryz.func206,w5k⟩,?_⟩
 refine S'0.2 ⟨⟨Tryz.f125,m0,Tryz.func125,w5l⟩,?_⟩
 refine S'0.2 ⟨⟨Tryz.f173,m0,Tryz.func173,w5c⟩,?_⟩
 refine S'0.2 ⟨⟨Tryz.f88,m0,Tryz.func88,w5b⟩,?_⟩
 refine S'0.2 ⟨⟨Tryz.f151,m0,Tryz.func151,w55⟩,?_⟩
 refine S'0.2 ⟨⟨Tryz.f90,m0,Tryz.func90,w58⟩,?_⟩
 refine S'0.2 ⟨⟨Tryz.f179,m0,Tryz.func179,w69⟩,?_⟩
 refine S'0.2 ⟨⟨Tryz.f207,m0,Tryz.func207,w4o⟩,?_⟩
 refine S'0.2 ⟨⟨Tryz.f130,m0,Tryz.func130,w6d⟩,?_⟩
 refine S'0.2 ⟨⟨Tryz.f127,m0,Tryz.func127,w4n⟩,?_⟩
 refine S'0.2 ⟨⟨Tryz.f107,m0,Tryz.func107,w57⟩,?_⟩
 refine S'0.2 ⟨⟨Tryz.f126,m0,Tryz.func126,w56⟩,?_⟩
 refine S'0.2 ⟨⟨Tryz.f128,⟨mf,true,true⟩,Tryz.func128,w4p⟩,?_⟩
 refine S'0.2 ⟨⟨Tryz.f129,m0,Tryz.func129,w6e⟩,?_⟩
 refine S'0.2 ⟨⟨Tryz.f100,m0,Tryz.func100,w53⟩,?_⟩
 refine S'0.2 ⟨⟨Tryz.f132,m0,Tryz.func132,w5e⟩,?_⟩
 refine S'0.2 ⟨⟨Tryz.f131,m0,Tryz.func131,w51⟩,?_⟩
 refine S'0.2 ⟨⟨Tryz.f209,m0,Tryz.func209,w4r⟩,?_⟩
 refine S'0.2 ⟨⟨Tryz.f208,m0,Tryz.func208,w6a⟩,?_⟩
 refine S'0.2 ⟨⟨Tryz.f210,m0,Tryz.func210,w6i⟩,?_⟩
 refine S'0.2 ⟨⟨Tryz.f133,m0,Tryz.func133,w4q⟩,?_⟩
 refine S'0.2 ⟨⟨Tryz.f212,m0,Tryz.func212,w4m⟩,?_⟩
 refine S'0.2 ⟨⟨Tryz.f211,m0,Tryz.func211,w62⟩,?_⟩
 refine S'0.2 ⟨⟨Tryz.f134,m0,Tryz.func134,w4l⟩,?_⟩
 refine S'0.2 ⟨⟨Tryz.f57,m0,Tryz.func57,w50⟩,?_⟩
 refine S'0.2 ⟨⟨Tryz.f9,m0,Tryz.func9,w4a⟩,?_⟩
 refine S'0.2 ⟨⟨Tryz.f136,m0,Tryz.func136,w7i⟩,?_⟩
 refine S'0.2 ⟨⟨Tryz.f170,m0,Tryz.func170,w7l⟩,?_⟩
 refine S'0.2 ⟨⟨Tryz.f171,m0,Tryz.func171,w7n⟩,?_⟩
 refine S'0.2 ⟨⟨Tryz.f84,m0,Tryz.func84,w74⟩,?_⟩
 refine S'0.2 ⟨⟨Tryz.f243,m0,Tryz.func243,w7u⟩,?_⟩
 refine S'0.2 ⟨⟨Tryz.f244,m0,Tryz.func244,w7s⟩,?_⟩
 refine S'0.2 ⟨⟨Tryz.f245,m0,Tryz.func245,w7t⟩,?_⟩
 refine S'0.2 ⟨⟨Tryz.f213,m0,Tryz.func213,w75⟩,?_⟩
 refine S'0.2 ⟨⟨Tryz.f112,m0,Tryz.func112,w7h⟩,?_⟩
 refine S'0.2 ⟨⟨Tryz.f135,m0,Tryz.func135,w72⟩,?_⟩
 refine S'0.2 ⟨⟨Tryz.f58,m0,Tryz.func58,w81⟩,?_⟩
 refine S'0.2 ⟨⟨Tryz.f137,m0,Tryz.func137,w7v⟩,?_⟩
 refine S'0.2 ⟨⟨Tryz.f59,m0,Tryz.func59,w83⟩,?_⟩
 refine S'0.2 ⟨⟨Tryz.f66,m0,Tryz.func66,w7k⟩,?_⟩
 refine S'0.2 ⟨⟨Tryz.f214,m0,Tryz.func214,w7p⟩,?_⟩
 refine S'0.2 ⟨⟨Tryz.f138,m0,Tryz.func138,w7q⟩,?_⟩
 refine S'0.2 ⟨⟨Tryz.f139,m0,Tryz.func139,w7r⟩,?_⟩
 refine S'0.2 ⟨⟨Tryz.f85,m0,Tryz.func85,w76⟩,?_⟩
 refine S'0.2 ⟨⟨Tryz.f101,m0,Tryz.func101,w73⟩,?_⟩
 refine S'0.2 ⟨⟨Tryz.f142,m0,Tryz.func142,w7o⟩,?_⟩
 refine S'0.2 ⟨⟨Tryz.f64,m0,Tryz.func64,w7y⟩,?_⟩
 refine S'0.2 ⟨⟨Tryz.f60,m0,Tryz.func60,w7x⟩,?_⟩
 refine S'0.2 ⟨⟨Tryz.f140,m0,Tryz.func140,w7z⟩,?_⟩
 refine S'0.2 ⟨⟨Tryz.f141,⟨mf,false,true⟩,Tryz.func141,w80⟩,?_⟩
 refine S'0.2 ⟨⟨Tryz.f102,m0,Tryz.func102,w78⟩,?_⟩
 refine S'0.2 ⟨⟨Tryz.f143,m0,Tryz.func143,w7w⟩,?_⟩
 refine S'0.2 ⟨⟨Tryz.f61,m0,Tryz.func61,w82⟩,?_⟩
 refine S'0.2 ⟨⟨Tryz.f10,m0,Tryz.func10,w70⟩,?_⟩
 refine S'0.2 ⟨⟨Tryz.f263,m0,Tryz.func263,w5z⟩,?_⟩
 refine S'0.2 ⟨⟨Tryz.f264,m0,Tryz.func264,w60⟩,?_⟩
 refine S'0.2 ⟨⟨Tryz.f246,m0,Tryz.func246,w5y⟩,?_⟩
 refine S'0.2 ⟨⟨Tryz.f215,m0,Tryz.func215,w6h⟩,?_⟩
 refine S'0.2 ⟨⟨Tryz.f144,m0,Tryz.func144,w54⟩,?_⟩
 refine S'0.2 ⟨⟨Tryz.f234,m0,Tryz.func234,w43⟩,?_⟩
 refine S'0.2 ⟨⟨Tryz.f165,m0,Tryz.func165,w42⟩,?_⟩
 refine S'0.2 ⟨⟨Tryz.f79,m0,Tryz.func79,w61⟩,?_⟩
 refine S'0.2 ⟨⟨Tryz.f146,m0,Tryz.func146,w4x⟩,?_⟩
 refine S'0.2 ⟨⟨Tryz.f232,m0,Tryz.func232,w5w⟩,?_⟩
 refine S'0.2 ⟨⟨Tryz.f233,m0,Tryz.func233,w5x⟩,?_⟩
 refine S'0.2 ⟨⟨Tryz.f164,m0,Tryz.func164,w5v⟩,?_⟩
 refine S'0.2 ⟨⟨Tryz.f247,m0,Tryz.func247,w6n⟩,?_⟩
 refine S'0.2 ⟨⟨Tryz.f265,m0,Tryz.func265,w6x⟩,?_⟩
 refine S'0.2 ⟨⟨Tryz.f248,m0,Tryz.func248,w6m⟩,?_⟩
 refine S'0.2 ⟨⟨Tryz.f259,m0,Tryz.func259,w6q⟩,?_⟩
 refine S'0.2 ⟨⟨Tryz.f260,m0,Tryz.func260,w6y⟩,?_⟩
 refine S'0.2 ⟨⟨Tryz.f249,m0,Tryz.func249,w6k⟩,?_⟩
 refine S'0.2 ⟨⟨Tryz.f269,m0,Tryz.func269,w6r⟩,?_⟩
 refine S'0.2 ⟨⟨Tryz.f267,m0,Tryz.func267,w6p⟩,?_⟩
 refine S'0.2 ⟨⟨Tryz.f266,m0,Tryz.func266,w6o⟩,?_⟩
 refine S'0.2 ⟨⟨Tryz.f250,m0,Tryz.func250,w6l⟩,?_⟩
 refine S'0.2 ⟨⟨Tryz.f251,m0,Tryz.func251,w6w⟩,?_⟩
 refine S'0.2 ⟨⟨Tryz.f252,m0,Tryz.func252,w6s⟩,?_⟩
 refine S'0.2 ⟨⟨Tryz.f253,m0,Tryz.func253,w6u⟩,?_⟩
 refine S'0.2 ⟨⟨Tryz.f254,m0,Tryz.func254,w6t⟩,?_⟩
 refine S'0.2 ⟨⟨Tryz.f216,m0,Tryz.func216,w6v⟩,?_⟩
 refine S'0.2 ⟨⟨Tryz.f145,m0,Tryz.func145,w6j⟩,?_⟩
 refine S'0.2 ⟨⟨Tryz.f62,m0,Tryz.func62,w4w⟩,?_⟩
 refine S'0.2 ⟨⟨Tryz.f11,m0,Tryz.func11,w45⟩,?_⟩
 refine S'0.2 ⟨⟨Tryz.f63,⟨mf,false,true⟩,Tryz.func63,w84⟩,?_⟩
 refine S'0.2 ⟨⟨Tryz.f147,m0,Tryz.func147,w77⟩,?_⟩
 refine S'0.2 ⟨⟨Tryz.f65,m0,Tryz.func65,w7j⟩,?_⟩
 refine S'0.2 ⟨⟨Tryz.f12,m0,Tryz.func12,w6z⟩,?_⟩
 refine S'0.2 ⟨⟨Tryz.f30,m0,Tryz.func30,w5s⟩,?_⟩
 refine S'0.2 ⟨⟨Tryz.f13,m0,Tryz.func13,w5u⟩,?_⟩
 refine S'0.2 ⟨⟨Tryz.f22,m0,Tryz.func22,w5t⟩,?_⟩
 refine S'0.2 ⟨⟨Tryz.f14,m0,Tryz.func14,w5r⟩,?_⟩
 refine S'0.2 ⟨⟨Tryz.f219,m0,Tryz.func219,w6g⟩,?_⟩
 refine S'0.2 ⟨⟨Tryz.f97,m0,Tryz.func97,w4h⟩,?_⟩
 refine S'0.2 ⟨⟨Tryz.f149,m0,Tryz.func149,w48⟩,?_⟩
 refine S'0.2 ⟨⟨Tryz.f220,m0,Tryz.func220,w47⟩,?_⟩
 refine S'0.2 ⟨⟨Tryz.f150,m0,Tryz.func150,w46⟩,?_⟩
 refine S'0.2 ⟨⟨Tryz.f152,m0,Tryz.func152,w66⟩,?_⟩
 refine S'0.2 ⟨⟨Tryz.f153,m0,Tryz.func153,w4z⟩,?_⟩
 refine S'0.2 ⟨⟨Tryz.f98,m0,Tryz.func98,w65⟩,?_⟩
 refine S'0.2 ⟨⟨Tryz.f68,m0,Tryz.func68,w4y⟩,?_⟩
 refine S'0.2 ⟨⟨Tryz.f15,m0,Tryz.func15,w49⟩,?_⟩
 refine S'0.2 ⟨⟨Tryz.f17,m0,Tryz.func17,w5q⟩,?_⟩
 refine S'0.2 ⟨⟨Tryz.f70,m0,Tryz.func70,w68⟩,?_⟩
 refine S'0.2 ⟨⟨Tryz.f16,m0,Tryz.func16,w4c⟩,?_⟩
 refine S'0.2 ⟨⟨Tryz.f86,m0,Tryz.func86,w5d⟩,?_⟩
 refine S'0.2 ⟨⟨Tryz.f40,m0,Tryz.func40,w4d⟩,?_⟩
 refine S'0.2 ⟨⟨Tryz.f76,m0,Tryz.func76,w5m⟩,?_⟩
 refine S'0.2 ⟨⟨Tryz.f154,m0,Tryz.func154,w4b⟩,?_⟩
 refine S'0.2 ⟨⟨Tryz.f93,m0,Tryz.func93,w4u⟩,?_⟩
 refine S'0.2 ⟨⟨Tryz.f87,m0,Tryz.func87,w5f⟩,?_⟩
 refine S'0.2 ⟨⟨Tryz.f89,m0,Tryz.func89,w52⟩,?_⟩
 refine S'0.2 ⟨⟨Tryz.f26,m0,Tryz.func26,w4e⟩,?_⟩
 refine S'0.2 ⟨⟨Tryz.f155,m0,Tryz.func155,w4f⟩,?_⟩
 refine S'0.2 ⟨⟨Tryz.f156,m0,Tryz.func156,w44⟩,?_⟩
 refine S'0.2 ⟨⟨Tryz.f72,m0,Tryz.func72,w5j⟩,?_⟩
 refine S'0.2 ⟨⟨Tryz.f18,m0,Tryz.func18,w4k⟩,?_⟩
 refine S'0.2 ⟨⟨Tryz.f3,m0,Tryz.func3,w5o⟩,?_⟩
 exact fun _ h=>(by cases h)
theorem hF(f:FuncId)(i:IFun)(h:F f=some i):∃(fn:Func)(m:Md),Tryz.prog.funcs[f]?=some fn/\zbq Tryz.prog m fn=some i:=by
 unfold F at h
 simp only[M'0]at h
 obtain⟨p,hp,rfl⟩:=h
 have h1:=S'1 hp
 have h2:=S'2 hp
 have h3:p.1=f:=by simpa using h2
 subst h3
 exact tblOk p h1
theorem w8g:∀p∈exts,ExtOk Tryz.prog p.1 p.2:=by
 unfold exts
 refine S'0.2 ⟨zfw (mf:=m0) (Checked.mixed Tryz.checked) Tryz.func71 (show zbq Tryz.prog m0 Tryz.f71=some (znp t_int true 1)by kernel_rfl),?_⟩
 exact fun _ h=>(by cases h)
theorem hE(f:FuncId)(e:List PV->Option PV)(h:ext f=some e):ExtOk Tryz.prog f e:=by
 unfold ext at h
 simp only[M'0]at h
 obtain⟨p,hp,rfl⟩:=h
 have h1:=S'1 hp
 have h2:=S'2 hp
 have h3:p.1=f:=by simpa using h2
 subst h3
 exact w8g p h1
end Go.Proofs.YtbaclnecajkknaaGreat.Pi

