/- Lemmas (several texts in one). -/
import Derived.Test.YtpajcoanfkeibaaGreatDoorMDoRename7
import Derived.Test.YtpajcoanfkeibaaGreatDoorMDoRename34
import Derived.Test.YtpajcoanfkeibaaGreatDoorMDoRename35
import Derived.Test.YtpajcoanfkeibaaGreatDoorChecked
import Derived.KernelRfl
set_option maxRecDepth 100000
namespace Go.Proofs.YtpajcoanfkeibaaGreatDoor.Code
open Go Go.Ev Go.Proofs
theorem ok4:Bo Tryz.prog Tryz.f4 f4=true:=by kernel_rfl
theorem ok7:Bo Tryz.prog Tryz.f7 f7=true:=by kernel_rfl
theorem ok8:Bo Tryz.prog Tryz.f8 f8=true:=by kernel_rfl
theorem ok9:Bo Tryz.prog Tryz.f9 f9=true:=by kernel_rfl
theorem B6l:Bo Tryz.prog Tryz.f10 f10=true:=by kernel_rfl
theorem B6m:Bo Tryz.prog Tryz.f11 f11=true:=by kernel_rfl
theorem B6n:Bo Tryz.prog Tryz.f12 f12=true:=by kernel_rfl
theorem B6o:Bo Tryz.prog Tryz.f13 f13=true:=by kernel_rfl
theorem B6p:Bo Tryz.prog Tryz.f14 f14=true:=by kernel_rfl
theorem B6q:Bo Tryz.prog Tryz.f20 f20=true:=by kernel_rfl
theorem B6r:Bo Tryz.prog Tryz.f21 f21=true:=by kernel_rfl
theorem B6s:Bo Tryz.prog Tryz.f22 f22=true:=by kernel_rfl
theorem B6t:Bo Tryz.prog Tryz.f23 f23=true:=by kernel_rfl
theorem B6u:Bo Tryz.prog Tryz.f24 f24=true:=by kernel_rfl
theorem B6v:Bo Tryz.prog Tryz.f25 f25=true:=by kernel_rfl
theorem B6w:Bo Tryz.prog Tryz.f26 f26=true:=by kernel_rfl
theorem B6x:Bo Tryz.prog Tryz.f27 f27=true:=by kernel_rfl
theorem B6y:Bo Tryz.prog Tryz.f28 f28=true:=by kernel_rfl
theorem B6z:Bo Tryz.prog Tryz.f29 f29=true:=by kernel_rfl
theorem B60:Bo Tryz.prog Tryz.f30 f30=true:=by kernel_rfl
theorem B61:Bo Tryz.prog Tryz.f31 f31=true:=by kernel_rfl
theorem B62:Bo Tryz.prog Tryz.f32 f32=true:=by kernel_rfl
theorem B63:Bo Tryz.prog Tryz.f33 f33=true:=by kernel_rfl
theorem B64:Bo Tryz.prog Tryz.f34 f34=true:=by kernel_rfl
theorem B65:Bo Tryz.prog Tryz.f35 f35=true:=by kernel_rfl
theorem B66:Bo Tryz.prog Tryz.f36 f36=true:=by kernel_rfl
theorem B67:Bo Tryz.prog Tryz.f37 f37=true:=by kernel_rfl
theorem B68:Bo Tryz.prog Tryz.f38 f38=true:=by kernel_rfl
theorem B69:Bo Tryz.prog Tryz.f40 f40=true:=by kernel_rfl
theorem B7a:Bo Tryz.prog Tryz.f41 f41=true:=by kernel_rfl
theorem B7e:Bo Tryz.prog Tryz.f42 f42=true:=by kernel_rfl
theorem B7f:Bo Tryz.prog Tryz.f43 f43=true:=by kernel_rfl
theorem B7g:Bo Tryz.prog Tryz.f44 f44=true:=by kernel_rfl
theorem B7h:Bo Tryz.prog Tryz.f45 f45=true:=by kernel_rfl
theorem B7i:Bo Tryz.prog Tryz.f46 f46=true:=by kernel_rfl
theorem B7j:Bo Tryz.prog Tryz.f47 f47=true:=by kernel_rfl
theorem B7k:Bo Tryz.prog Tryz.f48 f48=true:=by kernel_rfl
theorem B7l:Bo Tryz.prog Tryz.f49 f49=true:=by kernel_rfl
theorem B7m:Bo Tryz.prog Tryz.f50 f50=true:=by kernel_rfl
theorem B7n:Bo Tryz.prog Tryz.f51 f51=true:=by kernel_rfl
theorem B7o:Bo Tryz.prog Tryz.f52 f52=true:=by kernel_rfl
theorem B7p:Bo Tryz.prog Tryz.f53 f53=true:=by kernel_rfl
theorem B7q:Bo Tryz.prog Tryz.f54 f54=true:=by kernel_rfl
theorem B7r:Bo Tryz.prog Tryz.f55 f55=true:=by kernel_rfl
theorem B7s:Bo Tryz.prog Tryz.f56 f56=true:=by kernel_rfl
theorem B7t:Bo Tryz.prog Tryz.f57 f57=true:=by kernel_rfl
theorem B7u:Bo Tryz.prog Tryz.f59 f59=true:=by kernel_rfl
theorem B7v:Bo Tryz.prog Tryz.f60 f60=true:=by kernel_rfl
theorem B7w:Bo Tryz.prog Tryz.f61 f61=true:=by kernel_rfl
theorem B7x:Bo Tryz.prog Tryz.f62 f62=true:=by kernel_rfl
theorem B7y:Bo Tryz.prog Tryz.f63 f63=true:=by kernel_rfl
theorem B7z:Bo Tryz.prog Tryz.f64 f64=true:=by kernel_rfl
theorem B70:Bo Tryz.prog Tryz.f65 f65=true:=by kernel_rfl
theorem B71:Bo Tryz.prog Tryz.f66 f66=true:=by kernel_rfl
theorem B72:Bo Tryz.prog Tryz.f67 f67=true:=by kernel_rfl
theorem B73:Bo Tryz.prog Tryz.f68 f68=true:=by kernel_rfl
theorem B74:Bo Tryz.prog Tryz.f69 f69=true:=by kernel_rfl
theorem B75:Bo Tryz.prog Tryz.f70 f70=true:=by kernel_rfl
theorem B76:Bo Tryz.prog Tryz.f71 f71=true:=by kernel_rfl
theorem B77:Bo Tryz.prog Tryz.f72 f72=true:=by kernel_rfl
theorem B78:Bo Tryz.prog Tryz.f73 f73=true:=by kernel_rfl
theorem B79:Bo Tryz.prog Tryz.f76 f76=true:=by kernel_rfl
theorem B8a:Bo Tryz.prog Tryz.f80 f80=true:=by kernel_rfl
theorem B8b:Bo Tryz.prog Tryz.f88 f88=true:=by kernel_rfl
theorem B8c:Bo Tryz.prog Tryz.f89 f89=true:=by kernel_rfl
theorem B2e:Bo Tryz.prog Tryz.f150 f150=true:=by kernel_rfl
theorem B2f:Bo Tryz.prog Tryz.f155 f155=true:=by kernel_rfl
theorem B2g:Bo Tryz.prog Tryz.f156 f156=true:=by kernel_rfl
theorem B2h:Bo Tryz.prog Tryz.f159 f159=true:=by kernel_rfl
theorem B2i:Bo Tryz.prog Tryz.f160 f160=true:=by kernel_rfl
theorem B2j:Bo Tryz.prog Tryz.f161 f161=true:=by kernel_rfl
theorem B2k:Bo Tryz.prog Tryz.f162 f162=true:=by kernel_rfl
theorem B2l:Bo Tryz.prog Tryz.f163 f163=true:=by kernel_rfl
theorem B2m:Bo Tryz.prog Tryz.f164 f164=true:=by kernel_rfl
theorem B2n:Bo Tryz.prog Tryz.f165 f165=true:=by kernel_rfl
theorem B2o:Bo Tryz.prog Tryz.f166 f166=true:=by kernel_rfl
theorem B2p:Bo Tryz.prog Tryz.f167 f167=true:=by kernel_rfl
theorem B2q:Bo Tryz.prog Tryz.f168 f168=true:=by kernel_rfl
theorem B2r:Bo Tryz.prog Tryz.f169 f169=true:=by kernel_rfl
theorem B2s:Bo Tryz.prog Tryz.f170 f170=true:=by kernel_rfl
theorem B2t:Bo Tryz.prog Tryz.f171 f171=true:=by kernel_rfl
theorem B2u:Bo Tryz.prog Tryz.f172 f172=true:=by kernel_rfl
theorem B2v:Bo Tryz.prog Tryz.f173 f173=true:=by kernel_rfl
theorem B2w:Bo Tryz.prog Tryz.f174 f174=true:=by kernel_rfl
theorem B2x:Bo Tryz.prog Tryz.f175 f175=true:=by kernel_rfl
theorem B2y:Bo Tryz.prog Tryz.f176 f176=true:=by kernel_rfl
theorem B2z:Bo Tryz.prog Tryz.f177 f177=true:=by kernel_rfl
theorem B20:Bo Tryz.prog Tryz.f192 f192=true:=by kernel_rfl
theorem B21:Bo Tryz.prog Tryz.f193 f193=true:=by kernel_rfl
theorem B22:Bo Tryz.prog Tryz.f197 f197=true:=by kernel_rfl
theorem B23:Bo Tryz.prog Tryz.f198 f198=true:=by kernel_rfl
theorem B24:Bo Tryz.prog Tryz.f199 f199=true:=by kernel_rfl
theorem B25:Bo Tryz.prog Tryz.f200 f200=true:=by kernel_rfl
theorem B26:Bo Tryz.prog Tryz.f201 f201=true:=by kernel_rfl
theorem B27:Bo Tryz.prog Tryz.f202 f202=true:=by kernel_rfl
theorem B28:Bo Tryz.prog Tryz.f203 f203=true:=by kernel_rfl
theorem B29:Bo Tryz.prog Tryz.f204 f204=true:=by kernel_rfl
theorem B3a:Bo Tryz.prog Tryz.f205 f205=true:=by kernel_rfl
theorem B3b:Bo Tryz.prog Tryz.f206 f206=true:=by kernel_rfl
theorem B3c:Bo Tryz.prog Tryz.f207 f207=true:=by kernel_rfl
theorem B3d:Bo Tryz.prog Tryz.f208 f208=true:=by kernel_rfl
theorem B3e:Bo Tryz.prog Tryz.f209 f209=true:=by kernel_rfl
theorem B3f:Bo Tryz.prog Tryz.f210 f210=true:=by kernel_rfl
theorem B3g:Bo Tryz.prog Tryz.f211 f211=true:=by kernel_rfl
theorem B3h:Bo Tryz.prog Tryz.f212 f212=true:=by kernel_rfl
theorem B3i:Bo Tryz.prog Tryz.f213 f213=true:=by kernel_rfl
theorem B3j:Bo Tryz.prog Tryz.f214 f214=true:=by kernel_rfl
theorem B3k:Bo Tryz.prog Tryz.f215 f215=true:=by kernel_rfl
theorem B3l:Bo Tryz.prog Tryz.f216 f216=true:=by kernel_rfl
theorem B3m:Bo Tryz.prog Tryz.f217 f217=true:=by kernel_rfl
theorem B3n:Bo Tryz.prog Tryz.f218 f218=true:=by kernel_rfl
theorem B3o:Bo Tryz.prog Tryz.f219 f219=true:=by kernel_rfl
theorem B3p:Bo Tryz.prog Tryz.f220 f220=true:=by kernel_rfl
theorem B3q:Bo Tryz.prog Tryz.f221 f221=true:=by kernel_rfl
theorem B3r:Bo Tryz.prog Tryz.f222 f222=true:=by kernel_rfl
theorem B3s:Bo Tryz.prog Tryz.f223 f223=true:=by kernel_rfl
theorem B3t:Bo Tryz.prog Tryz.f224 f224=true:=by kernel_rfl
theorem B3u:Bo Tryz.prog Tryz.f225 f225=true:=by kernel_rfl
theorem B3v:Bo Tryz.prog Tryz.f226 f226=true:=by kernel_rfl
theorem B3w:Bo Tryz.prog Tryz.f227 f227=true:=by kernel_rfl
theorem B3x:Bo Tryz.prog Tryz.f228 f228=true:=by kernel_rfl
theorem B3y:Bo Tryz.prog Tryz.f229 f229=true:=by kernel_rfl
theorem B3z:Bo Tryz.prog Tryz.f230 f230=true:=by kernel_rfl
theorem B30:Bo Tryz.prog Tryz.f231 f231=true:=by kernel_rfl
theorem B31:Bo Tryz.prog Tryz.f232 f232=true:=by kernel_rfl
theorem B32:Bo Tryz.prog Tryz.f233 f233=true:=by kernel_rfl
theorem B33:Bo Tryz.prog Tryz.f234 f234=true:=by kernel_rfl
theorem B34:Bo Tryz.prog Tryz.f236 f236=true:=by kernel_rfl
theorem B35:Bo Tryz.prog Tryz.f245 f245=true:=by kernel_rfl
theorem B36:Bo Tryz.prog Tryz.f252 f252=true:=by kernel_rfl
theorem B37:Bo Tryz.prog Tryz.f253 f253=true:=by kernel_rfl
theorem B38:Bo Tryz.prog Tryz.f254 f254=true:=by kernel_rfl
theorem B39:Bo Tryz.prog Tryz.f255 f255=true:=by kernel_rfl
theorem B4a:Bo Tryz.prog Tryz.f256 f256=true:=by kernel_rfl
theorem B4b:Bo Tryz.prog Tryz.f257 f257=true:=by kernel_rfl
theorem B4c:Bo Tryz.prog Tryz.f258 f258=true:=by kernel_rfl
theorem B4d:Bo Tryz.prog Tryz.f259 f259=true:=by kernel_rfl
theorem B4e:Bo Tryz.prog Tryz.f260 f260=true:=by kernel_rfl
theorem B4f:Bo Tryz.prog Tryz.f261 f261=true:=by kernel_rfl
theorem B4g:Bo Tryz.prog Tryz.f262 f262=true:=by kernel_rfl
theorem By7: ∀p∈tab,∃fn,Tryz.prog.funcs[p.1]? =some fn∧Bo Tryz.prog fn p.2=true:=by
 intro p hp
 simp only[tab,List.mem_cons,List.not_mem_nil,or_false] at hp
 rcases hp with rfl|rfl|rfl|rfl|rfl|rfl|rfl|rfl|rfl|rfl|rfl|rfl|rfl|rfl|rfl|rfl|rfl|rfl|rfl|rfl|rfl|rfl|rfl|rfl|rfl|rfl|rfl|rfl|rfl|rfl|rfl|rfl|rfl|rfl|rfl|rfl|rfl|rfl|rfl|rfl|rfl|rfl|rfl|rfl|rfl|rfl|rfl|rfl|rfl|rfl|rfl|rfl|rfl|rfl|rfl|rfl|rfl|rfl|rfl|rfl|rfl|rfl|rfl|rfl|rfl|rfl|rfl|rfl|rfl|rfl|rfl|rfl|rfl|rfl|rfl|rfl|rfl|rfl|rfl|rfl|rfl|rfl|rfl|rfl|rfl|rfl|rfl|rfl|rfl|rfl|rfl|rfl|rfl|rfl|rfl|rfl|rfl|rfl|rfl|rfl|rfl|rfl|rfl|rfl|rfl|rfl|rfl|rfl|rfl|rfl|rfl|rfl|rfl|rfl|rfl|rfl|rfl|rfl|rfl|rfl|rfl|rfl|rfl|rfl|rfl|rfl|rfl|rfl|rfl|rfl|rfl|rfl|rfl|rfl|rfl|rfl|rfl|rfl|rfl|rfl
 ·exact⟨_,Tryz.func4,ok4⟩
 ·exact⟨_,Tryz.func7,ok7⟩
 ·exact⟨_,Tryz.func8,ok8⟩
 ·exact⟨_,Tryz.func9,ok9⟩
 ·exact⟨_,Tryz.func10,B6l⟩
 ·exact⟨_,Tryz.func11,B6m⟩
 ·exact⟨_,Tryz.func12,B6n⟩
 ·exact⟨_,Tryz.func13,B6o⟩
 ·exact⟨_,Tryz.func14,B6p⟩
 ·exact⟨_,Tryz.func20,B6q⟩
 ·exact⟨_,Tryz.func21,B6r⟩
 ·exact⟨_,Tryz.func22,B6s⟩
 ·exact⟨_,Tryz.func23,B6t⟩
 ·exact⟨_,Tryz.func24,B6u⟩
 ·exact⟨_,Tryz.func25,B6v⟩
 ·exact⟨_,Tryz.func26,B6w⟩
 ·exact⟨_,Tryz.func27,B6x⟩
 ·exact⟨_,Tryz.func28,B6y⟩
 ·exact⟨_,Tryz.func29,B6z⟩
 ·exact⟨_,Tryz.func30,B60⟩
 ·exact⟨_,Tryz.func31,B61⟩
 ·exact⟨_,Tryz.func32,B62⟩
 ·exact⟨_,Tryz.func33,B63⟩
 ·exact⟨_,Tryz.func34,B64⟩
 ·exact⟨_,Tryz.func35,B65⟩
 ·exact⟨_,Tryz.func36,B66⟩
 ·exact⟨_,Tryz.func37,B67⟩
 ·exact⟨_,Tryz.func38,B68⟩
 ·exact⟨_,Tryz.func40,B69⟩
 ·exact⟨_,Tryz.func41,B7a⟩
 ·exact⟨_,Tryz.func42,B7e⟩
 ·exact⟨_,Tryz.func43,B7f⟩
 ·exact⟨_,Tryz.func44,B7g⟩
 ·exact⟨_,Tryz.func45,B7h⟩
 ·exact⟨_,Tryz.func46,B7i⟩
 ·exact⟨_,Tryz.func47,B7j⟩
 ·exact⟨_,Tryz.func48,B7k⟩
 ·exact⟨_,Tryz.func49,B7l⟩
 ·exact⟨_,Tryz.func50,B7m⟩
 ·exact⟨_,Tryz.func51,B7n⟩
 ·exact⟨_,Tryz.func52,B7o⟩
 ·exact⟨_,Tryz.func53,B7p⟩
 ·exact⟨_,Tryz.func54,B7q⟩
 ·exact⟨_,Tryz.func55,B7r⟩
 ·exact⟨_,Tryz.func56,B7s⟩
 ·exact⟨_,Tryz.func57,B7t⟩
 ·exact⟨_,Tryz.func59,B7u⟩
 ·exact⟨_,Tryz.func60,B7v⟩
 ·exact⟨_,Tryz.func61,B7w⟩
 ·exact⟨_,Tryz.func62,B7x⟩
 ·exact⟨_,Tryz.func63,B7y⟩
 ·exact⟨_,Tryz.func64,B7z⟩
 ·exact⟨_,Tryz.func65,B70⟩
 ·exact⟨_,Tryz.func66,B71⟩
 ·exact⟨_,Tryz.func67,B72⟩
 ·exact⟨_,Tryz.func68,B73⟩
 ·exact⟨_,Tryz.func69,B74⟩
 ·exact⟨_,Tryz.func70,B75⟩
 ·exact⟨_,Tryz.func71,B76⟩
 ·exact⟨_,Tryz.func72,B77⟩
 ·exact⟨_,Tryz.func73,B78⟩
 ·exact⟨_,Tryz.func76,B79⟩
 ·exact⟨_,Tryz.func80,B8a⟩
 ·exact⟨_,Tryz.func88,B8b⟩
 ·exact⟨_,Tryz.func89,B8c⟩
 ·exact⟨_,Tryz.func150,B2e⟩
 ·exact⟨_,Tryz.func155,B2f⟩
 ·exact⟨_,Tryz.func156,B2g⟩
 ·exact⟨_,Tryz.func159,B2h⟩
 ·exact⟨_,Tryz.func160,B2i⟩
 ·exact⟨_,Tryz.func161,B2j⟩
 ·exact⟨_,Tryz.func162,B2k⟩
 ·exact⟨_,Tryz.func163,B2l⟩
 ·exact⟨_,Tryz.func164,B2m⟩
 ·exact⟨_,Tryz.func165,B2n⟩
 ·exact⟨_,Tryz.func166,B2o⟩
 ·exact⟨_,Tryz.func167,B2p⟩
 ·exact⟨_,Tryz.func168,B2q⟩
 ·exact⟨_,Tryz.func169,B2r⟩
 ·exact⟨_,Tryz.func170,B2s⟩
 ·exact⟨_,Tryz.func171,B2t⟩
 ·exact⟨_,Tryz.func172,B2u⟩
 ·exact⟨_,Tryz.func173,B2v⟩
 ·exact⟨_,Tryz.func174,B2w⟩
 ·exact⟨_,Tryz.func175,B2x⟩
 ·exact⟨_,Tryz.func176,B2y⟩
 ·exact⟨_,Tryz.func177,B2z⟩
 ·exact⟨_,Tryz.func192,B20⟩
 ·exact⟨_,Tryz.func193,B21⟩
 ·exact⟨_,Tryz.func197,B22⟩
 ·exact⟨_,Tryz.func198,B23⟩
 ·exact⟨_,Tryz.func199,B24⟩
 ·exact⟨_,Tryz.func200,B25⟩
 ·exact⟨_,Tryz.func201,B26⟩
 ·exact⟨_,Tryz.func202,B27⟩
 ·exact⟨_,Tryz.func203,B28⟩
 ·exact⟨_,Tryz.func204,B29⟩
 ·exact⟨_,Tryz.func205,B3a⟩
 ·exact⟨_,Tryz.func206,B3b⟩
 ·exact⟨_,Tryz.func207,B3c⟩
 ·exact⟨_,Tryz.func208,B3d⟩
 ·exact⟨_,Tryz.func209,B3e⟩
 ·exact⟨_,Tryz.func210,B3f⟩
 ·exact⟨_,Tryz.func211,B3g⟩
 ·exact⟨_,Tryz.func212,B3h⟩
 ·exact⟨_,Tryz.func213,B3i⟩
 ·exact⟨_,Tryz.func214,B3j⟩
 ·exact⟨_,Tryz.func215,B3k⟩
 ·exact⟨_,Tryz.func216,B3l⟩
 ·exact⟨_,Tryz.func217,B3m⟩
 ·exact⟨_,Tryz.func218,B3n⟩
 ·exact⟨_,Tryz.func219,B3o⟩
 ·exact⟨_,Tryz.func220,B3p⟩
 ·exact⟨_,Tryz.func221,B3q⟩
 ·exact⟨_,Tryz.func222,B3r⟩
 ·exact⟨_,Tryz.func223,B3s⟩
 ·exact⟨_,Tryz.func224,B3t⟩
 ·exact⟨_,Tryz.func225,B3u⟩
 ·exact⟨_,Tryz.func226,B3v⟩
 ·exact⟨_,Tryz.func227,B3w⟩
 ·exact⟨_,Tryz.func228,B3x⟩
 ·exact⟨_,Tryz.func229,B3y⟩
 ·exact⟨_,Tryz.func230,B3z⟩
 ·exact⟨_,Tryz.func231,B30⟩
 ·exact⟨_,Tryz.func232,B31⟩
 ·exact⟨_,Tryz.func233,B32⟩
 ·exact⟨_,Tryz.func234,B33⟩
 ·exact⟨_,Tryz.func236,B34⟩
 ·exact⟨_,Tryz.func245,B35⟩
 ·exact⟨_,Tryz.func252,B36⟩
 ·exact⟨_,Tryz.func253,B37⟩
 ·exact⟨_,Tryz.func254,B38⟩
 ·exact⟨_,Tryz.func255,B39⟩
 ·exact⟨_,Tryz.func256,B4a⟩
 ·exact⟨_,Tryz.func257,B4b⟩
 ·exact⟨_,Tryz.func258,B4c⟩
 ·exact⟨_,Tryz.func259,B4d⟩
 ·exact⟨_,Tryz.func260,B4e⟩
 ·exact⟨_,Tryz.func261,B4f⟩
 ·exact⟨_,Tryz.func262,B4g⟩
theorem Bv6:FnOk Tryz.prog 235:=⟨_,Tryz.func235,by kernel_rfl,by kernel_rfl⟩
theorem Bpx (args:List V) (H:Hp) (r:V×Hp) (h:Bek false 6 236 args H=some r):Nk Tryz.prog Bgz 235 args H r:= @Bim Tryz.prog Bgz false 235 236 6 Bv6 Bpw args H r h
theorem Bsc: ∀k p,Bsb k=some p→∀args H r,p args H=some r→Nk Tryz.prog Bgz k args H r:=by
 intro k p hk args H r hr
 unfold Bsb at hk
 split at hk
 ·simp only[Option.some.injEq] at hk
  subst hk
  exact Bpx args H r hr
 ·simp at hk
theorem Bz3:PrgOk Tryz.prog R:=Bom (by kernel_rfl) By7 Bsc
end Go.Proofs.YtpajcoanfkeibaaGreatDoor.Code
