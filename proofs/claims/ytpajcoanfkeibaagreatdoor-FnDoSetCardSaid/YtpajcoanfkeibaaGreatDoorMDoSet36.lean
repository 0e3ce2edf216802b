/- Lemmas (several texts in one). -/
import Derived.Test.YtpajcoanfkeibaaGreatDoorMDoSet7
import Derived.Test.YtpajcoanfkeibaaGreatDoorMDoSet34
import Derived.Test.YtpajcoanfkeibaaGreatDoorMDoSet35
import Derived.Test.YtpajcoanfkeibaaGreatDoorChecked
import Derived.KernelRfl
set_option maxRecDepth 100000
namespace Go.Proofs.YtpajcoanfkeibaaGreatDoor.Code
open Go Go.Ev Go.Proofs
theorem ok5:Bj Tryz.prog Tryz.f5 f5=true:=by kernel_rfl
theorem ok7:Bj Tryz.prog Tryz.f7 f7=true:=by kernel_rfl
theorem ok8:Bj Tryz.prog Tryz.f8 f8=true:=by kernel_rfl
theorem ok9:Bj Tryz.prog Tryz.f9 f9=true:=by kernel_rfl
theorem B74:Bj Tryz.prog Tryz.f10 f10=true:=by kernel_rfl
theorem B75:Bj Tryz.prog Tryz.f11 f11=true:=by kernel_rfl
theorem B76:Bj Tryz.prog Tryz.f13 f13=true:=by kernel_rfl
theorem B77:Bj Tryz.prog Tryz.f14 f14=true:=by kernel_rfl
theorem B78:Bj Tryz.prog Tryz.f15 f15=true:=by kernel_rfl
theorem B79:Bj Tryz.prog Tryz.f20 f20=true:=by kernel_rfl
theorem B8a:Bj Tryz.prog Tryz.f21 f21=true:=by kernel_rfl
theorem B8b:Bj Tryz.prog Tryz.f22 f22=true:=by kernel_rfl
theorem B8c:Bj Tryz.prog Tryz.f23 f23=true:=by kernel_rfl
theorem B8d:Bj Tryz.prog Tryz.f24 f24=true:=by kernel_rfl
theorem B8e:Bj Tryz.prog Tryz.f25 f25=true:=by kernel_rfl
theorem B8f:Bj Tryz.prog Tryz.f26 f26=true:=by kernel_rfl
theorem B8g:Bj Tryz.prog Tryz.f27 f27=true:=by kernel_rfl
theorem B8h:Bj Tryz.prog Tryz.f28 f28=true:=by kernel_rfl
theorem B8i:Bj Tryz.prog Tryz.f29 f29=true:=by kernel_rfl
theorem B8j:Bj Tryz.prog Tryz.f30 f30=true:=by kernel_rfl
theorem B8k:Bj Tryz.prog Tryz.f31 f31=true:=by kernel_rfl
theorem B8l:Bj Tryz.prog Tryz.f32 f32=true:=by kernel_rfl
theorem B8m:Bj Tryz.prog Tryz.f33 f33=true:=by kernel_rfl
theorem B8n:Bj Tryz.prog Tryz.f34 f34=true:=by kernel_rfl
theorem B8o:Bj Tryz.prog Tryz.f35 f35=true:=by kernel_rfl
theorem B8p:Bj Tryz.prog Tryz.f36 f36=true:=by kernel_rfl
theorem B8q:Bj Tryz.prog Tryz.f37 f37=true:=by kernel_rfl
theorem B8r:Bj Tryz.prog Tryz.f38 f38=true:=by kernel_rfl
theorem B8s:Bj Tryz.prog Tryz.f39 f39=true:=by kernel_rfl
theorem B8t:Bj Tryz.prog Tryz.f40 f40=true:=by kernel_rfl
theorem B8u:Bj Tryz.prog Tryz.f41 f41=true:=by kernel_rfl
theorem B8v:Bj Tryz.prog Tryz.f42 f42=true:=by kernel_rfl
theorem B8w:Bj Tryz.prog Tryz.f43 f43=true:=by kernel_rfl
theorem B8x:Bj Tryz.prog Tryz.f44 f44=true:=by kernel_rfl
theorem B8y:Bj Tryz.prog Tryz.f45 f45=true:=by kernel_rfl
theorem B8z:Bj Tryz.prog Tryz.f46 f46=true:=by kernel_rfl
theorem B80:Bj Tryz.prog Tryz.f47 f47=true:=by kernel_rfl
theorem B81:Bj Tryz.prog Tryz.f48 f48=true:=by kernel_rfl
theorem B82:Bj Tryz.prog Tryz.f49 f49=true:=by kernel_rfl
theorem B83:Bj Tryz.prog Tryz.f50 f50=true:=by kernel_rfl
theorem B84:Bj Tryz.prog Tryz.f51 f51=true:=by kernel_rfl
theorem B85:Bj Tryz.prog Tryz.f52 f52=true:=by kernel_rfl
theorem B86:Bj Tryz.prog Tryz.f53 f53=true:=by kernel_rfl
theorem B87:Bj Tryz.prog Tryz.f54 f54=true:=by kernel_rfl
theorem B88:Bj Tryz.prog Tryz.f55 f55=true:=by kernel_rfl
theorem B89:Bj Tryz.prog Tryz.f56 f56=true:=by kernel_rfl
theorem B9a:Bj Tryz.prog Tryz.f57 f57=true:=by kernel_rfl
theorem B9b:Bj Tryz.prog Tryz.f59 f59=true:=by kernel_rfl
theorem B9c:Bj Tryz.prog Tryz.f60 f60=true:=by kernel_rfl
theorem B9d:Bj Tryz.prog Tryz.f61 f61=true:=by kernel_rfl
theorem B9e:Bj Tryz.prog Tryz.f62 f62=true:=by kernel_rfl
theorem B9f:Bj Tryz.prog Tryz.f63 f63=true:=by kernel_rfl
theorem B9g:Bj Tryz.prog Tryz.f64 f64=true:=by kernel_rfl
theorem B9h:Bj Tryz.prog Tryz.f65 f65=true:=by kernel_rfl
theorem B9i:Bj Tryz.prog Tryz.f66 f66=true:=by kernel_rfl
theorem B9j:Bj Tryz.prog Tryz.f67 f67=true:=by kernel_rfl
theorem B9k:Bj Tryz.prog Tryz.f68 f68=true:=by kernel_rfl
theorem B9l:Bj Tryz.prog Tryz.f69 f69=true:=by kernel_rfl
theorem B9m:Bj Tryz.prog Tryz.f70 f70=true:=by kernel_rfl
theorem B9n:Bj Tryz.prog Tryz.f71 f71=true:=by kernel_rfl
theorem B9o:Bj Tryz.prog Tryz.f72 f72=true:=by kernel_rfl
theorem B9p:Bj Tryz.prog Tryz.f73 f73=true:=by kernel_rfl
theorem B9q:Bj Tryz.prog Tryz.f74 f74=true:=by kernel_rfl
theorem B9r:Bj Tryz.prog Tryz.f75 f75=true:=by kernel_rfl
theorem B9s:Bj Tryz.prog Tryz.f76 f76=true:=by kernel_rfl
theorem B9t:Bj Tryz.prog Tryz.f77 f77=true:=by kernel_rfl
theorem B9u:Bj Tryz.prog Tryz.f78 f78=true:=by kernel_rfl
theorem B9v:Bj Tryz.prog Tryz.f79 f79=true:=by kernel_rfl
theorem B9w:Bj Tryz.prog Tryz.f80 f80=true:=by kernel_rfl
theorem B9x:Bj Tryz.prog Tryz.f84 f84=true:=by kernel_rfl
theorem B9y:Bj Tryz.prog Tryz.f88 f88=true:=by kernel_rfl
theorem B9z:Bj Tryz.prog Tryz.f89 f89=true:=by kernel_rfl
theorem B3m:Bj Tryz.prog Tryz.f142 f142=true:=by kernel_rfl
theorem B3n:Bj Tryz.prog Tryz.f144 f144=true:=by kernel_rfl
theorem B3o:Bj Tryz.prog Tryz.f145 f145=true:=by kernel_rfl
theorem B3p:Bj Tryz.prog Tryz.f155 f155=true:=by kernel_rfl
theorem B3q:Bj Tryz.prog Tryz.f156 f156=true:=by kernel_rfl
theorem B3r:Bj Tryz.prog Tryz.f159 f159=true:=by kernel_rfl
theorem B3s:Bj Tryz.prog Tryz.f160 f160=true:=by kernel_rfl
theorem B3t:Bj Tryz.prog Tryz.f161 f161=true:=by kernel_rfl
theorem B3u:Bj Tryz.prog Tryz.f162 f162=true:=by kernel_rfl
theorem B3v:Bj Tryz.prog Tryz.f163 f163=true:=by kernel_rfl
theorem B3w:Bj Tryz.prog Tryz.f164 f164=true:=by kernel_rfl
theorem B3x:Bj Tryz.prog Tryz.f165 f165=true:=by kernel_rfl
theorem B3y:Bj Tryz.prog Tryz.f166 f166=true:=by kernel_rfl
theorem B3z:Bj Tryz.prog Tryz.f167 f167=true:=by kernel_rfl
theorem B30:Bj Tryz.prog Tryz.f168 f168=true:=by kernel_rfl
theorem B31:Bj Tryz.prog Tryz.f169 f169=true:=by kernel_rfl
theorem B32:Bj Tryz.prog Tryz.f170 f170=true:=by kernel_rfl
theorem B33:Bj Tryz.prog Tryz.f171 f171=true:=by kernel_rfl
theorem B34:Bj Tryz.prog Tryz.f172 f172=true:=by kernel_rfl
theorem B35:Bj Tryz.prog Tryz.f173 f173=true:=by kernel_rfl
theorem B36:Bj Tryz.prog Tryz.f174 f174=true:=by kernel_rfl
theorem B37:Bj Tryz.prog Tryz.f175 f175=true:=by kernel_rfl
theorem B38:Bj Tryz.prog Tryz.f176 f176=true:=by kernel_rfl
theorem B39:Bj Tryz.prog Tryz.f177 f177=true:=by kernel_rfl
theorem B4a:Bj Tryz.prog Tryz.f192 f192=true:=by kernel_rfl
theorem B4b:Bj Tryz.prog Tryz.f193 f193=true:=by kernel_rfl
theorem B4c:Bj Tryz.prog Tryz.f197 f197=true:=by kernel_rfl
theorem B4d:Bj Tryz.prog Tryz.f198 f198=true:=by kernel_rfl
theorem B4e:Bj Tryz.prog Tryz.f199 f199=true:=by kernel_rfl
theorem B4f:Bj Tryz.prog Tryz.f200 f200=true:=by kernel_rfl
theorem B4g:Bj Tryz.prog Tryz.f201 f201=true:=by kernel_rfl
theorem B4h:Bj Tryz.prog Tryz.f202 f202=true:=by kernel_rfl
theorem B4i:Bj Tryz.prog Tryz.f203 f203=true:=by kernel_rfl
theorem B4j:Bj Tryz.prog Tryz.f204 f204=true:=by kernel_rfl
theorem B4k:Bj Tryz.prog Tryz.f205 f205=true:=by kernel_rfl
theorem B4l:Bj Tryz.prog Tryz.f206 f206=true:=by kernel_rfl
theorem B4m:Bj Tryz.prog Tryz.f207 f207=true:=by kernel_rfl
theorem B4n:Bj Tryz.prog Tryz.f208 f208=true:=by kernel_rfl
theorem B4o:Bj Tryz.prog Tryz.f209 f209=true:=by kernel_rfl
theorem B4p:Bj Tryz.prog Tryz.f210 f210=true:=by kernel_rfl
theorem B4q:Bj Tryz.prog Tryz.f211 f211=true:=by kernel_rfl
theorem B4r:Bj Tryz.prog Tryz.f212 f212=true:=by kernel_rfl
theorem B4s:Bj Tryz.prog Tryz.f213 f213=true:=by kernel_rfl
theorem B4t:Bj Tryz.prog Tryz.f214 f214=true:=by kernel_rfl
theorem B4u:Bj Tryz.prog Tryz.f215 f215=true:=by kernel_rfl
theorem B4v:Bj Tryz.prog Tryz.f216 f216=true:=by kernel_rfl
theorem B4w:Bj Tryz.prog Tryz.f217 f217=true:=by kernel_rfl
theorem B4x:Bj Tryz.prog Tryz.f218 f218=true:=by kernel_rfl
theorem B4y:Bj Tryz.prog Tryz.f219 f219=true:=by kernel_rfl
theorem B4z:Bj Tryz.prog Tryz.f220 f220=true:=by kernel_rfl
theorem B40:Bj Tryz.prog Tryz.f221 f221=true:=by kernel_rfl
theorem B41:Bj Tryz.prog Tryz.f222 f222=true:=by kernel_rfl
theorem B42:Bj Tryz.prog Tryz.f223 f223=true:=by kernel_rfl
theorem B43:Bj Tryz.prog Tryz.f224 f224=true:=by kernel_rfl
theorem B44:Bj Tryz.prog Tryz.f225 f225=true:=by kernel_rfl
theorem B45:Bj Tryz.prog Tryz.f226 f226=true:=by kernel_rfl
theorem B46:Bj Tryz.prog Tryz.f227 f227=true:=by kernel_rfl
theorem B47:Bj Tryz.prog Tryz.f228 f228=true:=by kernel_rfl
theorem B48:Bj Tryz.prog Tryz.f229 f229=true:=by kernel_rfl
theorem B49:Bj Tryz.prog Tryz.f230 f230=true:=by kernel_rfl
theorem B5a:Bj Tryz.prog Tryz.f231 f231=true:=by kernel_rfl
theorem B5b:Bj Tryz.prog Tryz.f232 f232=true:=by kernel_rfl
theorem B5c:Bj Tryz.prog Tryz.f233 f233=true:=by kernel_rfl
theorem B5d:Bj Tryz.prog Tryz.f234 f234=true:=by kernel_rfl
theorem B5e:Bj Tryz.prog Tryz.f236 f236=true:=by kernel_rfl
theorem B5f:Bj Tryz.prog Tryz.f245 f245=true:=by kernel_rfl
theorem B5g:Bj Tryz.prog Tryz.f252 f252=true:=by kernel_rfl
theorem B5h:Bj Tryz.prog Tryz.f253 f253=true:=by kernel_rfl
theorem B5i:Bj Tryz.prog Tryz.f254 f254=true:=by kernel_rfl
theorem B5j:Bj Tryz.prog Tryz.f255 f255=true:=by kernel_rfl
theorem B5k:Bj Tryz.prog Tryz.f256 f256=true:=by kernel_rfl
theorem B5l:Bj Tryz.prog Tryz.f257 f257=true:=by kernel_rfl
theorem B5m:Bj Tryz.prog Tryz.f258 f258=true:=by kernel_rfl
theorem B5n:Bj Tryz.prog Tryz.f259 f259=true:=by kernel_rfl
theorem B5o:Bj Tryz.prog Tryz.f260 f260=true:=by kernel_rfl
theorem B5p:Bj Tryz.prog Tryz.f261 f261=true:=by kernel_rfl
theorem B5q:Bj Tryz.prog Tryz.f262 f262=true:=by kernel_rfl
theorem Bzw: ∀p∈tab,∃fn,Tryz.prog.funcs[p.1]? =some fn∧Bj Tryz.prog fn p.2=true:=by
 intro p hp
 simp only[tab,List.mem_cons,List.not_mem_nil,or_false] at hp
 rcases hp with rfl|rfl|rfl|rfl|rfl|rfl|rfl|rfl|rfl|rfl|rfl|rfl|rfl|rfl|rfl|rfl|rfl|rfl|rfl|rfl|rfl|rfl|rfl|rfl|rfl|rfl|rfl|rfl|rfl|rfl|rfl|rfl|rfl|rfl|rfl|rfl|rfl|rfl|rfl|rfl|rfl|rfl|rfl|rfl|rfl|rfl|rfl|rfl|rfl|rfl|rfl|rfl|rfl|rfl|rfl|rfl|rfl|rfl|rfl|rfl|rfl|rfl|rfl|rfl|rfl|rfl|rfl|rfl|rfl|rfl|rfl|rfl|rfl|rfl|rfl|rfl|rfl|rfl|rfl|rfl|rfl|rfl|rfl|rfl|rfl|rfl|rfl|rfl|rfl|rfl|rfl|rfl|rfl|rfl|rfl|rfl|rfl|rfl|rfl|rfl|rfl|rfl|rfl|rfl|rfl|rfl|rfl|rfl|rfl|rfl|rfl|rfl|rfl|rfl|rfl|rfl|rfl|rfl|rfl|rfl|rfl|rfl|rfl|rfl|rfl|rfl|rfl|rfl|rfl|rfl|rfl|rfl|rfl|rfl|rfl|rfl|rfl|rfl|rfl|rfl|rfl|rfl|rfl|rfl|rfl|rfl|rfl|rfl|rfl
 ·exact⟨_,Tryz.func5,ok5⟩
 ·exact⟨_,Tryz.func7,ok7⟩
 ·exact⟨_,Tryz.func8,ok8⟩
 ·exact⟨_,Tryz.func9,ok9⟩
 ·exact⟨_,Tryz.func10,B74⟩
 ·exact⟨_,Tryz.func11,B75⟩
 ·exact⟨_,Tryz.func13,B76⟩
 ·exact⟨_,Tryz.func14,B77⟩
 ·exact⟨_,Tryz.func15,B78⟩
 ·exact⟨_,Tryz.func20,B79⟩
 ·exact⟨_,Tryz.func21,B8a⟩
 ·exact⟨_,Tryz.func22,B8b⟩
 ·exact⟨_,Tryz.func23,B8c⟩
 ·exact⟨_,Tryz.func24,B8d⟩
 ·exact⟨_,Tryz.func25,B8e⟩
 ·exact⟨_,Tryz.func26,B8f⟩
 ·exact⟨_,Tryz.func27,B8g⟩
 ·exact⟨_,Tryz.func28,B8h⟩
 ·exact⟨_,Tryz.func29,B8i⟩
 ·exact⟨_,Tryz.func30,B8j⟩
 ·exact⟨_,Tryz.func31,B8k⟩
 ·exact⟨_,Tryz.func32,B8l⟩
 ·exact⟨_,Tryz.func33,B8m⟩
 ·exact⟨_,Tryz.func34,B8n⟩
 ·exact⟨_,Tryz.func35,B8o⟩
 ·exact⟨_,Tryz.func36,B8p⟩
 ·exact⟨_,Tryz.func37,B8q⟩
 ·exact⟨_,Tryz.func38,B8r⟩
 ·exact⟨_,Tryz.func39,B8s⟩
 ·exact⟨_,Tryz.func40,B8t⟩
 ·exact⟨_,Tryz.func41,B8u⟩
 ·exact⟨_,Tryz.func42,B8v⟩
 ·exact⟨_,Tryz.func43,B8w⟩
 ·exact⟨_,Tryz.func44,B8x⟩
 ·exact⟨_,Tryz.func45,B8y⟩
 ·exact⟨_,Tryz.func46,B8z⟩
 ·exact⟨_,Tryz.func47,B80⟩
 ·exact⟨_,Tryz.func48,B81⟩
 ·exact⟨_,Tryz.func49,B82⟩
 ·exact⟨_,Tryz.func50,B83⟩
 ·exact⟨_,Tryz.func51,B84⟩
 ·exact⟨_,Tryz.func52,B85⟩
 ·exact⟨_,Tryz.func53,B86⟩
 ·exact⟨_,Tryz.func54,B87⟩
 ·exact⟨_,Tryz.func55,B88⟩
 ·exact⟨_,Tryz.func56,B89⟩
 ·exact⟨_,Tryz.func57,B9a⟩
 ·exact⟨_,Tryz.func59,B9b⟩
 ·exact⟨_,Tryz.func60,B9c⟩
 ·exact⟨_,Tryz.func61,B9d⟩
 ·exact⟨_,Tryz.func62,B9e⟩
 ·exact⟨_,Tryz.func63,B9f⟩
 ·exact⟨_,Tryz.func64,B9g⟩
 ·exact⟨_,Tryz.func65,B9h⟩
 ·exact⟨_,Tryz.func66,B9i⟩
 ·exact⟨_,Tryz.func67,B9j⟩
 ·exact⟨_,Tryz.func68,B9k⟩
 ·exact⟨_,Tryz.func69,B9l⟩
 ·exact⟨_,Tryz.func70,B9m⟩
 ·exact⟨_,Tryz.func71,B9n⟩
 ·exact⟨_,Tryz.func72,B9o⟩
 ·exact⟨_,Tryz.func73,B9p⟩
 ·exact⟨_,Tryz.func74,B9q⟩
 ·exact⟨_,Tryz.func75,B9r⟩
 ·exact⟨_,Tryz.func76,B9s⟩
 ·exact⟨_,Tryz.func77,B9t⟩
 ·exact⟨_,Tryz.func78,B9u⟩
 ·exact⟨_,Tryz.func79,B9v⟩
 ·exact⟨_,Tryz.func80,B9w⟩
 ·exact⟨_,Tryz.func84,B9x⟩
 ·exact⟨_,Tryz.func88,B9y⟩
 ·exact⟨_,Tryz.func89,B9z⟩
 ·exact⟨_,Tryz.func142,B3m⟩
 ·exact⟨_,Tryz.func144,B3n⟩
 ·exact⟨_,Tryz.func145,B3o⟩
 ·exact⟨_,Tryz.func155,B3p⟩
 ·exact⟨_,Tryz.func156,B3q⟩
 ·exact⟨_,Tryz.func159,B3r⟩
 ·exact⟨_,Tryz.func160,B3s⟩
 ·exact⟨_,Tryz.func161,B3t⟩
 ·exact⟨_,Tryz.func162,B3u⟩
 ·exact⟨_,Tryz.func163,B3v⟩
 ·exact⟨_,Tryz.func164,B3w⟩
 ·exact⟨_,Tryz.func165,B3x⟩
 ·exact⟨_,Tryz.func166,B3y⟩
 ·exact⟨_,Tryz.func167,B3z⟩
 ·exact⟨_,Tryz.func168,B30⟩
 ·exact⟨_,Tryz.func169,B31⟩
 ·exact⟨_,Tryz.func170,B32⟩
 ·exact⟨_,Tryz.func171,B33⟩
 ·exact⟨_,Tryz.func172,B34⟩
 ·exact⟨_,Tryz.func173,B35⟩
 ·exact⟨_,Tryz.func174,B36⟩
 ·exact⟨_,Tryz.func175,B37⟩
 ·exact⟨_,Tryz.func176,B38⟩
 ·exact⟨_,Tryz.func177,B39⟩
 ·exact⟨_,Tryz.func192,B4a⟩
 ·exact⟨_,Tryz.func193,B4b⟩
 ·exact⟨_,Tryz.func197,B4c⟩
 ·exact⟨_,Tryz.func198,B4d⟩
 ·exact⟨_,Tryz.func199,B4e⟩
 ·exact⟨_,Tryz.func200,B4f⟩
 ·exact⟨_,Tryz.func201,B4g⟩
 ·exact⟨_,Tryz.func202,B4h⟩
 ·exact⟨_,Tryz.func203,B4i⟩
 ·exact⟨_,Tryz.func204,B4j⟩
 ·exact⟨_,Tryz.func205,B4k⟩
 ·exact⟨_,Tryz.func206,B4l⟩
 ·exact⟨_,Tryz.func207,B4m⟩
 ·exact⟨_,Tryz.func208,B4n⟩
 ·exact⟨_,Tryz.func209,B4o⟩
 ·exact⟨_,Tryz.func210,B4p⟩
 ·exact⟨_,Tryz.func211,B4q⟩
 ·exact⟨_,Tryz.func212,B4r⟩
 ·exact⟨_,Tryz.func213,B4s⟩
 ·exact⟨_,Tryz.func214,B4t⟩
 ·exact⟨_,Tryz.func215,B4u⟩
 ·exact⟨_,Tryz.func216,B4v⟩
 ·exact⟨_,Tryz.func217,B4w⟩
 ·exact⟨_,Tryz.func218,B4x⟩
 ·exact⟨_,Tryz.func219,B4y⟩
 ·exact⟨_,Tryz.func220,B4z⟩
 ·exact⟨_,Tryz.func221,B40⟩
 ·exact⟨_,Tryz.func222,B41⟩
 ·exact⟨_,Tryz.func223,B42⟩
 ·exact⟨_,Tryz.func224,B43⟩
 ·exact⟨_,Tryz.func225,B44⟩
 ·exact⟨_,Tryz.func226,B45⟩
 ·exact⟨_,Tryz.func227,B46⟩
 ·exact⟨_,Tryz.func228,B47⟩
 ·exact⟨_,Tryz.func229,B48⟩
 ·exact⟨_,Tryz.func230,B49⟩
 ·exact⟨_,Tryz.func231,B5a⟩
 ·exact⟨_,Tryz.func232,B5b⟩
 ·exact⟨_,Tryz.func233,B5c⟩
 ·exact⟨_,Tryz.func234,B5d⟩
 ·exact⟨_,Tryz.func236,B5e⟩
 ·exact⟨_,Tryz.func245,B5f⟩
 ·exact⟨_,Tryz.func252,B5g⟩
 ·exact⟨_,Tryz.func253,B5h⟩
 ·exact⟨_,Tryz.func254,B5i⟩
 ·exact⟨_,Tryz.func255,B5j⟩
 ·exact⟨_,Tryz.func256,B5k⟩
 ·exact⟨_,Tryz.func257,B5l⟩
 ·exact⟨_,Tryz.func258,B5m⟩
 ·exact⟨_,Tryz.func259,B5n⟩
 ·exact⟨_,Tryz.func260,B5o⟩
 ·exact⟨_,Tryz.func261,B5p⟩
 ·exact⟨_,Tryz.func262,B5q⟩
theorem Bwr:FnOk Tryz.prog 235:=⟨_,Tryz.func235,by kernel_rfl,by kernel_rfl⟩
theorem Bqb (args:List V) (H:Hp) (r:V×Hp) (h:Be0 false 6 236 args H=some r):N7 Tryz.prog Bhh 235 args H r:= @Bi3 Tryz.prog Bhh false 235 236 6 Bwr Bqa args H r h
theorem Bsw: ∀k p,Bsv k=some p→∀args H r,p args H=some r→N7 Tryz.prog Bhh k args H r:=by
 intro k p hk args H r hr
 unfold Bsv at hk
 split at hk
 ·simp only[Option.some.injEq] at hk
  subst hk
  exact Bqb args H r hr
 ·simp at hk
theorem B00:PrgOk Tryz.prog R:=Bo2 (by kernel_rfl) Bzw Bsw
end Go.Proofs.YtpajcoanfkeibaaGreatDoor.Code
