/- Lemmas (several texts in one). -/
import Derived.Test.YtpajcoanfkeibaaGreatDoorMDoKind7
import Derived.Test.YtpajcoanfkeibaaGreatDoorMDoKind33
import Derived.Test.YtpajcoanfkeibaaGreatDoorMDoKind34
import Derived.Test.YtpajcoanfkeibaaGreatDoorChecked
import Derived.KernelRfl
set_option maxRecDepth 100000
open Array renaming getElem?_eq_getElem → Cd5
open Option renaming some.injEq → Cdt
namespace Go.Proofs.YtpajcoanfkeibaaGreatDoor.Code
open Go Go.Ev Go.Proofs
theorem ok3:Bi Tryz.prog Tryz.f3 f3=true:=by kernel_rfl
theorem ok7:Bi Tryz.prog Tryz.f7 f7=true:=by kernel_rfl
theorem ok8:Bi Tryz.prog Tryz.f8 f8=true:=by kernel_rfl
theorem ok9:Bi Tryz.prog Tryz.f9 f9=true:=by kernel_rfl
theorem B8l:Bi Tryz.prog Tryz.f10 f10=true:=by kernel_rfl
theorem B8m:Bi Tryz.prog Tryz.f11 f11=true:=by kernel_rfl
theorem B8n:Bi Tryz.prog Tryz.f12 f12=true:=by kernel_rfl
theorem B8o:Bi Tryz.prog Tryz.f13 f13=true:=by kernel_rfl
theorem B8p:Bi Tryz.prog Tryz.f14 f14=true:=by kernel_rfl
theorem B8q:Bi Tryz.prog Tryz.f20 f20=true:=by kernel_rfl
theorem B8r:Bi Tryz.prog Tryz.f21 f21=true:=by kernel_rfl
theorem B8s:Bi Tryz.prog Tryz.f22 f22=true:=by kernel_rfl
theorem B8t:Bi Tryz.prog Tryz.f23 f23=true:=by kernel_rfl
theorem B8u:Bi Tryz.prog Tryz.f24 f24=true:=by kernel_rfl
theorem B8v:Bi Tryz.prog Tryz.f25 f25=true:=by kernel_rfl
theorem B8w:Bi Tryz.prog Tryz.f26 f26=true:=by kernel_rfl
theorem B8x:Bi Tryz.prog Tryz.f27 f27=true:=by kernel_rfl
theorem B8y:Bi Tryz.prog Tryz.f28 f28=true:=by kernel_rfl
theorem B8z:Bi Tryz.prog Tryz.f29 f29=true:=by kernel_rfl
theorem B80:Bi Tryz.prog Tryz.f30 f30=true:=by kernel_rfl
theorem B81:Bi Tryz.prog Tryz.f31 f31=true:=by kernel_rfl
theorem B82:Bi Tryz.prog Tryz.f32 f32=true:=by kernel_rfl
theorem B83:Bi Tryz.prog Tryz.f33 f33=true:=by kernel_rfl
theorem B84:Bi Tryz.prog Tryz.f34 f34=true:=by kernel_rfl
theorem B85:Bi Tryz.prog Tryz.f35 f35=true:=by kernel_rfl
theorem B86:Bi Tryz.prog Tryz.f36 f36=true:=by kernel_rfl
theorem B87:Bi Tryz.prog Tryz.f37 f37=true:=by kernel_rfl
theorem B88:Bi Tryz.prog Tryz.f38 f38=true:=by kernel_rfl
theorem B89:Bi Tryz.prog Tryz.f40 f40=true:=by kernel_rfl
theorem B9a:Bi Tryz.prog Tryz.f41 f41=true:=by kernel_rfl
theorem B9b:Bi Tryz.prog Tryz.f42 f42=true:=by kernel_rfl
theorem B9c:Bi Tryz.prog Tryz.f43 f43=true:=by kernel_rfl
theorem B9d:Bi Tryz.prog Tryz.f44 f44=true:=by kernel_rfl
theorem B9e:Bi Tryz.prog Tryz.f45 f45=true:=by kernel_rfl
theorem B9f:Bi Tryz.prog Tryz.f46 f46=true:=by kernel_rfl
theorem B9g:Bi Tryz.prog Tryz.f47 f47=true:=by kernel_rfl
theorem B9h:Bi Tryz.prog Tryz.f48 f48=true:=by kernel_rfl
theorem B9i:Bi Tryz.prog Tryz.f49 f49=true:=by kernel_rfl
theorem B9j:Bi Tryz.prog Tryz.f50 f50=true:=by kernel_rfl
theorem B9k:Bi Tryz.prog Tryz.f51 f51=true:=by kernel_rfl
theorem B9l:Bi Tryz.prog Tryz.f52 f52=true:=by kernel_rfl
theorem B9m:Bi Tryz.prog Tryz.f53 f53=true:=by kernel_rfl
theorem B9n:Bi Tryz.prog Tryz.f54 f54=true:=by kernel_rfl
theorem B9o:Bi Tryz.prog Tryz.f55 f55=true:=by kernel_rfl
theorem B9p:Bi Tryz.prog Tryz.f56 f56=true:=by kernel_rfl
theorem B9q:Bi Tryz.prog Tryz.f57 f57=true:=by kernel_rfl
theorem B9r:Bi Tryz.prog Tryz.f58 f58=true:=by kernel_rfl
theorem B9s:Bi Tryz.prog Tryz.f59 f59=true:=by kernel_rfl
theorem B9t:Bi Tryz.prog Tryz.f60 f60=true:=by kernel_rfl
theorem B9u:Bi Tryz.prog Tryz.f61 f61=true:=by kernel_rfl
theorem B9v:Bi Tryz.prog Tryz.f62 f62=true:=by kernel_rfl
theorem B9w:Bi Tryz.prog Tryz.f63 f63=true:=by kernel_rfl
theorem B9x:Bi Tryz.prog Tryz.f64 f64=true:=by kernel_rfl
theorem B9y:Bi Tryz.prog Tryz.f65 f65=true:=by kernel_rfl
theorem B9z:Bi Tryz.prog Tryz.f66 f66=true:=by kernel_rfl
theorem B90:Bi Tryz.prog Tryz.f67 f67=true:=by kernel_rfl
theorem B91:Bi Tryz.prog Tryz.f68 f68=true:=by kernel_rfl
theorem B92:Bi Tryz.prog Tryz.f69 f69=true:=by kernel_rfl
theorem B93:Bi Tryz.prog Tryz.f70 f70=true:=by kernel_rfl
theorem B94:Bi Tryz.prog Tryz.f71 f71=true:=by kernel_rfl
theorem B95:Bi Tryz.prog Tryz.f72 f72=true:=by kernel_rfl
theorem B96:Bi Tryz.prog Tryz.f73 f73=true:=by kernel_rfl
theorem B97:Bi Tryz.prog Tryz.f74 f74=true:=by kernel_rfl
theorem B98:Bi Tryz.prog Tryz.f75 f75=true:=by kernel_rfl
theorem B99:Bi Tryz.prog Tryz.f76 f76=true:=by kernel_rfl
theorem Caa:Bi Tryz.prog Tryz.f77 f77=true:=by kernel_rfl
theorem Cab:Bi Tryz.prog Tryz.f78 f78=true:=by kernel_rfl
theorem Cac:Bi Tryz.prog Tryz.f79 f79=true:=by kernel_rfl
theorem Cad:Bi Tryz.prog Tryz.f80 f80=true:=by kernel_rfl
theorem Cae:Bi Tryz.prog Tryz.f84 f84=true:=by kernel_rfl
theorem Caf:Bi Tryz.prog Tryz.f88 f88=true:=by kernel_rfl
theorem Cag:Bi Tryz.prog Tryz.f89 f89=true:=by kernel_rfl
theorem Cah:Bi Tryz.prog Tryz.f90 f90=true:=by kernel_rfl
theorem B3y:Bi Tryz.prog Tryz.f105 f105=true:=by kernel_rfl
theorem B3z:Bi Tryz.prog Tryz.f125 f125=true:=by kernel_rfl
theorem B30:Bi Tryz.prog Tryz.f141 f141=true:=by kernel_rfl
theorem B31:Bi Tryz.prog Tryz.f142 f142=true:=by kernel_rfl
theorem B32:Bi Tryz.prog Tryz.f143 f143=true:=by kernel_rfl
theorem B33:Bi Tryz.prog Tryz.f144 f144=true:=by kernel_rfl
theorem B34:Bi Tryz.prog Tryz.f145 f145=true:=by kernel_rfl
theorem B35:Bi Tryz.prog Tryz.f146 f146=true:=by kernel_rfl
theorem B36:Bi Tryz.prog Tryz.f147 f147=true:=by kernel_rfl
theorem B37:Bi Tryz.prog Tryz.f148 f148=true:=by kernel_rfl
theorem B38:Bi Tryz.prog Tryz.f150 f150=true:=by kernel_rfl
theorem B39:Bi Tryz.prog Tryz.f155 f155=true:=by kernel_rfl
theorem B4a:Bi Tryz.prog Tryz.f156 f156=true:=by kernel_rfl
theorem B4b:Bi Tryz.prog Tryz.f159 f159=true:=by kernel_rfl
theorem B4c:Bi Tryz.prog Tryz.f160 f160=true:=by kernel_rfl
theorem B4d:Bi Tryz.prog Tryz.f161 f161=true:=by kernel_rfl
theorem B4e:Bi Tryz.prog Tryz.f162 f162=true:=by kernel_rfl
theorem B4f:Bi Tryz.prog Tryz.f163 f163=true:=by kernel_rfl
theorem B4g:Bi Tryz.prog Tryz.f164 f164=true:=by kernel_rfl
theorem B4h:Bi Tryz.prog Tryz.f165 f165=true:=by kernel_rfl
theorem B4i:Bi Tryz.prog Tryz.f166 f166=true:=by kernel_rfl
theorem B4j:Bi Tryz.prog Tryz.f167 f167=true:=by kernel_rfl
theorem B4k:Bi Tryz.prog Tryz.f168 f168=true:=by kernel_rfl
theorem B4l:Bi Tryz.prog Tryz.f169 f169=true:=by kernel_rfl
theorem B4m:Bi Tryz.prog Tryz.f170 f170=true:=by kernel_rfl
theorem B4n:Bi Tryz.prog Tryz.f171 f171=true:=by kernel_rfl
theorem B4o:Bi Tryz.prog Tryz.f172 f172=true:=by kernel_rfl
theorem B4p:Bi Tryz.prog Tryz.f173 f173=true:=by kernel_rfl
theorem B4q:Bi Tryz.prog Tryz.f174 f174=true:=by kernel_rfl
theorem B4r:Bi Tryz.prog Tryz.f175 f175=true:=by kernel_rfl
theorem B4s:Bi Tryz.prog Tryz.f176 f176=true:=by kernel_rfl
theorem B4t:Bi Tryz.prog Tryz.f177 f177=true:=by kernel_rfl
theorem B4u:Bi Tryz.prog Tryz.f192 f192=true:=by kernel_rfl
theorem B4v:Bi Tryz.prog Tryz.f193 f193=true:=by kernel_rfl
theorem B4w:Bi Tryz.prog Tryz.f197 f197=true:=by kernel_rfl
theorem B4x:Bi Tryz.prog Tryz.f198 f198=true:=by kernel_rfl
theorem B4y:Bi Tryz.prog Tryz.f199 f199=true:=by kernel_rfl
theorem B4z:Bi Tryz.prog Tryz.f200 f200=true:=by kernel_rfl
theorem B40:Bi Tryz.prog Tryz.f201 f201=true:=by kernel_rfl
theorem B41:Bi Tryz.prog Tryz.f202 f202=true:=by kernel_rfl
theorem B42:Bi Tryz.prog Tryz.f203 f203=true:=by kernel_rfl
theorem B43:Bi Tryz.prog Tryz.f204 f204=true:=by kernel_rfl
theorem B44:Bi Tryz.prog Tryz.f205 f205=true:=by kernel_rfl
theorem B45:Bi Tryz.prog Tryz.f206 f206=true:=by kernel_rfl
theorem B46:Bi Tryz.prog Tryz.f207 f207=true:=by kernel_rfl
theorem B47:Bi Tryz.prog Tryz.f208 f208=true:=by kernel_rfl
theorem B48:Bi Tryz.prog Tryz.f209 f209=true:=by kernel_rfl
theorem B49:Bi Tryz.prog Tryz.f210 f210=true:=by kernel_rfl
theorem B5a:Bi Tryz.prog Tryz.f211 f211=true:=by kernel_rfl
theorem B5b:Bi Tryz.prog Tryz.f212 f212=true:=by kernel_rfl
theorem B5c:Bi Tryz.prog Tryz.f213 f213=true:=by kernel_rfl
theorem B5d:Bi Tryz.prog Tryz.f214 f214=true:=by kernel_rfl
theorem B5e:Bi Tryz.prog Tryz.f215 f215=true:=by kernel_rfl
theorem B5f:Bi Tryz.prog Tryz.f216 f216=true:=by kernel_rfl
theorem B5g:Bi Tryz.prog Tryz.f217 f217=true:=by kernel_rfl
theorem B5h:Bi Tryz.prog Tryz.f218 f218=true:=by kernel_rfl
theorem B5i:Bi Tryz.prog Tryz.f219 f219=true:=by kernel_rfl
theorem B5j:Bi Tryz.prog Tryz.f220 f220=true:=by kernel_rfl
theorem B5k:Bi Tryz.prog Tryz.f221 f221=true:=by kernel_rfl
theorem B5l:Bi Tryz.prog Tryz.f222 f222=true:=by kernel_rfl
theorem B5m:Bi Tryz.prog Tryz.f223 f223=true:=by kernel_rfl
theorem B5n:Bi Tryz.prog Tryz.f224 f224=true:=by kernel_rfl
theorem B5o:Bi Tryz.prog Tryz.f225 f225=true:=by kernel_rfl
theorem B5p:Bi Tryz.prog Tryz.f226 f226=true:=by kernel_rfl
theorem B5q:Bi Tryz.prog Tryz.f227 f227=true:=by kernel_rfl
theorem B5r:Bi Tryz.prog Tryz.f228 f228=true:=by kernel_rfl
theorem B5s:Bi Tryz.prog Tryz.f229 f229=true:=by kernel_rfl
theorem B5t:Bi Tryz.prog Tryz.f230 f230=true:=by kernel_rfl
theorem B5u:Bi Tryz.prog Tryz.f231 f231=true:=by kernel_rfl
theorem B5v:Bi Tryz.prog Tryz.f232 f232=true:=by kernel_rfl
theorem B5w:Bi Tryz.prog Tryz.f233 f233=true:=by kernel_rfl
theorem B5x:Bi Tryz.prog Tryz.f234 f234=true:=by kernel_rfl
theorem B5y:Bi Tryz.prog Tryz.f236 f236=true:=by kernel_rfl
theorem B5z:Bi Tryz.prog Tryz.f245 f245=true:=by kernel_rfl
theorem B50:Bi Tryz.prog Tryz.f252 f252=true:=by kernel_rfl
theorem B51:Bi Tryz.prog Tryz.f253 f253=true:=by kernel_rfl
theorem B52:Bi Tryz.prog Tryz.f254 f254=true:=by kernel_rfl
theorem B53:Bi Tryz.prog Tryz.f255 f255=true:=by kernel_rfl
theorem B54:Bi Tryz.prog Tryz.f256 f256=true:=by kernel_rfl
theorem B55:Bi Tryz.prog Tryz.f257 f257=true:=by kernel_rfl
theorem B56:Bi Tryz.prog Tryz.f258 f258=true:=by kernel_rfl
theorem B57:Bi Tryz.prog Tryz.f259 f259=true:=by kernel_rfl
theorem B58:Bi Tryz.prog Tryz.f260 f260=true:=by kernel_rfl
theorem B59:Bi Tryz.prog Tryz.f261 f261=true:=by kernel_rfl
theorem B6a:Bi Tryz.prog Tryz.f262 f262=true:=by kernel_rfl
theorem B0k: ∀p∈tab,∃fn,Tryz.prog.funcs[p.1]? =some fn∧Bi Tryz.prog fn p.2=true:=by
 intro p hp
 simp only[tab,List.mem_cons,List.not_mem_nil,or_false] at hp
 rcases hp with rfl|rfl|rfl|rfl|rfl|rfl|rfl|rfl|rfl|rfl|rfl|rfl|rfl|rfl|rfl|rfl|rfl|rfl|rfl|rfl|rfl|rfl|rfl|rfl|rfl|rfl|rfl|rfl|rfl|rfl|rfl|rfl|rfl|rfl|rfl|rfl|rfl|rfl|rfl|rfl|rfl|rfl|rfl|rfl|rfl|rfl|rfl|rfl|rfl|rfl|rfl|rfl|rfl|rfl|rfl|rfl|rfl|rfl|rfl|rfl|rfl|rfl|rfl|rfl|rfl|rfl|rfl|rfl|rfl|rfl|rfl|rfl|rfl|rfl|rfl|rfl|rfl|rfl|rfl|rfl|rfl|rfl|rfl|rfl|rfl|rfl|rfl|rfl|rfl|rfl|rfl|rfl|rfl|rfl|rfl|rfl|rfl|rfl|rfl|rfl|rfl|rfl|rfl|rfl|rfl|rfl|rfl|rfl|rfl|rfl|rfl|rfl|rfl|rfl|rfl|rfl|rfl|rfl|rfl|rfl|rfl|rfl|rfl|rfl|rfl|rfl|rfl|rfl|rfl|rfl|rfl|rfl|rfl|rfl|rfl|rfl|rfl|rfl|rfl|rfl|rfl|rfl|rfl|rfl|rfl|rfl|rfl|rfl|rfl|rfl|rfl|rfl|rfl|rfl|rfl|rfl|rfl|rfl
 ·exact⟨_,Tryz.func3,ok3⟩
 ·exact⟨_,Tryz.func7,ok7⟩
 ·exact⟨_,Tryz.func8,ok8⟩
 ·exact⟨_,Tryz.func9,ok9⟩
 ·exact⟨_,Tryz.func10,B8l⟩
 ·exact⟨_,Tryz.func11,B8m⟩
 ·exact⟨_,Tryz.func12,B8n⟩
 ·exact⟨_,Tryz.func13,B8o⟩
 ·exact⟨_,Tryz.func14,B8p⟩
 ·exact⟨_,Tryz.func20,B8q⟩
 ·exact⟨_,Tryz.func21,B8r⟩
 ·exact⟨_,Tryz.func22,B8s⟩
 ·exact⟨_,Tryz.func23,B8t⟩
 ·exact⟨_,Tryz.func24,B8u⟩
 ·exact⟨_,Tryz.func25,B8v⟩
 ·exact⟨_,Tryz.func26,B8w⟩
 ·exact⟨_,Tryz.func27,B8x⟩
 ·exact⟨_,Tryz.func28,B8y⟩
 ·exact⟨_,Tryz.func29,B8z⟩
 ·exact⟨_,Tryz.func30,B80⟩
 ·exact⟨_,Tryz.func31,B81⟩
 ·exact⟨_,Tryz.func32,B82⟩
 ·exact⟨_,Tryz.func33,B83⟩
 ·exact⟨_,Tryz.func34,B84⟩
 ·exact⟨_,Tryz.func35,B85⟩
 ·exact⟨_,Tryz.func36,B86⟩
 ·exact⟨_,Tryz.func37,B87⟩
 ·exact⟨_,Tryz.func38,B88⟩
 ·exact⟨_,Tryz.func40,B89⟩
 ·exact⟨_,Tryz.func41,B9a⟩
 ·exact⟨_,Tryz.func42,B9b⟩
 ·exact⟨_,Tryz.func43,B9c⟩
 ·exact⟨_,Tryz.func44,B9d⟩
 ·exact⟨_,Tryz.func45,B9e⟩
 ·exact⟨_,Tryz.func46,B9f⟩
 ·exact⟨_,Tryz.func47,B9g⟩
 ·exact⟨_,Tryz.func48,B9h⟩
 ·exact⟨_,Tryz.func49,B9i⟩
 ·exact⟨_,Tryz.func50,B9j⟩
 ·exact⟨_,Tryz.func51,B9k⟩
 ·exact⟨_,Tryz.func52,B9l⟩
 ·exact⟨_,Tryz.func53,B9m⟩
 ·exact⟨_,Tryz.func54,B9n⟩
 ·exact⟨_,Tryz.func55,B9o⟩
 ·exact⟨_,Tryz.func56,B9p⟩
 ·exact⟨_,Tryz.func57,B9q⟩
 ·exact⟨_,Tryz.func58,B9r⟩
 ·exact⟨_,Tryz.func59,B9s⟩
 ·exact⟨_,Tryz.func60,B9t⟩
 ·exact⟨_,Tryz.func61,B9u⟩
 ·exact⟨_,Tryz.func62,B9v⟩
 ·exact⟨_,Tryz.func63,B9w⟩
 ·exact⟨_,Tryz.func64,B9x⟩
 ·exact⟨_,Tryz.func65,B9y⟩
 ·exact⟨_,Tryz.func66,B9z⟩
 ·exact⟨_,Tryz.func67,B90⟩
 ·exact⟨_,Tryz.func68,B91⟩
 ·exact⟨_,Tryz.func69,B92⟩
 ·exact⟨_,Tryz.func70,B93⟩
 ·exact⟨_,Tryz.func71,B94⟩
 ·exact⟨_,Tryz.func72,B95⟩
 ·exact⟨_,Tryz.func73,B96⟩
 ·exact⟨_,Tryz.func74,B97⟩
 ·exact⟨_,Tryz.func75,B98⟩
 ·exact⟨_,Tryz.func76,B99⟩
 ·exact⟨_,Tryz.func77,Caa⟩
 ·exact⟨_,Tryz.func78,Cab⟩
 ·exact⟨_,Tryz.func79,Cac⟩
 ·exact⟨_,Tryz.func80,Cad⟩
 ·exact⟨_,Tryz.func84,Cae⟩
 ·exact⟨_,Tryz.func88,Caf⟩
 ·exact⟨_,Tryz.func89,Cag⟩
 ·exact⟨_,Tryz.func90,Cah⟩
 ·exact⟨_,Tryz.func105,B3y⟩
 ·exact⟨_,Tryz.func125,B3z⟩
 ·exact⟨_,Tryz.func141,B30⟩
 ·exact⟨_,Tryz.func142,B31⟩
 ·exact⟨_,Tryz.func143,B32⟩
 ·exact⟨_,Tryz.func144,B33⟩
 ·exact⟨_,Tryz.func145,B34⟩
 ·exact⟨_,Tryz.func146,B35⟩
 ·exact⟨_,Tryz.func147,B36⟩
 ·exact⟨_,Tryz.func148,B37⟩
 ·exact⟨_,Tryz.func150,B38⟩
 ·exact⟨_,Tryz.func155,B39⟩
 ·exact⟨_,Tryz.func156,B4a⟩
 ·exact⟨_,Tryz.func159,B4b⟩
 ·exact⟨_,Tryz.func160,B4c⟩
 ·exact⟨_,Tryz.func161,B4d⟩
 ·exact⟨_,Tryz.func162,B4e⟩
 ·exact⟨_,Tryz.func163,B4f⟩
 ·exact⟨_,Tryz.func164,B4g⟩
 ·exact⟨_,Tryz.func165,B4h⟩
 ·exact⟨_,Tryz.func166,B4i⟩
 ·exact⟨_,Tryz.func167,B4j⟩
 ·exact⟨_,Tryz.func168,B4k⟩
 ·exact⟨_,Tryz.func169,B4l⟩
 ·exact⟨_,Tryz.func170,B4m⟩
 ·exact⟨_,Tryz.func171,B4n⟩
 ·exact⟨_,Tryz.func172,B4o⟩
 ·exact⟨_,Tryz.func173,B4p⟩
 ·exact⟨_,Tryz.func174,B4q⟩
 ·exact⟨_,Tryz.func175,B4r⟩
 ·exact⟨_,Tryz.func176,B4s⟩
 ·exact⟨_,Tryz.func177,B4t⟩
 ·exact⟨_,Tryz.func192,B4u⟩
 ·exact⟨_,Tryz.func193,B4v⟩
 ·exact⟨_,Tryz.func197,B4w⟩
 ·exact⟨_,Tryz.func198,B4x⟩
 ·exact⟨_,Tryz.func199,B4y⟩
 ·exact⟨_,Tryz.func200,B4z⟩
 ·exact⟨_,Tryz.func201,B40⟩
 ·exact⟨_,Tryz.func202,B41⟩
 ·exact⟨_,Tryz.func203,B42⟩
 ·exact⟨_,Tryz.func204,B43⟩
 ·exact⟨_,Tryz.func205,B44⟩
 ·exact⟨_,Tryz.func206,B45⟩
 ·exact⟨_,Tryz.func207,B46⟩
 ·exact⟨_,Tryz.func208,B47⟩
 ·exact⟨_,Tryz.func209,B48⟩
 ·exact⟨_,Tryz.func210,B49⟩
 ·exact⟨_,Tryz.func211,B5a⟩
 ·exact⟨_,Tryz.func212,B5b⟩
 ·exact⟨_,Tryz.func213,B5c⟩
 ·exact⟨_,Tryz.func214,B5d⟩
 ·exact⟨_,Tryz.func215,B5e⟩
 ·exact⟨_,Tryz.func216,B5f⟩
 ·exact⟨_,Tryz.func217,B5g⟩
 ·exact⟨_,Tryz.func218,B5h⟩
 ·exact⟨_,Tryz.func219,B5i⟩
 ·exact⟨_,Tryz.func220,B5j⟩
 ·exact⟨_,Tryz.func221,B5k⟩
 ·exact⟨_,Tryz.func222,B5l⟩
 ·exact⟨_,Tryz.func223,B5m⟩
 ·exact⟨_,Tryz.func224,B5n⟩
 ·exact⟨_,Tryz.func225,B5o⟩
 ·exact⟨_,Tryz.func226,B5p⟩
 ·exact⟨_,Tryz.func227,B5q⟩
 ·exact⟨_,Tryz.func228,B5r⟩
 ·exact⟨_,Tryz.func229,B5s⟩
 ·exact⟨_,Tryz.func230,B5t⟩
 ·exact⟨_,Tryz.func231,B5u⟩
 ·exact⟨_,Tryz.func232,B5v⟩
 ·exact⟨_,Tryz.func233,B5w⟩
 ·exact⟨_,Tryz.func234,B5x⟩
 ·exact⟨_,Tryz.func236,B5y⟩
 ·exact⟨_,Tryz.func245,B5z⟩
 ·exact⟨_,Tryz.func252,B50⟩
 ·exact⟨_,Tryz.func253,B51⟩
 ·exact⟨_,Tryz.func254,B52⟩
 ·exact⟨_,Tryz.func255,B53⟩
 ·exact⟨_,Tryz.func256,B54⟩
 ·exact⟨_,Tryz.func257,B55⟩
 ·exact⟨_,Tryz.func258,B56⟩
 ·exact⟨_,Tryz.func259,B57⟩
 ·exact⟨_,Tryz.func260,B58⟩
 ·exact⟨_,Tryz.func261,B59⟩
 ·exact⟨_,Tryz.func262,B6a⟩
theorem Bxd:FnOk Tryz.prog 158:=⟨_,Tryz.func158,by kernel_rfl,by kernel_rfl⟩
theorem Bfs:FnOk Tryz.prog 157:=⟨_,Tryz.func157,by kernel_rfl,by kernel_rfl⟩
theorem Bav {w:World} {O:Gz} {pl:Pl} {m:Nat} {x:D} {us:Array Value} (h:RVs w O pl m [.d x] us): ∃u,us= #[u]∧RD w O x u:=by
 obtain⟨hl,hu⟩:=h
 have h0:=hu 0 (by simp)
 simp only[List.getD_cons_zero] at h0
 refine⟨us.getD 0 undef, ?_,h0.dd⟩
 apply Array.ext
 ·simpa using hl
 ·intro i h1 h2
  have:i=0:=by simpa using h2
  subst this
  simp[Array.getD_eq_getD_getElem?,Cd5 h1]
theorem Bdy {P:Program} {G:Gi} {w:World} {O:Gz} (hG:GR G w O) {name:String} {g t:Nat} (hn:P.globalNamed name=some g) (hg:G g=some [.iface t (.rptr [])]): ∃p,w.var? P name=some #[.iface t p]:=by
 obtain⟨h1,arr,ty,fr,hh,hs⟩:=hG g _ hg
 cases h1 with
 |rptr _ b o F hO hb hc h1c hr=>
  have c:=hc 0 (by simp)
  have r:=hr 0 (by simp)
  simp only[List.getD_cons_zero] at r
  generalize F 0=q at c r
  cases r with
  |iface _ _ u _=>
   refine⟨u, ?_⟩
   unfold World.var?
   rw[hn]
   simp only[Option.bind_some,hh,Cdt]
   simp only[World.cell?,hh] at c
   apply Array.ext
   ·simpa using hs
   ·intro i h1 h2
    have:i=0:=by simpa using h2
    subst this
    rw[Cd5 h1] at c
    simpa using c
theorem Sg {P:Program} {G:Gi} {k:Nat} {args:List V} {H:Hp} {x:Int} {y:D} (hf:FnOk P k)
  (hc: ∀ (w:World) (pl:Pl) (us:Array Value),GR G w (Bl pl H)→RVs w (Bl pl H) pl (Bc H) args us→Calls P k us w fun e w'=> ∃u,e= .returned (.tuple #[.int .i64 x,u])∧RowKit.Below w.heap.size w w'∧∀O,(∀b,w.heap.size≤b→¬O b)→RD w' O y u):Kw P G k args H (.tup [.d (.int .i64 x), .d y],H):=by
 refine⟨hf,fun w pl Bd us hH hG hR=> (hc w pl us hG hR).mono fun e w' he=> ?_⟩
 obtain⟨u,rfl,hB,hx⟩:=he
 obtain⟨m1,m2⟩:=hH.mono_all (w':=w') ⟨hB.os,hB.tape,hB.output,hB.size,fun b hb _=> ⟨hB.block b hb,fun h=>h⟩⟩
 refine⟨_,pl,rfl,⟨m1, .tup _ _ (by simp) fun i hi=> ?_,m2,PlExt.refl _ _,Nat.le_refl _⟩⟩
 match i,hi with
 |0,_=>exact .d _ _ (.int _ _)
 |1,_=>exact .d _ _ (hx _ fun b hb hO=>by have:=hH.owned_lt hO;omega)
theorem Btp {w w':World} {N:Nat} {arr:Array Value} {ty:TypeId} {fr:Nat×Nat} (h1:w.heap.size≤N) (h2:w'.heap[N]? =some (.cells arr ty fr)) (O:Gz) (hO: ∀b,w.heap.size≤b→¬O b):RD w' O (.iface 185 (.rptr [])) (.iface 185 (.pointer (some ⟨N,0,none⟩))):=
 .iface _ _ _ (.rptr [] N 0 (fun _=>undef) (hO N h1) (Array.getElem?_eq_some_iff.1 h2).1 (fun j hj=>by simp at hj) (fun j hj=>by simp at hj) (fun j hj=>by simp at hj))
theorem Bsr:Uu 3=some (Ph .u64 Lib.pow10Tab):=rfl
theorem Bsq:Uu 1=some [.iface 238 (.rptr [])]:=rfl
theorem Bsp:Uu 2=some [.iface 238 (.rptr [])]:=rfl
theorem Bqo (args:List V) (H:Hp) (r:V×Hp) (hr:Bsv args H=some r):Kw Tryz.prog Uu 158 args H r:=by
 unfold Bsv at hr
 split at hr
 ·rename_i H' n
  split at hr
  ·rename_i hn
   simp only[Cdt] at hr
   subst hr
   refine Blt Bxd fun w pl us hG hR=> ?_
   obtain⟨u,rfl,hu⟩:=Bav hR
   cases hu
   refine(Tryz.strconv_Itoa n hn.1 hn.2 w (Bqr (g:=3) hG (by kernel_rfl) Bsr)).mono fun e w' ⟨he,m,os,hw⟩=> ⟨_,he, .str _ _ (by simp),m,os,hw⟩
  ·simp at hr
 ·simp at hr
theorem Bqn (args:List V) (H:Hp) (r:V×Hp) (hr:Brq args H=some r):Kw Tryz.prog Uu 157 args H r:=by
 unfold Brq at hr
 split at hr
 ·rename_i H' s
  split at hr
  ·rename_i hn
   simp only[Cdt] at hr
   subst hr
   unfold Bzn
   split
   ·rename_i v hv
    refine Sg Bfs fun w pl us hG hR=> ?_
    obtain⟨u,rfl,hu⟩:=Bav hR
    cases hu
    rename_i t ht
    subst ht
    have hz:t.size=t.data.toList.length:=by rw[Array.length_toList];rfl
    refine(Tryz.strconv_Atoi_ok t (by omega) v hv w).mono fun e w' ⟨he,hw⟩=> ⟨_,he, ?_,fun O _=> .niface⟩
    rcases hw with rfl| ⟨q,rfl⟩
    ·exact RowKit.Below.refl _ _
    ·exact Lib.bytesWorld_below _ _ _
   ·rename_i hv
    refine Sg Bfs fun w pl us hG hR=> ?_
    obtain⟨u,rfl,hu⟩:=Bav hR
    cases hu
    rename_i t ht
    subst ht
    have hz:t.size=t.data.toList.length:=by rw[Array.length_toList];rfl
    obtain⟨p,hp⟩:=Bdy (P:=Tryz.prog) (name:= "strconv.ErrRange") hG (by kernel_rfl) Bsp
    refine(Tryz.strconv_Atoi_range_var t (by omega) hv _ p w hp).mono fun e w' ⟨N,he,h1,h2,hw⟩=> ⟨_,he,hw,fun O hO=>Btp h1 h2 O hO⟩
   ·rename_i h1 h2
    refine Sg Bfs fun w pl us hG hR=> ?_
    obtain⟨u,rfl,hu⟩:=Bav hR
    cases hu
    rename_i t ht
    subst ht
    have hz:t.size=t.data.toList.length:=by rw[Array.length_toList];rfl
    obtain⟨p,hp⟩:=Bdy (P:=Tryz.prog) (name:= "strconv.ErrSyntax") hG (by kernel_rfl) Bsq
    refine(Tryz.strconv_Atoi_bad_var t (by omega) (fun v h=>h1 v h) (fun h=>h2 h) _ p w hp).mono fun e w' ⟨N,he,h1,h2,hw⟩=> ⟨_,he,hw,fun O hO=>Btp h1 h2 O hO⟩
  ·simp at hr
 ·simp at hr
theorem Bxe:FnOk Tryz.prog 235:=⟨_,Tryz.func235,by kernel_rfl,by kernel_rfl⟩
theorem Bqp (args:List V) (H:Hp) (r:V×Hp) (h:Bob false 6 236 args H=some r):Kw Tryz.prog Uu 235 args H r:= @Bje Tryz.prog Uu false 235 236 6 Bxe Bqm args H r h
theorem Btf: ∀k p,Bte k=some p→∀args H r,p args H=some r→Kw Tryz.prog Uu k args H r:=by
 intro k p hk args H r hr
 unfold Bte at hk
 split at hk
 ·simp only[Cdt] at hk
  subst hk
  exact Bqo args H r hr
 ·simp only[Cdt] at hk
  subst hk
  exact Bqn args H r hr
 ·simp only[Cdt] at hk
  subst hk
  exact Bqp args H r hr
 ·simp at hk
theorem B1i:PrgOk Tryz.prog R:=Bpe (by kernel_rfl) B0k Btf
end Go.Proofs.YtpajcoanfkeibaaGreatDoor.Code
