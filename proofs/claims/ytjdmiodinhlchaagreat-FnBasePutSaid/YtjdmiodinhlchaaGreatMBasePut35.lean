/- Lemmas (several texts in one). -/
import Derived.Test.YtjdmiodinhlchaaGreatMBasePut6
import Derived.Test.YtjdmiodinhlchaaGreatMBasePut34
import Derived.Test.YtjdmiodinhlchaaGreatChecked
import Derived.KernelRfl
namespace Go.Proofs.YtjdmiodinhlchaaGreat.Code
open Go Go.Ev Go.Proofs
theorem ok6:Bo Tryz.prog Tryz.f6 f6=true:=by kernel_rfl
theorem ok9:Bo Tryz.prog Tryz.f9 f9=true:=by kernel_rfl
theorem B5t:Bo Tryz.prog Tryz.f10 f10=true:=by kernel_rfl
theorem B5u:Bo Tryz.prog Tryz.f11 f11=true:=by kernel_rfl
theorem B5v:Bo Tryz.prog Tryz.f15 f15=true:=by kernel_rfl
theorem B5w:Bo Tryz.prog Tryz.f16 f16=true:=by kernel_rfl
theorem B5x:Bo Tryz.prog Tryz.f17 f17=true:=by kernel_rfl
theorem B5y:Bo Tryz.prog Tryz.f18 f18=true:=by kernel_rfl
theorem B5z:Bo Tryz.prog Tryz.f20 f20=true:=by kernel_rfl
theorem B50:Bo Tryz.prog Tryz.f22 f22=true:=by kernel_rfl
theorem B51:Bo Tryz.prog Tryz.f24 f24=true:=by kernel_rfl
theorem B52:Bo Tryz.prog Tryz.f25 f25=true:=by kernel_rfl
theorem B53:Bo Tryz.prog Tryz.f26 f26=true:=by kernel_rfl
theorem B54:Bo Tryz.prog Tryz.f27 f27=true:=by kernel_rfl
theorem B55:Bo Tryz.prog Tryz.f28 f28=true:=by kernel_rfl
theorem B56:Bo Tryz.prog Tryz.f29 f29=true:=by kernel_rfl
theorem B57:Bo Tryz.prog Tryz.f30 f30=true:=by kernel_rfl
theorem B58:Bo Tryz.prog Tryz.f31 f31=true:=by kernel_rfl
theorem B59:Bo Tryz.prog Tryz.f32 f32=true:=by kernel_rfl
theorem B6a:Bo Tryz.prog Tryz.f33 f33=true:=by kernel_rfl
theorem B6b:Bo Tryz.prog Tryz.f34 f34=true:=by kernel_rfl
theorem B6c:Bo Tryz.prog Tryz.f35 f35=true:=by kernel_rfl
theorem B6d:Bo Tryz.prog Tryz.f36 f36=true:=by kernel_rfl
theorem B6e:Bo Tryz.prog Tryz.f37 f37=true:=by kernel_rfl
theorem B6f:Bo Tryz.prog Tryz.f38 f38=true:=by kernel_rfl
theorem B6g:Bo Tryz.prog Tryz.f39 f39=true:=by kernel_rfl
theorem B6h:Bo Tryz.prog Tryz.f40 f40=true:=by kernel_rfl
theorem B6i:Bo Tryz.prog Tryz.f41 f41=true:=by kernel_rfl
theorem B6j:Bo Tryz.prog Tryz.f43 f43=true:=by kernel_rfl
theorem B6k:Bo Tryz.prog Tryz.f44 f44=true:=by kernel_rfl
theorem B6l:Bo Tryz.prog Tryz.f45 f45=true:=by kernel_rfl
theorem B6m:Bo Tryz.prog Tryz.f46 f46=true:=by kernel_rfl
theorem B6n:Bo Tryz.prog Tryz.f47 f47=true:=by kernel_rfl
theorem B6o:Bo Tryz.prog Tryz.f49 f49=true:=by kernel_rfl
theorem B6p:Bo Tryz.prog Tryz.f50 f50=true:=by kernel_rfl
theorem B6q:Bo Tryz.prog Tryz.f51 f51=true:=by kernel_rfl
theorem B6r:Bo Tryz.prog Tryz.f52 f52=true:=by kernel_rfl
theorem B6s:Bo Tryz.prog Tryz.f53 f53=true:=by kernel_rfl
theorem B6t:Bo Tryz.prog Tryz.f54 f54=true:=by kernel_rfl
theorem B6u:Bo Tryz.prog Tryz.f55 f55=true:=by kernel_rfl
theorem B6v:Bo Tryz.prog Tryz.f56 f56=true:=by kernel_rfl
theorem B6w:Bo Tryz.prog Tryz.f57 f57=true:=by kernel_rfl
theorem B6x:Bo Tryz.prog Tryz.f58 f58=true:=by kernel_rfl
theorem B6y:Bo Tryz.prog Tryz.f59 f59=true:=by kernel_rfl
theorem B6z:Bo Tryz.prog Tryz.f60 f60=true:=by kernel_rfl
theorem B60:Bo Tryz.prog Tryz.f61 f61=true:=by kernel_rfl
theorem B61:Bo Tryz.prog Tryz.f62 f62=true:=by kernel_rfl
theorem B62:Bo Tryz.prog Tryz.f63 f63=true:=by kernel_rfl
theorem B63:Bo Tryz.prog Tryz.f64 f64=true:=by kernel_rfl
theorem B64:Bo Tryz.prog Tryz.f65 f65=true:=by kernel_rfl
theorem B65:Bo Tryz.prog Tryz.f66 f66=true:=by kernel_rfl
theorem B66:Bo Tryz.prog Tryz.f67 f67=true:=by kernel_rfl
theorem B67:Bo Tryz.prog Tryz.f68 f68=true:=by kernel_rfl
theorem B68:Bo Tryz.prog Tryz.f69 f69=true:=by kernel_rfl
theorem B69:Bo Tryz.prog Tryz.f70 f70=true:=by kernel_rfl
theorem B7a:Bo Tryz.prog Tryz.f71 f71=true:=by kernel_rfl
theorem B7e:Bo Tryz.prog Tryz.f74 f74=true:=by kernel_rfl
theorem B7f:Bo Tryz.prog Tryz.f75 f75=true:=by kernel_rfl
theorem B7g:Bo Tryz.prog Tryz.f76 f76=true:=by kernel_rfl
theorem B7h:Bo Tryz.prog Tryz.f77 f77=true:=by kernel_rfl
theorem B7i:Bo Tryz.prog Tryz.f78 f78=true:=by kernel_rfl
theorem B7j:Bo Tryz.prog Tryz.f79 f79=true:=by kernel_rfl
theorem B7k:Bo Tryz.prog Tryz.f80 f80=true:=by kernel_rfl
theorem B7l:Bo Tryz.prog Tryz.f81 f81=true:=by kernel_rfl
theorem B7m:Bo Tryz.prog Tryz.f82 f82=true:=by kernel_rfl
theorem B7n:Bo Tryz.prog Tryz.f83 f83=true:=by kernel_rfl
theorem B7o:Bo Tryz.prog Tryz.f84 f84=true:=by kernel_rfl
theorem B7p:Bo Tryz.prog Tryz.f85 f85=true:=by kernel_rfl
theorem B7q:Bo Tryz.prog Tryz.f86 f86=true:=by kernel_rfl
theorem B7r:Bo Tryz.prog Tryz.f87 f87=true:=by kernel_rfl
theorem B7s:Bo Tryz.prog Tryz.f88 f88=true:=by kernel_rfl
theorem B7t:Bo Tryz.prog Tryz.f89 f89=true:=by kernel_rfl
theorem B1s:Bo Tryz.prog Tryz.f100 f100=true:=by kernel_rfl
theorem B1t:Bo Tryz.prog Tryz.f101 f101=true:=by kernel_rfl
theorem B1u:Bo Tryz.prog Tryz.f102 f102=true:=by kernel_rfl
theorem B1v:Bo Tryz.prog Tryz.f103 f103=true:=by kernel_rfl
theorem B1w:Bo Tryz.prog Tryz.f104 f104=true:=by kernel_rfl
theorem B1x:Bo Tryz.prog Tryz.f105 f105=true:=by kernel_rfl
theorem B1y:Bo Tryz.prog Tryz.f106 f106=true:=by kernel_rfl
theorem B1z:Bo Tryz.prog Tryz.f107 f107=true:=by kernel_rfl
theorem B12:Bo Tryz.prog Tryz.f108 f108=true:=by kernel_rfl
theorem B13:Bo Tryz.prog Tryz.f109 f109=true:=by kernel_rfl
theorem B14:Bo Tryz.prog Tryz.f110 f110=true:=by kernel_rfl
theorem B15:Bo Tryz.prog Tryz.f111 f111=true:=by kernel_rfl
theorem B16:Bo Tryz.prog Tryz.f112 f112=true:=by kernel_rfl
theorem B17:Bo Tryz.prog Tryz.f113 f113=true:=by kernel_rfl
theorem B18:Bo Tryz.prog Tryz.f114 f114=true:=by kernel_rfl
theorem B19:Bo Tryz.prog Tryz.f115 f115=true:=by kernel_rfl
theorem B2a:Bo Tryz.prog Tryz.f116 f116=true:=by kernel_rfl
theorem B2b:Bo Tryz.prog Tryz.f117 f117=true:=by kernel_rfl
theorem B2c:Bo Tryz.prog Tryz.f118 f118=true:=by kernel_rfl
theorem B2d:Bo Tryz.prog Tryz.f119 f119=true:=by kernel_rfl
theorem B2e:Bo Tryz.prog Tryz.f125 f125=true:=by kernel_rfl
theorem B2f:Bo Tryz.prog Tryz.f126 f126=true:=by kernel_rfl
theorem B2g:Bo Tryz.prog Tryz.f127 f127=true:=by kernel_rfl
theorem B2h:Bo Tryz.prog Tryz.f128 f128=true:=by kernel_rfl
theorem B2i:Bo Tryz.prog Tryz.f129 f129=true:=by kernel_rfl
theorem B2j:Bo Tryz.prog Tryz.f130 f130=true:=by kernel_rfl
theorem B2k:Bo Tryz.prog Tryz.f131 f131=true:=by kernel_rfl
theorem B2l:Bo Tryz.prog Tryz.f132 f132=true:=by kernel_rfl
theorem B2m:Bo Tryz.prog Tryz.f133 f133=true:=by kernel_rfl
theorem B2n:Bo Tryz.prog Tryz.f134 f134=true:=by kernel_rfl
theorem B2o:Bo Tryz.prog Tryz.f135 f135=true:=by kernel_rfl
theorem B2p:Bo Tryz.prog Tryz.f136 f136=true:=by kernel_rfl
theorem B2q:Bo Tryz.prog Tryz.f137 f137=true:=by kernel_rfl
theorem B2r:Bo Tryz.prog Tryz.f138 f138=true:=by kernel_rfl
theorem B2s:Bo Tryz.prog Tryz.f139 f139=true:=by kernel_rfl
theorem B2t:Bo Tryz.prog Tryz.f140 f140=true:=by kernel_rfl
theorem B2u:Bo Tryz.prog Tryz.f141 f141=true:=by kernel_rfl
theorem B2v:Bo Tryz.prog Tryz.f142 f142=true:=by kernel_rfl
theorem B2w:Bo Tryz.prog Tryz.f143 f143=true:=by kernel_rfl
theorem B2x:Bo Tryz.prog Tryz.f144 f144=true:=by kernel_rfl
theorem B2y:Bo Tryz.prog Tryz.f145 f145=true:=by kernel_rfl
theorem B2z:Bo Tryz.prog Tryz.f146 f146=true:=by kernel_rfl
theorem B20:Bo Tryz.prog Tryz.f147 f147=true:=by kernel_rfl
theorem B21:Bo Tryz.prog Tryz.f148 f148=true:=by kernel_rfl
theorem B22:Bo Tryz.prog Tryz.f149 f149=true:=by kernel_rfl
theorem B23:Bo Tryz.prog Tryz.f150 f150=true:=by kernel_rfl
theorem B24:Bo Tryz.prog Tryz.f151 f151=true:=by kernel_rfl
theorem B25:Bo Tryz.prog Tryz.f152 f152=true:=by kernel_rfl
theorem B26:Bo Tryz.prog Tryz.f153 f153=true:=by kernel_rfl
theorem B27:Bo Tryz.prog Tryz.f154 f154=true:=by kernel_rfl
theorem B28:Bo Tryz.prog Tryz.f155 f155=true:=by kernel_rfl
theorem B29:Bo Tryz.prog Tryz.f156 f156=true:=by kernel_rfl
theorem B3a:Bo Tryz.prog Tryz.f157 f157=true:=by kernel_rfl
theorem B3b:Bo Tryz.prog Tryz.f159 f159=true:=by kernel_rfl
theorem B3c:Bo Tryz.prog Tryz.f160 f160=true:=by kernel_rfl
theorem B3d:Bo Tryz.prog Tryz.f161 f161=true:=by kernel_rfl
theorem B3e:Bo Tryz.prog Tryz.f162 f162=true:=by kernel_rfl
theorem B3f:Bo Tryz.prog Tryz.f163 f163=true:=by kernel_rfl
theorem B3g:Bo Tryz.prog Tryz.f164 f164=true:=by kernel_rfl
theorem Byo: ∀p∈tab,∃fn,Tryz.prog.funcs[p.1]? =some fn∧Bo Tryz.prog fn p.2=true:=by
 intro p hp
 simp only[tab,List.mem_cons,List.not_mem_nil,or_false] at hp
 rcases hp with rfl|rfl|rfl|rfl|rfl|rfl|rfl|rfl|rfl|rfl|rfl|rfl|rfl|rfl|rfl|rfl|rfl|rfl|rfl|rfl|rfl|rfl|rfl|rfl|rfl|rfl|rfl|rfl|rfl|rfl|rfl|rfl|rfl|rfl|rfl|rfl|rfl|rfl|rfl|rfl|rfl|rfl|rfl|rfl|rfl|rfl|rfl|rfl|rfl|rfl|rfl|rfl|rfl|rfl|rfl|rfl|rfl|rfl|rfl|rfl|rfl|rfl|rfl|rfl|rfl|rfl|rfl|rfl|rfl|rfl|rfl|rfl|rfl|rfl|rfl|rfl|rfl|rfl|rfl|rfl|rfl|rfl|rfl|rfl|rfl|rfl|rfl|rfl|rfl|rfl|rfl|rfl|rfl|rfl|rfl|rfl|rfl|rfl|rfl|rfl|rfl|rfl|rfl|rfl|rfl|rfl|rfl|rfl|rfl|rfl|rfl|rfl|rfl|rfl|rfl|rfl|rfl|rfl|rfl|rfl|rfl|rfl|rfl|rfl|rfl|rfl|rfl|rfl|rfl|rfl|rfl
 ·exact⟨_,Tryz.func6,ok6⟩
 ·exact⟨_,Tryz.func9,ok9⟩
 ·exact⟨_,Tryz.func10,B5t⟩
 ·exact⟨_,Tryz.func11,B5u⟩
 ·exact⟨_,Tryz.func15,B5v⟩
 ·exact⟨_,Tryz.func16,B5w⟩
 ·exact⟨_,Tryz.func17,B5x⟩
 ·exact⟨_,Tryz.func18,B5y⟩
 ·exact⟨_,Tryz.func20,B5z⟩
 ·exact⟨_,Tryz.func22,B50⟩
 ·exact⟨_,Tryz.func24,B51⟩
 ·exact⟨_,Tryz.func25,B52⟩
 ·exact⟨_,Tryz.func26,B53⟩
 ·exact⟨_,Tryz.func27,B54⟩
 ·exact⟨_,Tryz.func28,B55⟩
 ·exact⟨_,Tryz.func29,B56⟩
 ·exact⟨_,Tryz.func30,B57⟩
 ·exact⟨_,Tryz.func31,B58⟩
 ·exact⟨_,Tryz.func32,B59⟩
 ·exact⟨_,Tryz.func33,B6a⟩
 ·exact⟨_,Tryz.func34,B6b⟩
 ·exact⟨_,Tryz.func35,B6c⟩
 ·exact⟨_,Tryz.func36,B6d⟩
 ·exact⟨_,Tryz.func37,B6e⟩
 ·exact⟨_,Tryz.func38,B6f⟩
 ·exact⟨_,Tryz.func39,B6g⟩
 ·exact⟨_,Tryz.func40,B6h⟩
 ·exact⟨_,Tryz.func41,B6i⟩
 ·exact⟨_,Tryz.func43,B6j⟩
 ·exact⟨_,Tryz.func44,B6k⟩
 ·exact⟨_,Tryz.func45,B6l⟩
 ·exact⟨_,Tryz.func46,B6m⟩
 ·exact⟨_,Tryz.func47,B6n⟩
 ·exact⟨_,Tryz.func49,B6o⟩
 ·exact⟨_,Tryz.func50,B6p⟩
 ·exact⟨_,Tryz.func51,B6q⟩
 ·exact⟨_,Tryz.func52,B6r⟩
 ·exact⟨_,Tryz.func53,B6s⟩
 ·exact⟨_,Tryz.func54,B6t⟩
 ·exact⟨_,Tryz.func55,B6u⟩
 ·exact⟨_,Tryz.func56,B6v⟩
 ·exact⟨_,Tryz.func57,B6w⟩
 ·exact⟨_,Tryz.func58,B6x⟩
 ·exact⟨_,Tryz.func59,B6y⟩
 ·exact⟨_,Tryz.func60,B6z⟩
 ·exact⟨_,Tryz.func61,B60⟩
 ·exact⟨_,Tryz.func62,B61⟩
 ·exact⟨_,Tryz.func63,B62⟩
 ·exact⟨_,Tryz.func64,B63⟩
 ·exact⟨_,Tryz.func65,B64⟩
 ·exact⟨_,Tryz.func66,B65⟩
 ·exact⟨_,Tryz.func67,B66⟩
 ·exact⟨_,Tryz.func68,B67⟩
 ·exact⟨_,Tryz.func69,B68⟩
 ·exact⟨_,Tryz.func70,B69⟩
 ·exact⟨_,Tryz.func71,B7a⟩
 ·exact⟨_,Tryz.func74,B7e⟩
 ·exact⟨_,Tryz.func75,B7f⟩
 ·exact⟨_,Tryz.func76,B7g⟩
 ·exact⟨_,Tryz.func77,B7h⟩
 ·exact⟨_,Tryz.func78,B7i⟩
 ·exact⟨_,Tryz.func79,B7j⟩
 ·exact⟨_,Tryz.func80,B7k⟩
 ·exact⟨_,Tryz.func81,B7l⟩
 ·exact⟨_,Tryz.func82,B7m⟩
 ·exact⟨_,Tryz.func83,B7n⟩
 ·exact⟨_,Tryz.func84,B7o⟩
 ·exact⟨_,Tryz.func85,B7p⟩
 ·exact⟨_,Tryz.func86,B7q⟩
 ·exact⟨_,Tryz.func87,B7r⟩
 ·exact⟨_,Tryz.func88,B7s⟩
 ·exact⟨_,Tryz.func89,B7t⟩
 ·exact⟨_,Tryz.func100,B1s⟩
 ·exact⟨_,Tryz.func101,B1t⟩
 ·exact⟨_,Tryz.func102,B1u⟩
 ·exact⟨_,Tryz.func103,B1v⟩
 ·exact⟨_,Tryz.func104,B1w⟩
 ·exact⟨_,Tryz.func105,B1x⟩
 ·exact⟨_,Tryz.func106,B1y⟩
 ·exact⟨_,Tryz.func107,B1z⟩
 ·exact⟨_,Tryz.func108,B12⟩
 ·exact⟨_,Tryz.func109,B13⟩
 ·exact⟨_,Tryz.func110,B14⟩
 ·exact⟨_,Tryz.func111,B15⟩
 ·exact⟨_,Tryz.func112,B16⟩
 ·exact⟨_,Tryz.func113,B17⟩
 ·exact⟨_,Tryz.func114,B18⟩
 ·exact⟨_,Tryz.func115,B19⟩
 ·exact⟨_,Tryz.func116,B2a⟩
 ·exact⟨_,Tryz.func117,B2b⟩
 ·exact⟨_,Tryz.func118,B2c⟩
 ·exact⟨_,Tryz.func119,B2d⟩
 ·exact⟨_,Tryz.func125,B2e⟩
 ·exact⟨_,Tryz.func126,B2f⟩
 ·exact⟨_,Tryz.func127,B2g⟩
 ·exact⟨_,Tryz.func128,B2h⟩
 ·exact⟨_,Tryz.func129,B2i⟩
 ·exact⟨_,Tryz.func130,B2j⟩
 ·exact⟨_,Tryz.func131,B2k⟩
 ·exact⟨_,Tryz.func132,B2l⟩
 ·exact⟨_,Tryz.func133,B2m⟩
 ·exact⟨_,Tryz.func134,B2n⟩
 ·exact⟨_,Tryz.func135,B2o⟩
 ·exact⟨_,Tryz.func136,B2p⟩
 ·exact⟨_,Tryz.func137,B2q⟩
 ·exact⟨_,Tryz.func138,B2r⟩
 ·exact⟨_,Tryz.func139,B2s⟩
 ·exact⟨_,Tryz.func140,B2t⟩
 ·exact⟨_,Tryz.func141,B2u⟩
 ·exact⟨_,Tryz.func142,B2v⟩
 ·exact⟨_,Tryz.func143,B2w⟩
 ·exact⟨_,Tryz.func144,B2x⟩
 ·exact⟨_,Tryz.func145,B2y⟩
 ·exact⟨_,Tryz.func146,B2z⟩
 ·exact⟨_,Tryz.func147,B20⟩
 ·exact⟨_,Tryz.func148,B21⟩
 ·exact⟨_,Tryz.func149,B22⟩
 ·exact⟨_,Tryz.func150,B23⟩
 ·exact⟨_,Tryz.func151,B24⟩
 ·exact⟨_,Tryz.func152,B25⟩
 ·exact⟨_,Tryz.func153,B26⟩
 ·exact⟨_,Tryz.func154,B27⟩
 ·exact⟨_,Tryz.func155,B28⟩
 ·exact⟨_,Tryz.func156,B29⟩
 ·exact⟨_,Tryz.func157,B3a⟩
 ·exact⟨_,Tryz.func159,B3b⟩
 ·exact⟨_,Tryz.func160,B3c⟩
 ·exact⟨_,Tryz.func161,B3d⟩
 ·exact⟨_,Tryz.func162,B3e⟩
 ·exact⟨_,Tryz.func163,B3f⟩
 ·exact⟨_,Tryz.func164,B3g⟩
theorem Bzb:FnOk Tryz.prog 48:=⟨_,Tryz.func48,by kernel_rfl,by kernel_rfl⟩
theorem Bsw (args:List V) (H:Hp) (r:V×Hp) (h:Bd8 false 6 49 args H=some r):Nb Tryz.prog Bmh 48 args H r:= @Bh4 Tryz.prog Bmh false 48 49 6 Bzb Bsu args H r h
theorem Bry: ∀k p,Brx k=some p→∀args H r,p args H=some r→Nb Tryz.prog Bmh k args H r:=by
 intro k p hk args H r hr
 unfold Brx at hk
 split at hk
 ·simp only[Option.some.injEq] at hk
  subst hk
  exact Bsw args H r hr
 ·simp at hk
theorem Bzs:PrgOk Tryz.prog R:=Boa (by kernel_rfl) Byo Bry
end Go.Proofs.YtjdmiodinhlchaaGreat.Code
