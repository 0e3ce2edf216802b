/- Lemmas (several texts in one). -/
import Derived.Test.YtjdmiodinhlchaaGreatMBaseDrop6
import Derived.Test.YtjdmiodinhlchaaGreatMBaseDrop31
import Derived.Test.YtjdmiodinhlchaaGreatChecked
import Derived.KernelRfl
namespace Go.Proofs.YtjdmiodinhlchaaGreat.Code
open Go Go.Ev Go.Proofs
theorem ok5:Bl Tryz.prog Tryz.f5 f5=true:=by kernel_rfl
theorem ok9:Bl Tryz.prog Tryz.f9 f9=true:=by kernel_rfl
theorem By4:Bl Tryz.prog Tryz.f10 f10=true:=by kernel_rfl
theorem By5:Bl Tryz.prog Tryz.f11 f11=true:=by kernel_rfl
theorem By6:Bl Tryz.prog Tryz.f15 f15=true:=by kernel_rfl
theorem By7:Bl Tryz.prog Tryz.f16 f16=true:=by kernel_rfl
theorem By8:Bl Tryz.prog Tryz.f17 f17=true:=by kernel_rfl
theorem By9:Bl Tryz.prog Tryz.f18 f18=true:=by kernel_rfl
theorem Bza:Bl Tryz.prog Tryz.f19 f19=true:=by kernel_rfl
theorem Bzb:Bl Tryz.prog Tryz.f20 f20=true:=by kernel_rfl
theorem Bzc:Bl Tryz.prog Tryz.f21 f21=true:=by kernel_rfl
theorem Bzd:Bl Tryz.prog Tryz.f22 f22=true:=by kernel_rfl
theorem Bze:Bl Tryz.prog Tryz.f23 f23=true:=by kernel_rfl
theorem Bzf:Bl Tryz.prog Tryz.f24 f24=true:=by kernel_rfl
theorem Bzg:Bl Tryz.prog Tryz.f27 f27=true:=by kernel_rfl
theorem Bzh:Bl Tryz.prog Tryz.f28 f28=true:=by kernel_rfl
theorem Bzi:Bl Tryz.prog Tryz.f29 f29=true:=by kernel_rfl
theorem Bzj:Bl Tryz.prog Tryz.f30 f30=true:=by kernel_rfl
theorem Bzk:Bl Tryz.prog Tryz.f31 f31=true:=by kernel_rfl
theorem Bzl:Bl Tryz.prog Tryz.f32 f32=true:=by kernel_rfl
theorem Bzm:Bl Tryz.prog Tryz.f33 f33=true:=by kernel_rfl
theorem Bzn:Bl Tryz.prog Tryz.f34 f34=true:=by kernel_rfl
theorem Bzo:Bl Tryz.prog Tryz.f35 f35=true:=by kernel_rfl
theorem Bzp:Bl Tryz.prog Tryz.f36 f36=true:=by kernel_rfl
theorem Bzq:Bl Tryz.prog Tryz.f37 f37=true:=by kernel_rfl
theorem Bzr:Bl Tryz.prog Tryz.f38 f38=true:=by kernel_rfl
theorem Bzs:Bl Tryz.prog Tryz.f39 f39=true:=by kernel_rfl
theorem Bzt:Bl Tryz.prog Tryz.f40 f40=true:=by kernel_rfl
theorem Bzu:Bl Tryz.prog Tryz.f41 f41=true:=by kernel_rfl
theorem Bzv:Bl Tryz.prog Tryz.f42 f42=true:=by kernel_rfl
theorem Bzw:Bl Tryz.prog Tryz.f43 f43=true:=by kernel_rfl
theorem Bzx:Bl Tryz.prog Tryz.f44 f44=true:=by kernel_rfl
theorem Bzy:Bl Tryz.prog Tryz.f45 f45=true:=by kernel_rfl
theorem Bzz:Bl Tryz.prog Tryz.f46 f46=true:=by kernel_rfl
theorem Bz0:Bl Tryz.prog Tryz.f47 f47=true:=by kernel_rfl
theorem Bz1:Bl Tryz.prog Tryz.f49 f49=true:=by kernel_rfl
theorem Bz2:Bl Tryz.prog Tryz.f50 f50=true:=by kernel_rfl
theorem Bz3:Bl Tryz.prog Tryz.f52 f52=true:=by kernel_rfl
theorem Bz4:Bl Tryz.prog Tryz.f53 f53=true:=by kernel_rfl
theorem Bz5:Bl Tryz.prog Tryz.f54 f54=true:=by kernel_rfl
theorem Bz6:Bl Tryz.prog Tryz.f55 f55=true:=by kernel_rfl
theorem Bz7:Bl Tryz.prog Tryz.f56 f56=true:=by kernel_rfl
theorem Bz8:Bl Tryz.prog Tryz.f57 f57=true:=by kernel_rfl
theorem Bz9:Bl Tryz.prog Tryz.f58 f58=true:=by kernel_rfl
theorem B0a:Bl Tryz.prog Tryz.f59 f59=true:=by kernel_rfl
theorem B0b:Bl Tryz.prog Tryz.f60 f60=true:=by kernel_rfl
theorem B0c:Bl Tryz.prog Tryz.f61 f61=true:=by kernel_rfl
theorem B0d:Bl Tryz.prog Tryz.f62 f62=true:=by kernel_rfl
theorem B0e:Bl Tryz.prog Tryz.f63 f63=true:=by kernel_rfl
theorem B0f:Bl Tryz.prog Tryz.f64 f64=true:=by kernel_rfl
theorem B0g:Bl Tryz.prog Tryz.f65 f65=true:=by kernel_rfl
theorem B0h:Bl Tryz.prog Tryz.f66 f66=true:=by kernel_rfl
theorem B0i:Bl Tryz.prog Tryz.f67 f67=true:=by kernel_rfl
theorem B0j:Bl Tryz.prog Tryz.f68 f68=true:=by kernel_rfl
theorem B0k:Bl Tryz.prog Tryz.f69 f69=true:=by kernel_rfl
theorem B0l:Bl Tryz.prog Tryz.f70 f70=true:=by kernel_rfl
theorem B0m:Bl Tryz.prog Tryz.f71 f71=true:=by kernel_rfl
theorem B0n:Bl Tryz.prog Tryz.f74 f74=true:=by kernel_rfl
theorem B0o:Bl Tryz.prog Tryz.f75 f75=true:=by kernel_rfl
theorem B0p:Bl Tryz.prog Tryz.f80 f80=true:=by kernel_rfl
theorem B0q:Bl Tryz.prog Tryz.f81 f81=true:=by kernel_rfl
theorem B0r:Bl Tryz.prog Tryz.f82 f82=true:=by kernel_rfl
theorem B0s:Bl Tryz.prog Tryz.f83 f83=true:=by kernel_rfl
theorem B0t:Bl Tryz.prog Tryz.f84 f84=true:=by kernel_rfl
theorem B0u:Bl Tryz.prog Tryz.f85 f85=true:=by kernel_rfl
theorem B0v:Bl Tryz.prog Tryz.f86 f86=true:=by kernel_rfl
theorem B0w:Bl Tryz.prog Tryz.f87 f87=true:=by kernel_rfl
theorem B0x:Bl Tryz.prog Tryz.f88 f88=true:=by kernel_rfl
theorem B0y:Bl Tryz.prog Tryz.f89 f89=true:=by kernel_rfl
theorem Bvm:Bl Tryz.prog Tryz.f100 f100=true:=by kernel_rfl
theorem Bvn:Bl Tryz.prog Tryz.f101 f101=true:=by kernel_rfl
theorem Bvo:Bl Tryz.prog Tryz.f105 f105=true:=by kernel_rfl
theorem Bvp:Bl Tryz.prog Tryz.f106 f106=true:=by kernel_rfl
theorem Bvq:Bl Tryz.prog Tryz.f107 f107=true:=by kernel_rfl
theorem Bvr:Bl Tryz.prog Tryz.f108 f108=true:=by kernel_rfl
theorem Bvs:Bl Tryz.prog Tryz.f109 f109=true:=by kernel_rfl
theorem Bvt:Bl Tryz.prog Tryz.f110 f110=true:=by kernel_rfl
theorem Bvu:Bl Tryz.prog Tryz.f111 f111=true:=by kernel_rfl
theorem Bvv:Bl Tryz.prog Tryz.f112 f112=true:=by kernel_rfl
theorem Bvw:Bl Tryz.prog Tryz.f113 f113=true:=by kernel_rfl
theorem Bvx:Bl Tryz.prog Tryz.f114 f114=true:=by kernel_rfl
theorem Bvy:Bl Tryz.prog Tryz.f115 f115=true:=by kernel_rfl
theorem Bvz:Bl Tryz.prog Tryz.f116 f116=true:=by kernel_rfl
theorem Bv0:Bl Tryz.prog Tryz.f117 f117=true:=by kernel_rfl
theorem Bv1:Bl Tryz.prog Tryz.f118 f118=true:=by kernel_rfl
theorem Bv2:Bl Tryz.prog Tryz.f119 f119=true:=by kernel_rfl
theorem Bv3:Bl Tryz.prog Tryz.f125 f125=true:=by kernel_rfl
theorem Bv4:Bl Tryz.prog Tryz.f126 f126=true:=by kernel_rfl
theorem Bv5:Bl Tryz.prog Tryz.f127 f127=true:=by kernel_rfl
theorem Bv6:Bl Tryz.prog Tryz.f128 f128=true:=by kernel_rfl
theorem Bv7:Bl Tryz.prog Tryz.f129 f129=true:=by kernel_rfl
theorem Bv8:Bl Tryz.prog Tryz.f130 f130=true:=by kernel_rfl
theorem Bv9:Bl Tryz.prog Tryz.f131 f131=true:=by kernel_rfl
theorem Bwa:Bl Tryz.prog Tryz.f132 f132=true:=by kernel_rfl
theorem Bwb:Bl Tryz.prog Tryz.f133 f133=true:=by kernel_rfl
theorem Bwc:Bl Tryz.prog Tryz.f134 f134=true:=by kernel_rfl
theorem Bwd:Bl Tryz.prog Tryz.f135 f135=true:=by kernel_rfl
theorem Bwe:Bl Tryz.prog Tryz.f136 f136=true:=by kernel_rfl
theorem Bwf:Bl Tryz.prog Tryz.f137 f137=true:=by kernel_rfl
theorem Bwg:Bl Tryz.prog Tryz.f138 f138=true:=by kernel_rfl
theorem Bwh:Bl Tryz.prog Tryz.f139 f139=true:=by kernel_rfl
theorem Bwi:Bl Tryz.prog Tryz.f140 f140=true:=by kernel_rfl
theorem Bwj:Bl Tryz.prog Tryz.f141 f141=true:=by kernel_rfl
theorem Bwk:Bl Tryz.prog Tryz.f142 f142=true:=by kernel_rfl
theorem Bwl:Bl Tryz.prog Tryz.f143 f143=true:=by kernel_rfl
theorem Bwm:Bl Tryz.prog Tryz.f144 f144=true:=by kernel_rfl
theorem Bwn:Bl Tryz.prog Tryz.f145 f145=true:=by kernel_rfl
theorem Bwo:Bl Tryz.prog Tryz.f146 f146=true:=by kernel_rfl
theorem Bwp:Bl Tryz.prog Tryz.f147 f147=true:=by kernel_rfl
theorem Bwq:Bl Tryz.prog Tryz.f148 f148=true:=by kernel_rfl
theorem Bwr:Bl Tryz.prog Tryz.f149 f149=true:=by kernel_rfl
theorem Bws:Bl Tryz.prog Tryz.f150 f150=true:=by kernel_rfl
theorem Bwt:Bl Tryz.prog Tryz.f151 f151=true:=by kernel_rfl
theorem Bwu:Bl Tryz.prog Tryz.f152 f152=true:=by kernel_rfl
theorem Bwv:Bl Tryz.prog Tryz.f153 f153=true:=by kernel_rfl
theorem Bww:Bl Tryz.prog Tryz.f154 f154=true:=by kernel_rfl
theorem Bwx:Bl Tryz.prog Tryz.f155 f155=true:=by kernel_rfl
theorem Bwy:Bl Tryz.prog Tryz.f156 f156=true:=by kernel_rfl
theorem Bwz:Bl Tryz.prog Tryz.f157 f157=true:=by kernel_rfl
theorem Bw0:Bl Tryz.prog Tryz.f159 f159=true:=by kernel_rfl
theorem Bw1:Bl Tryz.prog Tryz.f160 f160=true:=by kernel_rfl
theorem Bw2:Bl Tryz.prog Tryz.f161 f161=true:=by kernel_rfl
theorem Bw3:Bl Tryz.prog Tryz.f162 f162=true:=by kernel_rfl
theorem Bw4:Bl Tryz.prog Tryz.f163 f163=true:=by kernel_rfl
theorem Bw5:Bl Tryz.prog Tryz.f164 f164=true:=by kernel_rfl
theorem Bso: ∀p∈tab,∃fn,Tryz.prog.funcs[p.1]? =some fn∧Bl Tryz.prog fn p.2=true:=by
 intro p hp
 simp only[tab,List.mem_cons,List.not_mem_nil,or_false] at hp
 rcases hp with rfl|rfl|rfl|rfl|rfl|rfl|rfl|rfl|rfl|rfl|rfl|rfl|rfl|rfl|rfl|rfl|rfl|rfl|rfl|rfl|rfl|rfl|rfl|rfl|rfl|rfl|rfl|rfl|rfl|rfl|rfl|rfl|rfl|rfl|rfl|rfl|rfl|rfl|rfl|rfl|rfl|rfl|rfl|rfl|rfl|rfl|rfl|rfl|rfl|rfl|rfl|rfl|rfl|rfl|rfl|rfl|rfl|rfl|rfl|rfl|rfl|rfl|rfl|rfl|rfl|rfl|rfl|rfl|rfl|rfl|rfl|rfl|rfl|rfl|rfl|rfl|rfl|rfl|rfl|rfl|rfl|rfl|rfl|rfl|rfl|rfl|rfl|rfl|rfl|rfl|rfl|rfl|rfl|rfl|rfl|rfl|rfl|rfl|rfl|rfl|rfl|rfl|rfl|rfl|rfl|rfl|rfl|rfl|rfl|rfl|rfl|rfl|rfl|rfl|rfl|rfl|rfl|rfl|rfl|rfl|rfl|rfl|rfl|rfl|rfl
 ·exact⟨_,Tryz.func5,ok5⟩
 ·exact⟨_,Tryz.func9,ok9⟩
 ·exact⟨_,Tryz.func10,By4⟩
 ·exact⟨_,Tryz.func11,By5⟩
 ·exact⟨_,Tryz.func15,By6⟩
 ·exact⟨_,Tryz.func16,By7⟩
 ·exact⟨_,Tryz.func17,By8⟩
 ·exact⟨_,Tryz.func18,By9⟩
 ·exact⟨_,Tryz.func19,Bza⟩
 ·exact⟨_,Tryz.func20,Bzb⟩
 ·exact⟨_,Tryz.func21,Bzc⟩
 ·exact⟨_,Tryz.func22,Bzd⟩
 ·exact⟨_,Tryz.func23,Bze⟩
 ·exact⟨_,Tryz.func24,Bzf⟩
 ·exact⟨_,Tryz.func27,Bzg⟩
 ·exact⟨_,Tryz.func28,Bzh⟩
 ·exact⟨_,Tryz.func29,Bzi⟩
 ·exact⟨_,Tryz.func30,Bzj⟩
 ·exact⟨_,Tryz.func31,Bzk⟩
 ·exact⟨_,Tryz.func32,Bzl⟩
 ·exact⟨_,Tryz.func33,Bzm⟩
 ·exact⟨_,Tryz.func34,Bzn⟩
 ·exact⟨_,Tryz.func35,Bzo⟩
 ·exact⟨_,Tryz.func36,Bzp⟩
 ·exact⟨_,Tryz.func37,Bzq⟩
 ·exact⟨_,Tryz.func38,Bzr⟩
 ·exact⟨_,Tryz.func39,Bzs⟩
 ·exact⟨_,Tryz.func40,Bzt⟩
 ·exact⟨_,Tryz.func41,Bzu⟩
 ·exact⟨_,Tryz.func42,Bzv⟩
 ·exact⟨_,Tryz.func43,Bzw⟩
 ·exact⟨_,Tryz.func44,Bzx⟩
 ·exact⟨_,Tryz.func45,Bzy⟩
 ·exact⟨_,Tryz.func46,Bzz⟩
 ·exact⟨_,Tryz.func47,Bz0⟩
 ·exact⟨_,Tryz.func49,Bz1⟩
 ·exact⟨_,Tryz.func50,Bz2⟩
 ·exact⟨_,Tryz.func52,Bz3⟩
 ·exact⟨_,Tryz.func53,Bz4⟩
 ·exact⟨_,Tryz.func54,Bz5⟩
 ·exact⟨_,Tryz.func55,Bz6⟩
 ·exact⟨_,Tryz.func56,Bz7⟩
 ·exact⟨_,Tryz.func57,Bz8⟩
 ·exact⟨_,Tryz.func58,Bz9⟩
 ·exact⟨_,Tryz.func59,B0a⟩
 ·exact⟨_,Tryz.func60,B0b⟩
 ·exact⟨_,Tryz.func61,B0c⟩
 ·exact⟨_,Tryz.func62,B0d⟩
 ·exact⟨_,Tryz.func63,B0e⟩
 ·exact⟨_,Tryz.func64,B0f⟩
 ·exact⟨_,Tryz.func65,B0g⟩
 ·exact⟨_,Tryz.func66,B0h⟩
 ·exact⟨_,Tryz.func67,B0i⟩
 ·exact⟨_,Tryz.func68,B0j⟩
 ·exact⟨_,Tryz.func69,B0k⟩
 ·exact⟨_,Tryz.func70,B0l⟩
 ·exact⟨_,Tryz.func71,B0m⟩
 ·exact⟨_,Tryz.func74,B0n⟩
 ·exact⟨_,Tryz.func75,B0o⟩
 ·exact⟨_,Tryz.func80,B0p⟩
 ·exact⟨_,Tryz.func81,B0q⟩
 ·exact⟨_,Tryz.func82,B0r⟩
 ·exact⟨_,Tryz.func83,B0s⟩
 ·exact⟨_,Tryz.func84,B0t⟩
 ·exact⟨_,Tryz.func85,B0u⟩
 ·exact⟨_,Tryz.func86,B0v⟩
 ·exact⟨_,Tryz.func87,B0w⟩
 ·exact⟨_,Tryz.func88,B0x⟩
 ·exact⟨_,Tryz.func89,B0y⟩
 ·exact⟨_,Tryz.func100,Bvm⟩
 ·exact⟨_,Tryz.func101,Bvn⟩
 ·exact⟨_,Tryz.func105,Bvo⟩
 ·exact⟨_,Tryz.func106,Bvp⟩
 ·exact⟨_,Tryz.func107,Bvq⟩
 ·exact⟨_,Tryz.func108,Bvr⟩
 ·exact⟨_,Tryz.func109,Bvs⟩
 ·exact⟨_,Tryz.func110,Bvt⟩
 ·exact⟨_,Tryz.func111,Bvu⟩
 ·exact⟨_,Tryz.func112,Bvv⟩
 ·exact⟨_,Tryz.func113,Bvw⟩
 ·exact⟨_,Tryz.func114,Bvx⟩
 ·exact⟨_,Tryz.func115,Bvy⟩
 ·exact⟨_,Tryz.func116,Bvz⟩
 ·exact⟨_,Tryz.func117,Bv0⟩
 ·exact⟨_,Tryz.func118,Bv1⟩
 ·exact⟨_,Tryz.func119,Bv2⟩
 ·exact⟨_,Tryz.func125,Bv3⟩
 ·exact⟨_,Tryz.func126,Bv4⟩
 ·exact⟨_,Tryz.func127,Bv5⟩
 ·exact⟨_,Tryz.func128,Bv6⟩
 ·exact⟨_,Tryz.func129,Bv7⟩
 ·exact⟨_,Tryz.func130,Bv8⟩
 ·exact⟨_,Tryz.func131,Bv9⟩
 ·exact⟨_,Tryz.func132,Bwa⟩
 ·exact⟨_,Tryz.func133,Bwb⟩
 ·exact⟨_,Tryz.func134,Bwc⟩
 ·exact⟨_,Tryz.func135,Bwd⟩
 ·exact⟨_,Tryz.func136,Bwe⟩
 ·exact⟨_,Tryz.func137,Bwf⟩
 ·exact⟨_,Tryz.func138,Bwg⟩
 ·exact⟨_,Tryz.func139,Bwh⟩
 ·exact⟨_,Tryz.func140,Bwi⟩
 ·exact⟨_,Tryz.func141,Bwj⟩
 ·exact⟨_,Tryz.func142,Bwk⟩
 ·exact⟨_,Tryz.func143,Bwl⟩
 ·exact⟨_,Tryz.func144,Bwm⟩
 ·exact⟨_,Tryz.func145,Bwn⟩
 ·exact⟨_,Tryz.func146,Bwo⟩
 ·exact⟨_,Tryz.func147,Bwp⟩
 ·exact⟨_,Tryz.func148,Bwq⟩
 ·exact⟨_,Tryz.func149,Bwr⟩
 ·exact⟨_,Tryz.func150,Bws⟩
 ·exact⟨_,Tryz.func151,Bwt⟩
 ·exact⟨_,Tryz.func152,Bwu⟩
 ·exact⟨_,Tryz.func153,Bwv⟩
 ·exact⟨_,Tryz.func154,Bww⟩
 ·exact⟨_,Tryz.func155,Bwx⟩
 ·exact⟨_,Tryz.func156,Bwy⟩
 ·exact⟨_,Tryz.func157,Bwz⟩
 ·exact⟨_,Tryz.func159,Bw0⟩
 ·exact⟨_,Tryz.func160,Bw1⟩
 ·exact⟨_,Tryz.func161,Bw2⟩
 ·exact⟨_,Tryz.func162,Bw3⟩
 ·exact⟨_,Tryz.func163,Bw4⟩
 ·exact⟨_,Tryz.func164,Bw5⟩
theorem Bs8:FnOk Tryz.prog 48:=⟨_,Tryz.func48,by kernel_rfl,by kernel_rfl⟩
theorem Bna (args:List V) (H:Hp) (r:V×Hp) (h:Y6 false 6 49 args H=some r):Kw Tryz.prog Bg7 48 args H r:= @Bc1 Tryz.prog Bg7 false 48 49 6 Bs8 Bm8 args H r h
theorem Bme: ∀k p,Bmd k=some p→∀args H r,p args H=some r→Kw Tryz.prog Bg7 k args H r:=by
 intro k p hk args H r hr
 unfold Bmd at hk
 split at hk
 ·simp only[Option.some.injEq] at hk
  subst hk
  exact Bna args H r hr
 ·simp at hk
theorem Btm:PrgOk Tryz.prog R:=Biw (by kernel_rfl) Bso Bme
end Go.Proofs.YtjdmiodinhlchaaGreat.Code
