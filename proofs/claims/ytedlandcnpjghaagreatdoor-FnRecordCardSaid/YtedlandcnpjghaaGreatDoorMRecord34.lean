/- Lemmas (several texts in one). -/
import Derived.Test.YtedlandcnpjghaaGreatDoorMRecord6
import Derived.Test.YtedlandcnpjghaaGreatDoorMRecord33
import Derived.Test.YtedlandcnpjghaaGreatDoorChecked
import Derived.KernelRfl
set_option maxRecDepth 100000
namespace Go.Proofs.YtedlandcnpjghaaGreatDoor.Code
open Go Go.Ev Go.Proofs
theorem ok3:Bq Tryz.prog Tryz.f3 f3=true:=by kernel_rfl
theorem ok4:Bq Tryz.prog Tryz.f4 f4=true:=by kernel_rfl
theorem ok5:Bq Tryz.prog Tryz.f5 f5=true:=by kernel_rfl
theorem ok6:Bq Tryz.prog Tryz.f6 f6=true:=by kernel_rfl
theorem ok7:Bq Tryz.prog Tryz.f7 f7=true:=by kernel_rfl
theorem ok8:Bq Tryz.prog Tryz.f8 f8=true:=by kernel_rfl
theorem ok9:Bq Tryz.prog Tryz.f9 f9=true:=by kernel_rfl
theorem B31:Bq Tryz.prog Tryz.f10 f10=true:=by kernel_rfl
theorem B32:Bq Tryz.prog Tryz.f11 f11=true:=by kernel_rfl
theorem B33:Bq Tryz.prog Tryz.f12 f12=true:=by kernel_rfl
theorem B34:Bq Tryz.prog Tryz.f13 f13=true:=by kernel_rfl
theorem B35:Bq Tryz.prog Tryz.f14 f14=true:=by kernel_rfl
theorem B36:Bq Tryz.prog Tryz.f15 f15=true:=by kernel_rfl
theorem B37:Bq Tryz.prog Tryz.f16 f16=true:=by kernel_rfl
theorem B38:Bq Tryz.prog Tryz.f17 f17=true:=by kernel_rfl
theorem B39:Bq Tryz.prog Tryz.f18 f18=true:=by kernel_rfl
theorem B4a:Bq Tryz.prog Tryz.f19 f19=true:=by kernel_rfl
theorem B4b:Bq Tryz.prog Tryz.f20 f20=true:=by kernel_rfl
theorem B4c:Bq Tryz.prog Tryz.f21 f21=true:=by kernel_rfl
theorem B4d:Bq Tryz.prog Tryz.f22 f22=true:=by kernel_rfl
theorem B4e:Bq Tryz.prog Tryz.f23 f23=true:=by kernel_rfl
theorem B4f:Bq Tryz.prog Tryz.f25 f25=true:=by kernel_rfl
theorem B4g:Bq Tryz.prog Tryz.f26 f26=true:=by kernel_rfl
theorem B4h:Bq Tryz.prog Tryz.f27 f27=true:=by kernel_rfl
theorem B4i:Bq Tryz.prog Tryz.f28 f28=true:=by kernel_rfl
theorem B4j:Bq Tryz.prog Tryz.f29 f29=true:=by kernel_rfl
theorem B4k:Bq Tryz.prog Tryz.f30 f30=true:=by kernel_rfl
theorem B4l:Bq Tryz.prog Tryz.f31 f31=true:=by kernel_rfl
theorem B4m:Bq Tryz.prog Tryz.f33 f33=true:=by kernel_rfl
theorem B4n:Bq Tryz.prog Tryz.f34 f34=true:=by kernel_rfl
theorem B4o:Bq Tryz.prog Tryz.f35 f35=true:=by kernel_rfl
theorem B4p:Bq Tryz.prog Tryz.f36 f36=true:=by kernel_rfl
theorem B4q:Bq Tryz.prog Tryz.f38 f38=true:=by kernel_rfl
theorem B4r:Bq Tryz.prog Tryz.f41 f41=true:=by kernel_rfl
theorem B4s:Bq Tryz.prog Tryz.f42 f42=true:=by kernel_rfl
theorem B4t:Bq Tryz.prog Tryz.f43 f43=true:=by kernel_rfl
theorem B4u:Bq Tryz.prog Tryz.f44 f44=true:=by kernel_rfl
theorem B4v:Bq Tryz.prog Tryz.f45 f45=true:=by kernel_rfl
theorem B4w:Bq Tryz.prog Tryz.f46 f46=true:=by kernel_rfl
theorem B4x:Bq Tryz.prog Tryz.f47 f47=true:=by kernel_rfl
theorem B4y:Bq Tryz.prog Tryz.f48 f48=true:=by kernel_rfl
theorem B4z:Bq Tryz.prog Tryz.f55 f55=true:=by kernel_rfl
theorem B40:Bq Tryz.prog Tryz.f56 f56=true:=by kernel_rfl
theorem B41:Bq Tryz.prog Tryz.f57 f57=true:=by kernel_rfl
theorem B42:Bq Tryz.prog Tryz.f58 f58=true:=by kernel_rfl
theorem B43:Bq Tryz.prog Tryz.f59 f59=true:=by kernel_rfl
theorem B44:Bq Tryz.prog Tryz.f60 f60=true:=by kernel_rfl
theorem B45:Bq Tryz.prog Tryz.f61 f61=true:=by kernel_rfl
theorem B46:Bq Tryz.prog Tryz.f62 f62=true:=by kernel_rfl
theorem B47:Bq Tryz.prog Tryz.f63 f63=true:=by kernel_rfl
theorem B48:Bq Tryz.prog Tryz.f64 f64=true:=by kernel_rfl
theorem B49:Bq Tryz.prog Tryz.f65 f65=true:=by kernel_rfl
theorem B5a:Bq Tryz.prog Tryz.f66 f66=true:=by kernel_rfl
theorem B5b:Bq Tryz.prog Tryz.f67 f67=true:=by kernel_rfl
theorem B5c:Bq Tryz.prog Tryz.f68 f68=true:=by kernel_rfl
theorem B5d:Bq Tryz.prog Tryz.f69 f69=true:=by kernel_rfl
theorem B5e:Bq Tryz.prog Tryz.f70 f70=true:=by kernel_rfl
theorem B5f:Bq Tryz.prog Tryz.f71 f71=true:=by kernel_rfl
theorem B5g:Bq Tryz.prog Tryz.f79 f79=true:=by kernel_rfl
theorem B5h:Bq Tryz.prog Tryz.f80 f80=true:=by kernel_rfl
theorem B5i:Bq Tryz.prog Tryz.f81 f81=true:=by kernel_rfl
theorem B5j:Bq Tryz.prog Tryz.f82 f82=true:=by kernel_rfl
theorem B5k:Bq Tryz.prog Tryz.f83 f83=true:=by kernel_rfl
theorem B5l:Bq Tryz.prog Tryz.f84 f84=true:=by kernel_rfl
theorem B5m:Bq Tryz.prog Tryz.f85 f85=true:=by kernel_rfl
theorem B5n:Bq Tryz.prog Tryz.f86 f86=true:=by kernel_rfl
theorem B5o:Bq Tryz.prog Tryz.f87 f87=true:=by kernel_rfl
theorem B5p:Bq Tryz.prog Tryz.f88 f88=true:=by kernel_rfl
theorem B5q:Bq Tryz.prog Tryz.f89 f89=true:=by kernel_rfl
theorem B5r:Bq Tryz.prog Tryz.f90 f90=true:=by kernel_rfl
theorem B5s:Bq Tryz.prog Tryz.f91 f91=true:=by kernel_rfl
theorem B5t:Bq Tryz.prog Tryz.f92 f92=true:=by kernel_rfl
theorem B5u:Bq Tryz.prog Tryz.f93 f93=true:=by kernel_rfl
theorem B5v:Bq Tryz.prog Tryz.f94 f94=true:=by kernel_rfl
theorem B5w:Bq Tryz.prog Tryz.f95 f95=true:=by kernel_rfl
theorem B5x:Bq Tryz.prog Tryz.f96 f96=true:=by kernel_rfl
theorem B5y:Bq Tryz.prog Tryz.f97 f97=true:=by kernel_rfl
theorem B5z:Bq Tryz.prog Tryz.f98 f98=true:=by kernel_rfl
theorem B50:Bq Tryz.prog Tryz.f99 f99=true:=by kernel_rfl
theorem B1k:Bq Tryz.prog Tryz.f100 f100=true:=by kernel_rfl
theorem B1l:Bq Tryz.prog Tryz.f101 f101=true:=by kernel_rfl
theorem B1m:Bq Tryz.prog Tryz.f102 f102=true:=by kernel_rfl
theorem B1n:Bq Tryz.prog Tryz.f103 f103=true:=by kernel_rfl
theorem B1o:Bq Tryz.prog Tryz.f104 f104=true:=by kernel_rfl
theorem B1p:Bq Tryz.prog Tryz.f105 f105=true:=by kernel_rfl
theorem B1q:Bq Tryz.prog Tryz.f106 f106=true:=by kernel_rfl
theorem B1r:Bq Tryz.prog Tryz.f107 f107=true:=by kernel_rfl
theorem B1s:Bq Tryz.prog Tryz.f108 f108=true:=by kernel_rfl
theorem B1t:Bq Tryz.prog Tryz.f109 f109=true:=by kernel_rfl
theorem B1u:Bq Tryz.prog Tryz.f110 f110=true:=by kernel_rfl
theorem B1v:Bq Tryz.prog Tryz.f111 f111=true:=by kernel_rfl
theorem B1w:Bq Tryz.prog Tryz.f112 f112=true:=by kernel_rfl
theorem B1x:Bq Tryz.prog Tryz.f113 f113=true:=by kernel_rfl
theorem B1y:Bq Tryz.prog Tryz.f114 f114=true:=by kernel_rfl
theorem B1z:Bq Tryz.prog Tryz.f115 f115=true:=by kernel_rfl
theorem B12:Bq Tryz.prog Tryz.f116 f116=true:=by kernel_rfl
theorem B13:Bq Tryz.prog Tryz.f124 f124=true:=by kernel_rfl
theorem B14:Bq Tryz.prog Tryz.f125 f125=true:=by kernel_rfl
theorem B15:Bq Tryz.prog Tryz.f126 f126=true:=by kernel_rfl
theorem B16:Bq Tryz.prog Tryz.f127 f127=true:=by kernel_rfl
theorem B17:Bq Tryz.prog Tryz.f128 f128=true:=by kernel_rfl
theorem B18:Bq Tryz.prog Tryz.f129 f129=true:=by kernel_rfl
theorem B19:Bq Tryz.prog Tryz.f130 f130=true:=by kernel_rfl
theorem B2a:Bq Tryz.prog Tryz.f131 f131=true:=by kernel_rfl
theorem B2b:Bq Tryz.prog Tryz.f132 f132=true:=by kernel_rfl
theorem Bye: ∀p∈tab,∃fn,Tryz.prog.funcs[p.1]? =some fn∧Bq Tryz.prog fn p.2=true:=by
 intro p hp
 simp only[tab,List.mem_cons,List.not_mem_nil,or_false] at hp
 rcases hp with rfl|rfl|rfl|rfl|rfl|rfl|rfl|rfl|rfl|rfl|rfl|rfl|rfl|rfl|rfl|rfl|rfl|rfl|rfl|rfl|rfl|rfl|rfl|rfl|rfl|rfl|rfl|rfl|rfl|rfl|rfl|rfl|rfl|rfl|rfl|rfl|rfl|rfl|rfl|rfl|rfl|rfl|rfl|rfl|rfl|rfl|rfl|rfl|rfl|rfl|rfl|rfl|rfl|rfl|rfl|rfl|rfl|rfl|rfl|rfl|rfl|rfl|rfl|rfl|rfl|rfl|rfl|rfl|rfl|rfl|rfl|rfl|rfl|rfl|rfl|rfl|rfl|rfl|rfl|rfl|rfl|rfl|rfl|rfl|rfl|rfl|rfl|rfl|rfl|rfl|rfl|rfl|rfl|rfl|rfl|rfl|rfl|rfl|rfl|rfl|rfl|rfl|rfl|rfl|rfl
 ·exact⟨_,Tryz.func3,ok3⟩
 ·exact⟨_,Tryz.func4,ok4⟩
 ·exact⟨_,Tryz.func5,ok5⟩
 ·exact⟨_,Tryz.func6,ok6⟩
 ·exact⟨_,Tryz.func7,ok7⟩
 ·exact⟨_,Tryz.func8,ok8⟩
 ·exact⟨_,Tryz.func9,ok9⟩
 ·exact⟨_,Tryz.func10,B31⟩
 ·exact⟨_,Tryz.func11,B32⟩
 ·exact⟨_,Tryz.func12,B33⟩
 ·exact⟨_,Tryz.func13,B34⟩
 ·exact⟨_,Tryz.func14,B35⟩
 ·exact⟨_,Tryz.func15,B36⟩
 ·exact⟨_,Tryz.func16,B37⟩
 ·exact⟨_,Tryz.func17,B38⟩
 ·exact⟨_,Tryz.func18,B39⟩
 ·exact⟨_,Tryz.func19,B4a⟩
 ·exact⟨_,Tryz.func20,B4b⟩
 ·exact⟨_,Tryz.func21,B4c⟩
 ·exact⟨_,Tryz.func22,B4d⟩
 ·exact⟨_,Tryz.func23,B4e⟩
 ·exact⟨_,Tryz.func25,B4f⟩
 ·exact⟨_,Tryz.func26,B4g⟩
 ·exact⟨_,Tryz.func27,B4h⟩
 ·exact⟨_,Tryz.func28,B4i⟩
 ·exact⟨_,Tryz.func29,B4j⟩
 ·exact⟨_,Tryz.func30,B4k⟩
 ·exact⟨_,Tryz.func31,B4l⟩
 ·exact⟨_,Tryz.func33,B4m⟩
 ·exact⟨_,Tryz.func34,B4n⟩
 ·exact⟨_,Tryz.func35,B4o⟩
 ·exact⟨_,Tryz.func36,B4p⟩
 ·exact⟨_,Tryz.func38,B4q⟩
 ·exact⟨_,Tryz.func41,B4r⟩
 ·exact⟨_,Tryz.func42,B4s⟩
 ·exact⟨_,Tryz.func43,B4t⟩
 ·exact⟨_,Tryz.func44,B4u⟩
 ·exact⟨_,Tryz.func45,B4v⟩
 ·exact⟨_,Tryz.func46,B4w⟩
 ·exact⟨_,Tryz.func47,B4x⟩
 ·exact⟨_,Tryz.func48,B4y⟩
 ·exact⟨_,Tryz.func55,B4z⟩
 ·exact⟨_,Tryz.func56,B40⟩
 ·exact⟨_,Tryz.func57,B41⟩
 ·exact⟨_,Tryz.func58,B42⟩
 ·exact⟨_,Tryz.func59,B43⟩
 ·exact⟨_,Tryz.func60,B44⟩
 ·exact⟨_,Tryz.func61,B45⟩
 ·exact⟨_,Tryz.func62,B46⟩
 ·exact⟨_,Tryz.func63,B47⟩
 ·exact⟨_,Tryz.func64,B48⟩
 ·exact⟨_,Tryz.func65,B49⟩
 ·exact⟨_,Tryz.func66,B5a⟩
 ·exact⟨_,Tryz.func67,B5b⟩
 ·exact⟨_,Tryz.func68,B5c⟩
 ·exact⟨_,Tryz.func69,B5d⟩
 ·exact⟨_,Tryz.func70,B5e⟩
 ·exact⟨_,Tryz.func71,B5f⟩
 ·exact⟨_,Tryz.func79,B5g⟩
 ·exact⟨_,Tryz.func80,B5h⟩
 ·exact⟨_,Tryz.func81,B5i⟩
 ·exact⟨_,Tryz.func82,B5j⟩
 ·exact⟨_,Tryz.func83,B5k⟩
 ·exact⟨_,Tryz.func84,B5l⟩
 ·exact⟨_,Tryz.func85,B5m⟩
 ·exact⟨_,Tryz.func86,B5n⟩
 ·exact⟨_,Tryz.func87,B5o⟩
 ·exact⟨_,Tryz.func88,B5p⟩
 ·exact⟨_,Tryz.func89,B5q⟩
 ·exact⟨_,Tryz.func90,B5r⟩
 ·exact⟨_,Tryz.func91,B5s⟩
 ·exact⟨_,Tryz.func92,B5t⟩
 ·exact⟨_,Tryz.func93,B5u⟩
 ·exact⟨_,Tryz.func94,B5v⟩
 ·exact⟨_,Tryz.func95,B5w⟩
 ·exact⟨_,Tryz.func96,B5x⟩
 ·exact⟨_,Tryz.func97,B5y⟩
 ·exact⟨_,Tryz.func98,B5z⟩
 ·exact⟨_,Tryz.func99,B50⟩
 ·exact⟨_,Tryz.func100,B1k⟩
 ·exact⟨_,Tryz.func101,B1l⟩
 ·exact⟨_,Tryz.func102,B1m⟩
 ·exact⟨_,Tryz.func103,B1n⟩
 ·exact⟨_,Tryz.func104,B1o⟩
 ·exact⟨_,Tryz.func105,B1p⟩
 ·exact⟨_,Tryz.func106,B1q⟩
 ·exact⟨_,Tryz.func107,B1r⟩
 ·exact⟨_,Tryz.func108,B1s⟩
 ·exact⟨_,Tryz.func109,B1t⟩
 ·exact⟨_,Tryz.func110,B1u⟩
 ·exact⟨_,Tryz.func111,B1v⟩
 ·exact⟨_,Tryz.func112,B1w⟩
 ·exact⟨_,Tryz.func113,B1x⟩
 ·exact⟨_,Tryz.func114,B1y⟩
 ·exact⟨_,Tryz.func115,B1z⟩
 ·exact⟨_,Tryz.func116,B12⟩
 ·exact⟨_,Tryz.func124,B13⟩
 ·exact⟨_,Tryz.func125,B14⟩
 ·exact⟨_,Tryz.func126,B15⟩
 ·exact⟨_,Tryz.func127,B16⟩
 ·exact⟨_,Tryz.func128,B17⟩
 ·exact⟨_,Tryz.func129,B18⟩
 ·exact⟨_,Tryz.func130,B19⟩
 ·exact⟨_,Tryz.func131,B2a⟩
 ·exact⟨_,Tryz.func132,B2b⟩
theorem Byv:FnOk Tryz.prog 24:=⟨_,Tryz.func24,by kernel_rfl,by kernel_rfl⟩
theorem Bj6:FnOk Tryz.prog 32:=⟨_,Tryz.func32,by kernel_rfl,by kernel_rfl⟩
theorem Baz {w:World} {O:Ja} {pl:Pl} {m:Nat} {x:D} {us:Array Value} (h:RVs w O pl m [.d x] us): ∃u,us= #[u]∧RD w O x u:=by
 obtain⟨hl,hu⟩:=h
 have h0:=hu 0 (by simp)
 simp only[List.getD_cons_zero] at h0
 refine⟨us.getD 0 undef, ?_,h0.dd⟩
 apply Array.ext
 ·simpa using hl
 ·intro i h1 h2
  have:i=0:=by simpa using h2
  subst this
  simp[Array.getD_eq_getD_getElem?,Array.getElem?_eq_getElem h1]
theorem Bdq {P:Program} {G:Gj} {w:World} {O:Ja} (hG:GR G w O) {name:String} {g t:Nat} (hn:P.globalNamed name=some g) (hg:G g=some [.iface t (.rptr [])]): ∃p,w.var? P name=some #[.iface t p]:=by
 obtain⟨h1,arr,ty,fr,hh,hs⟩:=hG g _ hg
 cases h1 with
 |rptr _ b o F hO hb hc h1c hr=>
  have c:=hc 0 (by simp)
  have r:=hr 0 (by simp)
  simp only[List.getD_cons_zero] at r
  generalize F 0=q at c r
  cases r with
  |iface _ _ u _=>
   refine⟨u, ?_⟩
   unfold World.var?
   rw[hn]
   simp only[Option.bind_some,hh,Option.some.injEq]
   simp only[World.cell?,hh] at c
   apply Array.ext
   ·simpa using hs
   ·intro i h1 h2
    have:i=0:=by simpa using h2
    subst this
    rw[Array.getElem?_eq_getElem h1] at c
    simpa using c
theorem Sb {P:Program} {G:Gj} {k:Nat} {args:List V} {H:Hp} {x:Int} {y:D} (hf:FnOk P k)
  (hc: ∀ (w:World) (pl:Pl) (us:Array Value),GR G w (Bi pl H)→RVs w (Bi pl H) pl (Bc H) args us→Calls P k us w fun e w'=> ∃u,e= .returned (.tuple #[.int .i64 x,u])∧RowKit.Below w.heap.size w w'∧∀O,(∀b,w.heap.size≤b→¬O b)→RD w' O y u):Ml P G k args H (.tup [.d (.int .i64 x), .d y],H):=by
 refine⟨hf,fun w pl Bd us hH hG hR=> (hc w pl us hG hR).mono fun e w' he=> ?_⟩
 obtain⟨u,rfl,hB,hx⟩:=he
 obtain⟨m1,m2⟩:=hH.mono_all (w':=w') ⟨hB.os,hB.tape,hB.output,hB.size,fun b hb _=> ⟨hB.block b hb,fun h=>h⟩⟩
 refine⟨_,pl,rfl,⟨m1, .tup _ _ (by simp) fun i hi=> ?_,m2,PlExt.refl _ _,Nat.le_refl _⟩⟩
 match i,hi with
 |0,_=>exact .d _ _ (.int _ _)
 |1,_=>exact .d _ _ (hx _ fun b hb hO=>by have:=hH.owned_lt hO;omega)
theorem Bsm {w w':World} {N:Nat} {arr:Array Value} {ty:TypeId} {fr:Nat×Nat} (h1:w.heap.size≤N) (h2:w'.heap[N]? =some (.cells arr ty fr)) (O:Ja) (hO: ∀b,w.heap.size≤b→¬O b):RD w' O (.iface 87 (.rptr [])) (.iface 87 (.pointer (some ⟨N,0,none⟩))):=
 .iface _ _ _ (.rptr [] N 0 (fun _=>undef) (hO N h1) (Array.getElem?_eq_some_iff.1 h2).1 (fun j hj=>by simp at hj) (fun j hj=>by simp at hj) (fun j hj=>by simp at hj))
theorem Brg:Zv 2=some (Pg .u64 Lib.pow10Tab):=rfl
theorem Brf:Zv 0=some [.iface 162 (.rptr [])]:=rfl
theorem Bre:Zv 1=some [.iface 162 (.rptr [])]:=rfl
theorem Bti (args:List V) (H:Hp) (r:V×Hp) (hr:Bhd args H=some r):Ml Tryz.prog Zv 24 args H r:=by
 unfold Bhd at hr
 split at hr
 ·rename_i H' n
  split at hr
  ·rename_i hn
   simp only[Option.some.injEq] at hr
   subst hr
   refine Bk1 Byv fun w pl us hG hR=> ?_
   obtain⟨u,rfl,hu⟩:=Baz hR
   cases hu
   refine(Tryz.strconv_Itoa n hn.1 hn.2 w (Bpr (g:=2) hG (by kernel_rfl) Brg)).mono fun e w' ⟨he,m,os,hw⟩=> ⟨_,he, .str _ _ (by simp),m,os,hw⟩
  ·simp at hr
 ·simp at hr
theorem Btj (args:List V) (H:Hp) (r:V×Hp) (hr:Bgk args H=some r):Ml Tryz.prog Zv 32 args H r:=by
 unfold Bgk at hr
 split at hr
 ·rename_i H' s
  split at hr
  ·rename_i hn
   simp only[Option.some.injEq] at hr
   subst hr
   unfold Bmd
   split
   ·rename_i v hv
    refine Sb Bj6 fun w pl us hG hR=> ?_
    obtain⟨u,rfl,hu⟩:=Baz hR
    cases hu
    rename_i t ht
    subst ht
    have hz:t.size=t.data.toList.length:=by rw[Array.length_toList];rfl
    refine(Tryz.strconv_Atoi_ok t (by omega) v hv w).mono fun e w' ⟨he,hw⟩=> ⟨_,he, ?_,fun O _=> .niface⟩
    rcases hw with rfl| ⟨q,rfl⟩
    ·exact RowKit.Below.refl _ _
    ·exact Lib.bytesWorld_below _ _ _
   ·rename_i hv
    refine Sb Bj6 fun w pl us hG hR=> ?_
    obtain⟨u,rfl,hu⟩:=Baz hR
    cases hu
    rename_i t ht
    subst ht
    have hz:t.size=t.data.toList.length:=by rw[Array.length_toList];rfl
    obtain⟨p,hp⟩:=Bdq (P:=Tryz.prog) (name:= "strconv.ErrRange") hG (by kernel_rfl) Bre
    refine(Tryz.strconv_Atoi_range_var t (by omega) hv _ p w hp).mono fun e w' ⟨N,he,h1,h2,hw⟩=> ⟨_,he,hw,fun O hO=>Bsm h1 h2 O hO⟩
   ·rename_i h1 h2
    refine Sb Bj6 fun w pl us hG hR=> ?_
    obtain⟨u,rfl,hu⟩:=Baz hR
    cases hu
    rename_i t ht
    subst ht
    have hz:t.size=t.data.toList.length:=by rw[Array.length_toList];rfl
    obtain⟨p,hp⟩:=Bdq (P:=Tryz.prog) (name:= "strconv.ErrSyntax") hG (by kernel_rfl) Brf
    refine(Tryz.strconv_Atoi_bad_var t (by omega) (fun v h=>h1 v h) (fun h=>h2 h) _ p w hp).mono fun e w' ⟨N,he,h1,h2,hw⟩=> ⟨_,he,hw,fun O hO=>Bsm h1 h2 O hO⟩
  ·simp at hr
 ·simp at hr
theorem Bsd: ∀k p,Bsc k=some p→∀args H r,p args H=some r→Ml Tryz.prog Zv k args H r:=by
 intro k p hk args H r hr
 unfold Bsc at hk
 split at hk
 ·simp only[Option.some.injEq] at hk
  subst hk
  exact Bti args H r hr
 ·simp only[Option.some.injEq] at hk
  subst hk
  exact Btj args H r hr
 ·simp at hk
theorem By7:PrgOk Tryz.prog R:=Bob (by kernel_rfl) Bye Bsd
end Go.Proofs.YtedlandcnpjghaaGreatDoor.Code
