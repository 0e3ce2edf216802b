/- Lemmas (several texts in one). -/
import Derived.Test.YtjdmiodinhlchaaGreatMBaseTick7d
import Derived.Test.YtjdmiodinhlchaaGreatChecked
import Derived.KernelRfl
/- That the compact code is the given code. -/
namespace Go.Proofs.YtjdmiodinhlchaaGreat.Code
open Go Go.Ev Go.Proofs
theorem ok3 : chkFunc Tryz.prog Tryz.f3 f3 = true := by kernel_rfl
theorem ok4 : chkFunc Tryz.prog Tryz.f4 f4 = true := by kernel_rfl
theorem ok7 : chkFunc Tryz.prog Tryz.f7 f7 = true := by kernel_rfl
theorem ok8 : chkFunc Tryz.prog Tryz.f8 f8 = true := by kernel_rfl
theorem ok9 : chkFunc Tryz.prog Tryz.f9 f9 = true := by kernel_rfl
theorem ok10 : chkFunc Tryz.prog Tryz.f10 f10 = true := by kernel_rfl
theorem ok11 : chkFunc Tryz.prog Tryz.f11 f11 = true := by kernel_rfl
theorem ok12 : chkFunc Tryz.prog Tryz.f12 f12 = true := by kernel_rfl
theorem ok13 : chkFunc Tryz.prog Tryz.f13 f13 = true := by kernel_rfl
theorem ok14 : chkFunc Tryz.prog Tryz.f14 f14 = true := by kernel_rfl
theorem ok15 : chkFunc Tryz.prog Tryz.f15 f15 = true := by kernel_rfl
theorem ok16 : chkFunc Tryz.prog Tryz.f16 f16 = true := by kernel_rfl
theorem ok17 : chkFunc Tryz.prog Tryz.f17 f17 = true := by kernel_rfl
theorem ok18 : chkFunc Tryz.prog Tryz.f18 f18 = true := by kernel_rfl
theorem ok27 : chkFunc Tryz.prog Tryz.f27 f27 = true := by kernel_rfl
theorem ok28 : chkFunc Tryz.prog Tryz.f28 f28 = true := by kernel_rfl
theorem ok29 : chkFunc Tryz.prog Tryz.f29 f29 = true := by kernel_rfl
theorem ok30 : chkFunc Tryz.prog Tryz.f30 f30 = true := by kernel_rfl
theorem ok31 : chkFunc Tryz.prog Tryz.f31 f31 = true := by kernel_rfl
theorem ok32 : chkFunc Tryz.prog Tryz.f32 f32 = true := by kernel_rfl
theorem ok33 : chkFunc Tryz.prog Tryz.f33 f33 = true := by kernel_rfl
theorem ok34 : chkFunc Tryz.prog Tryz.f34 f34 = true := by kernel_rfl
theorem ok35 : chkFunc Tryz.prog Tryz.f35 f35 = true := by kernel_rfl
theorem ok36 : chkFunc Tryz.prog Tryz.f36 f36 = true := by kernel_rfl
theorem ok37 : chkFunc Tryz.prog Tryz.f37 f37 = true := by kernel_rfl
theorem ok38 : chkFunc Tryz.prog Tryz.f38 f38 = true := by kernel_rfl
theorem ok39 : chkFunc Tryz.prog Tryz.f39 f39 = true := by kernel_rfl
theorem ok40 : chkFunc Tryz.prog Tryz.f40 f40 = true := by kernel_rfl
theorem ok41 : chkFunc Tryz.prog Tryz.f41 f41 = true := by kernel_rfl
theorem ok45 : chkFunc Tryz.prog Tryz.f45 f45 = true := by kernel_rfl
theorem ok46 : chkFunc Tryz.prog Tryz.f46 f46 = true := by kernel_rfl
theorem ok47 : chkFunc Tryz.prog Tryz.f47 f47 = true := by kernel_rfl
theorem ok50 : chkFunc Tryz.prog Tryz.f50 f50 = true := by kernel_rfl
theorem ok52 : chkFunc Tryz.prog Tryz.f52 f52 = true := by kernel_rfl
theorem ok53 : chkFunc Tryz.prog Tryz.f53 f53 = true := by kernel_rfl
theorem ok54 : chkFunc Tryz.prog Tryz.f54 f54 = true := by kernel_rfl
theorem ok55 : chkFunc Tryz.prog Tryz.f55 f55 = true := by kernel_rfl
theorem ok56 : chkFunc Tryz.prog Tryz.f56 f56 = true := by kernel_rfl
theorem ok57 : chkFunc Tryz.prog Tryz.f57 f57 = true := by kernel_rfl
theorem ok58 : chkFunc Tryz.prog Tryz.f58 f58 = true := by kernel_rfl
theorem ok59 : chkFunc Tryz.prog Tryz.f59 f59 = true := by kernel_rfl
theorem ok60 : chkFunc Tryz.prog Tryz.f60 f60 = true := by kernel_rfl
theorem ok61 : chkFunc Tryz.prog Tryz.f61 f61 = true := by kernel_rfl
theorem ok62 : chkFunc Tryz.prog Tryz.f62 f62 = true := by kernel_rfl
theorem ok63 : chkFunc Tryz.prog Tryz.f63 f63 = true := by kernel_rfl
theorem ok64 : chkFunc Tryz.prog Tryz.f64 f64 = true := by kernel_rfl
theorem ok65 : chkFunc Tryz.prog Tryz.f65 f65 = true := by kernel_rfl
theorem ok66 : chkFunc Tryz.prog Tryz.f66 f66 = true := by kernel_rfl
theorem ok67 : chkFunc Tryz.prog Tryz.f67 f67 = true := by kernel_rfl
theorem ok68 : chkFunc Tryz.prog Tryz.f68 f68 = true := by kernel_rfl
theorem ok69 : chkFunc Tryz.prog Tryz.f69 f69 = true := by kernel_rfl
theorem ok74 : chkFunc Tryz.prog Tryz.f74 f74 = true := by kernel_rfl
theorem ok75 : chkFunc Tryz.prog Tryz.f75 f75 = true := by kernel_rfl
theorem ok80 : chkFunc Tryz.prog Tryz.f80 f80 = true := by kernel_rfl
theorem ok81 : chkFunc Tryz.prog Tryz.f81 f81 = true := by kernel_rfl
theorem ok82 : chkFunc Tryz.prog Tryz.f82 f82 = true := by kernel_rfl
theorem ok83 : chkFunc Tryz.prog Tryz.f83 f83 = true := by kernel_rfl
theorem ok84 : chkFunc Tryz.prog Tryz.f84 f84 = true := by kernel_rfl
theorem ok85 : chkFunc Tryz.prog Tryz.f85 f85 = true := by kernel_rfl
theorem ok86 : chkFunc Tryz.prog Tryz.f86 f86 = true := by kernel_rfl
theorem ok87 : chkFunc Tryz.prog Tryz.f87 f87 = true := by kernel_rfl
theorem ok88 : chkFunc Tryz.prog Tryz.f88 f88 = true := by kernel_rfl
theorem ok89 : chkFunc Tryz.prog Tryz.f89 f89 = true := by kernel_rfl
theorem ok100 : chkFunc Tryz.prog Tryz.f100 f100 = true := by kernel_rfl
theorem ok101 : chkFunc Tryz.prog Tryz.f101 f101 = true := by kernel_rfl
theorem ok105 : chkFunc Tryz.prog Tryz.f105 f105 = true := by kernel_rfl
theorem ok106 : chkFunc Tryz.prog Tryz.f106 f106 = true := by kernel_rfl
theorem ok107 : chkFunc Tryz.prog Tryz.f107 f107 = true := by kernel_rfl
theorem ok108 : chkFunc Tryz.prog Tryz.f108 f108 = true := by kernel_rfl
theorem ok109 : chkFunc Tryz.prog Tryz.f109 f109 = true := by kernel_rfl
theorem ok110 : chkFunc Tryz.prog Tryz.f110 f110 = true := by kernel_rfl
theorem ok111 : chkFunc Tryz.prog Tryz.f111 f111 = true := by kernel_rfl
theorem ok112 : chkFunc Tryz.prog Tryz.f112 f112 = true := by kernel_rfl
theorem ok113 : chkFunc Tryz.prog Tryz.f113 f113 = true := by kernel_rfl
theorem ok114 : chkFunc Tryz.prog Tryz.f114 f114 = true := by kernel_rfl
theorem ok115 : chkFunc Tryz.prog Tryz.f115 f115 = true := by kernel_rfl
theorem ok116 : chkFunc Tryz.prog Tryz.f116 f116 = true := by kernel_rfl
theorem ok117 : chkFunc Tryz.prog Tryz.f117 f117 = true := by kernel_rfl
theorem ok118 : chkFunc Tryz.prog Tryz.f118 f118 = true := by kernel_rfl
theorem ok119 : chkFunc Tryz.prog Tryz.f119 f119 = true := by kernel_rfl
theorem ok125 : chkFunc Tryz.prog Tryz.f125 f125 = true := by kernel_rfl
theorem ok126 : chkFunc Tryz.prog Tryz.f126 f126 = true := by kernel_rfl
theorem ok127 : chkFunc Tryz.prog Tryz.f127 f127 = true := by kernel_rfl
theorem ok128 : chkFunc Tryz.prog Tryz.f128 f128 = true := by kernel_rfl
theorem ok129 : chkFunc Tryz.prog Tryz.f129 f129 = true := by kernel_rfl
theorem ok130 : chkFunc Tryz.prog Tryz.f130 f130 = true := by kernel_rfl
theorem ok131 : chkFunc Tryz.prog Tryz.f131 f131 = true := by kernel_rfl
theorem ok132 : chkFunc Tryz.prog Tryz.f132 f132 = true := by kernel_rfl
theorem ok133 : chkFunc Tryz.prog Tryz.f133 f133 = true := by kernel_rfl
theorem ok134 : chkFunc Tryz.prog Tryz.f134 f134 = true := by kernel_rfl
theorem ok135 : chkFunc Tryz.prog Tryz.f135 f135 = true := by kernel_rfl
theorem ok136 : chkFunc Tryz.prog Tryz.f136 f136 = true := by kernel_rfl
theorem ok137 : chkFunc Tryz.prog Tryz.f137 f137 = true := by kernel_rfl
theorem ok138 : chkFunc Tryz.prog Tryz.f138 f138 = true := by kernel_rfl
theorem ok139 : chkFunc Tryz.prog Tryz.f139 f139 = true := by kernel_rfl
theorem ok140 : chkFunc Tryz.prog Tryz.f140 f140 = true := by kernel_rfl
theorem ok141 : chkFunc Tryz.prog Tryz.f141 f141 = true := by kernel_rfl
theorem ok142 : chkFunc Tryz.prog Tryz.f142 f142 = true := by kernel_rfl
theorem ok143 : chkFunc Tryz.prog Tryz.f143 f143 = true := by kernel_rfl
theorem ok144 : chkFunc Tryz.prog Tryz.f144 f144 = true := by kernel_rfl
theorem ok145 : chkFunc Tryz.prog Tryz.f145 f145 = true := by kernel_rfl
theorem ok146 : chkFunc Tryz.prog Tryz.f146 f146 = true := by kernel_rfl
theorem ok147 : chkFunc Tryz.prog Tryz.f147 f147 = true := by kernel_rfl
theorem ok148 : chkFunc Tryz.prog Tryz.f148 f148 = true := by kernel_rfl
theorem ok149 : chkFunc Tryz.prog Tryz.f149 f149 = true := by kernel_rfl
theorem ok150 : chkFunc Tryz.prog Tryz.f150 f150 = true := by kernel_rfl
theorem ok151 : chkFunc Tryz.prog Tryz.f151 f151 = true := by kernel_rfl
theorem ok152 : chkFunc Tryz.prog Tryz.f152 f152 = true := by kernel_rfl
theorem ok153 : chkFunc Tryz.prog Tryz.f153 f153 = true := by kernel_rfl
theorem ok154 : chkFunc Tryz.prog Tryz.f154 f154 = true := by kernel_rfl
theorem ok155 : chkFunc Tryz.prog Tryz.f155 f155 = true := by kernel_rfl
theorem ok156 : chkFunc Tryz.prog Tryz.f156 f156 = true := by kernel_rfl
theorem ok157 : chkFunc Tryz.prog Tryz.f157 f157 = true := by kernel_rfl
theorem ok159 : chkFunc Tryz.prog Tryz.f159 f159 = true := by kernel_rfl
theorem ok160 : chkFunc Tryz.prog Tryz.f160 f160 = true := by kernel_rfl
theorem ok161 : chkFunc Tryz.prog Tryz.f161 f161 = true := by kernel_rfl
theorem ok162 : chkFunc Tryz.prog Tryz.f162 f162 = true := by kernel_rfl
theorem ok163 : chkFunc Tryz.prog Tryz.f163 f163 = true := by kernel_rfl
theorem ok164 : chkFunc Tryz.prog Tryz.f164 f164 = true := by kernel_rfl
theorem all_ok : ∀ p ∈ tab, ∃ fn, Tryz.prog.funcs[p.1]? = some fn ∧ chkFunc Tryz.prog fn p.2 = true := by
  intro p hp
  simp only [tab, List.mem_cons, List.not_mem_nil, or_false] at hp
  rcases hp with rfl | rfl | rfl | rfl | rfl | rfl | rfl | rfl | rfl | rfl | rfl | rfl | rfl | rfl | rfl | rfl | rfl | rfl | rfl | rfl | rfl | rfl | rfl | rfl | rfl | rfl | rfl | rfl | rfl | rfl | rfl | rfl | rfl | rfl | rfl | rfl | rfl | rfl | rfl | rfl | rfl | rfl | rfl | rfl | rfl | rfl | rfl | rfl | rfl | rfl | rfl | rfl | rfl | rfl | rfl | rfl | rfl | rfl | rfl | rfl | rfl | rfl | rfl | rfl | rfl | rfl | rfl | rfl | rfl | rfl | rfl | rfl | rfl | rfl | rfl | rfl | rfl | rfl | rfl | rfl | rfl | rfl | rfl | rfl | rfl | rfl | rfl | rfl | rfl | rfl | rfl | rfl | rfl | rfl | rfl | rfl | rfl | rfl | rfl | rfl | rfl | rfl | rfl | rfl | rfl | rfl | rfl | rfl | rfl | rfl | rfl | rfl | rfl | rfl | rfl | rfl | rfl | rfl | rfl
  · exact ⟨_, Tryz.func3, ok3⟩
  · exact ⟨_, Tryz.func4, ok4⟩
  · exact ⟨_, Tryz.func7, ok7⟩
  · exact ⟨_, Tryz.func8, ok8⟩
  · exact ⟨_, Tryz.func9, ok9⟩
  · exact ⟨_, Tryz.func10, ok10⟩
  · exact ⟨_, Tryz.func11, ok11⟩
  · exact ⟨_, Tryz.func12, ok12⟩
  · exact ⟨_, Tryz.func13, ok13⟩
  · exact ⟨_, Tryz.func14, ok14⟩
  · exact ⟨_, Tryz.func15, ok15⟩
  · exact ⟨_, Tryz.func16, ok16⟩
  · exact ⟨_, Tryz.func17, ok17⟩
  · exact ⟨_, Tryz.func18, ok18⟩
  · exact ⟨_, Tryz.func27, ok27⟩
  · exact ⟨_, Tryz.func28, ok28⟩
  · exact ⟨_, Tryz.func29, ok29⟩
  · exact ⟨_, Tryz.func30, ok30⟩
  · exact ⟨_, Tryz.func31, ok31⟩
  · exact ⟨_, Tryz.func32, ok32⟩
  · exact ⟨_, Tryz.func33, ok33⟩
  · exact ⟨_, Tryz.func34, ok34⟩
  · exact ⟨_, Tryz.func35, ok35⟩
  · exact ⟨_, Tryz.func36, ok36⟩
  · exact ⟨_, Tryz.func37, ok37⟩
  · exact ⟨_, Tryz.func38, ok38⟩
  · exact ⟨_, Tryz.func39, ok39⟩
  · exact ⟨_, Tryz.func40, ok40⟩
  · exact ⟨_, Tryz.func41, ok41⟩
  · exact ⟨_, Tryz.func45, ok45⟩
  · exact ⟨_, Tryz.func46, ok46⟩
  · exact ⟨_, Tryz.func47, ok47⟩
  · exact ⟨_, Tryz.func50, ok50⟩
  · exact ⟨_, Tryz.func52, ok52⟩
  · exact ⟨_, Tryz.func53, ok53⟩
  · exact ⟨_, Tryz.func54, ok54⟩
  · exact ⟨_, Tryz.func55, ok55⟩
  · exact ⟨_, Tryz.func56, ok56⟩
  · exact ⟨_, Tryz.func57, ok57⟩
  · exact ⟨_, Tryz.func58, ok58⟩
  · exact ⟨_, Tryz.func59, ok59⟩
  · exact ⟨_, Tryz.func60, ok60⟩
  · exact ⟨_, Tryz.func61, ok61⟩
  · exact ⟨_, Tryz.func62, ok62⟩
  · exact ⟨_, Tryz.func63, ok63⟩
  · exact ⟨_, Tryz.func64, ok64⟩
  · exact ⟨_, Tryz.func65, ok65⟩
  · exact ⟨_, Tryz.func66, ok66⟩
  · exact ⟨_, Tryz.func67, ok67⟩
  · exact ⟨_, Tryz.func68, ok68⟩
  · exact ⟨_, Tryz.func69, ok69⟩
  · exact ⟨_, Tryz.func74, ok74⟩
  · exact ⟨_, Tryz.func75, ok75⟩
  · exact ⟨_, Tryz.func80, ok80⟩
  · exact ⟨_, Tryz.func81, ok81⟩
  · exact ⟨_, Tryz.func82, ok82⟩
  · exact ⟨_, Tryz.func83, ok83⟩
  · exact ⟨_, Tryz.func84, ok84⟩
  · exact ⟨_, Tryz.func85, ok85⟩
  · exact ⟨_, Tryz.func86, ok86⟩
  · exact ⟨_, Tryz.func87, ok87⟩
  · exact ⟨_, Tryz.func88, ok88⟩
  · exact ⟨_, Tryz.func89, ok89⟩
  · exact ⟨_, Tryz.func100, ok100⟩
  · exact ⟨_, Tryz.func101, ok101⟩
  · exact ⟨_, Tryz.func105, ok105⟩
  · exact ⟨_, Tryz.func106, ok106⟩
  · exact ⟨_, Tryz.func107, ok107⟩
  · exact ⟨_, Tryz.func108, ok108⟩
  · exact ⟨_, Tryz.func109, ok109⟩
  · exact ⟨_, Tryz.func110, ok110⟩
  · exact ⟨_, Tryz.func111, ok111⟩
  · exact ⟨_, Tryz.func112, ok112⟩
  · exact ⟨_, Tryz.func113, ok113⟩
  · exact ⟨_, Tryz.func114, ok114⟩
  · exact ⟨_, Tryz.func115, ok115⟩
  · exact ⟨_, Tryz.func116, ok116⟩
  · exact ⟨_, Tryz.func117, ok117⟩
  · exact ⟨_, Tryz.func118, ok118⟩
  · exact ⟨_, Tryz.func119, ok119⟩
  · exact ⟨_, Tryz.func125, ok125⟩
  · exact ⟨_, Tryz.func126, ok126⟩
  · exact ⟨_, Tryz.func127, ok127⟩
  · exact ⟨_, Tryz.func128, ok128⟩
  · exact ⟨_, Tryz.func129, ok129⟩
  · exact ⟨_, Tryz.func130, ok130⟩
  · exact ⟨_, Tryz.func131, ok131⟩
  · exact ⟨_, Tryz.func132, ok132⟩
  · exact ⟨_, Tryz.func133, ok133⟩
  · exact ⟨_, Tryz.func134, ok134⟩
  · exact ⟨_, Tryz.func135, ok135⟩
  · exact ⟨_, Tryz.func136, ok136⟩
  · exact ⟨_, Tryz.func137, ok137⟩
  · exact ⟨_, Tryz.func138, ok138⟩
  · exact ⟨_, Tryz.func139, ok139⟩
  · exact ⟨_, Tryz.func140, ok140⟩
  · exact ⟨_, Tryz.func141, ok141⟩
  · exact ⟨_, Tryz.func142, ok142⟩
  · exact ⟨_, Tryz.func143, ok143⟩
  · exact ⟨_, Tryz.func144, ok144⟩
  · exact ⟨_, Tryz.func145, ok145⟩
  · exact ⟨_, Tryz.func146, ok146⟩
  · exact ⟨_, Tryz.func147, ok147⟩
  · exact ⟨_, Tryz.func148, ok148⟩
  · exact ⟨_, Tryz.func149, ok149⟩
  · exact ⟨_, Tryz.func150, ok150⟩
  · exact ⟨_, Tryz.func151, ok151⟩
  · exact ⟨_, Tryz.func152, ok152⟩
  · exact ⟨_, Tryz.func153, ok153⟩
  · exact ⟨_, Tryz.func154, ok154⟩
  · exact ⟨_, Tryz.func155, ok155⟩
  · exact ⟨_, Tryz.func156, ok156⟩
  · exact ⟨_, Tryz.func157, ok157⟩
  · exact ⟨_, Tryz.func159, ok159⟩
  · exact ⟨_, Tryz.func160, ok160⟩
  · exact ⟨_, Tryz.func161, ok161⟩
  · exact ⟨_, Tryz.func162, ok162⟩
  · exact ⟨_, Tryz.func163, ok163⟩
  · exact ⟨_, Tryz.func164, ok164⟩
theorem prg_ok : PrgOk Tryz.prog (ofTab tab) := ofTab_ok (by kernel_rfl) all_ok
end Go.Proofs.YtjdmiodinhlchaaGreat.Code
/- The law of BaseTick: a call of it. -/
namespace Go.Proofs.YtjdmiodinhlchaaGreat.Code
open Go Go.Ev Go.Proofs
set_option maxRecDepth 100000
set_option linter.unusedSimpArgs false
set_option linter.unusedVariables false
namespace fnBaseTick
theorem answers (a : Option Addr) (len cap : Nat) (zs : List Int) (a2 : Option Addr) (len2 cap2 : Nat) (zs2 : List Int) (w : World) (h : IsRow .u8 w a len cap zs) (h2 : IsRow .u8 w a2 len2 cap2 zs2) : Calls Tryz.prog 4 #[.slice a len cap, .slice a2 len2 cap2] w fun e w' => e = .returned (.bool true) ∧ RowKit.Below w.heap.size w w' := by
  have hz : ∀ i, 0 ≤ (zs.take len).getD i 0 ∧ (zs.take len).getD i 0 ≤ 255 := row_bytes h
  refine calls_bool prg_ok (xs := [bytesD (zs.take len), bytesD (zs2.take len2)]) (e_4 [] _ _ hz) gr_tab rfl fun j hj => ?_
  match j, hj with
  | 0, _ => exact rd_bytes h
  | 1, _ => exact rd_bytes h2
end fnBaseTick
end Go.Proofs.YtjdmiodinhlchaaGreat.Code
