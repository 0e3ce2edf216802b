/- Lemmas (several texts in one). -/
import Derived.Test.YtpajcoanfkeibaaGreatDoorMDoKind6
import Derived.Test.YtpajcoanfkeibaaGreatDoorMDoKind18
set_option maxRecDepth 100000
set_option linter.unusedSimpArgs false
set_option linter.unusedVariables false
open List renaming getD_eq_getElem?_getD → Cda, map_map → Cdb
namespace Go.Proofs.YtpajcoanfkeibaaGreatDoor.Code
open Go Go.Ev Go.Proofs
def Bj (w:Br):Int×Int×Int:=
 if w=[71,69,84] then(2,2,1) else
 if w=[83,84,82,76,69,78] then(2,2,1) else
 if w=[73,78,67,82] then(2,2,1) else
 if w=[83,69,84] then(3,3,0) else
 if w=[65,80,80,69,78,68] then(3,3,1) else
 if w=[73,78,67,82,66,89] then(3,3,1) else
 if w=[71,69,84,82,65,78,71,69] then(4,4,1) else
 if w=[76,80,85,83,72] then(3,8,2) else
 if w=[82,80,85,83,72] then(3,8,2) else
 if w=[76,80,79,80] then(2,2,2) else
 if w=[82,80,79,80] then(2,2,2) else
 if w=[76,76,69,78] then(2,2,2) else
 if w=[76,82,65,78,71,69] then(4,4,2) else
 if w=[76,84,82,73,77] then(4,4,2) else
 if w=[76,83,69,84] then(4,4,2) else
 if w=[76,82,69,77] then(4,4,2) else
 if w=[83,65,68,68] then(3,8,3) else
 if w=[83,82,69,77] then(3,8,3) else
 if w=[83,77,69,77,66,69,82,83] then(2,2,3) else
 if w=[83,67,65,82,68] then(2,2,3) else
 if w=[83,73,83,77,69,77,66,69,82] then(3,3,3) else
 if w=[83,73,78,84,69,82] then(3,3,3) else
 if w=[83,85,78,73,79,78] then(3,3,3) else
 if w=[83,68,73,70,70] then(3,3,3) else
 if w=[90,65,68,68] then(4,4,4) else
 if w=[90,73,78,67,82,66,89] then(4,4,4) else
 if w=[90,82,65,78,71,69] then(4,4,4) else
 if w=[90,82,65,78,71,69,66,89,83,67,79,82,69] then(4,4,4) else
 if w=[90,82,69,77] then(3,3,4) else
 if w=[90,83,67,79,82,69] then(3,3,4) else
 if w=[90,82,65,78,75] then(3,3,4) else
 if w=[90,67,65,82,68] then(2,2,4) else
 if w=[72,83,69,84] then(4,4,5) else
 if w=[72,71,69,84] then(3,3,5) else
 if w=[72,68,69,76] then(3,3,5) else
 if w=[72,71,69,84,65,76,76] then(2,2,5) else
 if w=[72,76,69,78] then(2,2,5) else
 if w=[72,73,78,67,82,66,89] then(4,4,5) else
 if w=[68,69,76] then(2,8,0) else
 if w=[69,88,73,83,84,83] then(2,8,0) else
 if w=[84,89,80,69] then(2,2,0) else
 if w=[84,84,76] then(2,2,0) else
 if w=[80,69,82,83,73,83,84] then(2,2,0) else
 if w=[69,88,80,73,82,69] then(3,3,0) else
 if w=[69,88,80,73,82,69,65,84] then(3,3,0) else
 if w=[82,69,78,65,77,69] then(3,3,0) else
 if w=[75,69,89,83] then(2,2,0) else
 if w=[68,66,83,73,90,69] then(1,1,0) else
 if w=[70,76,85,83,72] then(1,1,0) else
 (0,0,0)
theorem By7 (H:Hp):Cr (ev R) R.glob Bg f165 [.d (.str [71,69,84])] H=some (.tup [.d (.int .i64 (Bj [71,69,84]).1), .d (.int .i64 (Bj [71,69,84]).2.1), .d (.int .i64 (Bj [71,69,84]).2.2)],H):=by
 simp[Cg,-Cda,-Cdb,f165,Bj]
theorem By8 (H:Hp):Cr (ev R) R.glob Bg f165 [.d (.str [83,84,82,76,69,78])] H=some (.tup [.d (.int .i64 (Bj [83,84,82,76,69,78]).1), .d (.int .i64 (Bj [83,84,82,76,69,78]).2.1), .d (.int .i64 (Bj [83,84,82,76,69,78]).2.2)],H):=by
 simp[Cg,-Cda,-Cdb,f165,Bj]
theorem By9 (H:Hp):Cr (ev R) R.glob Bg f165 [.d (.str [73,78,67,82])] H=some (.tup [.d (.int .i64 (Bj [73,78,67,82]).1), .d (.int .i64 (Bj [73,78,67,82]).2.1), .d (.int .i64 (Bj [73,78,67,82]).2.2)],H):=by
 simp[Cg,-Cda,-Cdb,f165,Bj]
theorem Bza (H:Hp):Cr (ev R) R.glob Bg f165 [.d (.str [83,69,84])] H=some (.tup [.d (.int .i64 (Bj [83,69,84]).1), .d (.int .i64 (Bj [83,69,84]).2.1), .d (.int .i64 (Bj [83,69,84]).2.2)],H):=by
 simp[Cg,-Cda,-Cdb,f165,Bj]
theorem Bzb (H:Hp):Cr (ev R) R.glob Bg f165 [.d (.str [65,80,80,69,78,68])] H=some (.tup [.d (.int .i64 (Bj [65,80,80,69,78,68]).1), .d (.int .i64 (Bj [65,80,80,69,78,68]).2.1), .d (.int .i64 (Bj [65,80,80,69,78,68]).2.2)],H):=by
 simp[Cg,-Cda,-Cdb,f165,Bj]
theorem Bzc (H:Hp):Cr (ev R) R.glob Bg f165 [.d (.str [73,78,67,82,66,89])] H=some (.tup [.d (.int .i64 (Bj [73,78,67,82,66,89]).1), .d (.int .i64 (Bj [73,78,67,82,66,89]).2.1), .d (.int .i64 (Bj [73,78,67,82,66,89]).2.2)],H):=by
 simp[Cg,-Cda,-Cdb,f165,Bj]
theorem Bzd (H:Hp):Cr (ev R) R.glob Bg f165 [.d (.str [71,69,84,82,65,78,71,69])] H=some (.tup [.d (.int .i64 (Bj [71,69,84,82,65,78,71,69]).1), .d (.int .i64 (Bj [71,69,84,82,65,78,71,69]).2.1), .d (.int .i64 (Bj [71,69,84,82,65,78,71,69]).2.2)],H):=by
 simp[Cg,-Cda,-Cdb,f165,Bj]
theorem Bze (H:Hp):Cr (ev R) R.glob Bg f165 [.d (.str [76,80,85,83,72])] H=some (.tup [.d (.int .i64 (Bj [76,80,85,83,72]).1), .d (.int .i64 (Bj [76,80,85,83,72]).2.1), .d (.int .i64 (Bj [76,80,85,83,72]).2.2)],H):=by
 simp[Cg,-Cda,-Cdb,f165,Bj]
theorem Bzf (H:Hp):Cr (ev R) R.glob Bg f165 [.d (.str [82,80,85,83,72])] H=some (.tup [.d (.int .i64 (Bj [82,80,85,83,72]).1), .d (.int .i64 (Bj [82,80,85,83,72]).2.1), .d (.int .i64 (Bj [82,80,85,83,72]).2.2)],H):=by
 simp[Cg,-Cda,-Cdb,f165,Bj]
theorem Bzg (H:Hp):Cr (ev R) R.glob Bg f165 [.d (.str [76,80,79,80])] H=some (.tup [.d (.int .i64 (Bj [76,80,79,80]).1), .d (.int .i64 (Bj [76,80,79,80]).2.1), .d (.int .i64 (Bj [76,80,79,80]).2.2)],H):=by
 simp[Cg,-Cda,-Cdb,f165,Bj]
theorem Buz (H:Hp):Cr (ev R) R.glob Bg f165 [.d (.str [82,80,79,80])] H=some (.tup [.d (.int .i64 (Bj [82,80,79,80]).1), .d (.int .i64 (Bj [82,80,79,80]).2.1), .d (.int .i64 (Bj [82,80,79,80]).2.2)],H):=by
 simp[Cg,-Cda,-Cdb,f165,Bj]
theorem Bu0 (H:Hp):Cr (ev R) R.glob Bg f165 [.d (.str [76,76,69,78])] H=some (.tup [.d (.int .i64 (Bj [76,76,69,78]).1), .d (.int .i64 (Bj [76,76,69,78]).2.1), .d (.int .i64 (Bj [76,76,69,78]).2.2)],H):=by
 simp[Cg,-Cda,-Cdb,f165,Bj]
theorem Bu1 (H:Hp):Cr (ev R) R.glob Bg f165 [.d (.str [76,82,65,78,71,69])] H=some (.tup [.d (.int .i64 (Bj [76,82,65,78,71,69]).1), .d (.int .i64 (Bj [76,82,65,78,71,69]).2.1), .d (.int .i64 (Bj [76,82,65,78,71,69]).2.2)],H):=by
 simp[Cg,-Cda,-Cdb,f165,Bj]
theorem Bu2 (H:Hp):Cr (ev R) R.glob Bg f165 [.d (.str [76,84,82,73,77])] H=some (.tup [.d (.int .i64 (Bj [76,84,82,73,77]).1), .d (.int .i64 (Bj [76,84,82,73,77]).2.1), .d (.int .i64 (Bj [76,84,82,73,77]).2.2)],H):=by
 simp[Cg,-Cda,-Cdb,f165,Bj]
theorem Bu3 (H:Hp):Cr (ev R) R.glob Bg f165 [.d (.str [76,83,69,84])] H=some (.tup [.d (.int .i64 (Bj [76,83,69,84]).1), .d (.int .i64 (Bj [76,83,69,84]).2.1), .d (.int .i64 (Bj [76,83,69,84]).2.2)],H):=by
 simp[Cg,-Cda,-Cdb,f165,Bj]
theorem Bu4 (H:Hp):Cr (ev R) R.glob Bg f165 [.d (.str [76,82,69,77])] H=some (.tup [.d (.int .i64 (Bj [76,82,69,77]).1), .d (.int .i64 (Bj [76,82,69,77]).2.1), .d (.int .i64 (Bj [76,82,69,77]).2.2)],H):=by
 simp[Cg,-Cda,-Cdb,f165,Bj]
theorem Bu5 (H:Hp):Cr (ev R) R.glob Bg f165 [.d (.str [83,65,68,68])] H=some (.tup [.d (.int .i64 (Bj [83,65,68,68]).1), .d (.int .i64 (Bj [83,65,68,68]).2.1), .d (.int .i64 (Bj [83,65,68,68]).2.2)],H):=by
 simp[Cg,-Cda,-Cdb,f165,Bj]
theorem Bu6 (H:Hp):Cr (ev R) R.glob Bg f165 [.d (.str [83,82,69,77])] H=some (.tup [.d (.int .i64 (Bj [83,82,69,77]).1), .d (.int .i64 (Bj [83,82,69,77]).2.1), .d (.int .i64 (Bj [83,82,69,77]).2.2)],H):=by
 simp[Cg,-Cda,-Cdb,f165,Bj]
theorem Bu7 (H:Hp):Cr (ev R) R.glob Bg f165 [.d (.str [83,77,69,77,66,69,82,83])] H=some (.tup [.d (.int .i64 (Bj [83,77,69,77,66,69,82,83]).1), .d (.int .i64 (Bj [83,77,69,77,66,69,82,83]).2.1), .d (.int .i64 (Bj [83,77,69,77,66,69,82,83]).2.2)],H):=by
 simp[Cg,-Cda,-Cdb,f165,Bj]
theorem Bu8 (H:Hp):Cr (ev R) R.glob Bg f165 [.d (.str [83,67,65,82,68])] H=some (.tup [.d (.int .i64 (Bj [83,67,65,82,68]).1), .d (.int .i64 (Bj [83,67,65,82,68]).2.1), .d (.int .i64 (Bj [83,67,65,82,68]).2.2)],H):=by
 simp[Cg,-Cda,-Cdb,f165,Bj]
theorem Bu9 (H:Hp):Cr (ev R) R.glob Bg f165 [.d (.str [83,73,83,77,69,77,66,69,82])] H=some (.tup [.d (.int .i64 (Bj [83,73,83,77,69,77,66,69,82]).1), .d (.int .i64 (Bj [83,73,83,77,69,77,66,69,82]).2.1), .d (.int .i64 (Bj [83,73,83,77,69,77,66,69,82]).2.2)],H):=by
 simp[Cg,-Cda,-Cdb,f165,Bj]
theorem Bva (H:Hp):Cr (ev R) R.glob Bg f165 [.d (.str [83,73,78,84,69,82])] H=some (.tup [.d (.int .i64 (Bj [83,73,78,84,69,82]).1), .d (.int .i64 (Bj [83,73,78,84,69,82]).2.1), .d (.int .i64 (Bj [83,73,78,84,69,82]).2.2)],H):=by
 simp[Cg,-Cda,-Cdb,f165,Bj]
theorem Bvb (H:Hp):Cr (ev R) R.glob Bg f165 [.d (.str [83,85,78,73,79,78])] H=some (.tup [.d (.int .i64 (Bj [83,85,78,73,79,78]).1), .d (.int .i64 (Bj [83,85,78,73,79,78]).2.1), .d (.int .i64 (Bj [83,85,78,73,79,78]).2.2)],H):=by
 simp[Cg,-Cda,-Cdb,f165,Bj]
theorem Bvc (H:Hp):Cr (ev R) R.glob Bg f165 [.d (.str [83,68,73,70,70])] H=some (.tup [.d (.int .i64 (Bj [83,68,73,70,70]).1), .d (.int .i64 (Bj [83,68,73,70,70]).2.1), .d (.int .i64 (Bj [83,68,73,70,70]).2.2)],H):=by
 simp[Cg,-Cda,-Cdb,f165,Bj]
theorem Bvd (H:Hp):Cr (ev R) R.glob Bg f165 [.d (.str [90,65,68,68])] H=some (.tup [.d (.int .i64 (Bj [90,65,68,68]).1), .d (.int .i64 (Bj [90,65,68,68]).2.1), .d (.int .i64 (Bj [90,65,68,68]).2.2)],H):=by
 simp[Cg,-Cda,-Cdb,f165,Bj]
theorem Bve (H:Hp):Cr (ev R) R.glob Bg f165 [.d (.str [90,73,78,67,82,66,89])] H=some (.tup [.d (.int .i64 (Bj [90,73,78,67,82,66,89]).1), .d (.int .i64 (Bj [90,73,78,67,82,66,89]).2.1), .d (.int .i64 (Bj [90,73,78,67,82,66,89]).2.2)],H):=by
 simp[Cg,-Cda,-Cdb,f165,Bj]
theorem Bvf (H:Hp):Cr (ev R) R.glob Bg f165 [.d (.str [90,82,65,78,71,69])] H=some (.tup [.d (.int .i64 (Bj [90,82,65,78,71,69]).1), .d (.int .i64 (Bj [90,82,65,78,71,69]).2.1), .d (.int .i64 (Bj [90,82,65,78,71,69]).2.2)],H):=by
 simp[Cg,-Cda,-Cdb,f165,Bj]
theorem Bvg (H:Hp):Cr (ev R) R.glob Bg f165 [.d (.str [90,82,65,78,71,69,66,89,83,67,79,82,69])] H=some (.tup [.d (.int .i64 (Bj [90,82,65,78,71,69,66,89,83,67,79,82,69]).1), .d (.int .i64 (Bj [90,82,65,78,71,69,66,89,83,67,79,82,69]).2.1), .d (.int .i64 (Bj [90,82,65,78,71,69,66,89,83,67,79,82,69]).2.2)],H):=by
 simp[Cg,-Cda,-Cdb,f165,Bj]
theorem Bvh (H:Hp):Cr (ev R) R.glob Bg f165 [.d (.str [90,82,69,77])] H=some (.tup [.d (.int .i64 (Bj [90,82,69,77]).1), .d (.int .i64 (Bj [90,82,69,77]).2.1), .d (.int .i64 (Bj [90,82,69,77]).2.2)],H):=by
 simp[Cg,-Cda,-Cdb,f165,Bj]
theorem Bvi (H:Hp):Cr (ev R) R.glob Bg f165 [.d (.str [90,83,67,79,82,69])] H=some (.tup [.d (.int .i64 (Bj [90,83,67,79,82,69]).1), .d (.int .i64 (Bj [90,83,67,79,82,69]).2.1), .d (.int .i64 (Bj [90,83,67,79,82,69]).2.2)],H):=by
 simp[Cg,-Cda,-Cdb,f165,Bj]
theorem Bvj (H:Hp):Cr (ev R) R.glob Bg f165 [.d (.str [90,82,65,78,75])] H=some (.tup [.d (.int .i64 (Bj [90,82,65,78,75]).1), .d (.int .i64 (Bj [90,82,65,78,75]).2.1), .d (.int .i64 (Bj [90,82,65,78,75]).2.2)],H):=by
 simp[Cg,-Cda,-Cdb,f165,Bj]
theorem Bvk (H:Hp):Cr (ev R) R.glob Bg f165 [.d (.str [90,67,65,82,68])] H=some (.tup [.d (.int .i64 (Bj [90,67,65,82,68]).1), .d (.int .i64 (Bj [90,67,65,82,68]).2.1), .d (.int .i64 (Bj [90,67,65,82,68]).2.2)],H):=by
 simp[Cg,-Cda,-Cdb,f165,Bj]
theorem Bvl (H:Hp):Cr (ev R) R.glob Bg f165 [.d (.str [72,83,69,84])] H=some (.tup [.d (.int .i64 (Bj [72,83,69,84]).1), .d (.int .i64 (Bj [72,83,69,84]).2.1), .d (.int .i64 (Bj [72,83,69,84]).2.2)],H):=by
 simp[Cg,-Cda,-Cdb,f165,Bj]
theorem Bvm (H:Hp):Cr (ev R) R.glob Bg f165 [.d (.str [72,71,69,84])] H=some (.tup [.d (.int .i64 (Bj [72,71,69,84]).1), .d (.int .i64 (Bj [72,71,69,84]).2.1), .d (.int .i64 (Bj [72,71,69,84]).2.2)],H):=by
 simp[Cg,-Cda,-Cdb,f165,Bj]
theorem Bvn (H:Hp):Cr (ev R) R.glob Bg f165 [.d (.str [72,68,69,76])] H=some (.tup [.d (.int .i64 (Bj [72,68,69,76]).1), .d (.int .i64 (Bj [72,68,69,76]).2.1), .d (.int .i64 (Bj [72,68,69,76]).2.2)],H):=by
 simp[Cg,-Cda,-Cdb,f165,Bj]
theorem Bvo (H:Hp):Cr (ev R) R.glob Bg f165 [.d (.str [72,71,69,84,65,76,76])] H=some (.tup [.d (.int .i64 (Bj [72,71,69,84,65,76,76]).1), .d (.int .i64 (Bj [72,71,69,84,65,76,76]).2.1), .d (.int .i64 (Bj [72,71,69,84,65,76,76]).2.2)],H):=by
 simp[Cg,-Cda,-Cdb,f165,Bj]
theorem Bvp (H:Hp):Cr (ev R) R.glob Bg f165 [.d (.str [72,76,69,78])] H=some (.tup [.d (.int .i64 (Bj [72,76,69,78]).1), .d (.int .i64 (Bj [72,76,69,78]).2.1), .d (.int .i64 (Bj [72,76,69,78]).2.2)],H):=by
 simp[Cg,-Cda,-Cdb,f165,Bj]
theorem Bvq (H:Hp):Cr (ev R) R.glob Bg f165 [.d (.str [72,73,78,67,82,66,89])] H=some (.tup [.d (.int .i64 (Bj [72,73,78,67,82,66,89]).1), .d (.int .i64 (Bj [72,73,78,67,82,66,89]).2.1), .d (.int .i64 (Bj [72,73,78,67,82,66,89]).2.2)],H):=by
 simp[Cg,-Cda,-Cdb,f165,Bj]
theorem Bvr (H:Hp):Cr (ev R) R.glob Bg f165 [.d (.str [68,69,76])] H=some (.tup [.d (.int .i64 (Bj [68,69,76]).1), .d (.int .i64 (Bj [68,69,76]).2.1), .d (.int .i64 (Bj [68,69,76]).2.2)],H):=by
 simp[Cg,-Cda,-Cdb,f165,Bj]
theorem Bvs (H:Hp):Cr (ev R) R.glob Bg f165 [.d (.str [69,88,73,83,84,83])] H=some (.tup [.d (.int .i64 (Bj [69,88,73,83,84,83]).1), .d (.int .i64 (Bj [69,88,73,83,84,83]).2.1), .d (.int .i64 (Bj [69,88,73,83,84,83]).2.2)],H):=by
 simp[Cg,-Cda,-Cdb,f165,Bj]
theorem Bvt (H:Hp):Cr (ev R) R.glob Bg f165 [.d (.str [84,89,80,69])] H=some (.tup [.d (.int .i64 (Bj [84,89,80,69]).1), .d (.int .i64 (Bj [84,89,80,69]).2.1), .d (.int .i64 (Bj [84,89,80,69]).2.2)],H):=by
 simp[Cg,-Cda,-Cdb,f165,Bj]
theorem Bvu (H:Hp):Cr (ev R) R.glob Bg f165 [.d (.str [84,84,76])] H=some (.tup [.d (.int .i64 (Bj [84,84,76]).1), .d (.int .i64 (Bj [84,84,76]).2.1), .d (.int .i64 (Bj [84,84,76]).2.2)],H):=by
 simp[Cg,-Cda,-Cdb,f165,Bj]
theorem Bvv (H:Hp):Cr (ev R) R.glob Bg f165 [.d (.str [80,69,82,83,73,83,84])] H=some (.tup [.d (.int .i64 (Bj [80,69,82,83,73,83,84]).1), .d (.int .i64 (Bj [80,69,82,83,73,83,84]).2.1), .d (.int .i64 (Bj [80,69,82,83,73,83,84]).2.2)],H):=by
 simp[Cg,-Cda,-Cdb,f165,Bj]
theorem Bvw (H:Hp):Cr (ev R) R.glob Bg f165 [.d (.str [69,88,80,73,82,69])] H=some (.tup [.d (.int .i64 (Bj [69,88,80,73,82,69]).1), .d (.int .i64 (Bj [69,88,80,73,82,69]).2.1), .d (.int .i64 (Bj [69,88,80,73,82,69]).2.2)],H):=by
 simp[Cg,-Cda,-Cdb,f165,Bj]
theorem Bvx (H:Hp):Cr (ev R) R.glob Bg f165 [.d (.str [69,88,80,73,82,69,65,84])] H=some (.tup [.d (.int .i64 (Bj [69,88,80,73,82,69,65,84]).1), .d (.int .i64 (Bj [69,88,80,73,82,69,65,84]).2.1), .d (.int .i64 (Bj [69,88,80,73,82,69,65,84]).2.2)],H):=by
 simp[Cg,-Cda,-Cdb,f165,Bj]
theorem Bvy (H:Hp):Cr (ev R) R.glob Bg f165 [.d (.str [82,69,78,65,77,69])] H=some (.tup [.d (.int .i64 (Bj [82,69,78,65,77,69]).1), .d (.int .i64 (Bj [82,69,78,65,77,69]).2.1), .d (.int .i64 (Bj [82,69,78,65,77,69]).2.2)],H):=by
 simp[Cg,-Cda,-Cdb,f165,Bj]
theorem Bvz (H:Hp):Cr (ev R) R.glob Bg f165 [.d (.str [75,69,89,83])] H=some (.tup [.d (.int .i64 (Bj [75,69,89,83]).1), .d (.int .i64 (Bj [75,69,89,83]).2.1), .d (.int .i64 (Bj [75,69,89,83]).2.2)],H):=by
 simp[Cg,-Cda,-Cdb,f165,Bj]
theorem Bv0 (H:Hp):Cr (ev R) R.glob Bg f165 [.d (.str [68,66,83,73,90,69])] H=some (.tup [.d (.int .i64 (Bj [68,66,83,73,90,69]).1), .d (.int .i64 (Bj [68,66,83,73,90,69]).2.1), .d (.int .i64 (Bj [68,66,83,73,90,69]).2.2)],H):=by
 simp[Cg,-Cda,-Cdb,f165,Bj]
theorem Bv1 (H:Hp):Cr (ev R) R.glob Bg f165 [.d (.str [70,76,85,83,72])] H=some (.tup [.d (.int .i64 (Bj [70,76,85,83,72]).1), .d (.int .i64 (Bj [70,76,85,83,72]).2.1), .d (.int .i64 (Bj [70,76,85,83,72]).2.2)],H):=by
 simp[Cg,-Cda,-Cdb,f165,Bj]
theorem Bv2 (H:Hp) (w:Br) (h0: (w=[71,69,84])=False) (h1: (w=[83,84,82,76,69,78])=False) (h2: (w=[73,78,67,82])=False) (h3: (w=[83,69,84])=False) (h4: (w=[65,80,80,69,78,68])=False) (h5: (w=[73,78,67,82,66,89])=False) (h6: (w=[71,69,84,82,65,78,71,69])=False) (h7: (w=[76,80,85,83,72])=False) (h8: (w=[82,80,85,83,72])=False) (h9: (w=[76,80,79,80])=False) (h10: (w=[82,80,79,80])=False) (h11: (w=[76,76,69,78])=False) (h12: (w=[76,82,65,78,71,69])=False) (h13: (w=[76,84,82,73,77])=False) (h14: (w=[76,83,69,84])=False) (h15: (w=[76,82,69,77])=False) (h16: (w=[83,65,68,68])=False) (h17: (w=[83,82,69,77])=False) (h18: (w=[83,77,69,77,66,69,82,83])=False) (h19: (w=[83,67,65,82,68])=False) (h20: (w=[83,73,83,77,69,77,66,69,82])=False) (h21: (w=[83,73,78,84,69,82])=False) (h22: (w=[83,85,78,73,79,78])=False) (h23: (w=[83,68,73,70,70])=False) (h24: (w=[90,65,68,68])=False) (h25: (w=[90,73,78,67,82,66,89])=False) (h26: (w=[90,82,65,78,71,69])=False) (h27: (w=[90,82,65,78,71,69,66,89,83,67,79,82,69])=False) (h28: (w=[90,82,69,77])=False) (h29: (w=[90,83,67,79,82,69])=False) (h30: (w=[90,82,65,78,75])=False) (h31: (w=[90,67,65,82,68])=False) (h32: (w=[72,83,69,84])=False) (h33: (w=[72,71,69,84])=False) (h34: (w=[72,68,69,76])=False) (h35: (w=[72,71,69,84,65,76,76])=False) (h36: (w=[72,76,69,78])=False) (h37: (w=[72,73,78,67,82,66,89])=False) (h38: (w=[68,69,76])=False) (h39: (w=[69,88,73,83,84,83])=False) (h40: (w=[84,89,80,69])=False) (h41: (w=[84,84,76])=False) (h42: (w=[80,69,82,83,73,83,84])=False) (h43: (w=[69,88,80,73,82,69])=False) (h44: (w=[69,88,80,73,82,69,65,84])=False) (h45: (w=[82,69,78,65,77,69])=False) (h46: (w=[75,69,89,83])=False) (h47: (w=[68,66,83,73,90,69])=False) (h48: (w=[70,76,85,83,72])=False):Cr (ev R) R.glob Bg f165 [.d (.str w)] H=some (.tup [.d (.int .i64 0), .d (.int .i64 0), .d (.int .i64 0)],H):=by
 simp[Cg,-Cda,-Cdb,f165,h0,h1,h2,h3,h4,h5,h6,h7,h8,h9,h10,h11,h12,h13,h14,h15,h16,h17,h18,h19,h20,h21,h22,h23,h24,h25,h26,h27,h28,h29,h30,h31,h32,h33,h34,h35,h36,h37,h38,h39,h40,h41,h42,h43,h44,h45,h46,h47,h48]
theorem Bjz (w:Br) (h0: (w=[71,69,84])=False) (h1: (w=[83,84,82,76,69,78])=False) (h2: (w=[73,78,67,82])=False) (h3: (w=[83,69,84])=False) (h4: (w=[65,80,80,69,78,68])=False) (h5: (w=[73,78,67,82,66,89])=False) (h6: (w=[71,69,84,82,65,78,71,69])=False) (h7: (w=[76,80,85,83,72])=False) (h8: (w=[82,80,85,83,72])=False) (h9: (w=[76,80,79,80])=False) (h10: (w=[82,80,79,80])=False) (h11: (w=[76,76,69,78])=False) (h12: (w=[76,82,65,78,71,69])=False) (h13: (w=[76,84,82,73,77])=False) (h14: (w=[76,83,69,84])=False) (h15: (w=[76,82,69,77])=False) (h16: (w=[83,65,68,68])=False) (h17: (w=[83,82,69,77])=False) (h18: (w=[83,77,69,77,66,69,82,83])=False) (h19: (w=[83,67,65,82,68])=False) (h20: (w=[83,73,83,77,69,77,66,69,82])=False) (h21: (w=[83,73,78,84,69,82])=False) (h22: (w=[83,85,78,73,79,78])=False) (h23: (w=[83,68,73,70,70])=False) (h24: (w=[90,65,68,68])=False) (h25: (w=[90,73,78,67,82,66,89])=False) (h26: (w=[90,82,65,78,71,69])=False) (h27: (w=[90,82,65,78,71,69,66,89,83,67,79,82,69])=False) (h28: (w=[90,82,69,77])=False) (h29: (w=[90,83,67,79,82,69])=False) (h30: (w=[90,82,65,78,75])=False) (h31: (w=[90,67,65,82,68])=False) (h32: (w=[72,83,69,84])=False) (h33: (w=[72,71,69,84])=False) (h34: (w=[72,68,69,76])=False) (h35: (w=[72,71,69,84,65,76,76])=False) (h36: (w=[72,76,69,78])=False) (h37: (w=[72,73,78,67,82,66,89])=False) (h38: (w=[68,69,76])=False) (h39: (w=[69,88,73,83,84,83])=False) (h40: (w=[84,89,80,69])=False) (h41: (w=[84,84,76])=False) (h42: (w=[80,69,82,83,73,83,84])=False) (h43: (w=[69,88,80,73,82,69])=False) (h44: (w=[69,88,80,73,82,69,65,84])=False) (h45: (w=[82,69,78,65,77,69])=False) (h46: (w=[75,69,89,83])=False) (h47: (w=[68,66,83,73,90,69])=False) (h48: (w=[70,76,85,83,72])=False):Bj w=(0,0,0):=by
 unfold Bj
 simp only[h0,h1,h2,h3,h4,h5,h6,h7,h8,h9,h10,h11,h12,h13,h14,h15,h16,h17,h18,h19,h20,h21,h22,h23,h24,h25,h26,h27,h28,h29,h30,h31,h32,h33,h34,h35,h36,h37,h38,h39,h40,h41,h42,h43,h44,h45,h46,h47,h48,if_false]
theorem Dz (w:Br):Be (ev R) 165 [.d (.str w)]=some (.tup [.d (.int .i64 (Bj w).1), .d (.int .i64 (Bj w).2.1), .d (.int .i64 (Bj w).2.2)]):=Bb fun H=>by
 refine Bh (fn:=f165) rfl rfl ?_
 by_cases h0:w=[71,69,84]
 ·subst h0;exact By7 H
 by_cases h1:w=[83,84,82,76,69,78]
 ·subst h1;exact By8 H
 by_cases h2:w=[73,78,67,82]
 ·subst h2;exact By9 H
 by_cases h3:w=[83,69,84]
 ·subst h3;exact Bza H
 by_cases h4:w=[65,80,80,69,78,68]
 ·subst h4;exact Bzb H
 by_cases h5:w=[73,78,67,82,66,89]
 ·subst h5;exact Bzc H
 by_cases h6:w=[71,69,84,82,65,78,71,69]
 ·subst h6;exact Bzd H
 by_cases h7:w=[76,80,85,83,72]
 ·subst h7;exact Bze H
 by_cases h8:w=[82,80,85,83,72]
 ·subst h8;exact Bzf H
 by_cases h9:w=[76,80,79,80]
 ·subst h9;exact Bzg H
 by_cases h10:w=[82,80,79,80]
 ·subst h10;exact Buz H
 by_cases h11:w=[76,76,69,78]
 ·subst h11;exact Bu0 H
 by_cases h12:w=[76,82,65,78,71,69]
 ·subst h12;exact Bu1 H
 by_cases h13:w=[76,84,82,73,77]
 ·subst h13;exact Bu2 H
 by_cases h14:w=[76,83,69,84]
 ·subst h14;exact Bu3 H
 by_cases h15:w=[76,82,69,77]
 ·subst h15;exact Bu4 H
 by_cases h16:w=[83,65,68,68]
 ·subst h16;exact Bu5 H
 by_cases h17:w=[83,82,69,77]
 ·subst h17;exact Bu6 H
 by_cases h18:w=[83,77,69,77,66,69,82,83]
 ·subst h18;exact Bu7 H
 by_cases h19:w=[83,67,65,82,68]
 ·subst h19;exact Bu8 H
 by_cases h20:w=[83,73,83,77,69,77,66,69,82]
 ·subst h20;exact Bu9 H
 by_cases h21:w=[83,73,78,84,69,82]
 ·subst h21;exact Bva H
 by_cases h22:w=[83,85,78,73,79,78]
 ·subst h22;exact Bvb H
 by_cases h23:w=[83,68,73,70,70]
 ·subst h23;exact Bvc H
 by_cases h24:w=[90,65,68,68]
 ·subst h24;exact Bvd H
 by_cases h25:w=[90,73,78,67,82,66,89]
 ·subst h25;exact Bve H
 by_cases h26:w=[90,82,65,78,71,69]
 ·subst h26;exact Bvf H
 by_cases h27:w=[90,82,65,78,71,69,66,89,83,67,79,82,69]
 ·subst h27;exact Bvg H
 by_cases h28:w=[90,82,69,77]
 ·subst h28;exact Bvh H
 by_cases h29:w=[90,83,67,79,82,69]
 ·subst h29;exact Bvi H
 by_cases h30:w=[90,82,65,78,75]
 ·subst h30;exact Bvj H
 by_cases h31:w=[90,67,65,82,68]
 ·subst h31;exact Bvk H
 by_cases h32:w=[72,83,69,84]
 ·subst h32;exact Bvl H
 by_cases h33:w=[72,71,69,84]
 ·subst h33;exact Bvm H
 by_cases h34:w=[72,68,69,76]
 ·subst h34;exact Bvn H
 by_cases h35:w=[72,71,69,84,65,76,76]
 ·subst h35;exact Bvo H
 by_cases h36:w=[72,76,69,78]
 ·subst h36;exact Bvp H
 by_cases h37:w=[72,73,78,67,82,66,89]
 ·subst h37;exact Bvq H
 by_cases h38:w=[68,69,76]
 ·subst h38;exact Bvr H
 by_cases h39:w=[69,88,73,83,84,83]
 ·subst h39;exact Bvs H
 by_cases h40:w=[84,89,80,69]
 ·subst h40;exact Bvt H
 by_cases h41:w=[84,84,76]
 ·subst h41;exact Bvu H
 by_cases h42:w=[80,69,82,83,73,83,84]
 ·subst h42;exact Bvv H
 by_cases h43:w=[69,88,80,73,82,69]
 ·subst h43;exact Bvw H
 by_cases h44:w=[69,88,80,73,82,69,65,84]
 ·subst h44;exact Bvx H
 by_cases h45:w=[82,69,78,65,77,69]
 ·subst h45;exact Bvy H
 by_cases h46:w=[75,69,89,83]
 ·subst h46;exact Bvz H
 by_cases h47:w=[68,66,83,73,90,69]
 ·subst h47;exact Bv0 H
 by_cases h48:w=[70,76,85,83,72]
 ·subst h48;exact Bv1 H
 rw[Bjz w (eq_false h0) (eq_false h1) (eq_false h2) (eq_false h3) (eq_false h4) (eq_false h5) (eq_false h6) (eq_false h7) (eq_false h8) (eq_false h9) (eq_false h10) (eq_false h11) (eq_false h12) (eq_false h13) (eq_false h14) (eq_false h15) (eq_false h16) (eq_false h17) (eq_false h18) (eq_false h19) (eq_false h20) (eq_false h21) (eq_false h22) (eq_false h23) (eq_false h24) (eq_false h25) (eq_false h26) (eq_false h27) (eq_false h28) (eq_false h29) (eq_false h30) (eq_false h31) (eq_false h32) (eq_false h33) (eq_false h34) (eq_false h35) (eq_false h36) (eq_false h37) (eq_false h38) (eq_false h39) (eq_false h40) (eq_false h41) (eq_false h42) (eq_false h43) (eq_false h44) (eq_false h45) (eq_false h46) (eq_false h47) (eq_false h48)]
 exact Bv2 H w (eq_false h0) (eq_false h1) (eq_false h2) (eq_false h3) (eq_false h4) (eq_false h5) (eq_false h6) (eq_false h7) (eq_false h8) (eq_false h9) (eq_false h10) (eq_false h11) (eq_false h12) (eq_false h13) (eq_false h14) (eq_false h15) (eq_false h16) (eq_false h17) (eq_false h18) (eq_false h19) (eq_false h20) (eq_false h21) (eq_false h22) (eq_false h23) (eq_false h24) (eq_false h25) (eq_false h26) (eq_false h27) (eq_false h28) (eq_false h29) (eq_false h30) (eq_false h31) (eq_false h32) (eq_false h33) (eq_false h34) (eq_false h35) (eq_false h36) (eq_false h37) (eq_false h38) (eq_false h39) (eq_false h40) (eq_false h41) (eq_false h42) (eq_false h43) (eq_false h44) (eq_false h45) (eq_false h46) (eq_false h47) (eq_false h48)
end Go.Proofs.YtpajcoanfkeibaaGreatDoor.Code
