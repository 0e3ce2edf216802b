/- The functions of these laws as compact code, and that it is the given code. -/
import Derived.Test.YtpmphmpaeooeeaaDoorE30
import Derived.Test.YtpmphmpaeooeeaaDoorShelf2
import Derived.Test.YtpmphmpaeooeeaaDoorChecked
import Derived.KernelRfl
import Derived.Test.YtpmphmpaeooeeaaDoorE26
namespace Go.Proofs.YtpmphmpaeooeeaaDoor.Code
open Go Go.Ev Go.Proofs
/- laws.FnExactRecordGet -/
def f5 : AFunc := { np := 1, nt := 82, res := [.tmp 2], own := false, body := (.seq (.reg false [⟨some 2, none, .mv (.c (.bool false))⟩]) [0]
 (.seq (.seq (.reg false [⟨some 14, none, .mv (.t 0)⟩,
  ⟨some 15, none, .len true (.t 14)⟩,
  ⟨some 16, none, .bin .gtr .val (.t 15) (.c (.int .i64 (1048576)))⟩]) [0, 16]
 (.cond (.t 16) (.seq (.reg false [⟨some 2, none, .mv (.c (.bool true))⟩]) [2]
 (.ret)) (.skip))) [0]
 (.seq (.reg false [⟨some 18, none, .mv (.t 0)⟩,
  ⟨some 19, none, .pcall (.f 19) [.t 18]⟩,
  ⟨some 17, none, .mv (.t 19)⟩,
  ⟨some 20, none, .extract (.t 17) 0⟩,
  ⟨some 21, none, .extract (.t 17) 1⟩,
  ⟨some 22, none, .extract (.t 17) 2⟩,
  ⟨some 3, none, .mv (.t 20)⟩,
  ⟨some 4, none, .mv (.t 21)⟩,
  ⟨some 5, none, .mv (.t 22)⟩]) [0, 3, 4, 5]
 (.seq (.reg false [⟨some 24, none, .mv (.t 0)⟩,
  ⟨some 25, none, .call (.f 20) [(false, .t 24)] false⟩,
  ⟨some 23, none, .mv (.t 25)⟩,
  ⟨some 26, none, .extract (.t 23) 0⟩,
  ⟨some 27, none, .extract (.t 23) 1⟩,
  ⟨some 28, none, .extract (.t 23) 2⟩,
  ⟨some 6, none, .mv (.t 26)⟩,
  ⟨some 7, none, .mv (.t 27)⟩,
  ⟨some 8, none, .mv (.t 28)⟩]) [0, 3, 4, 5, 6, 7, 8]
 (.seq (.seq (.reg false [⟨some 29, none, .mv (.t 6)⟩,
  ⟨some 30, none, .mv (.t 3)⟩,
  ⟨some 31, none, .bin .neq .val (.t 29) (.t 30)⟩,
  ⟨some 32, none, .mv (.t 31)⟩,
  ⟨some 33, some (32, false), .mv (.t 7)⟩,
  ⟨some 34, some (32, false), .mv (.t 4)⟩,
  ⟨some 35, some (32, false), .pcall (.f 11) [.t 33, .t 34]⟩,
  ⟨some 36, some (32, false), .un .not (.t 35)⟩,
  ⟨some 37, none, .pick (.t 32) (.c (.bool true)) (.t 36)⟩,
  ⟨some 38, none, .mv (.t 37)⟩,
  ⟨some 39, some (38, false), .mv (.t 8)⟩,
  ⟨some 40, some (38, false), .mv (.t 5)⟩,
  ⟨some 41, some (38, false), .bin .neq .val (.t 39) (.t 40)⟩,
  ⟨some 42, none, .pick (.t 38) (.c (.bool true)) (.t 41)⟩]) [0, 3, 4, 5, 7, 42]
 (.cond (.t 42) (.seq (.reg false [⟨some 2, none, .mv (.c (.bool false))⟩]) [2]
 (.ret)) (.skip))) [0, 3, 4, 5, 7]
 (.seq (.reg false [⟨some 9, none, .mv (.c (.int .i64 (1)))⟩]) [0, 3, 4, 5, 7, 9]
 (.seq (.reg false [⟨some 43, none, .mv (.t 7)⟩,
  ⟨some 44, none, .mv (.t 9)⟩,
  ⟨some 45, none, .call (.f 21) [(false, .t 43), (false, .t 44)] false⟩,
  ⟨some 9, none, .mv (.t 45)⟩]) [0, 3, 4, 5, 7, 9]
 (.seq (.reg false [⟨some 10, none, .mv (.c (.int .i64 (1)))⟩]) [0, 3, 4, 5, 7, 9, 10]
 (.seq (.reg false [⟨some 46, none, .mv (.t 7)⟩,
  ⟨some 47, none, .mv (.t 10)⟩,
  ⟨some 48, none, .pcall (.f 22) [.t 46, .t 47]⟩,
  ⟨some 10, none, .mv (.t 48)⟩]) [0, 3, 4, 5, 7, 9, 10]
 (.seq (.seq (.reg false [⟨some 49, none, .mv (.t 10)⟩,
  ⟨some 50, none, .bin .lss .val (.t 49) (.c (.int .i64 (0)))⟩]) [0, 3, 4, 5, 7, 9, 10, 50]
 (.cond (.t 50) (.seq (.reg false [⟨some 2, none, .mv (.c (.bool false))⟩]) [2]
 (.ret)) (.skip))) [0, 3, 4, 5, 7, 9, 10]
 (.seq (.seq (.reg false [⟨some 51, none, .mv (.t 10)⟩,
  ⟨some 52, none, .mv (.t 9)⟩,
  ⟨some 53, none, .bin .neq .val (.t 51) (.t 52)⟩]) [0, 3, 4, 5, 7, 9, 53]
 (.cond (.t 53) (.seq (.reg false [⟨some 2, none, .mv (.c (.bool false))⟩]) [2]
 (.ret)) (.skip))) [0, 3, 4, 5, 7, 9]
 (.seq (.reg false [⟨some 55, none, .mv (.t 0)⟩,
  ⟨some 56, none, .call (.f 20) [(false, .t 55)] false⟩,
  ⟨some 54, none, .mv (.t 56)⟩,
  ⟨some 57, none, .extract (.t 54) 0⟩,
  ⟨some 58, none, .extract (.t 54) 1⟩,
  ⟨some 59, none, .extract (.t 54) 2⟩,
  ⟨some 11, none, .mv (.t 57)⟩,
  ⟨some 12, none, .mv (.t 58)⟩,
  ⟨some 13, none, .mv (.t 59)⟩]) [3, 4, 5, 7, 9, 11, 12, 13]
 (.seq (.seq (.reg false [⟨some 60, none, .mv (.t 11)⟩,
  ⟨some 61, none, .mv (.t 3)⟩,
  ⟨some 62, none, .bin .neq .val (.t 60) (.t 61)⟩,
  ⟨some 63, none, .mv (.t 62)⟩,
  ⟨some 64, some (63, false), .mv (.t 12)⟩,
  ⟨some 65, some (63, false), .mv (.t 4)⟩,
  ⟨some 66, some (63, false), .pcall (.f 11) [.t 64, .t 65]⟩,
  ⟨some 67, some (63, false), .un .not (.t 66)⟩,
  ⟨some 68, none, .pick (.t 63) (.c (.bool true)) (.t 67)⟩,
  ⟨some 69, none, .mv (.t 68)⟩,
  ⟨some 70, some (69, false), .mv (.t 13)⟩,
  ⟨some 71, some (69, false), .mv (.t 5)⟩,
  ⟨some 72, some (69, false), .bin .neq .val (.t 70) (.t 71)⟩,
  ⟨some 73, none, .pick (.t 69) (.c (.bool true)) (.t 72)⟩]) [7, 9, 73]
 (.cond (.t 73) (.seq (.reg false [⟨some 2, none, .mv (.c (.bool false))⟩]) [2]
 (.ret)) (.skip))) [7, 9]
 (.seq (.reg false [⟨some 10, none, .mv (.c (.int .i64 (1)))⟩]) [7, 9, 10]
 (.seq (.reg false [⟨some 74, none, .mv (.t 7)⟩,
  ⟨some 75, none, .mv (.t 10)⟩,
  ⟨some 76, none, .pcall (.f 22) [.t 74, .t 75]⟩,
  ⟨some 10, none, .mv (.t 76)⟩]) [9, 10]
 (.seq (.seq (.reg false [⟨some 77, none, .mv (.t 10)⟩,
  ⟨some 78, none, .bin .lss .val (.t 77) (.c (.int .i64 (0)))⟩]) [9, 10, 78]
 (.cond (.t 78) (.seq (.reg false [⟨some 2, none, .mv (.c (.bool false))⟩]) [2]
 (.ret)) (.skip))) [9, 10]
 (.seq (.seq (.reg false [⟨some 79, none, .mv (.t 10)⟩,
  ⟨some 80, none, .mv (.t 9)⟩,
  ⟨some 81, none, .bin .neq .val (.t 79) (.t 80)⟩]) [81]
 (.cond (.t 81) (.seq (.reg false [⟨some 2, none, .mv (.c (.bool false))⟩]) [2]
 (.ret)) (.skip))) []
 (.seq (.reg false [⟨some 2, none, .mv (.c (.bool true))⟩]) [2]
 (.ret))))))))))))))))))) }
/- laws.eqStringSS -/
def f11l0 : ACode := (.seq (.seq (.reg false [⟨some 11, none, .mv (.t 5)⟩,
  ⟨some 12, none, .mv (.t 0)⟩,
  ⟨some 13, none, .len false (.t 12)⟩,
  ⟨some 14, none, .bin .lss .val (.t 11) (.t 13)⟩]) [0, 1, 5, 14]
 (.cond (.t 14) (.skip) (.exit 0))) [0, 1, 5]
 (.seq (.block 1 (.seq (.reg true [⟨some 17, none, .mv (.t 0)⟩,
  ⟨some 18, none, .mv (.t 5)⟩,
  ⟨some 19, none, .iaddr 1 (.t 17) (.t 18)⟩,
  ⟨some 20, none, .load false 1 (.t 19)⟩,
  ⟨some 21, none, .mv (.t 1)⟩,
  ⟨some 22, none, .mv (.t 5)⟩,
  ⟨some 23, none, .iaddr 1 (.t 21) (.t 22)⟩,
  ⟨some 24, none, .load false 1 (.t 23)⟩,
  ⟨some 25, none, .pcall (.f 37) [.t 20, .t 24]⟩,
  ⟨some 26, none, .un .not (.t 25)⟩]) [0, 1, 5, 26]
 (.cond (.t 26) (.seq (.reg false [⟨some 4, none, .mv (.c (.bool false))⟩]) [4]
 (.ret)) (.skip)))) [0, 1, 5]
 (.reg false [⟨some 15, none, .mv (.t 5)⟩,
  ⟨some 16, none, .bin .add .val (.t 15) (.c (.int .i64 (1)))⟩,
  ⟨some 5, none, .mv (.t 16)⟩])))
def f11 : AFunc := { np := 2, nt := 27, res := [.tmp 4], own := false, body := (.seq (.reg false [⟨some 4, none, .mv (.c (.bool false))⟩]) [0, 1]
 (.seq (.seq (.reg false [⟨some 6, none, .mv (.t 0)⟩,
  ⟨some 7, none, .len false (.t 6)⟩,
  ⟨some 8, none, .mv (.t 1)⟩,
  ⟨some 9, none, .len false (.t 8)⟩,
  ⟨some 10, none, .bin .neq .val (.t 7) (.t 9)⟩]) [0, 1, 10]
 (.cond (.t 10) (.seq (.reg false [⟨some 4, none, .mv (.c (.bool false))⟩]) [4]
 (.ret)) (.skip))) [0, 1]
 (.seq (.seq (.reg false [⟨some 5, none, .mv (.c (.int .i64 (0)))⟩]) [0, 1, 5]
 (.block 0 (.loop [0, 1, 5] f11l0))) []
 (.seq (.reg false [⟨some 4, none, .mv (.c (.bool true))⟩]) [4]
 (.ret))))) }
/- impl.OrderGet -/
def f16l0 : ACode := (.seq (.seq (.reg false [⟨some 15, none, .mv (.t 7)⟩,
  ⟨some 16, none, .mv (.t 5)⟩,
  ⟨some 17, none, .bin .lss .val (.t 15) (.t 16)⟩,
  ⟨some 18, none, .mv (.t 17)⟩,
  ⟨some 19, some (18, true), .mv (.t 4)⟩,
  ⟨some 20, some (18, true), .nilck (.t 19)⟩,
  ⟨some 21, some (18, true), .faddr 2 (.t 20)⟩,
  ⟨some 22, some (18, true), .load false 1 (.t 21)⟩,
  ⟨some 23, some (18, true), .un .not (.t 22)⟩,
  ⟨some 24, none, .pick (.t 18) (.t 23) (.c (.bool false))⟩,
  ⟨some 25, none, .mv (.t 24)⟩,
  ⟨some 26, some (25, true), .mv (.t 4)⟩,
  ⟨some 27, some (25, true), .nilck (.t 26)⟩,
  ⟨some 28, some (25, true), .faddr 3 (.t 27)⟩,
  ⟨some 29, some (25, true), .load false 1 (.t 28)⟩,
  ⟨some 30, some (25, true), .un .not (.t 29)⟩,
  ⟨some 31, none, .pick (.t 25) (.t 30) (.c (.bool false))⟩]) [0, 4, 5, 6, 7, 31]
 (.cond (.t 31) (.skip) (.exit 0))) [0, 4, 5, 6, 7]
 (.seq (.block 1 (.seq (.reg false [⟨some 34, none, .mv (.t 4)⟩,
  ⟨some 35, none, .call (.f 47) [(false, .t 34), (false, .c (.int .u8 (36))), (false, .c (.int .i64 (0))), (false, .c (.int .i64 (40)))] false⟩,
  ⟨some 8, none, .mv (.t 35)⟩]) [0, 4, 5, 6, 7, 8]
 (.seq (.seq (.reg false [⟨some 36, none, .mv (.t 4)⟩,
  ⟨some 37, none, .nilck (.t 36)⟩,
  ⟨some 38, none, .faddr 2 (.t 37)⟩,
  ⟨some 39, none, .load false 1 (.t 38)⟩,
  ⟨some 40, none, .mv (.t 39)⟩,
  ⟨some 41, some (40, false), .mv (.t 4)⟩,
  ⟨some 42, some (40, false), .nilck (.t 41)⟩,
  ⟨some 43, some (40, false), .faddr 3 (.t 42)⟩,
  ⟨some 44, some (40, false), .load false 1 (.t 43)⟩,
  ⟨some 45, none, .pick (.t 40) (.c (.bool true)) (.t 44)⟩]) [0, 4, 5, 6, 7, 8, 45]
 (.cond (.t 45) (.exit 0) (.skip))) [0, 4, 5, 6, 7, 8]
 (.seq (.seq (.reg false [⟨some 46, none, .mv (.t 0)⟩,
  ⟨some 47, none, .len true (.t 46)⟩,
  ⟨some 48, none, .mv (.t 4)⟩,
  ⟨some 49, none, .nilck (.t 48)⟩,
  ⟨some 50, none, .faddr 1 (.t 49)⟩,
  ⟨some 51, none, .load false 1 (.t 50)⟩,
  ⟨some 52, none, .bin .sub .val (.t 47) (.t 51)⟩,
  ⟨some 53, none, .mv (.t 8)⟩,
  ⟨some 54, none, .bin .lss .val (.t 52) (.t 53)⟩]) [0, 4, 5, 6, 7, 8, 54]
 (.cond (.t 54) (.seq (.reg false [⟨some 55, none, .mv (.t 4)⟩,
  ⟨some 56, none, .nilck (.t 55)⟩,
  ⟨some 57, none, .faddr 2 (.t 56)⟩,
  ⟨none, none, .store 1 (.t 57) (.c (.bool true))⟩]) [4, 6]
 (.exit 0)) (.skip))) [0, 4, 5, 6, 7, 8]
 (.seq (.reg true [⟨some 58, none, .mv (.t 6)⟩,
  ⟨some 59, none, .mv (.t 0)⟩,
  ⟨some 60, none, .mv (.t 4)⟩,
  ⟨some 61, none, .nilck (.t 60)⟩,
  ⟨some 62, none, .faddr 1 (.t 61)⟩,
  ⟨some 63, none, .load false 1 (.t 62)⟩,
  ⟨some 64, none, .mv (.t 4)⟩,
  ⟨some 65, none, .nilck (.t 64)⟩,
  ⟨some 66, none, .faddr 1 (.t 65)⟩,
  ⟨some 67, none, .load false 1 (.t 66)⟩,
  ⟨some 68, none, .mv (.t 8)⟩,
  ⟨some 69, none, .bin .add .val (.t 67) (.t 68)⟩,
  ⟨some 70, none, .slice none (.t 59) (some (.t 63)) (some (.t 69))⟩,
  ⟨some 71, none, .lit false 1 [.t 70]⟩,
  ⟨some 72, none, .append 1 16 (.t 58) (.t 71)⟩,
  ⟨some 6, none, .mv (.t 72)⟩]) [0, 4, 5, 6, 7, 8]
 (.seq (.reg false [⟨some 73, none, .mv (.t 4)⟩,
  ⟨some 74, none, .nilck (.t 73)⟩,
  ⟨some 75, none, .faddr 1 (.t 74)⟩,
  ⟨some 76, none, .load false 1 (.t 75)⟩,
  ⟨some 77, none, .mv (.t 8)⟩,
  ⟨some 78, none, .bin .add .val (.t 76) (.t 77)⟩,
  ⟨some 79, none, .nilck (.t 73)⟩,
  ⟨some 80, none, .faddr 1 (.t 79)⟩,
  ⟨none, none, .store 1 (.t 80) (.t 78)⟩]) [0, 4, 5, 6, 7]
 (.seq (.reg false [⟨some 81, none, .mv (.t 4)⟩,
  ⟨some 82, none, .call (.f 48) [(false, .t 81), (false, .c (.int .u8 (13)))] false⟩]) [0, 4, 5, 6, 7]
 (.reg false [⟨some 83, none, .mv (.t 4)⟩,
  ⟨some 84, none, .call (.f 48) [(false, .t 83), (false, .c (.int .u8 (10)))] false⟩])))))))) [0, 4, 5, 6, 7]
 (.reg false [⟨some 32, none, .mv (.t 7)⟩,
  ⟨some 33, none, .bin .add .val (.t 32) (.c (.int .i64 (1)))⟩,
  ⟨some 7, none, .mv (.t 33)⟩])))
def f16 : AFunc := { np := 1, nt := 102, res := [.tmp 2, .tmp 3], own := true, body := (.seq (.reg false [⟨some 2, none, .mv (.nil 1)⟩,
  ⟨some 3, none, .mv (.c (.int .i64 (0)))⟩]) [0]
 (.seq (.reg false [⟨some 9, none, .mv (.t 0)⟩,
  ⟨some 10, none, .build [.d (.str []), .d (.int .i64 (0)), .d (.bool false), .d (.bool false)] [(0, 1, .t 9)]⟩,
  ⟨some 11, none, .box (.t 10)⟩,
  ⟨some 4, none, .mv (.t 11)⟩]) [0, 4]
 (.seq (.reg false [⟨some 12, none, .mv (.t 4)⟩,
  ⟨some 13, none, .call (.f 47) [(false, .t 12), (false, .c (.int .u8 (42))), (false, .c (.int .i64 (1))), (false, .c (.int .i64 (8)))] false⟩,
  ⟨some 5, none, .mv (.t 13)⟩]) [0, 4, 5]
 (.seq (.reg false [⟨some 14, none, .lit true 1 []⟩,
  ⟨some 6, none, .mv (.t 14)⟩]) [0, 4, 5, 6]
 (.seq (.seq (.reg false [⟨some 7, none, .mv (.c (.int .i64 (0)))⟩]) [0, 4, 5, 6, 7]
 (.block 0 (.loop [0, 4, 5, 6, 7] f16l0))) [4, 6]
 (.seq (.block 2 (.seq (.reg false [⟨some 86, none, .mv (.t 4)⟩,
  ⟨some 87, none, .nilck (.t 86)⟩,
  ⟨some 88, none, .faddr 3 (.t 87)⟩,
  ⟨some 89, none, .load false 1 (.t 88)⟩,
  ⟨some 85, none, .mv (.t 89)⟩]) [4, 6, 85]
 (.cond (.t 85) (.seq (.reg false [⟨some 90, none, .lit false 1 []⟩,
  ⟨some 2, none, .mv (.t 90)⟩,
  ⟨some 3, none, .mv (.c (.int .i64 (-1)))⟩]) [2, 3]
 (.ret)) (.seq (.reg false [⟨some 92, none, .mv (.t 4)⟩,
  ⟨some 93, none, .nilck (.t 92)⟩,
  ⟨some 94, none, .faddr 2 (.t 93)⟩,
  ⟨some 95, none, .load false 1 (.t 94)⟩,
  ⟨some 91, none, .mv (.t 95)⟩]) [4, 6, 91]
 (.cond (.t 91) (.seq (.reg false [⟨some 96, none, .lit false 1 []⟩,
  ⟨some 2, none, .mv (.t 96)⟩,
  ⟨some 3, none, .mv (.c (.int .i64 (0)))⟩]) [2, 3]
 (.ret)) (.skip)))))) [4, 6]
 (.seq (.reg true [⟨some 97, none, .mv (.t 6)⟩,
  ⟨some 98, none, .mv (.t 4)⟩,
  ⟨some 99, none, .nilck (.t 98)⟩,
  ⟨some 100, none, .faddr 1 (.t 99)⟩,
  ⟨some 101, none, .load false 1 (.t 100)⟩,
  ⟨some 2, none, .mv (.t 97)⟩,
  ⟨some 3, none, .mv (.t 101)⟩]) [2, 3]
 (.ret)))))))) }
/- spec.OrderGet -/
def f18l0 : ACode := (.seq (.seq (.reg false [⟨some 23, none, .mv (.t 8)⟩,
  ⟨some 24, none, .mv (.t 4)⟩,
  ⟨some 25, none, .bin .lss .val (.t 23) (.t 24)⟩]) [0, 4, 5, 7, 8, 25]
 (.cond (.t 25) (.skip) (.exit 0))) [0, 4, 5, 7, 8]
 (.seq (.block 1 (.seq (.reg false [⟨some 29, none, .mv (.t 5)⟩,
  ⟨some 30, none, .pcall (.f 49) [.t 29, .c (.int .u8 (36)), .c (.int .i64 (0)), .c (.int .i64 (40))]⟩,
  ⟨some 28, none, .mv (.t 30)⟩,
  ⟨some 31, none, .extract (.t 28) 0⟩,
  ⟨some 32, none, .extract (.t 28) 1⟩,
  ⟨some 33, none, .extract (.t 28) 2⟩,
  ⟨some 9, none, .mv (.t 31)⟩,
  ⟨some 10, none, .mv (.t 32)⟩,
  ⟨some 11, none, .mv (.t 33)⟩]) [0, 4, 7, 8, 9, 10, 11]
 (.seq (.seq (.reg false [⟨some 34, none, .mv (.t 11)⟩,
  ⟨some 35, none, .bin .lss .val (.t 34) (.c (.int .i64 (1)))⟩]) [0, 4, 7, 8, 9, 10, 11, 35]
 (.cond (.t 35) (.seq (.reg false [⟨some 36, none, .lit false 1 []⟩,
  ⟨some 37, none, .mv (.t 11)⟩,
  ⟨some 2, none, .mv (.t 36)⟩,
  ⟨some 3, none, .mv (.t 37)⟩]) [2, 3]
 (.ret)) (.skip))) [0, 4, 7, 8, 9, 10]
 (.seq (.seq (.reg false [⟨some 38, none, .mv (.t 10)⟩,
  ⟨some 39, none, .len true (.t 38)⟩,
  ⟨some 40, none, .mv (.t 9)⟩,
  ⟨some 41, none, .bin .gtr .val (.t 39) (.t 40)⟩,
  ⟨some 42, none, .mv (.t 41)⟩,
  ⟨some 43, some (42, true), .mv (.t 10)⟩,
  ⟨some 44, some (42, true), .mv (.t 9)⟩,
  ⟨some 45, some (42, true), .idx (.t 43) (.t 44)⟩,
  ⟨some 46, some (42, true), .bin .neq .val (.t 45) (.c (.int .u8 (13)))⟩,
  ⟨some 47, none, .pick (.t 42) (.t 46) (.c (.bool false))⟩,
  ⟨some 48, none, .mv (.t 47)⟩,
  ⟨some 49, some (48, false), .mv (.t 10)⟩,
  ⟨some 50, some (48, false), .len true (.t 49)⟩,
  ⟨some 51, some (48, false), .mv (.t 9)⟩,
  ⟨some 52, some (48, false), .bin .add .val (.t 51) (.c (.int .i64 (1)))⟩,
  ⟨some 53, some (48, false), .bin .gtr .val (.t 50) (.t 52)⟩,
  ⟨some 54, some (48, false), .mv (.t 53)⟩,
  ⟨some 55, some (54, true), .mv (.t 10)⟩,
  ⟨some 56, some (54, true), .mv (.t 9)⟩,
  ⟨some 57, some (54, true), .bin .add .val (.t 56) (.c (.int .i64 (1)))⟩,
  ⟨some 58, some (54, true), .idx (.t 55) (.t 57)⟩,
  ⟨some 59, some (54, true), .bin .neq .val (.t 58) (.c (.int .u8 (10)))⟩,
  ⟨some 60, some (48, false), .pick (.t 54) (.t 59) (.c (.bool false))⟩,
  ⟨some 61, none, .pick (.t 48) (.c (.bool true)) (.t 60)⟩]) [0, 4, 7, 8, 9, 10, 61]
 (.cond (.t 61) (.seq (.reg false [⟨some 62, none, .lit false 1 []⟩,
  ⟨some 2, none, .mv (.t 62)⟩,
  ⟨some 3, none, .mv (.c (.int .i64 (-1)))⟩]) [2, 3]
 (.ret)) (.skip))) [0, 4, 7, 8, 9, 10]
 (.seq (.seq (.reg false [⟨some 63, none, .mv (.t 10)⟩,
  ⟨some 64, none, .len true (.t 63)⟩,
  ⟨some 65, none, .mv (.t 9)⟩,
  ⟨some 66, none, .bin .add .val (.t 65) (.c (.int .i64 (2)))⟩,
  ⟨some 67, none, .bin .lss .val (.t 64) (.t 66)⟩]) [0, 4, 7, 8, 9, 10, 67]
 (.cond (.t 67) (.seq (.reg false [⟨some 68, none, .lit false 1 []⟩,
  ⟨some 2, none, .mv (.t 68)⟩,
  ⟨some 3, none, .mv (.c (.int .i64 (0)))⟩]) [2, 3]
 (.ret)) (.skip))) [0, 4, 7, 8, 9, 10]
 (.seq (.reg false [⟨some 69, none, .mv (.t 7)⟩,
  ⟨some 70, none, .mv (.t 10)⟩,
  ⟨some 71, none, .mv (.t 9)⟩,
  ⟨some 72, none, .slice none (.t 70) none (some (.t 71))⟩,
  ⟨some 73, none, .lit false 1 [.t 72]⟩,
  ⟨some 74, none, .append 1 16 (.t 69) (.t 73)⟩,
  ⟨some 7, none, .mv (.t 74)⟩]) [0, 4, 7, 8, 9, 10]
 (.reg false [⟨some 75, none, .mv (.t 10)⟩,
  ⟨some 76, none, .mv (.t 9)⟩,
  ⟨some 77, none, .bin .add .val (.t 76) (.c (.int .i64 (2)))⟩,
  ⟨some 78, none, .slice none (.t 75) (some (.t 77)) none⟩,
  ⟨some 5, none, .mv (.t 78)⟩]))))))) [0, 4, 5, 7, 8]
 (.reg false [⟨some 26, none, .mv (.t 8)⟩,
  ⟨some 27, none, .bin .add .val (.t 26) (.c (.int .i64 (1)))⟩,
  ⟨some 8, none, .mv (.t 27)⟩])))
def f18 : AFunc := { np := 1, nt := 85, res := [.tmp 2, .tmp 3], own := false, body := (.seq (.reg false [⟨some 2, none, .mv (.nil 1)⟩,
  ⟨some 3, none, .mv (.c (.int .i64 (0)))⟩]) [0]
 (.seq (.reg false [⟨some 13, none, .mv (.t 0)⟩,
  ⟨some 14, none, .pcall (.f 49) [.t 13, .c (.int .u8 (42)), .c (.int .i64 (1)), .c (.int .i64 (8))]⟩,
  ⟨some 12, none, .mv (.t 14)⟩,
  ⟨some 15, none, .extract (.t 12) 0⟩,
  ⟨some 16, none, .extract (.t 12) 1⟩,
  ⟨some 17, none, .extract (.t 12) 2⟩,
  ⟨some 4, none, .mv (.t 15)⟩,
  ⟨some 5, none, .mv (.t 16)⟩,
  ⟨some 6, none, .mv (.t 17)⟩]) [0, 4, 5, 6]
 (.seq (.seq (.reg false [⟨some 18, none, .mv (.t 6)⟩,
  ⟨some 19, none, .bin .lss .val (.t 18) (.c (.int .i64 (1)))⟩]) [0, 4, 5, 6, 19]
 (.cond (.t 19) (.seq (.reg false [⟨some 20, none, .lit false 1 []⟩,
  ⟨some 21, none, .mv (.t 6)⟩,
  ⟨some 2, none, .mv (.t 20)⟩,
  ⟨some 3, none, .mv (.t 21)⟩]) [2, 3]
 (.ret)) (.skip))) [0, 4, 5]
 (.seq (.reg false [⟨some 22, none, .lit true 1 []⟩,
  ⟨some 7, none, .mv (.t 22)⟩]) [0, 4, 5, 7]
 (.seq (.seq (.reg false [⟨some 8, none, .mv (.c (.int .i64 (0)))⟩]) [0, 4, 5, 7, 8]
 (.block 0 (.loop [0, 4, 5, 7, 8] f18l0))) [0, 5, 7]
 (.seq (.reg false [⟨some 79, none, .mv (.t 7)⟩,
  ⟨some 80, none, .mv (.t 0)⟩,
  ⟨some 81, none, .len true (.t 80)⟩,
  ⟨some 82, none, .mv (.t 5)⟩,
  ⟨some 83, none, .len true (.t 82)⟩,
  ⟨some 84, none, .bin .sub .val (.t 81) (.t 83)⟩,
  ⟨some 2, none, .mv (.t 79)⟩,
  ⟨some 3, none, .mv (.t 84)⟩]) [2, 3]
 (.ret))))))) }
/- spec.RecordGet -/
def f19l0 : ACode := (.seq (.seq (.reg false [⟨some 66, none, .mv (.t 12)⟩,
  ⟨some 67, none, .mv (.t 9)⟩,
  ⟨some 68, none, .bin .lss .val (.t 66) (.t 67)⟩]) [0, 6, 7, 9, 11, 12, 68]
 (.cond (.t 68) (.skip) (.exit 0))) [0, 6, 7, 9, 11, 12]
 (.seq (.block 1 (.seq (.reg false [⟨some 72, none, .mv (.t 0)⟩,
  ⟨some 73, none, .mv (.t 6)⟩,
  ⟨some 74, none, .slice none (.t 72) (some (.t 73)) none⟩,
  ⟨some 75, none, .pcall (.f 18) [.t 74]⟩,
  ⟨some 71, none, .mv (.t 75)⟩,
  ⟨some 76, none, .extract (.t 71) 0⟩,
  ⟨some 77, none, .extract (.t 71) 1⟩,
  ⟨some 13, none, .mv (.t 76)⟩,
  ⟨some 14, none, .mv (.t 77)⟩]) [0, 6, 7, 9, 11, 12, 13, 14]
 (.seq (.seq (.reg false [⟨some 78, none, .mv (.t 14)⟩,
  ⟨some 79, none, .bin .lss .val (.t 78) (.c (.int .i64 (1)))⟩]) [0, 6, 7, 9, 11, 12, 13, 14, 79]
 (.cond (.t 79) (.seq (.reg false [⟨some 80, none, .lit false 1 []⟩,
  ⟨some 2, none, .mv (.c (.int .i64 (0)))⟩,
  ⟨some 3, none, .mv (.t 80)⟩,
  ⟨some 4, none, .mv (.c (.int .i64 (0)))⟩]) [2, 3, 4]
 (.ret)) (.skip))) [0, 6, 7, 9, 11, 12, 13, 14]
 (.seq (.reg false [⟨some 81, none, .mv (.t 11)⟩,
  ⟨some 82, none, .mv (.t 13)⟩,
  ⟨some 83, none, .lit false 1 [.t 82]⟩,
  ⟨some 84, none, .append 1 24 (.t 81) (.t 83)⟩,
  ⟨some 11, none, .mv (.t 84)⟩]) [0, 6, 7, 9, 11, 12, 14]
 (.reg false [⟨some 85, none, .mv (.t 6)⟩,
  ⟨some 86, none, .mv (.t 14)⟩,
  ⟨some 87, none, .bin .add .val (.t 85) (.t 86)⟩,
  ⟨some 6, none, .mv (.t 87)⟩]))))) [0, 6, 7, 9, 11, 12]
 (.reg false [⟨some 69, none, .mv (.t 12)⟩,
  ⟨some 70, none, .bin .add .val (.t 69) (.c (.int .i64 (1)))⟩,
  ⟨some 12, none, .mv (.t 70)⟩])))
def f19 : AFunc := { np := 1, nt := 91, res := [.tmp 2, .tmp 3, .tmp 4], own := false, body := (.seq (.reg false [⟨some 2, none, .mv (.c (.int .i64 (0)))⟩,
  ⟨some 3, none, .mv (.nil 1)⟩,
  ⟨some 4, none, .mv (.c (.int .i64 (0)))⟩]) [0]
 (.seq (.reg false [⟨some 16, none, .mv (.t 0)⟩,
  ⟨some 17, none, .pcall (.f 18) [.t 16]⟩,
  ⟨some 15, none, .mv (.t 17)⟩,
  ⟨some 18, none, .extract (.t 15) 0⟩,
  ⟨some 19, none, .extract (.t 15) 1⟩,
  ⟨some 5, none, .mv (.t 18)⟩,
  ⟨some 6, none, .mv (.t 19)⟩]) [0, 5, 6]
 (.seq (.seq (.reg false [⟨some 20, none, .mv (.t 6)⟩,
  ⟨some 21, none, .bin .lss .val (.t 20) (.c (.int .i64 (1)))⟩,
  ⟨some 22, none, .mv (.t 21)⟩,
  ⟨some 23, some (22, false), .mv (.t 5)⟩,
  ⟨some 24, some (22, false), .len false (.t 23)⟩,
  ⟨some 25, some (22, false), .bin .neq .val (.t 24) (.c (.int .i64 (3)))⟩,
  ⟨some 26, none, .pick (.t 22) (.c (.bool true)) (.t 25)⟩,
  ⟨some 27, none, .mv (.t 26)⟩,
  ⟨some 28, some (27, false), .mv (.t 5)⟩,
  ⟨some 29, some (27, false), .iaddr 1 (.t 28) (.c (.int .i64 (0)))⟩,
  ⟨some 30, some (27, false), .load false 1 (.t 29)⟩,
  ⟨some 31, some (27, false), .bin .neq .val (.t 30) (.c (.str [65, 84]))⟩,
  ⟨some 32, none, .pick (.t 27) (.c (.bool true)) (.t 31)⟩]) [0, 5, 6, 32]
 (.cond (.t 32) (.seq (.reg false [⟨some 33, none, .lit false 1 []⟩,
  ⟨some 2, none, .mv (.c (.int .i64 (0)))⟩,
  ⟨some 3, none, .mv (.t 33)⟩,
  ⟨some 4, none, .mv (.c (.int .i64 (0)))⟩]) [2, 3, 4]
 (.ret)) (.skip))) [0, 5, 6]
 (.seq (.reg false [⟨some 35, none, .mv (.t 5)⟩,
  ⟨some 36, none, .iaddr 1 (.t 35) (.c (.int .i64 (1)))⟩,
  ⟨some 37, none, .load false 1 (.t 36)⟩,
  ⟨some 38, none, .pcall (.f 50) [.t 37]⟩,
  ⟨some 34, none, .mv (.t 38)⟩,
  ⟨some 39, none, .extract (.t 34) 0⟩,
  ⟨some 40, none, .extract (.t 34) 1⟩,
  ⟨some 7, none, .mv (.t 39)⟩,
  ⟨some 8, none, .mv (.t 40)⟩]) [0, 5, 6, 7, 8]
 (.seq (.reg false [⟨some 42, none, .mv (.t 5)⟩,
  ⟨some 43, none, .iaddr 1 (.t 42) (.c (.int .i64 (2)))⟩,
  ⟨some 44, none, .load false 1 (.t 43)⟩,
  ⟨some 45, none, .pcall (.f 50) [.t 44]⟩,
  ⟨some 41, none, .mv (.t 45)⟩,
  ⟨some 46, none, .extract (.t 41) 0⟩,
  ⟨some 47, none, .extract (.t 41) 1⟩,
  ⟨some 9, none, .mv (.t 46)⟩,
  ⟨some 10, none, .mv (.t 47)⟩]) [0, 6, 7, 8, 9, 10]
 (.seq (.seq (.reg false [⟨some 48, none, .mv (.t 8)⟩,
  ⟨some 49, none, .un .not (.t 48)⟩,
  ⟨some 50, none, .mv (.t 49)⟩,
  ⟨some 51, some (50, false), .mv (.t 10)⟩,
  ⟨some 52, some (50, false), .un .not (.t 51)⟩,
  ⟨some 53, none, .pick (.t 50) (.c (.bool true)) (.t 52)⟩,
  ⟨some 54, none, .mv (.t 53)⟩,
  ⟨some 55, some (54, false), .mv (.t 7)⟩,
  ⟨some 56, some (54, false), .pcall (.f 30) [.t 55, .c (.int .i64 (0)), .c (.int .i64 (1000000))]⟩,
  ⟨some 57, some (54, false), .un .not (.t 56)⟩,
  ⟨some 58, none, .pick (.t 54) (.c (.bool true)) (.t 57)⟩,
  ⟨some 59, none, .mv (.t 58)⟩,
  ⟨some 60, some (59, false), .mv (.t 9)⟩,
  ⟨some 61, some (59, false), .pcall (.f 30) [.t 60, .c (.int .i64 (1)), .c (.int .i64 (60))]⟩,
  ⟨some 62, some (59, false), .un .not (.t 61)⟩,
  ⟨some 63, none, .pick (.t 59) (.c (.bool true)) (.t 62)⟩]) [0, 6, 7, 9, 63]
 (.cond (.t 63) (.seq (.reg false [⟨some 64, none, .lit false 1 []⟩,
  ⟨some 2, none, .mv (.c (.int .i64 (0)))⟩,
  ⟨some 3, none, .mv (.t 64)⟩,
  ⟨some 4, none, .mv (.c (.int .i64 (0)))⟩]) [2, 3, 4]
 (.ret)) (.skip))) [0, 6, 7, 9]
 (.seq (.reg false [⟨some 65, none, .lit true 1 []⟩,
  ⟨some 11, none, .mv (.t 65)⟩]) [0, 6, 7, 9, 11]
 (.seq (.seq (.reg false [⟨some 12, none, .mv (.c (.int .i64 (0)))⟩]) [0, 6, 7, 9, 11, 12]
 (.block 0 (.loop [0, 6, 7, 9, 11, 12] f19l0))) [6, 7, 11]
 (.seq (.reg false [⟨some 88, none, .mv (.t 7)⟩,
  ⟨some 89, none, .mv (.t 11)⟩,
  ⟨some 90, none, .mv (.t 6)⟩,
  ⟨some 2, none, .mv (.t 88)⟩,
  ⟨some 3, none, .mv (.t 89)⟩,
  ⟨some 4, none, .mv (.t 90)⟩]) [2, 3, 4]
 (.ret)))))))))) }
/- impl.RecordGet -/
def f20l0 : ACode := (.seq (.reg false [⟨some 67, none, .bin .lss .val (.t 66) (.t 65)⟩]) [0, 6, 7, 11, 65, 66, 67]
 (.seq (.cond (.t 67) (.skip) (.exit 0)) [0, 6, 7, 11, 65, 66]
 (.seq (.block 1 (.seq (.reg false [⟨some 69, none, .mv (.t 0)⟩,
  ⟨some 70, none, .mv (.t 6)⟩,
  ⟨some 71, none, .slice none (.t 69) (some (.t 70)) none⟩,
  ⟨some 72, none, .call (.f 16) [(false, .t 71)] false⟩,
  ⟨some 68, none, .mv (.t 72)⟩,
  ⟨some 73, none, .extract (.t 68) 0⟩,
  ⟨some 74, none, .extract (.t 68) 1⟩,
  ⟨some 12, none, .mv (.t 73)⟩,
  ⟨some 13, none, .mv (.t 74)⟩]) [0, 6, 7, 11, 12, 13, 65, 66]
 (.seq (.seq (.reg false [⟨some 75, none, .mv (.t 13)⟩,
  ⟨some 76, none, .bin .leq .val (.t 75) (.c (.int .i64 (0)))⟩]) [0, 6, 7, 11, 12, 13, 65, 66, 76]
 (.cond (.t 76) (.seq (.reg false [⟨some 77, none, .lit false 1 []⟩,
  ⟨some 2, none, .mv (.c (.int .i64 (0)))⟩,
  ⟨some 3, none, .mv (.t 77)⟩,
  ⟨some 4, none, .mv (.c (.int .i64 (0)))⟩]) [2, 3, 4]
 (.ret)) (.skip))) [0, 6, 7, 11, 12, 13, 65, 66]
 (.seq (.reg false [⟨some 78, none, .mv (.t 11)⟩,
  ⟨some 79, none, .mv (.t 12)⟩,
  ⟨some 80, none, .lit true 1 [.t 79]⟩,
  ⟨some 81, none, .append 1 24 (.t 78) (.t 80)⟩,
  ⟨some 11, none, .mv (.t 81)⟩]) [0, 6, 7, 11, 13, 65, 66]
 (.reg false [⟨some 82, none, .mv (.t 6)⟩,
  ⟨some 83, none, .mv (.t 13)⟩,
  ⟨some 84, none, .bin .add .val (.t 82) (.t 83)⟩,
  ⟨some 6, none, .mv (.t 84)⟩]))))) [0, 6, 7, 11, 65, 66]
 (.reg false [⟨some 85, none, .bin .add .val (.t 66) (.c (.int .i64 (1)))⟩,
  ⟨some 66, none, .mv (.t 85)⟩]))))
def f20 : AFunc := { np := 1, nt := 89, res := [.tmp 2, .tmp 3, .tmp 4], own := true, body := (.seq (.reg false [⟨some 2, none, .mv (.c (.int .i64 (0)))⟩,
  ⟨some 3, none, .mv (.nil 1)⟩,
  ⟨some 4, none, .mv (.c (.int .i64 (0)))⟩]) [0]
 (.seq (.reg false [⟨some 15, none, .mv (.t 0)⟩,
  ⟨some 16, none, .call (.f 16) [(false, .t 15)] false⟩,
  ⟨some 14, none, .mv (.t 16)⟩,
  ⟨some 17, none, .extract (.t 14) 0⟩,
  ⟨some 18, none, .extract (.t 14) 1⟩,
  ⟨some 5, none, .mv (.t 17)⟩,
  ⟨some 6, none, .mv (.t 18)⟩]) [0, 5, 6]
 (.seq (.seq (.reg false [⟨some 19, none, .mv (.t 6)⟩,
  ⟨some 20, none, .bin .leq .val (.t 19) (.c (.int .i64 (0)))⟩,
  ⟨some 21, none, .mv (.t 20)⟩,
  ⟨some 22, some (21, false), .mv (.t 5)⟩,
  ⟨some 23, some (21, false), .len false (.t 22)⟩,
  ⟨some 24, some (21, false), .bin .neq .val (.t 23) (.c (.int .i64 (3)))⟩,
  ⟨some 25, none, .pick (.t 21) (.c (.bool true)) (.t 24)⟩,
  ⟨some 26, none, .mv (.t 25)⟩,
  ⟨some 27, some (26, false), .mv (.t 5)⟩,
  ⟨some 28, some (26, false), .iaddr 1 (.t 27) (.c (.int .i64 (0)))⟩,
  ⟨some 29, some (26, false), .load false 1 (.t 28)⟩,
  ⟨some 30, some (26, false), .bin .neq .val (.t 29) (.c (.str [65, 84]))⟩,
  ⟨some 31, none, .pick (.t 26) (.c (.bool true)) (.t 30)⟩]) [0, 5, 6, 31]
 (.cond (.t 31) (.seq (.reg false [⟨some 32, none, .lit false 1 []⟩,
  ⟨some 2, none, .mv (.c (.int .i64 (0)))⟩,
  ⟨some 3, none, .mv (.t 32)⟩,
  ⟨some 4, none, .mv (.c (.int .i64 (0)))⟩]) [2, 3, 4]
 (.ret)) (.skip))) [0, 5, 6]
 (.seq (.reg false [⟨some 34, none, .mv (.t 5)⟩,
  ⟨some 35, none, .iaddr 1 (.t 34) (.c (.int .i64 (1)))⟩,
  ⟨some 36, none, .load false 1 (.t 35)⟩,
  ⟨some 37, none, .pcall (.f 51) [.t 36]⟩,
  ⟨some 33, none, .mv (.t 37)⟩,
  ⟨some 38, none, .extract (.t 33) 0⟩,
  ⟨some 39, none, .extract (.t 33) 1⟩,
  ⟨some 7, none, .mv (.t 38)⟩,
  ⟨some 8, none, .mv (.t 39)⟩]) [0, 5, 6, 7, 8]
 (.seq (.reg false [⟨some 41, none, .mv (.t 5)⟩,
  ⟨some 42, none, .iaddr 1 (.t 41) (.c (.int .i64 (2)))⟩,
  ⟨some 43, none, .load false 1 (.t 42)⟩,
  ⟨some 44, none, .pcall (.f 51) [.t 43]⟩,
  ⟨some 40, none, .mv (.t 44)⟩,
  ⟨some 45, none, .extract (.t 40) 0⟩,
  ⟨some 46, none, .extract (.t 40) 1⟩,
  ⟨some 9, none, .mv (.t 45)⟩,
  ⟨some 10, none, .mv (.t 46)⟩]) [0, 6, 7, 8, 9, 10]
 (.seq (.seq (.reg false [⟨some 47, none, .mv (.t 8)⟩,
  ⟨some 48, none, .un .not (.t 47)⟩,
  ⟨some 49, none, .mv (.t 48)⟩,
  ⟨some 50, some (49, false), .mv (.t 10)⟩,
  ⟨some 51, some (49, false), .un .not (.t 50)⟩,
  ⟨some 52, none, .pick (.t 49) (.c (.bool true)) (.t 51)⟩,
  ⟨some 53, none, .mv (.t 52)⟩,
  ⟨some 54, some (53, false), .mv (.t 7)⟩,
  ⟨some 55, some (53, false), .pcall (.f 34) [.t 54, .c (.int .i64 (0)), .c (.int .i64 (1000000))]⟩,
  ⟨some 56, some (53, false), .un .not (.t 55)⟩,
  ⟨some 57, none, .pick (.t 53) (.c (.bool true)) (.t 56)⟩,
  ⟨some 58, none, .mv (.t 57)⟩,
  ⟨some 59, some (58, false), .mv (.t 9)⟩,
  ⟨some 60, some (58, false), .pcall (.f 34) [.t 59, .c (.int .i64 (1)), .c (.int .i64 (60))]⟩,
  ⟨some 61, some (58, false), .un .not (.t 60)⟩,
  ⟨some 62, none, .pick (.t 58) (.c (.bool true)) (.t 61)⟩]) [0, 6, 7, 9, 62]
 (.cond (.t 62) (.seq (.reg false [⟨some 63, none, .lit false 1 []⟩,
  ⟨some 2, none, .mv (.c (.int .i64 (0)))⟩,
  ⟨some 3, none, .mv (.t 63)⟩,
  ⟨some 4, none, .mv (.c (.int .i64 (0)))⟩]) [2, 3, 4]
 (.ret)) (.skip))) [0, 6, 7, 9]
 (.seq (.reg false [⟨some 64, none, .lit true 1 []⟩,
  ⟨some 11, none, .mv (.t 64)⟩]) [0, 6, 7, 9, 11]
 (.seq (.seq (.reg false [⟨some 65, none, .mv (.t 9)⟩,
  ⟨some 66, none, .mv (.c (.int .i64 (0)))⟩]) [0, 6, 7, 11, 65, 66]
 (.block 0 (.loop [0, 6, 7, 11, 65, 66] f20l0))) [6, 7, 11]
 (.seq (.reg false [⟨some 86, none, .mv (.t 7)⟩,
  ⟨some 87, none, .mv (.t 11)⟩,
  ⟨some 88, none, .mv (.t 6)⟩,
  ⟨some 2, none, .mv (.t 86)⟩,
  ⟨some 3, none, .mv (.t 87)⟩,
  ⟨some 4, none, .mv (.t 88)⟩]) [2, 3, 4]
 (.ret)))))))))) }
/- laws.markStringSS -/
def f21l0 : ACode := (.seq (.seq (.reg false [⟨some 6, none, .mv (.t 5)⟩,
  ⟨some 7, none, .mv (.t 0)⟩,
  ⟨some 8, none, .len false (.t 7)⟩,
  ⟨some 9, none, .bin .lss .val (.t 6) (.t 8)⟩]) [0, 1, 5, 9]
 (.cond (.t 9) (.skip) (.exit 0))) [0, 1, 5]
 (.seq (.block 1 (.reg false [⟨some 12, none, .mv (.t 0)⟩,
  ⟨some 13, none, .mv (.t 5)⟩,
  ⟨some 14, none, .iaddr 1 (.t 12) (.t 13)⟩,
  ⟨some 15, none, .load false 1 (.t 14)⟩,
  ⟨some 16, none, .mv (.t 1)⟩,
  ⟨some 17, none, .call (.f 52) [(false, .t 15), (false, .t 16)] false⟩,
  ⟨some 1, none, .mv (.t 17)⟩])) [0, 1, 5]
 (.reg false [⟨some 10, none, .mv (.t 5)⟩,
  ⟨some 11, none, .bin .add .val (.t 10) (.c (.int .i64 (1)))⟩,
  ⟨some 5, none, .mv (.t 11)⟩])))
def f21 : AFunc := { np := 2, nt := 19, res := [.tmp 4], own := false, body := (.seq (.reg false [⟨some 4, none, .mv (.c (.int .i64 (0)))⟩]) [0, 1]
 (.seq (.seq (.reg false [⟨some 5, none, .mv (.c (.int .i64 (0)))⟩]) [0, 1, 5]
 (.block 0 (.loop [0, 1, 5] f21l0))) [1]
 (.seq (.reg false [⟨some 18, none, .mv (.t 1)⟩,
  ⟨some 4, none, .mv (.t 18)⟩]) [4]
 (.ret)))) }
/- laws.heldStringSS -/
def f22l0 : ACode := (.seq (.seq (.reg false [⟨some 6, none, .mv (.t 5)⟩,
  ⟨some 7, none, .mv (.t 0)⟩,
  ⟨some 8, none, .len false (.t 7)⟩,
  ⟨some 9, none, .bin .lss .val (.t 6) (.t 8)⟩]) [0, 1, 5, 9]
 (.cond (.t 9) (.skip) (.exit 0))) [0, 1, 5]
 (.seq (.block 1 (.seq (.reg false [⟨some 12, none, .mv (.t 0)⟩,
  ⟨some 13, none, .mv (.t 5)⟩,
  ⟨some 14, none, .iaddr 1 (.t 12) (.t 13)⟩,
  ⟨some 15, none, .load false 1 (.t 14)⟩,
  ⟨some 16, none, .mv (.t 1)⟩,
  ⟨some 17, none, .pcall (.f 53) [.t 15, .t 16]⟩,
  ⟨some 1, none, .mv (.t 17)⟩]) [0, 1, 5]
 (.seq (.reg false [⟨some 18, none, .mv (.t 1)⟩,
  ⟨some 19, none, .bin .lss .val (.t 18) (.c (.int .i64 (0)))⟩]) [0, 1, 5, 19]
 (.cond (.t 19) (.seq (.reg false [⟨some 4, none, .mv (.c (.int .i64 (-1)))⟩]) [4]
 (.ret)) (.skip))))) [0, 1, 5]
 (.reg false [⟨some 10, none, .mv (.t 5)⟩,
  ⟨some 11, none, .bin .add .val (.t 10) (.c (.int .i64 (1)))⟩,
  ⟨some 5, none, .mv (.t 11)⟩])))
def f22 : AFunc := { np := 2, nt := 21, res := [.tmp 4], own := false, body := (.seq (.reg false [⟨some 4, none, .mv (.c (.int .i64 (0)))⟩]) [0, 1]
 (.seq (.seq (.reg false [⟨some 5, none, .mv (.c (.int .i64 (0)))⟩]) [0, 1, 5]
 (.block 0 (.loop [0, 1, 5] f22l0))) [1]
 (.seq (.reg false [⟨some 20, none, .mv (.t 1)⟩,
  ⟨some 4, none, .mv (.t 20)⟩]) [4]
 (.ret)))) }
/- spec.l1In -/
def f30 : AFunc := { np := 3, nt := 15, res := [.tmp 6], own := false, body := (.seq (.reg false [⟨some 6, none, .mv (.c (.bool false))⟩]) [0, 1, 2]
 (.seq (.reg false [⟨some 7, none, .mv (.t 0)⟩,
  ⟨some 8, none, .mv (.t 1)⟩,
  ⟨some 9, none, .bin .geq .val (.t 7) (.t 8)⟩,
  ⟨some 10, none, .mv (.t 9)⟩,
  ⟨some 11, some (10, true), .mv (.t 0)⟩,
  ⟨some 12, some (10, true), .mv (.t 2)⟩,
  ⟨some 13, some (10, true), .bin .leq .val (.t 11) (.t 12)⟩,
  ⟨some 14, none, .pick (.t 10) (.t 13) (.c (.bool false))⟩,
  ⟨some 6, none, .mv (.t 14)⟩]) [6]
 (.ret))) }
/- impl.within -/
def f34 : AFunc := { np := 3, nt := 15, res := [.tmp 6], own := false, body := (.seq (.reg false [⟨some 6, none, .mv (.c (.bool false))⟩]) [0, 1, 2]
 (.seq (.reg false [⟨some 7, none, .mv (.t 0)⟩,
  ⟨some 8, none, .mv (.t 1)⟩,
  ⟨some 9, none, .bin .geq .val (.t 7) (.t 8)⟩,
  ⟨some 10, none, .mv (.t 9)⟩,
  ⟨some 11, some (10, true), .mv (.t 0)⟩,
  ⟨some 12, some (10, true), .mv (.t 2)⟩,
  ⟨some 13, some (10, true), .bin .leq .val (.t 11) (.t 12)⟩,
  ⟨some 14, none, .pick (.t 10) (.t 13) (.c (.bool false))⟩,
  ⟨some 6, none, .mv (.t 14)⟩]) [6]
 (.ret))) }
/- laws.eqStringS -/
def f37l0 : ACode := (.seq (.seq (.reg false [⟨some 11, none, .mv (.t 5)⟩,
  ⟨some 12, none, .mv (.t 0)⟩,
  ⟨some 13, none, .len false (.t 12)⟩,
  ⟨some 14, none, .bin .lss .val (.t 11) (.t 13)⟩]) [0, 1, 5, 14]
 (.cond (.t 14) (.skip) (.exit 0))) [0, 1, 5]
 (.seq (.block 1 (.seq (.reg true [⟨some 17, none, .mv (.t 0)⟩,
  ⟨some 18, none, .mv (.t 5)⟩,
  ⟨some 19, none, .iaddr 1 (.t 17) (.t 18)⟩,
  ⟨some 20, none, .load false 1 (.t 19)⟩,
  ⟨some 21, none, .mv (.t 1)⟩,
  ⟨some 22, none, .mv (.t 5)⟩,
  ⟨some 23, none, .iaddr 1 (.t 21) (.t 22)⟩,
  ⟨some 24, none, .load false 1 (.t 23)⟩,
  ⟨some 25, none, .bin .neq .val (.t 20) (.t 24)⟩]) [0, 1, 5, 25]
 (.cond (.t 25) (.seq (.reg false [⟨some 4, none, .mv (.c (.bool false))⟩]) [4]
 (.ret)) (.skip)))) [0, 1, 5]
 (.reg false [⟨some 15, none, .mv (.t 5)⟩,
  ⟨some 16, none, .bin .add .val (.t 15) (.c (.int .i64 (1)))⟩,
  ⟨some 5, none, .mv (.t 16)⟩])))
def f37 : AFunc := { np := 2, nt := 26, res := [.tmp 4], own := false, body := (.seq (.reg false [⟨some 4, none, .mv (.c (.bool false))⟩]) [0, 1]
 (.seq (.seq (.reg false [⟨some 6, none, .mv (.t 0)⟩,
  ⟨some 7, none, .len false (.t 6)⟩,
  ⟨some 8, none, .mv (.t 1)⟩,
  ⟨some 9, none, .len false (.t 8)⟩,
  ⟨some 10, none, .bin .neq .val (.t 7) (.t 9)⟩]) [0, 1, 10]
 (.cond (.t 10) (.seq (.reg false [⟨some 4, none, .mv (.c (.bool false))⟩]) [4]
 (.ret)) (.skip))) [0, 1]
 (.seq (.seq (.reg false [⟨some 5, none, .mv (.c (.int .i64 (0)))⟩]) [0, 1, 5]
 (.block 0 (.loop [0, 1, 5] f37l0))) []
 (.seq (.reg false [⟨some 4, none, .mv (.c (.bool true))⟩]) [4]
 (.ret))))) }
/- impl.wire).number -/
def f47l0 : ACode := (.seq (.seq (.reg false [⟨some 19, none, .mv (.t 0)⟩,
  ⟨some 20, none, .nilck (.t 19)⟩,
  ⟨some 21, none, .faddr 2 (.t 20)⟩,
  ⟨some 22, none, .load false 1 (.t 21)⟩,
  ⟨some 23, none, .un .not (.t 22)⟩,
  ⟨some 24, none, .mv (.t 23)⟩,
  ⟨some 25, some (24, true), .mv (.t 0)⟩,
  ⟨some 26, some (24, true), .nilck (.t 25)⟩,
  ⟨some 27, some (24, true), .faddr 3 (.t 26)⟩,
  ⟨some 28, some (24, true), .load false 1 (.t 27)⟩,
  ⟨some 29, some (24, true), .un .not (.t 28)⟩,
  ⟨some 30, none, .pick (.t 24) (.t 29) (.c (.bool false))⟩]) [0, 2, 3, 9, 10, 30]
 (.cond (.t 30) (.skip) (.exit 0))) [0, 2, 3, 9, 10]
 (.block 1 (.seq (.seq (.reg true [⟨some 31, none, .mv (.t 0)⟩,
  ⟨some 32, none, .nilck (.t 31)⟩,
  ⟨some 33, none, .faddr 1 (.t 32)⟩,
  ⟨some 34, none, .load false 1 (.t 33)⟩,
  ⟨some 35, none, .mv (.t 0)⟩,
  ⟨some 36, none, .nilck (.t 35)⟩,
  ⟨some 37, none, .faddr 0 (.t 36)⟩,
  ⟨some 38, none, .load false 1 (.t 37)⟩,
  ⟨some 39, none, .len true (.t 38)⟩,
  ⟨some 40, none, .bin .eql .val (.t 34) (.t 39)⟩]) [0, 2, 3, 9, 10, 40]
 (.cond (.t 40) (.seq (.reg false [⟨some 41, none, .mv (.t 0)⟩,
  ⟨some 42, none, .nilck (.t 41)⟩,
  ⟨some 43, none, .faddr 2 (.t 42)⟩,
  ⟨none, none, .store 1 (.t 43) (.c (.bool true))⟩]) [0, 9, 10]
 (.exit 0)) (.skip))) [0, 2, 3, 9, 10]
 (.seq (.reg true [⟨some 44, none, .mv (.t 0)⟩,
  ⟨some 45, none, .nilck (.t 44)⟩,
  ⟨some 46, none, .faddr 0 (.t 45)⟩,
  ⟨some 47, none, .load false 1 (.t 46)⟩,
  ⟨some 48, none, .mv (.t 0)⟩,
  ⟨some 49, none, .nilck (.t 48)⟩,
  ⟨some 50, none, .faddr 1 (.t 49)⟩,
  ⟨some 51, none, .load false 1 (.t 50)⟩,
  ⟨some 52, none, .idx (.t 47) (.t 51)⟩,
  ⟨some 11, none, .mv (.t 52)⟩]) [0, 2, 3, 9, 10, 11]
 (.seq (.seq (.reg false [⟨some 53, none, .mv (.t 11)⟩,
  ⟨some 54, none, .bin .lss .val (.t 53) (.c (.int .u8 (48)))⟩,
  ⟨some 55, none, .mv (.t 54)⟩,
  ⟨some 56, some (55, false), .mv (.t 11)⟩,
  ⟨some 57, some (55, false), .bin .gtr .val (.t 56) (.c (.int .u8 (57)))⟩,
  ⟨some 58, none, .pick (.t 55) (.c (.bool true)) (.t 57)⟩]) [0, 2, 3, 9, 10, 11, 58]
 (.cond (.t 58) (.exit 0) (.skip))) [0, 2, 3, 9, 10, 11]
 (.seq (.seq (.reg false [⟨some 59, none, .mv (.t 0)⟩,
  ⟨some 60, none, .nilck (.t 59)⟩,
  ⟨some 61, none, .faddr 1 (.t 60)⟩,
  ⟨some 62, none, .load false 1 (.t 61)⟩,
  ⟨some 63, none, .mv (.t 10)⟩,
  ⟨some 64, none, .bin .gtr .val (.t 62) (.t 63)⟩,
  ⟨some 65, none, .mv (.t 64)⟩,
  ⟨some 66, some (65, true), .mv (.t 9)⟩,
  ⟨some 67, some (65, true), .bin .eql .val (.t 66) (.c (.int .i64 (0)))⟩,
  ⟨some 68, none, .pick (.t 65) (.t 67) (.c (.bool false))⟩]) [0, 2, 3, 9, 10, 11, 68]
 (.cond (.t 68) (.seq (.reg false [⟨some 69, none, .mv (.t 0)⟩,
  ⟨some 70, none, .nilck (.t 69)⟩,
  ⟨some 71, none, .faddr 3 (.t 70)⟩,
  ⟨none, none, .store 1 (.t 71) (.c (.bool true))⟩]) [0, 9, 10]
 (.exit 0)) (.skip))) [0, 2, 3, 9, 10, 11]
 (.seq (.reg false [⟨some 72, none, .mv (.t 9)⟩,
  ⟨some 73, none, .bin .mul .val (.c (.int .i64 (10))) (.t 72)⟩,
  ⟨some 74, none, .mv (.t 11)⟩,
  ⟨some 75, none, .bin .sub .val (.t 74) (.c (.int .u8 (48)))⟩,
  ⟨some 76, none, .cvInt .i64 (.t 75)⟩,
  ⟨some 77, none, .bin .add .val (.t 73) (.t 76)⟩,
  ⟨some 9, none, .mv (.t 77)⟩]) [0, 2, 3, 9, 10]
 (.seq (.seq (.reg false [⟨some 78, none, .mv (.t 9)⟩,
  ⟨some 79, none, .mv (.t 2)⟩,
  ⟨some 80, none, .mv (.t 3)⟩,
  ⟨some 81, none, .pcall (.f 34) [.t 78, .t 79, .t 80]⟩,
  ⟨some 82, none, .un .not (.t 81)⟩]) [0, 2, 3, 9, 10, 82]
 (.cond (.t 82) (.reg false [⟨some 83, none, .mv (.t 0)⟩,
  ⟨some 84, none, .nilck (.t 83)⟩,
  ⟨some 85, none, .faddr 3 (.t 84)⟩,
  ⟨none, none, .store 1 (.t 85) (.c (.bool true))⟩]) (.skip))) [0, 2, 3, 9, 10]
 (.reg false [⟨some 86, none, .mv (.t 0)⟩,
  ⟨some 87, none, .nilck (.t 86)⟩,
  ⟨some 88, none, .faddr 1 (.t 87)⟩,
  ⟨some 89, none, .load false 1 (.t 88)⟩,
  ⟨some 90, none, .bin .add .val (.t 89) (.c (.int .i64 (1)))⟩,
  ⟨some 91, none, .nilck (.t 86)⟩,
  ⟨some 92, none, .faddr 1 (.t 91)⟩,
  ⟨none, none, .store 1 (.t 92) (.t 90)⟩])))))))))
def f47 : AFunc := { np := 4, nt := 114, res := [.tmp 8], own := false, body := (.seq (.reg false [⟨some 8, none, .mv (.c (.int .i64 (0)))⟩]) [0, 1, 2, 3]
 (.seq (.reg false [⟨some 12, none, .mv (.t 0)⟩,
  ⟨some 13, none, .mv (.t 1)⟩,
  ⟨some 14, none, .call (.f 48) [(false, .t 12), (false, .t 13)] false⟩]) [0, 2, 3]
 (.seq (.reg true [⟨some 15, none, .mv (.t 0)⟩,
  ⟨some 16, none, .nilck (.t 15)⟩,
  ⟨some 17, none, .faddr 1 (.t 16)⟩,
  ⟨some 18, none, .load false 1 (.t 17)⟩,
  ⟨some 9, none, .mv (.c (.int .i64 (0)))⟩,
  ⟨some 10, none, .mv (.t 18)⟩]) [0, 2, 3, 9, 10]
 (.seq (.block 0 (.loop [0, 2, 3, 9, 10] f47l0)) [0, 9, 10]
 (.seq (.seq (.reg false [⟨some 93, none, .mv (.t 0)⟩,
  ⟨some 94, none, .nilck (.t 93)⟩,
  ⟨some 95, none, .faddr 1 (.t 94)⟩,
  ⟨some 96, none, .load false 1 (.t 95)⟩,
  ⟨some 97, none, .mv (.t 10)⟩,
  ⟨some 98, none, .bin .eql .val (.t 96) (.t 97)⟩,
  ⟨some 99, none, .mv (.t 98)⟩,
  ⟨some 100, some (99, true), .mv (.t 0)⟩,
  ⟨some 101, some (99, true), .nilck (.t 100)⟩,
  ⟨some 102, some (99, true), .faddr 2 (.t 101)⟩,
  ⟨some 103, some (99, true), .load false 1 (.t 102)⟩,
  ⟨some 104, some (99, true), .un .not (.t 103)⟩,
  ⟨some 105, none, .pick (.t 99) (.t 104) (.c (.bool false))⟩]) [0, 9, 105]
 (.cond (.t 105) (.reg false [⟨some 106, none, .mv (.t 0)⟩,
  ⟨some 107, none, .nilck (.t 106)⟩,
  ⟨some 108, none, .faddr 3 (.t 107)⟩,
  ⟨none, none, .store 1 (.t 108) (.c (.bool true))⟩]) (.skip))) [0, 9]
 (.seq (.reg false [⟨some 109, none, .mv (.t 0)⟩,
  ⟨some 110, none, .call (.f 48) [(false, .t 109), (false, .c (.int .u8 (13)))] false⟩]) [0, 9]
 (.seq (.reg false [⟨some 111, none, .mv (.t 0)⟩,
  ⟨some 112, none, .call (.f 48) [(false, .t 111), (false, .c (.int .u8 (10)))] false⟩]) [9]
 (.seq (.reg false [⟨some 113, none, .mv (.t 9)⟩,
  ⟨some 8, none, .mv (.t 113)⟩]) [8]
 (.ret))))))))) }
/- impl.wire).byte -/
def f48 : AFunc := { np := 2, nt := 51, res := [], own := false, body := (.block 0 (.seq (.reg false [⟨some 12, none, .mv (.t 0)⟩,
  ⟨some 13, none, .nilck (.t 12)⟩,
  ⟨some 14, none, .faddr 2 (.t 13)⟩,
  ⟨some 15, none, .load false 1 (.t 14)⟩,
  ⟨some 16, none, .mv (.t 15)⟩,
  ⟨some 17, some (16, false), .mv (.t 0)⟩,
  ⟨some 18, some (16, false), .nilck (.t 17)⟩,
  ⟨some 19, some (16, false), .faddr 3 (.t 18)⟩,
  ⟨some 20, some (16, false), .load false 1 (.t 19)⟩,
  ⟨some 21, none, .pick (.t 16) (.c (.bool true)) (.t 20)⟩,
  ⟨some 11, none, .mv (.t 21)⟩]) [0, 1, 11]
 (.cond (.t 11) (.skip) (.seq (.reg true [⟨some 23, none, .mv (.t 0)⟩,
  ⟨some 24, none, .nilck (.t 23)⟩,
  ⟨some 25, none, .faddr 1 (.t 24)⟩,
  ⟨some 26, none, .load false 1 (.t 25)⟩,
  ⟨some 27, none, .mv (.t 0)⟩,
  ⟨some 28, none, .nilck (.t 27)⟩,
  ⟨some 29, none, .faddr 0 (.t 28)⟩,
  ⟨some 30, none, .load false 1 (.t 29)⟩,
  ⟨some 31, none, .len true (.t 30)⟩,
  ⟨some 32, none, .bin .eql .val (.t 26) (.t 31)⟩,
  ⟨some 22, none, .mv (.t 32)⟩]) [0, 1, 22]
 (.cond (.t 22) (.reg false [⟨some 33, none, .mv (.t 0)⟩,
  ⟨some 34, none, .nilck (.t 33)⟩,
  ⟨some 35, none, .faddr 2 (.t 34)⟩,
  ⟨none, none, .store 1 (.t 35) (.c (.bool true))⟩]) (.seq (.reg true [⟨some 37, none, .mv (.t 0)⟩,
  ⟨some 38, none, .nilck (.t 37)⟩,
  ⟨some 39, none, .faddr 0 (.t 38)⟩,
  ⟨some 40, none, .load false 1 (.t 39)⟩,
  ⟨some 41, none, .mv (.t 0)⟩,
  ⟨some 42, none, .nilck (.t 41)⟩,
  ⟨some 43, none, .faddr 1 (.t 42)⟩,
  ⟨some 44, none, .load false 1 (.t 43)⟩,
  ⟨some 45, none, .idx (.t 40) (.t 44)⟩,
  ⟨some 46, none, .mv (.t 1)⟩,
  ⟨some 47, none, .bin .neq .val (.t 45) (.t 46)⟩,
  ⟨some 36, none, .mv (.t 47)⟩]) [0, 36]
 (.cond (.t 36) (.reg false [⟨some 48, none, .mv (.t 0)⟩,
  ⟨some 49, none, .nilck (.t 48)⟩,
  ⟨some 50, none, .faddr 3 (.t 49)⟩,
  ⟨none, none, .store 1 (.t 50) (.c (.bool true))⟩]) (.reg false [⟨some 4, none, .mv (.t 0)⟩,
  ⟨some 5, none, .nilck (.t 4)⟩,
  ⟨some 6, none, .faddr 1 (.t 5)⟩,
  ⟨some 7, none, .load false 1 (.t 6)⟩,
  ⟨some 8, none, .bin .add .val (.t 7) (.c (.int .i64 (1)))⟩,
  ⟨some 9, none, .nilck (.t 4)⟩,
  ⟨some 10, none, .faddr 1 (.t 9)⟩,
  ⟨none, none, .store 1 (.t 10) (.t 8)⟩])))))))) }
/- spec.l1Head -/
def f49l0 : ACode := (.seq (.seq (.reg false [⟨some 12, none, .mv (.t 11)⟩,
  ⟨some 13, none, .mv (.t 0)⟩,
  ⟨some 14, none, .len true (.t 13)⟩,
  ⟨some 15, none, .bin .lss .val (.t 12) (.t 14)⟩,
  ⟨some 16, none, .mv (.t 15)⟩,
  ⟨some 17, some (16, true), .mv (.t 0)⟩,
  ⟨some 18, some (16, true), .mv (.t 11)⟩,
  ⟨some 19, some (16, true), .idx (.t 17) (.t 18)⟩,
  ⟨some 20, some (16, true), .bin .geq .val (.t 19) (.c (.int .u8 (48)))⟩,
  ⟨some 21, none, .pick (.t 16) (.t 20) (.c (.bool false))⟩,
  ⟨some 22, none, .mv (.t 21)⟩,
  ⟨some 23, some (22, true), .mv (.t 0)⟩,
  ⟨some 24, some (22, true), .mv (.t 11)⟩,
  ⟨some 25, some (22, true), .idx (.t 23) (.t 24)⟩,
  ⟨some 26, some (22, true), .bin .leq .val (.t 25) (.c (.int .u8 (57)))⟩,
  ⟨some 27, none, .pick (.t 22) (.t 26) (.c (.bool false))⟩,
  ⟨some 28, none, .mv (.t 27)⟩,
  ⟨some 29, some (28, true), .mv (.t 11)⟩,
  ⟨some 30, some (28, true), .bin .lss .val (.t 29) (.c (.int .i64 (4)))⟩,
  ⟨some 31, none, .pick (.t 28) (.t 30) (.c (.bool false))⟩]) [0, 1, 2, 3, 11, 31]
 (.cond (.t 31) (.skip) (.exit 0))) [0, 1, 2, 3, 11]
 (.block 1 (.reg false [⟨some 32, none, .mv (.t 11)⟩,
  ⟨some 33, none, .bin .add .val (.t 32) (.c (.int .i64 (1)))⟩,
  ⟨some 11, none, .mv (.t 33)⟩])))
def f49 : AFunc := { np := 4, nt := 96, res := [.tmp 8, .tmp 9, .tmp 10], own := false, body := (.seq (.reg false [⟨some 8, none, .mv (.c (.int .i64 (0)))⟩,
  ⟨some 9, none, .mv (.c (.str []))⟩,
  ⟨some 10, none, .mv (.c (.int .i64 (0)))⟩]) [0, 1, 2, 3]
 (.seq (.reg false [⟨some 11, none, .mv (.c (.int .i64 (1)))⟩]) [0, 1, 2, 3, 11]
 (.seq (.block 0 (.loop [0, 1, 2, 3, 11] f49l0)) [0, 1, 2, 3, 11]
 (.seq (.seq (.reg false [⟨some 34, none, .mv (.t 0)⟩,
  ⟨some 35, none, .len true (.t 34)⟩,
  ⟨some 36, none, .bin .eql .val (.t 35) (.c (.int .i64 (0)))⟩]) [0, 1, 2, 3, 11, 36]
 (.cond (.t 36) (.seq (.reg false [⟨some 8, none, .mv (.c (.int .i64 (0)))⟩,
  ⟨some 9, none, .mv (.c (.str []))⟩,
  ⟨some 10, none, .mv (.c (.int .i64 (0)))⟩]) [8, 9, 10]
 (.ret)) (.skip))) [0, 1, 2, 3, 11]
 (.seq (.seq (.reg false [⟨some 37, none, .mv (.t 0)⟩,
  ⟨some 38, none, .idx (.t 37) (.c (.int .i64 (0)))⟩,
  ⟨some 39, none, .mv (.t 1)⟩,
  ⟨some 40, none, .bin .neq .val (.t 38) (.t 39)⟩,
  ⟨some 41, none, .mv (.t 40)⟩,
  ⟨some 42, some (41, false), .mv (.t 11)⟩,
  ⟨some 43, some (41, false), .mv (.t 0)⟩,
  ⟨some 44, some (41, false), .len true (.t 43)⟩,
  ⟨some 45, some (41, false), .bin .lss .val (.t 42) (.t 44)⟩,
  ⟨some 46, some (41, false), .mv (.t 45)⟩,
  ⟨some 47, some (46, true), .mv (.t 11)⟩,
  ⟨some 48, some (46, true), .bin .eql .val (.t 47) (.c (.int .i64 (1)))⟩,
  ⟨some 49, some (46, true), .mv (.t 48)⟩,
  ⟨some 50, some (49, false), .mv (.t 0)⟩,
  ⟨some 51, some (49, false), .mv (.t 11)⟩,
  ⟨some 52, some (49, false), .idx (.t 50) (.t 51)⟩,
  ⟨some 53, some (49, false), .bin .neq .val (.t 52) (.c (.int .u8 (13)))⟩,
  ⟨some 54, some (46, true), .pick (.t 49) (.c (.bool true)) (.t 53)⟩,
  ⟨some 55, some (41, false), .pick (.t 46) (.t 54) (.c (.bool false))⟩,
  ⟨some 56, none, .pick (.t 41) (.c (.bool true)) (.t 55)⟩,
  ⟨some 57, none, .mv (.t 56)⟩,
  ⟨some 58, some (57, false), .mv (.t 11)⟩,
  ⟨some 59, some (57, false), .bin .add .val (.t 58) (.c (.int .i64 (1)))⟩,
  ⟨some 60, some (57, false), .mv (.t 0)⟩,
  ⟨some 61, some (57, false), .len true (.t 60)⟩,
  ⟨some 62, some (57, false), .bin .lss .val (.t 59) (.t 61)⟩,
  ⟨some 63, some (57, false), .mv (.t 62)⟩,
  ⟨some 64, some (63, true), .mv (.t 0)⟩,
  ⟨some 65, some (63, true), .mv (.t 11)⟩,
  ⟨some 66, some (63, true), .bin .add .val (.t 65) (.c (.int .i64 (1)))⟩,
  ⟨some 67, some (63, true), .idx (.t 64) (.t 66)⟩,
  ⟨some 68, some (63, true), .bin .neq .val (.t 67) (.c (.int .u8 (10)))⟩,
  ⟨some 69, some (57, false), .pick (.t 63) (.t 68) (.c (.bool false))⟩,
  ⟨some 70, none, .pick (.t 57) (.c (.bool true)) (.t 69)⟩]) [0, 2, 3, 11, 70]
 (.cond (.t 70) (.seq (.reg false [⟨some 8, none, .mv (.c (.int .i64 (0)))⟩,
  ⟨some 9, none, .mv (.c (.str []))⟩,
  ⟨some 10, none, .mv (.c (.int .i64 (-1)))⟩]) [8, 9, 10]
 (.ret)) (.skip))) [0, 2, 3, 11]
 (.seq (.seq (.reg false [⟨some 71, none, .mv (.t 11)⟩,
  ⟨some 72, none, .bin .gtr .val (.t 71) (.c (.int .i64 (1)))⟩,
  ⟨some 73, none, .mv (.t 72)⟩,
  ⟨some 74, some (73, true), .mv (.t 0)⟩,
  ⟨some 75, some (73, true), .mv (.t 11)⟩,
  ⟨some 76, some (73, true), .slice none (.t 74) (some (.c (.int .i64 (1)))) (some (.t 75))⟩,
  ⟨some 77, some (73, true), .pcall (.f 74) [.t 76]⟩,
  ⟨some 78, some (73, true), .mv (.t 2)⟩,
  ⟨some 79, some (73, true), .mv (.t 3)⟩,
  ⟨some 80, some (73, true), .pcall (.f 30) [.t 77, .t 78, .t 79]⟩,
  ⟨some 81, some (73, true), .un .not (.t 80)⟩,
  ⟨some 82, none, .pick (.t 73) (.t 81) (.c (.bool false))⟩]) [0, 11, 82]
 (.cond (.t 82) (.seq (.reg false [⟨some 8, none, .mv (.c (.int .i64 (0)))⟩,
  ⟨some 9, none, .mv (.c (.str []))⟩,
  ⟨some 10, none, .mv (.c (.int .i64 (-1)))⟩]) [8, 9, 10]
 (.ret)) (.skip))) [0, 11]
 (.seq (.seq (.reg false [⟨some 83, none, .mv (.t 11)⟩,
  ⟨some 84, none, .bin .add .val (.t 83) (.c (.int .i64 (1)))⟩,
  ⟨some 85, none, .mv (.t 0)⟩,
  ⟨some 86, none, .len true (.t 85)⟩,
  ⟨some 87, none, .bin .geq .val (.t 84) (.t 86)⟩]) [0, 11, 87]
 (.cond (.t 87) (.seq (.reg false [⟨some 8, none, .mv (.c (.int .i64 (0)))⟩,
  ⟨some 9, none, .mv (.c (.str []))⟩,
  ⟨some 10, none, .mv (.c (.int .i64 (0)))⟩]) [8, 9, 10]
 (.ret)) (.skip))) [0, 11]
 (.seq (.reg true [⟨some 88, none, .mv (.t 0)⟩,
  ⟨some 89, none, .mv (.t 11)⟩,
  ⟨some 90, none, .slice none (.t 88) (some (.c (.int .i64 (1)))) (some (.t 89))⟩,
  ⟨some 91, none, .pcall (.f 74) [.t 90]⟩,
  ⟨some 92, none, .mv (.t 0)⟩,
  ⟨some 93, none, .mv (.t 11)⟩,
  ⟨some 94, none, .bin .add .val (.t 93) (.c (.int .i64 (2)))⟩,
  ⟨some 95, none, .slice none (.t 92) (some (.t 94)) none⟩,
  ⟨some 8, none, .mv (.t 91)⟩,
  ⟨some 9, none, .mv (.t 95)⟩,
  ⟨some 10, none, .mv (.c (.int .i64 (1)))⟩]) [8, 9, 10]
 (.ret))))))))) }
/- spec.IntGet -/
def f50 : AFunc := { np := 1, nt := 28, res := [.tmp 2, .tmp 3], own := false, body := (.seq (.reg false [⟨some 2, none, .mv (.c (.int .i64 (0)))⟩,
  ⟨some 3, none, .mv (.c (.bool false))⟩]) [0]
 (.seq (.seq (.reg false [⟨some 6, none, .mv (.t 0)⟩,
  ⟨some 7, none, .len true (.t 6)⟩,
  ⟨some 8, none, .bin .gtr .val (.t 7) (.c (.int .i64 (1)))⟩,
  ⟨some 9, none, .mv (.t 8)⟩,
  ⟨some 10, some (9, true), .mv (.t 0)⟩,
  ⟨some 11, some (9, true), .idx (.t 10) (.c (.int .i64 (0)))⟩,
  ⟨some 12, some (9, true), .bin .eql .val (.t 11) (.c (.int .u8 (45)))⟩,
  ⟨some 13, none, .pick (.t 9) (.t 12) (.c (.bool false))⟩]) [0, 13]
 (.cond (.t 13) (.seq (.reg false [⟨some 14, none, .mv (.t 0)⟩,
  ⟨some 15, none, .slice none (.t 14) (some (.c (.int .i64 (1)))) none⟩,
  ⟨some 16, none, .pcall (.f 74) [.t 15]⟩,
  ⟨some 4, none, .mv (.t 16)⟩]) [4]
 (.seq (.seq (.reg false [⟨some 17, none, .mv (.t 4)⟩,
  ⟨some 18, none, .pcall (.f 30) [.t 17, .c (.int .i64 (1)), .c (.int .i64 (1000000000))]⟩,
  ⟨some 19, none, .un .not (.t 18)⟩]) [4, 19]
 (.cond (.t 19) (.seq (.reg false [⟨some 2, none, .mv (.c (.int .i64 (0)))⟩,
  ⟨some 3, none, .mv (.c (.bool false))⟩]) [2, 3]
 (.ret)) (.skip))) [4]
 (.seq (.reg false [⟨some 20, none, .mv (.t 4)⟩,
  ⟨some 21, none, .un .neg (.t 20)⟩,
  ⟨some 2, none, .mv (.t 21)⟩,
  ⟨some 3, none, .mv (.c (.bool true))⟩]) [2, 3]
 (.ret)))) (.skip))) [0]
 (.seq (.reg false [⟨some 22, none, .mv (.t 0)⟩,
  ⟨some 23, none, .pcall (.f 74) [.t 22]⟩,
  ⟨some 5, none, .mv (.t 23)⟩]) [5]
 (.seq (.seq (.reg false [⟨some 24, none, .mv (.t 5)⟩,
  ⟨some 25, none, .pcall (.f 30) [.t 24, .c (.int .i64 (0)), .c (.int .i64 (1000000000))]⟩,
  ⟨some 26, none, .un .not (.t 25)⟩]) [5, 26]
 (.cond (.t 26) (.seq (.reg false [⟨some 2, none, .mv (.c (.int .i64 (0)))⟩,
  ⟨some 3, none, .mv (.c (.bool false))⟩]) [2, 3]
 (.ret)) (.skip))) [5]
 (.seq (.reg false [⟨some 27, none, .mv (.t 5)⟩,
  ⟨some 2, none, .mv (.t 27)⟩,
  ⟨some 3, none, .mv (.c (.bool true))⟩]) [2, 3]
 (.ret)))))) }
/- impl.IntGet -/
def f51 : AFunc := { np := 1, nt := 25, res := [.tmp 2, .tmp 3], own := false, body := (.seq (.reg false [⟨some 2, none, .mv (.c (.int .i64 (0)))⟩,
  ⟨some 3, none, .mv (.c (.bool false))⟩]) [0]
 (.seq (.reg false [⟨some 7, none, .mv (.t 0)⟩,
  ⟨some 8, none, .pcall (.f 75) [.t 7]⟩,
  ⟨some 6, none, .mv (.t 8)⟩,
  ⟨some 9, none, .extract (.t 6) 0⟩,
  ⟨some 10, none, .extract (.t 6) 1⟩,
  ⟨some 4, none, .mv (.t 9)⟩,
  ⟨some 5, none, .mv (.t 10)⟩]) [0, 4, 5]
 (.seq (.seq (.reg false [⟨some 11, none, .mv (.t 5)⟩,
  ⟨some 12, none, .bin .neq .iface (.t 11) (.c .niface)⟩,
  ⟨some 13, none, .mv (.t 12)⟩,
  ⟨some 14, some (13, false), .mv (.t 4)⟩,
  ⟨some 15, some (13, false), .pcall (.f 34) [.t 14, .c (.int .i64 (-1000000000)), .c (.int .i64 (1000000000))]⟩,
  ⟨some 16, some (13, false), .un .not (.t 15)⟩,
  ⟨some 17, none, .pick (.t 13) (.c (.bool true)) (.t 16)⟩,
  ⟨some 18, none, .mv (.t 17)⟩,
  ⟨some 19, some (18, false), .mv (.t 4)⟩,
  ⟨some 20, some (18, false), .pcall (.f 40) [.t 19]⟩,
  ⟨some 21, some (18, false), .mv (.t 0)⟩,
  ⟨some 22, some (18, false), .bin .neq .val (.t 20) (.t 21)⟩,
  ⟨some 23, none, .pick (.t 18) (.c (.bool true)) (.t 22)⟩]) [4, 23]
 (.cond (.t 23) (.seq (.reg false [⟨some 2, none, .mv (.c (.int .i64 (0)))⟩,
  ⟨some 3, none, .mv (.c (.bool false))⟩]) [2, 3]
 (.ret)) (.skip))) [4]
 (.seq (.reg false [⟨some 24, none, .mv (.t 4)⟩,
  ⟨some 2, none, .mv (.t 24)⟩,
  ⟨some 3, none, .mv (.c (.bool true))⟩]) [2, 3]
 (.ret))))) }
/- laws.markStringS -/
def f52l0 : ACode := (.seq (.seq (.reg false [⟨some 6, none, .mv (.t 5)⟩,
  ⟨some 7, none, .mv (.t 0)⟩,
  ⟨some 8, none, .len false (.t 7)⟩,
  ⟨some 9, none, .bin .lss .val (.t 6) (.t 8)⟩]) [0, 1, 5, 9]
 (.cond (.t 9) (.skip) (.exit 0))) [0, 1, 5]
 (.seq (.block 1 (.seq (.reg false [⟨some 12, none, .mv (.t 0)⟩,
  ⟨some 13, none, .mv (.t 5)⟩,
  ⟨some 14, none, .mv (.t 1)⟩,
  ⟨some 15, none, .pcall (.f 76) [.t 14]⟩,
  ⟨some 16, none, .iaddr 1 (.t 12) (.t 13)⟩,
  ⟨none, none, .store 1 (.t 16) (.t 15)⟩]) [0, 1, 5]
 (.reg false [⟨some 17, none, .mv (.t 1)⟩,
  ⟨some 18, none, .bin .add .val (.t 17) (.c (.int .i64 (1)))⟩,
  ⟨some 1, none, .mv (.t 18)⟩]))) [0, 1, 5]
 (.reg false [⟨some 10, none, .mv (.t 5)⟩,
  ⟨some 11, none, .bin .add .val (.t 10) (.c (.int .i64 (1)))⟩,
  ⟨some 5, none, .mv (.t 11)⟩])))
def f52 : AFunc := { np := 2, nt := 20, res := [.tmp 4], own := false, body := (.seq (.reg false [⟨some 4, none, .mv (.c (.int .i64 (0)))⟩]) [0, 1]
 (.seq (.seq (.reg false [⟨some 5, none, .mv (.c (.int .i64 (0)))⟩]) [0, 1, 5]
 (.block 0 (.loop [0, 1, 5] f52l0))) [1]
 (.seq (.reg false [⟨some 19, none, .mv (.t 1)⟩,
  ⟨some 4, none, .mv (.t 19)⟩]) [4]
 (.ret)))) }
/- laws.heldStringS -/
def f53l0 : ACode := (.seq (.seq (.reg false [⟨some 6, none, .mv (.t 5)⟩,
  ⟨some 7, none, .mv (.t 0)⟩,
  ⟨some 8, none, .len false (.t 7)⟩,
  ⟨some 9, none, .bin .lss .val (.t 6) (.t 8)⟩]) [0, 1, 5, 9]
 (.cond (.t 9) (.skip) (.exit 0))) [0, 1, 5]
 (.seq (.block 1 (.seq (.seq (.reg true [⟨some 12, none, .mv (.t 0)⟩,
  ⟨some 13, none, .mv (.t 5)⟩,
  ⟨some 14, none, .iaddr 1 (.t 12) (.t 13)⟩,
  ⟨some 15, none, .load false 1 (.t 14)⟩,
  ⟨some 16, none, .mv (.t 1)⟩,
  ⟨some 17, none, .pcall (.f 76) [.t 16]⟩,
  ⟨some 18, none, .bin .neq .val (.t 15) (.t 17)⟩]) [0, 1, 5, 18]
 (.cond (.t 18) (.seq (.reg false [⟨some 4, none, .mv (.c (.int .i64 (-1)))⟩]) [4]
 (.ret)) (.skip))) [0, 1, 5]
 (.reg false [⟨some 19, none, .mv (.t 1)⟩,
  ⟨some 20, none, .bin .add .val (.t 19) (.c (.int .i64 (1)))⟩,
  ⟨some 1, none, .mv (.t 20)⟩]))) [0, 1, 5]
 (.reg false [⟨some 10, none, .mv (.t 5)⟩,
  ⟨some 11, none, .bin .add .val (.t 10) (.c (.int .i64 (1)))⟩,
  ⟨some 5, none, .mv (.t 11)⟩])))
def f53 : AFunc := { np := 2, nt := 22, res := [.tmp 4], own := false, body := (.seq (.reg false [⟨some 4, none, .mv (.c (.int .i64 (0)))⟩]) [0, 1]
 (.seq (.seq (.reg false [⟨some 5, none, .mv (.c (.int .i64 (0)))⟩]) [0, 1, 5]
 (.block 0 (.loop [0, 1, 5] f53l0))) [1]
 (.seq (.reg false [⟨some 21, none, .mv (.t 1)⟩,
  ⟨some 4, none, .mv (.t 21)⟩]) [4]
 (.ret)))) }
/- spec.l1Figures -/
def f74l0 : ACode := (.seq (.seq (.reg false [⟨some 5, none, .mv (.t 4)⟩,
  ⟨some 6, none, .mv (.t 0)⟩,
  ⟨some 7, none, .len true (.t 6)⟩,
  ⟨some 8, none, .bin .lss .val (.t 5) (.t 7)⟩]) [0, 3, 4, 8]
 (.cond (.t 8) (.skip) (.exit 0))) [0, 3, 4]
 (.seq (.block 1 (.seq (.seq (.reg false [⟨some 11, none, .mv (.t 0)⟩,
  ⟨some 12, none, .mv (.t 4)⟩,
  ⟨some 13, none, .idx (.t 11) (.t 12)⟩,
  ⟨some 14, none, .bin .lss .val (.t 13) (.c (.int .u8 (48)))⟩,
  ⟨some 15, none, .mv (.t 14)⟩,
  ⟨some 16, some (15, false), .mv (.t 0)⟩,
  ⟨some 17, some (15, false), .mv (.t 4)⟩,
  ⟨some 18, some (15, false), .idx (.t 16) (.t 17)⟩,
  ⟨some 19, some (15, false), .bin .gtr .val (.t 18) (.c (.int .u8 (57)))⟩,
  ⟨some 20, none, .pick (.t 15) (.c (.bool true)) (.t 19)⟩]) [0, 3, 4, 20]
 (.cond (.t 20) (.seq (.reg false [⟨some 2, none, .mv (.c (.int .i64 (-1)))⟩]) [2]
 (.ret)) (.skip))) [0, 3, 4]
 (.seq (.reg false [⟨some 21, none, .mv (.t 4)⟩,
  ⟨some 22, none, .bin .lss .val (.t 21) (.c (.int .i64 (10)))⟩]) [0, 3, 4, 22]
 (.cond (.t 22) (.reg false [⟨some 23, none, .mv (.t 3)⟩,
  ⟨some 24, none, .bin .mul .val (.t 23) (.c (.int .i64 (10)))⟩,
  ⟨some 25, none, .mv (.t 0)⟩,
  ⟨some 26, none, .mv (.t 4)⟩,
  ⟨some 27, none, .idx (.t 25) (.t 26)⟩,
  ⟨some 28, none, .bin .sub .val (.t 27) (.c (.int .u8 (48)))⟩,
  ⟨some 29, none, .cvInt .i64 (.t 28)⟩,
  ⟨some 30, none, .bin .add .val (.t 24) (.t 29)⟩,
  ⟨some 3, none, .mv (.t 30)⟩]) (.skip))))) [0, 3, 4]
 (.reg false [⟨some 9, none, .mv (.t 4)⟩,
  ⟨some 10, none, .bin .add .val (.t 9) (.c (.int .i64 (1)))⟩,
  ⟨some 4, none, .mv (.t 10)⟩])))
def f74 : AFunc := { np := 1, nt := 46, res := [.tmp 2], own := false, body := (.seq (.reg false [⟨some 2, none, .mv (.c (.int .i64 (0)))⟩]) [0]
 (.seq (.reg false [⟨some 3, none, .mv (.c (.int .i64 (0)))⟩]) [0, 3]
 (.seq (.seq (.reg false [⟨some 4, none, .mv (.c (.int .i64 (0)))⟩]) [0, 3, 4]
 (.block 0 (.loop [0, 3, 4] f74l0))) [0, 3]
 (.seq (.seq (.reg false [⟨some 31, none, .mv (.t 0)⟩,
  ⟨some 32, none, .len true (.t 31)⟩,
  ⟨some 33, none, .pcall (.f 30) [.t 32, .c (.int .i64 (1)), .c (.int .i64 (10))]⟩,
  ⟨some 34, none, .un .not (.t 33)⟩,
  ⟨some 35, none, .mv (.t 34)⟩,
  ⟨some 36, some (35, false), .mv (.t 0)⟩,
  ⟨some 37, some (35, false), .len true (.t 36)⟩,
  ⟨some 38, some (35, false), .bin .gtr .val (.t 37) (.c (.int .i64 (1)))⟩,
  ⟨some 39, some (35, false), .mv (.t 38)⟩,
  ⟨some 40, some (39, true), .mv (.t 0)⟩,
  ⟨some 41, some (39, true), .idx (.t 40) (.c (.int .i64 (0)))⟩,
  ⟨some 42, some (39, true), .bin .eql .val (.t 41) (.c (.int .u8 (48)))⟩,
  ⟨some 43, some (35, false), .pick (.t 39) (.t 42) (.c (.bool false))⟩,
  ⟨some 44, none, .pick (.t 35) (.c (.bool true)) (.t 43)⟩]) [3, 44]
 (.cond (.t 44) (.seq (.reg false [⟨some 2, none, .mv (.c (.int .i64 (-1)))⟩]) [2]
 (.ret)) (.skip))) [3]
 (.seq (.reg false [⟨some 45, none, .mv (.t 3)⟩,
  ⟨some 2, none, .mv (.t 45)⟩]) [2]
 (.ret)))))) }
/- laws.markText -/
def f76l0 : ACode := (.seq (.seq (.reg false [⟨some 6, none, .mv (.t 0)⟩,
  ⟨some 7, none, .bin .gtr .val (.t 6) (.c (.int .i64 (0)))⟩]) [0, 3, 7]
 (.cond (.t 7) (.skip) (.exit 0))) [0, 3]
 (.block 1 (.seq (.reg false [⟨some 8, none, .mv (.t 0)⟩,
  ⟨some 9, none, .bin .rem .val (.t 8) (.c (.int .i64 (10)))⟩,
  ⟨some 10, none, .bin .add .val (.c (.int .i64 (48))) (.t 9)⟩,
  ⟨some 11, none, .cvInt .u8 (.t 10)⟩,
  ⟨some 12, none, .lit false 1 [.t 11]⟩,
  ⟨some 13, none, .cvStr (.t 12)⟩,
  ⟨some 14, none, .mv (.t 3)⟩,
  ⟨some 15, none, .bin .add .val (.t 13) (.t 14)⟩,
  ⟨some 3, none, .mv (.t 15)⟩]) [0, 3]
 (.reg false [⟨some 16, none, .mv (.t 0)⟩,
  ⟨some 17, none, .bin .quo .val (.t 16) (.c (.int .i64 (10)))⟩,
  ⟨some 0, none, .mv (.t 17)⟩]))))
def f76 : AFunc := { np := 1, nt := 20, res := [.tmp 2], own := false, body := (.seq (.reg false [⟨some 2, none, .mv (.c (.str []))⟩]) [0]
 (.seq (.seq (.reg false [⟨some 4, none, .mv (.t 0)⟩,
  ⟨some 5, none, .bin .leq .val (.t 4) (.c (.int .i64 (0)))⟩]) [0, 5]
 (.cond (.t 5) (.seq (.reg false [⟨some 2, none, .mv (.c (.str [109, 48]))⟩]) [2]
 (.ret)) (.skip))) [0]
 (.seq (.reg false [⟨some 3, none, .mv (.c (.str []))⟩]) [0, 3]
 (.seq (.block 0 (.loop [0, 3] f76l0)) [3]
 (.seq (.reg false [⟨some 18, none, .mv (.t 3)⟩,
  ⟨some 19, none, .bin .add .val (.c (.str [109])) (.t 18)⟩,
  ⟨some 2, none, .mv (.t 19)⟩]) [2]
 (.ret)))))) }
def tab : List (Nat × AFunc) := [(5, f5), (11, f11), (16, f16), (18, f18), (19, f19), (20, f20), (21, f21), (22, f22), (30, f30), (34, f34), (37, f37), (47, f47), (48, f48), (49, f49), (50, f50), (51, f51), (52, f52), (53, f53), (74, f74), (76, f76)]
theorem ok5 : chkFunc Tryd.prog Tryd.f5 f5 = true := by kernel_rfl
theorem ok11 : chkFunc Tryd.prog Tryd.f11 f11 = true := by kernel_rfl
theorem ok16 : chkFunc Tryd.prog Tryd.f16 f16 = true := by kernel_rfl
theorem ok18 : chkFunc Tryd.prog Tryd.f18 f18 = true := by kernel_rfl
theorem ok19 : chkFunc Tryd.prog Tryd.f19 f19 = true := by kernel_rfl
theorem ok20 : chkFunc Tryd.prog Tryd.f20 f20 = true := by kernel_rfl
theorem ok21 : chkFunc Tryd.prog Tryd.f21 f21 = true := by kernel_rfl
theorem ok22 : chkFunc Tryd.prog Tryd.f22 f22 = true := by kernel_rfl
theorem ok30 : chkFunc Tryd.prog Tryd.f30 f30 = true := by kernel_rfl
theorem ok34 : chkFunc Tryd.prog Tryd.f34 f34 = true := by kernel_rfl
theorem ok37 : chkFunc Tryd.prog Tryd.f37 f37 = true := by kernel_rfl
theorem ok47 : chkFunc Tryd.prog Tryd.f47 f47 = true := by kernel_rfl
theorem ok48 : chkFunc Tryd.prog Tryd.f48 f48 = true := by kernel_rfl
theorem ok49 : chkFunc Tryd.prog Tryd.f49 f49 = true := by kernel_rfl
theorem ok50 : chkFunc Tryd.prog Tryd.f50 f50 = true := by kernel_rfl
theorem ok51 : chkFunc Tryd.prog Tryd.f51 f51 = true := by kernel_rfl
theorem ok52 : chkFunc Tryd.prog Tryd.f52 f52 = true := by kernel_rfl
theorem ok53 : chkFunc Tryd.prog Tryd.f53 f53 = true := by kernel_rfl
theorem ok74 : chkFunc Tryd.prog Tryd.f74 f74 = true := by kernel_rfl
theorem ok76 : chkFunc Tryd.prog Tryd.f76 f76 = true := by kernel_rfl
theorem all_ok : ∀ p ∈ tab, ∃ fn, Tryd.prog.funcs[p.1]? = some fn ∧ chkFunc Tryd.prog fn p.2 = true := by
  intro p hp
  simp only [tab, List.mem_cons, List.not_mem_nil, or_false] at hp
  rcases hp with rfl | rfl | rfl | rfl | rfl | rfl | rfl | rfl | rfl | rfl | rfl | rfl | rfl | rfl | rfl | rfl | rfl | rfl | rfl | rfl
  · exact ⟨_, Tryd.func5, ok5⟩
  · exact ⟨_, Tryd.func11, ok11⟩
  · exact ⟨_, Tryd.func16, ok16⟩
  · exact ⟨_, Tryd.func18, ok18⟩
  · exact ⟨_, Tryd.func19, ok19⟩
  · exact ⟨_, Tryd.func20, ok20⟩
  · exact ⟨_, Tryd.func21, ok21⟩
  · exact ⟨_, Tryd.func22, ok22⟩
  · exact ⟨_, Tryd.func30, ok30⟩
  · exact ⟨_, Tryd.func34, ok34⟩
  · exact ⟨_, Tryd.func37, ok37⟩
  · exact ⟨_, Tryd.func47, ok47⟩
  · exact ⟨_, Tryd.func48, ok48⟩
  · exact ⟨_, Tryd.func49, ok49⟩
  · exact ⟨_, Tryd.func50, ok50⟩
  · exact ⟨_, Tryd.func51, ok51⟩
  · exact ⟨_, Tryd.func52, ok52⟩
  · exact ⟨_, Tryd.func53, ok53⟩
  · exact ⟨_, Tryd.func74, ok74⟩
  · exact ⟨_, Tryd.func76, ok76⟩
set_option maxRecDepth 100000
/-- What the variables hold that are read. -/
def globD : Glob := fun n => match n with
  | 0 => some (intsD .u64 Lib.pow10Tab)
  | 1 => some [.iface 147 (.rptr [])]
  | 2 => some [.iface 147 (.rptr [])]
  | _ => none
/-- strconv.Itoa: a number's decimals. -/
def itoaP : List V → Hp → Option (V × Hp)
  | [.d (.int .i64 n)], H => if -9223372036854775808 ≤ n ∧ n ≤ 9223372036854775807 then some (.d (.str (Lib.itoa n)), H) else none
  | _, _ => none
/-- strconv.Atoi: the number, or an error. -/
def atoiV (s : List UInt8) : V :=
  match Lib.atoiAll s with
  | .ok v => .tup [.d (.int .i64 v), .d .niface]
  | .range => .tup [.d (.int .i64 (Lib.atoiSat s)), .d (.iface 124 (.rptr []))]
  | _ => .tup [.d (.int .i64 0), .d (.iface 124 (.rptr []))]
def atoiP : List V → Hp → Option (V × Hp)
  | [.d (.str s)], H => if s.length ≤ 281474976710656 then some (atoiV s, H) else none
  | _, _ => none
def primD : Nat → Option (List V → Hp → Option (V × Hp)) := fun k => match k with
  | 40 => some itoaP
  | 75 => some atoiP
  | _ => none
theorem fnOk40 : FnOk Tryd.prog 40 := ⟨_, Tryd.func40, by kernel_rfl, by kernel_rfl⟩
theorem fnOk75 : FnOk Tryd.prog 75 := ⟨_, Tryd.func75, by kernel_rfl, by kernel_rfl⟩
theorem one_arg {w : World} {O : Own} {pl : Pl} {m : Nat} {x : D} {us : Array Value} (h : RVs w O pl m [.d x] us) : ∃ u, us = #[u] ∧ RD w O x u := by
  obtain ⟨hl, hu⟩ := h
  have h0 := hu 0 (by simp)
  simp only [List.getD_cons_zero] at h0
  refine ⟨us.getD 0 undef, ?_, h0.dd⟩
  apply Array.ext
  · simpa using hl
  · intro i h1 h2
    have : i = 0 := by simpa using h2
    subst this
    simp [Array.getD_eq_getD_getElem?, Array.getElem?_eq_getElem h1]
theorem err_of_gr {P : Program} {G : Glob} {w : World} {O : Own} (hG : GR G w O) {name : String} {g t : Nat} (hn : P.globalNamed name = some g) (hg : G g = some [.iface t (.rptr [])]) : ∃ p, w.var? P name = some #[.iface t p] := by
  obtain ⟨h1, arr, ty, fr, hh, hs⟩ := hG g _ hg
  cases h1 with
  | rptr _ b o F hO hb hc h1c hr =>
    have c := hc 0 (by simp)
    have r := hr 0 (by simp)
    simp only [List.getD_cons_zero] at r
    generalize F 0 = q at c r
    cases r with
    | iface _ _ u _ =>
      refine ⟨u, ?_⟩
      unfold World.var?
      rw [hn]
      simp only [Option.bind_some, hh, Option.some.injEq]
      simp only [World.cell?, hh] at c
      apply Array.ext
      · simpa using hs
      · intro i h1 h2
        have : i = 0 := by simpa using h2
        subst this
        rw [Array.getElem?_eq_getElem h1] at c
        simpa using c
theorem below_sound {P : Program} {G : Glob} {k : Nat} {args : List V} {H : Hp} {x : Int} {y : D} (hf : FnOk P k)
    (hc : ∀ (w : World) (pl : Pl) (us : Array Value), GR G w (owned pl H) → RVs w (owned pl H) pl (hlen H) args us → Calls P k us w fun e w' => ∃ u, e = .returned (.tuple #[.int .i64 x, u]) ∧ RowKit.Below w.heap.size w w' ∧ ∀ O, (∀ b, w.heap.size ≤ b → ¬ O b) → RD w' O y u) : SoundAt P G k args H (.tup [.d (.int .i64 x), .d y], H) := by
  refine ⟨hf, fun w pl Bd us hH hG hR => (hc w pl us hG hR).mono fun e w' he => ?_⟩
  obtain ⟨u, rfl, hB, hx⟩ := he
  obtain ⟨m1, m2⟩ := hH.mono_all (w' := w') ⟨hB.os, hB.tape, hB.output, hB.size, fun b hb _ => ⟨hB.block b hb, fun h => h⟩⟩
  refine ⟨_, pl, rfl, ⟨m1, .tup _ _ (by simp) fun i hi => ?_, m2, PlExt.refl _ _, Nat.le_refl _⟩⟩
  match i, hi with
  | 0, _ => exact .d _ _ (.int _ _)
  | 1, _ => exact .d _ _ (hx _ fun b hb hO => by have := hH.owned_lt hO; omega)
theorem rd_err {w w' : World} {N : Nat} {arr : Array Value} {ty : TypeId} {fr : Nat × Nat} (h1 : w.heap.size ≤ N) (h2 : w'.heap[N]? = some (.cells arr ty fr)) (O : Own) (hO : ∀ b, w.heap.size ≤ b → ¬ O b) : RD w' O (.iface 124 (.rptr [])) (.iface 124 (.pointer (some ⟨N, 0, none⟩))) :=
  .iface _ _ _ (.rptr [] N 0 (fun _ => undef) (hO N h1) (Array.getElem?_eq_some_iff.1 h2).1 (fun j hj => by simp at hj) (fun j hj => by simp at hj) (fun j hj => by simp at hj))
theorem prims_ok : ∀ k p, primD k = some p → ∀ args H r, p args H = some r → SoundAt Tryd.prog globD k args H r := by
  intro k p hk args H r hr
  unfold primD at hk
  split at hk
  · simp only [Option.some.injEq] at hk
    subst hk
    unfold itoaP at hr
    split at hr
    · rename_i H' n
      split at hr
      · rename_i hn
        simp only [Option.some.injEq] at hr
        subst hr
        refine prim_sound fnOk40 fun w pl us hG hR => ?_
        obtain ⟨u, rfl, hu⟩ := one_arg hR
        cases hu
        refine (Tryd.strconv_Itoa n hn.1 hn.2 w (tab_of_gr (g := 0) hG (by kernel_rfl) rfl)).mono fun e w' ⟨he, m, os, hw⟩ => ⟨_, he, .str _ _ (by simp), m, os, hw⟩
      · simp at hr
    · simp at hr
  · simp only [Option.some.injEq] at hk
    subst hk
    unfold atoiP at hr
    split at hr
    · rename_i H' s
      split at hr
      · rename_i hn
        simp only [Option.some.injEq] at hr
        subst hr
        unfold atoiV
        split
        · rename_i v hv
          refine below_sound fnOk75 fun w pl us hG hR => ?_
          obtain ⟨u, rfl, hu⟩ := one_arg hR
          cases hu
          rename_i t ht
          subst ht
          have hz : t.size = t.data.toList.length := by rw [Array.length_toList]; rfl
          refine (Tryd.strconv_Atoi_ok t (by omega) v hv w).mono fun e w' ⟨he, hw⟩ => ⟨_, he, ?_, fun O _ => .niface⟩
          rcases hw with rfl | ⟨q, rfl⟩
          · exact RowKit.Below.refl _ _
          · exact Lib.bytesWorld_below _ _ _
        · rename_i hv
          refine below_sound fnOk75 fun w pl us hG hR => ?_
          obtain ⟨u, rfl, hu⟩ := one_arg hR
          cases hu
          rename_i t ht
          subst ht
          have hz : t.size = t.data.toList.length := by rw [Array.length_toList]; rfl
          obtain ⟨p, hp⟩ := err_of_gr (P := Tryd.prog) (name := "strconv.ErrRange") (g := 2) (t := 147) hG (by kernel_rfl) rfl
          refine (Tryd.strconv_Atoi_range_var t (by omega) hv 147 p w hp).mono fun e w' ⟨N, he, h1, h2, hw⟩ => ⟨_, he, hw, fun O hO => rd_err h1 h2 O hO⟩
        · rename_i h1 h2
          refine below_sound fnOk75 fun w pl us hG hR => ?_
          obtain ⟨u, rfl, hu⟩ := one_arg hR
          cases hu
          rename_i t ht
          subst ht
          have hz : t.size = t.data.toList.length := by rw [Array.length_toList]; rfl
          obtain ⟨p, hp⟩ := err_of_gr (P := Tryd.prog) (name := "strconv.ErrSyntax") (g := 1) (t := 147) hG (by kernel_rfl) rfl
          refine (Tryd.strconv_Atoi_bad_var t (by omega) (fun v hv => h1 v hv) (fun hv => h2 hv) 147 p w hp).mono fun e w' ⟨N, he, h1, h2, hw⟩ => ⟨_, he, hw, fun O hO => rd_err h1 h2 O hO⟩
      · simp at hr
    · simp at hr
  · simp at hk
theorem prg_ok : PrgOk Tryd.prog (ofTabG tab globD primD) := ofTabG_ok (by kernel_rfl) all_ok prims_ok
noncomputable abbrev R : Prg := ofTabG tab globD primD
theorem e40 (H : Hp) (n : Int) (h : -9223372036854775808 ≤ n ∧ n ≤ 9223372036854775807) : ev R 40 [.d (.int .i64 n)] H = some (.d (.str (Lib.itoa n)), H) :=
  ev_prim (p := itoaP) rfl (by simp only [itoaP]; rw [if_pos h])
theorem e75 (H : Hp) (s : List UInt8) (h : s.length ≤ 281474976710656) : ev R 75 [.d (.str s)] H = some (atoiV s, H) :=
  ev_prim (p := atoiP) rfl (by simp only [atoiP]; rw [if_pos h])

end Go.Proofs.YtpmphmpaeooeeaaDoor.Code
