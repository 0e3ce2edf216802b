/- The functions of these laws as compact code, and that it is the given code. -/
import Derived.Test.YtpmphmpaeooeeaaDoorE30
import Derived.Test.YtpmphmpaeooeeaaDoorShelf
import Derived.Test.YtpmphmpaeooeeaaDoorChecked
import Derived.KernelRfl
import Derived.Test.YtpmphmpaeooeeaaDoorE26
namespace Go.Proofs.YtpmphmpaeooeeaaDoor.Code
open Go Go.Ev Go.Proofs
/- laws.FnExactRecordPut -/
def f3 : AFunc := { np := 2, nt := 31, res := [.tmp 4], own := false, body := (.seq (.reg false [⟨some 4, none, .mv (.c (.bool false))⟩]) [0, 1]
 (.seq (.reg false [⟨some 5, none, .mv (.c (.int .i64 (1048576)))⟩]) [0, 1, 5]
 (.seq (.reg false [⟨some 9, none, .mv (.t 1)⟩,
  ⟨some 10, none, .mv (.t 5)⟩,
  ⟨some 11, none, .pcall (.f 7) [.t 9, .t 10]⟩,
  ⟨some 5, none, .mv (.t 11)⟩]) [0, 1, 5]
 (.seq (.seq (.reg false [⟨some 12, none, .mv (.t 5)⟩,
  ⟨some 13, none, .bin .lss .val (.t 12) (.c (.int .i64 (0)))⟩]) [0, 1, 13]
 (.cond (.t 13) (.seq (.reg false [⟨some 4, none, .mv (.c (.bool true))⟩]) [4]
 (.ret)) (.skip))) [0, 1]
 (.seq (.reg false [⟨some 14, none, .mv (.t 0)⟩,
  ⟨some 15, none, .mv (.t 1)⟩,
  ⟨some 16, none, .pcall (.f 9) [.t 15]⟩,
  ⟨some 17, none, .pcall (.f 8) [.t 14, .t 16]⟩,
  ⟨some 6, none, .mv (.t 17)⟩]) [0, 1, 6]
 (.seq (.reg false [⟨some 18, none, .mv (.t 1)⟩,
  ⟨some 19, none, .pcall (.f 9) [.t 18]⟩,
  ⟨some 7, none, .mv (.t 19)⟩]) [0, 1, 6, 7]
 (.seq (.reg false [⟨some 20, none, .mv (.t 0)⟩,
  ⟨some 21, none, .mv (.t 7)⟩,
  ⟨some 22, none, .pcall (.f 10) [.t 20, .t 21]⟩,
  ⟨some 8, none, .mv (.t 22)⟩]) [1, 6, 7, 8]
 (.seq (.seq (.reg false [⟨some 23, none, .mv (.t 8)⟩,
  ⟨some 24, none, .mv (.t 6)⟩,
  ⟨some 25, none, .bin .neq .val (.t 23) (.t 24)⟩]) [1, 7, 25]
 (.cond (.t 25) (.seq (.reg false [⟨some 4, none, .mv (.c (.bool false))⟩]) [4]
 (.ret)) (.skip))) [1, 7]
 (.seq (.seq (.reg false [⟨some 26, none, .mv (.t 7)⟩,
  ⟨some 27, none, .mv (.t 1)⟩,
  ⟨some 28, none, .pcall (.f 9) [.t 27]⟩,
  ⟨some 29, none, .pcall (.f 11) [.t 26, .t 28]⟩,
  ⟨some 30, none, .un .not (.t 29)⟩]) [30]
 (.cond (.t 30) (.seq (.reg false [⟨some 4, none, .mv (.c (.bool false))⟩]) [4]
 (.ret)) (.skip))) []
 (.seq (.reg false [⟨some 4, none, .mv (.c (.bool true))⟩]) [4]
 (.ret))))))))))) }
/- laws.FnOrderText -/
def f4 : AFunc := { np := 2, nt := 81, res := [.tmp 4], own := false, body := (.seq (.reg false [⟨some 4, none, .mv (.c (.bool false))⟩]) [0, 1]
 (.seq (.seq (.reg false [⟨some 14, none, .mv (.t 0)⟩,
  ⟨some 15, none, .len false (.t 14)⟩,
  ⟨some 16, none, .bin .gtr .val (.t 15) (.c (.int .i64 (1048576)))⟩,
  ⟨some 17, none, .mv (.t 16)⟩,
  ⟨some 18, some (17, false), .mv (.t 1)⟩,
  ⟨some 19, some (17, false), .len false (.t 18)⟩,
  ⟨some 20, some (17, false), .bin .gtr .val (.t 19) (.c (.int .i64 (1048576)))⟩,
  ⟨some 21, none, .pick (.t 17) (.c (.bool true)) (.t 20)⟩]) [0, 1, 21]
 (.cond (.t 21) (.seq (.reg false [⟨some 4, none, .mv (.c (.bool true))⟩]) [4]
 (.ret)) (.skip))) [0, 1]
 (.seq (.reg false [⟨some 22, none, .mv (.t 0)⟩,
  ⟨some 23, none, .call (.f 12) [(false, .t 22)] false⟩,
  ⟨some 5, none, .mv (.t 23)⟩]) [1, 5]
 (.seq (.reg false [⟨some 24, none, .mv (.t 5)⟩,
  ⟨some 25, none, .pcall (.f 13) [.t 24]⟩,
  ⟨some 6, none, .mv (.t 25)⟩]) [1, 5, 6]
 (.seq (.seq (.reg false [⟨some 26, none, .mv (.t 6)⟩,
  ⟨some 27, none, .mv (.t 5)⟩,
  ⟨some 28, none, .pcall (.f 14) [.t 27]⟩,
  ⟨some 29, none, .bin .neq .val (.t 26) (.t 28)⟩]) [1, 5, 6, 29]
 (.cond (.t 29) (.seq (.reg false [⟨some 4, none, .mv (.c (.bool false))⟩]) [4]
 (.ret)) (.skip))) [1, 5, 6]
 (.seq (.reg false [⟨some 30, none, .mv (.t 1)⟩,
  ⟨some 31, none, .call (.f 15) [(false, .t 30)] false⟩,
  ⟨some 7, none, .mv (.t 31)⟩]) [5, 6, 7]
 (.seq (.seq (.reg false [⟨some 32, none, .mv (.t 6)⟩,
  ⟨some 33, none, .bin .neq .val (.t 32) (.c (.str []))⟩]) [5, 6, 7, 33]
 (.cond (.t 33) (.seq (.reg false [⟨some 35, none, .mv (.t 6)⟩,
  ⟨some 36, none, .mv (.t 7)⟩,
  ⟨some 37, none, .bin .add .val (.t 35) (.t 36)⟩,
  ⟨some 38, none, .pcall (.f 16) [.t 37]⟩,
  ⟨some 34, none, .mv (.t 38)⟩,
  ⟨some 39, none, .extract (.t 34) 0⟩,
  ⟨some 40, none, .extract (.t 34) 1⟩,
  ⟨some 8, none, .mv (.t 39)⟩,
  ⟨some 9, none, .mv (.t 40)⟩]) [5, 6, 7, 8, 9]
 (.seq (.reg false [⟨some 41, none, .mv (.t 9)⟩,
  ⟨some 42, none, .mv (.t 6)⟩,
  ⟨some 43, none, .len true (.t 42)⟩,
  ⟨some 44, none, .bin .neq .val (.t 41) (.t 43)⟩,
  ⟨some 45, none, .mv (.t 44)⟩,
  ⟨some 46, some (45, false), .mv (.t 8)⟩,
  ⟨some 47, some (45, false), .mv (.t 5)⟩,
  ⟨some 48, some (45, false), .pcall (.f 17) [.t 46, .t 47]⟩,
  ⟨some 49, some (45, false), .un .not (.t 48)⟩,
  ⟨some 50, none, .pick (.t 45) (.c (.bool true)) (.t 49)⟩]) [7, 50]
 (.cond (.t 50) (.seq (.reg false [⟨some 4, none, .mv (.c (.bool false))⟩]) [4]
 (.ret)) (.skip)))) (.skip))) [7]
 (.seq (.reg false [⟨some 52, none, .mv (.t 7)⟩,
  ⟨some 53, none, .pcall (.f 16) [.t 52]⟩,
  ⟨some 51, none, .mv (.t 53)⟩,
  ⟨some 54, none, .extract (.t 51) 0⟩,
  ⟨some 55, none, .extract (.t 51) 1⟩,
  ⟨some 10, none, .mv (.t 54)⟩,
  ⟨some 11, none, .mv (.t 55)⟩]) [7, 10, 11]
 (.seq (.reg false [⟨some 57, none, .mv (.t 7)⟩,
  ⟨some 58, none, .pcall (.f 18) [.t 57]⟩,
  ⟨some 56, none, .mv (.t 58)⟩,
  ⟨some 59, none, .extract (.t 56) 0⟩,
  ⟨some 60, none, .extract (.t 56) 1⟩,
  ⟨some 12, none, .mv (.t 59)⟩,
  ⟨some 13, none, .mv (.t 60)⟩]) [7, 10, 11, 12, 13]
 (.seq (.reg true [⟨some 61, none, .mv (.t 11)⟩,
  ⟨some 62, none, .mv (.t 13)⟩,
  ⟨some 63, none, .bin .eql .val (.t 61) (.t 62)⟩,
  ⟨some 64, none, .mv (.t 63)⟩,
  ⟨some 65, some (64, true), .mv (.t 10)⟩,
  ⟨some 66, some (64, true), .mv (.t 12)⟩,
  ⟨some 67, some (64, true), .pcall (.f 17) [.t 65, .t 66]⟩,
  ⟨some 68, none, .pick (.t 64) (.t 67) (.c (.bool false))⟩,
  ⟨some 69, none, .mv (.t 68)⟩,
  ⟨some 70, some (69, true), .mv (.t 11)⟩,
  ⟨some 71, some (69, true), .bin .lss .val (.t 70) (.c (.int .i64 (1)))⟩,
  ⟨some 72, some (69, true), .mv (.t 71)⟩,
  ⟨some 73, some (72, false), .mv (.t 10)⟩,
  ⟨some 74, some (72, false), .pcall (.f 13) [.t 73]⟩,
  ⟨some 75, some (72, false), .mv (.t 7)⟩,
  ⟨some 76, some (72, false), .mv (.t 11)⟩,
  ⟨some 77, some (72, false), .slice none (.t 75) none (some (.t 76))⟩,
  ⟨some 78, some (72, false), .bin .eql .val (.t 74) (.t 77)⟩,
  ⟨some 79, some (69, true), .pick (.t 72) (.c (.bool true)) (.t 78)⟩,
  ⟨some 80, none, .pick (.t 69) (.t 79) (.c (.bool false))⟩,
  ⟨some 4, none, .mv (.t 80)⟩]) [4]
 (.ret))))))))))) }
/- laws.szStringSS -/
def f7l0 : ACode := (.seq (.seq (.reg false [⟨some 12, none, .mv (.t 5)⟩,
  ⟨some 13, none, .mv (.t 0)⟩,
  ⟨some 14, none, .len false (.t 13)⟩,
  ⟨some 15, none, .bin .lss .val (.t 12) (.t 14)⟩]) [0, 1, 5, 15]
 (.cond (.t 15) (.skip) (.exit 0))) [0, 1, 5]
 (.seq (.block 1 (.seq (.reg false [⟨some 18, none, .mv (.t 0)⟩,
  ⟨some 19, none, .mv (.t 5)⟩,
  ⟨some 20, none, .iaddr 1 (.t 18) (.t 19)⟩,
  ⟨some 21, none, .load false 1 (.t 20)⟩,
  ⟨some 22, none, .mv (.t 1)⟩,
  ⟨some 23, none, .pcall (.f 29) [.t 21, .t 22]⟩,
  ⟨some 1, none, .mv (.t 23)⟩]) [0, 1, 5]
 (.seq (.reg false [⟨some 24, none, .mv (.t 1)⟩,
  ⟨some 25, none, .bin .lss .val (.t 24) (.c (.int .i64 (0)))⟩]) [0, 1, 5, 25]
 (.cond (.t 25) (.seq (.reg false [⟨some 4, none, .mv (.c (.int .i64 (-1)))⟩]) [4]
 (.ret)) (.skip))))) [0, 1, 5]
 (.reg false [⟨some 16, none, .mv (.t 5)⟩,
  ⟨some 17, none, .bin .add .val (.t 16) (.c (.int .i64 (1)))⟩,
  ⟨some 5, none, .mv (.t 17)⟩])))
def f7 : AFunc := { np := 2, nt := 27, res := [.tmp 4], own := false, body := (.seq (.reg false [⟨some 4, none, .mv (.c (.int .i64 (0)))⟩]) [0, 1]
 (.seq (.reg false [⟨some 6, none, .mv (.t 1)⟩,
  ⟨some 7, none, .mv (.t 0)⟩,
  ⟨some 8, none, .len false (.t 7)⟩,
  ⟨some 9, none, .bin .sub .val (.t 6) (.t 8)⟩,
  ⟨some 1, none, .mv (.t 9)⟩]) [0, 1]
 (.seq (.seq (.reg false [⟨some 10, none, .mv (.t 1)⟩,
  ⟨some 11, none, .bin .lss .val (.t 10) (.c (.int .i64 (0)))⟩]) [0, 1, 11]
 (.cond (.t 11) (.seq (.reg false [⟨some 4, none, .mv (.c (.int .i64 (-1)))⟩]) [4]
 (.ret)) (.skip))) [0, 1]
 (.seq (.seq (.reg false [⟨some 5, none, .mv (.c (.int .i64 (0)))⟩]) [0, 1, 5]
 (.block 0 (.loop [0, 1, 5] f7l0))) [1]
 (.seq (.reg false [⟨some 26, none, .mv (.t 1)⟩,
  ⟨some 4, none, .mv (.t 26)⟩]) [4]
 (.ret)))))) }
/- spec.RecordPut -/
def f8 : AFunc := { np := 2, nt := 16, res := [.tmp 4], own := false, body := (.seq (.reg false [⟨some 4, none, .mv (.c (.str []))⟩]) [0, 1]
 (.seq (.seq (.reg false [⟨some 5, none, .mv (.t 0)⟩,
  ⟨some 6, none, .pcall (.f 30) [.t 5, .c (.int .i64 (0)), .c (.int .i64 (1000000))]⟩,
  ⟨some 7, none, .un .not (.t 6)⟩,
  ⟨some 8, none, .mv (.t 7)⟩,
  ⟨some 9, some (8, false), .mv (.t 1)⟩,
  ⟨some 10, some (8, false), .pcall (.f 31) [.t 9]⟩,
  ⟨some 11, some (8, false), .un .not (.t 10)⟩,
  ⟨some 12, none, .pick (.t 8) (.c (.bool true)) (.t 11)⟩]) [0, 1, 12]
 (.cond (.t 12) (.seq (.reg false [⟨some 4, none, .mv (.c (.str []))⟩]) [4]
 (.ret)) (.skip))) [0, 1]
 (.seq (.reg false [⟨some 13, none, .mv (.t 0)⟩,
  ⟨some 14, none, .mv (.t 1)⟩,
  ⟨some 15, none, .pcall (.f 32) [.t 13, .t 14]⟩,
  ⟨some 4, none, .mv (.t 15)⟩]) [4]
 (.ret)))) }
/- laws.toStringSS -/
def f9l0 : ACode := (.seq (.seq (.reg false [⟨some 8, none, .mv (.t 4)⟩,
  ⟨some 9, none, .mv (.t 0)⟩,
  ⟨some 10, none, .len false (.t 9)⟩,
  ⟨some 11, none, .bin .lss .val (.t 8) (.t 10)⟩]) [0, 3, 4, 11]
 (.cond (.t 11) (.skip) (.exit 0))) [0, 3, 4]
 (.seq (.block 1 (.reg false [⟨some 14, none, .mv (.t 3)⟩,
  ⟨some 15, none, .mv (.t 4)⟩,
  ⟨some 16, none, .mv (.t 0)⟩,
  ⟨some 17, none, .mv (.t 4)⟩,
  ⟨some 18, none, .iaddr 1 (.t 16) (.t 17)⟩,
  ⟨some 19, none, .load false 1 (.t 18)⟩,
  ⟨some 20, none, .pcall (.f 33) [.t 19]⟩,
  ⟨some 21, none, .iaddr 1 (.t 14) (.t 15)⟩,
  ⟨none, none, .store 1 (.t 21) (.t 20)⟩])) [0, 3, 4]
 (.reg false [⟨some 12, none, .mv (.t 4)⟩,
  ⟨some 13, none, .bin .add .val (.t 12) (.c (.int .i64 (1)))⟩,
  ⟨some 4, none, .mv (.t 13)⟩])))
def f9 : AFunc := { np := 1, nt := 23, res := [.tmp 2], own := false, body := (.seq (.reg false [⟨some 2, none, .mv (.nil 1)⟩]) [0]
 (.seq (.reg false [⟨some 5, none, .mv (.t 0)⟩,
  ⟨some 6, none, .len false (.t 5)⟩,
  ⟨some 7, none, .mkslice 1 24 (.nils 1) (.t 6) (.t 6)⟩,
  ⟨some 3, none, .mv (.t 7)⟩]) [0, 3]
 (.seq (.seq (.reg false [⟨some 4, none, .mv (.c (.int .i64 (0)))⟩]) [0, 3, 4]
 (.block 0 (.loop [0, 3, 4] f9l0))) [3]
 (.seq (.reg false [⟨some 22, none, .mv (.t 3)⟩,
  ⟨some 2, none, .mv (.t 22)⟩]) [2]
 (.ret))))) }
/- impl.RecordPut -/
def f10l0 : ACode := (.seq (.reg false [⟨some 27, none, .bin .lss .val (.t 26) (.t 25)⟩]) [5, 24, 25, 26, 27]
 (.seq (.cond (.t 27) (.skip) (.exit 0)) [5, 24, 25, 26]
 (.seq (.block 1 (.seq (.reg false [⟨some 28, none, .iaddr 1 (.t 24) (.t 26)⟩,
  ⟨some 29, none, .load false 1 (.t 28)⟩,
  ⟨some 7, none, .mv (.t 29)⟩]) [5, 7, 24, 25, 26]
 (.seq (.seq (.reg false [⟨some 30, none, .mv (.t 7)⟩,
  ⟨some 31, none, .pcall (.f 36) [.t 30]⟩,
  ⟨some 32, none, .un .not (.t 31)⟩]) [5, 7, 24, 25, 26, 32]
 (.cond (.t 32) (.seq (.reg false [⟨some 4, none, .mv (.c (.str []))⟩]) [4]
 (.ret)) (.skip))) [5, 7, 24, 25, 26]
 (.reg false [⟨some 33, none, .mv (.t 5)⟩,
  ⟨some 34, none, .mv (.t 7)⟩,
  ⟨some 35, none, .pcall (.f 13) [.t 34]⟩,
  ⟨some 36, none, .bin .add .val (.t 33) (.t 35)⟩,
  ⟨some 5, none, .mv (.t 36)⟩])))) [5, 24, 25, 26]
 (.reg false [⟨some 37, none, .bin .add .val (.t 26) (.c (.int .i64 (1)))⟩,
  ⟨some 26, none, .mv (.t 37)⟩]))))
def f10 : AFunc := { np := 2, nt := 39, res := [.tmp 4], own := false, body := (.seq (.reg false [⟨some 4, none, .mv (.c (.str []))⟩]) [0, 1]
 (.seq (.seq (.reg false [⟨some 8, none, .mv (.t 0)⟩,
  ⟨some 9, none, .pcall (.f 34) [.t 8, .c (.int .i64 (0)), .c (.int .i64 (1000000))]⟩,
  ⟨some 10, none, .un .not (.t 9)⟩,
  ⟨some 11, none, .mv (.t 10)⟩,
  ⟨some 12, some (11, false), .mv (.t 1)⟩,
  ⟨some 13, some (11, false), .len false (.t 12)⟩,
  ⟨some 14, some (11, false), .pcall (.f 34) [.t 13, .c (.int .i64 (1)), .c (.int .i64 (60))]⟩,
  ⟨some 15, some (11, false), .un .not (.t 14)⟩,
  ⟨some 16, none, .pick (.t 11) (.c (.bool true)) (.t 15)⟩]) [0, 1, 16]
 (.cond (.t 16) (.seq (.reg false [⟨some 4, none, .mv (.c (.str []))⟩]) [4]
 (.ret)) (.skip))) [0, 1]
 (.seq (.reg false [⟨some 17, none, .mv (.t 0)⟩,
  ⟨some 18, none, .pcall (.f 35) [.t 17]⟩,
  ⟨some 19, none, .mv (.t 1)⟩,
  ⟨some 20, none, .len false (.t 19)⟩,
  ⟨some 21, none, .pcall (.f 35) [.t 20]⟩,
  ⟨some 22, none, .lit false 1 [.c (.str [65, 84]), .t 18, .t 21]⟩,
  ⟨some 23, none, .pcall (.f 13) [.t 22]⟩,
  ⟨some 5, none, .mv (.t 23)⟩]) [1, 5]
 (.seq (.seq (.reg false [⟨some 24, none, .mv (.t 1)⟩,
  ⟨some 25, none, .len false (.t 24)⟩,
  ⟨some 26, none, .mv (.c (.int .i64 (0)))⟩]) [5, 24, 25, 26]
 (.block 0 (.loop [5, 24, 25, 26] f10l0))) [5]
 (.seq (.reg false [⟨some 38, none, .mv (.t 5)⟩,
  ⟨some 4, none, .mv (.t 38)⟩]) [4]
 (.ret)))))) }
/- laws.eqStringSS -/
def f11l0 : ACode := (.seq (.seq (.reg false [⟨some 11, none, .mv (.t 5)⟩,
  ⟨some 12, none, .mv (.t 0)⟩,
  ⟨some 13, none, .len false (.t 12)⟩,
  ⟨some 14, none, .bin .lss .val (.t 11) (.t 13)⟩]) [0, 1, 5, 14]
 (.cond (.t 14) (.skip) (.exit 0))) [0, 1, 5]
 (.seq (.block 1 (.seq (.reg true [⟨some 17, none, .mv (.t 0)⟩,
  ⟨some 18, none, .mv (.t 5)⟩,
  ⟨some 19, none, .iaddr 1 (.t 17) (.t 18)⟩,
  ⟨some 20, none, .load false 1 (.t 19)⟩,
  ⟨some 21, none, .mv (.t 1)⟩,
  ⟨some 22, none, .mv (.t 5)⟩,
  ⟨some 23, none, .iaddr 1 (.t 21) (.t 22)⟩,
  ⟨some 24, none, .load false 1 (.t 23)⟩,
  ⟨some 25, none, .pcall (.f 37) [.t 20, .t 24]⟩,
  ⟨some 26, none, .un .not (.t 25)⟩]) [0, 1, 5, 26]
 (.cond (.t 26) (.seq (.reg false [⟨some 4, none, .mv (.c (.bool false))⟩]) [4]
 (.ret)) (.skip)))) [0, 1, 5]
 (.reg false [⟨some 15, none, .mv (.t 5)⟩,
  ⟨some 16, none, .bin .add .val (.t 15) (.c (.int .i64 (1)))⟩,
  ⟨some 5, none, .mv (.t 16)⟩])))
def f11 : AFunc := { np := 2, nt := 27, res := [.tmp 4], own := false, body := (.seq (.reg false [⟨some 4, none, .mv (.c (.bool false))⟩]) [0, 1]
 (.seq (.seq (.reg false [⟨some 6, none, .mv (.t 0)⟩,
  ⟨some 7, none, .len false (.t 6)⟩,
  ⟨some 8, none, .mv (.t 1)⟩,
  ⟨some 9, none, .len false (.t 8)⟩,
  ⟨some 10, none, .bin .neq .val (.t 7) (.t 9)⟩]) [0, 1, 10]
 (.cond (.t 10) (.seq (.reg false [⟨some 4, none, .mv (.c (.bool false))⟩]) [4]
 (.ret)) (.skip))) [0, 1]
 (.seq (.seq (.reg false [⟨some 5, none, .mv (.c (.int .i64 (0)))⟩]) [0, 1, 5]
 (.block 0 (.loop [0, 1, 5] f11l0))) []
 (.seq (.reg false [⟨some 4, none, .mv (.c (.bool true))⟩]) [4]
 (.ret))))) }
/- spec.DrawOrderPut -/
def f12 : AFunc := { np := 1, nt := 6, res := [.tmp 2], own := false, body := (.seq (.reg false [⟨some 2, none, .mv (.nil 1)⟩]) [0]
 (.seq (.reg false [⟨some 3, none, .mv (.t 0)⟩,
  ⟨some 4, none, .call (.f 39) [(false, .t 3)] false⟩,
  ⟨some 5, none, .call (.f 38) [(false, .t 4)] false⟩,
  ⟨some 2, none, .mv (.t 5)⟩]) [2]
 (.ret))) }
/- impl.OrderPut -/
def f13l0 : ACode := (.seq (.reg false [⟨some 17, none, .bin .lss .val (.t 16) (.t 15)⟩]) [3, 14, 15, 16, 17]
 (.seq (.cond (.t 17) (.skip) (.exit 0)) [3, 14, 15, 16]
 (.seq (.block 1 (.seq (.reg false [⟨some 18, none, .iaddr 1 (.t 14) (.t 16)⟩,
  ⟨some 19, none, .load false 1 (.t 18)⟩,
  ⟨some 5, none, .mv (.t 19)⟩]) [3, 5, 14, 15, 16]
 (.reg false [⟨some 20, none, .mv (.t 3)⟩,
  ⟨some 21, none, .mv (.t 5)⟩,
  ⟨some 22, none, .pcall (.f 41) [.t 21]⟩,
  ⟨some 23, none, .bin .add .val (.t 20) (.t 22)⟩,
  ⟨some 3, none, .mv (.t 23)⟩]))) [3, 14, 15, 16]
 (.reg false [⟨some 24, none, .bin .add .val (.t 16) (.c (.int .i64 (1)))⟩,
  ⟨some 16, none, .mv (.t 24)⟩]))))
def f13 : AFunc := { np := 1, nt := 26, res := [.tmp 2], own := false, body := (.seq (.reg false [⟨some 2, none, .mv (.c (.str []))⟩]) [0]
 (.seq (.seq (.reg false [⟨some 6, none, .mv (.t 0)⟩,
  ⟨some 7, none, .pcall (.f 36) [.t 6]⟩,
  ⟨some 8, none, .un .not (.t 7)⟩]) [0, 8]
 (.cond (.t 8) (.seq (.reg false [⟨some 2, none, .mv (.c (.str []))⟩]) [2]
 (.ret)) (.skip))) [0]
 (.seq (.reg false [⟨some 9, none, .mv (.t 0)⟩,
  ⟨some 10, none, .len false (.t 9)⟩,
  ⟨some 11, none, .pcall (.f 40) [.t 10]⟩,
  ⟨some 12, none, .bin .add .val (.c (.str [42])) (.t 11)⟩,
  ⟨some 13, none, .bin .add .val (.t 12) (.c (.str [13, 10]))⟩,
  ⟨some 3, none, .mv (.t 13)⟩]) [0, 3]
 (.seq (.seq (.reg false [⟨some 14, none, .mv (.t 0)⟩,
  ⟨some 15, none, .len false (.t 14)⟩,
  ⟨some 16, none, .mv (.c (.int .i64 (0)))⟩]) [3, 14, 15, 16]
 (.block 0 (.loop [3, 14, 15, 16] f13l0))) [3]
 (.seq (.reg false [⟨some 25, none, .mv (.t 3)⟩,
  ⟨some 2, none, .mv (.t 25)⟩]) [2]
 (.ret)))))) }
/- spec.OrderPut -/
def f14 : AFunc := { np := 1, nt := 8, res := [.tmp 2], own := false, body := (.seq (.reg false [⟨some 2, none, .mv (.c (.str []))⟩]) [0]
 (.seq (.seq (.reg false [⟨some 3, none, .mv (.t 0)⟩,
  ⟨some 4, none, .pcall (.f 42) [.t 3]⟩,
  ⟨some 5, none, .un .not (.t 4)⟩]) [0, 5]
 (.cond (.t 5) (.seq (.reg false [⟨some 2, none, .mv (.c (.str []))⟩]) [2]
 (.ret)) (.skip))) [0]
 (.seq (.reg false [⟨some 6, none, .mv (.t 0)⟩,
  ⟨some 7, none, .pcall (.f 43) [.t 6]⟩,
  ⟨some 2, none, .mv (.t 7)⟩]) [2]
 (.ret)))) }
/- spec.DrawOrderGet -/
def f15 : AFunc := { np := 1, nt := 21, res := [.tmp 2], own := false, body := (.seq (.reg false [⟨some 2, none, .mv (.c (.str []))⟩]) [0]
 (.seq (.reg false [⟨some 5, none, .mv (.t 0)⟩,
  ⟨some 6, none, .call (.f 39) [(false, .t 5)] false⟩,
  ⟨some 3, none, .mv (.t 6)⟩]) [3]
 (.seq (.reg false [⟨some 7, none, .mv (.t 3)⟩,
  ⟨some 8, none, .call (.f 44) [(false, .t 7)] true⟩,
  ⟨some 9, none, .pcall (.f 14) [.t 8]⟩,
  ⟨some 4, none, .mv (.t 9)⟩]) [3, 4]
 (.seq (.seq (.reg false [⟨some 10, none, .mv (.t 3)⟩,
  ⟨some 11, none, .call (.f 45) [(false, .t 10), (false, .c (.int .i64 (3)))] false⟩,
  ⟨some 12, none, .bin .eql .val (.t 11) (.c (.int .i64 (0)))⟩]) [3, 4, 12]
 (.cond (.t 12) (.reg false [⟨some 13, none, .mv (.t 4)⟩,
  ⟨some 14, none, .mv (.t 3)⟩,
  ⟨some 15, none, .call (.f 44) [(false, .t 14)] true⟩,
  ⟨some 16, none, .pcall (.f 14) [.t 15]⟩,
  ⟨some 17, none, .bin .add .val (.t 13) (.t 16)⟩,
  ⟨some 4, none, .mv (.t 17)⟩]) (.skip))) [3, 4]
 (.seq (.reg false [⟨some 18, none, .mv (.t 3)⟩,
  ⟨some 19, none, .mv (.t 4)⟩,
  ⟨some 20, none, .call (.f 46) [(false, .t 18), (false, .t 19)] false⟩,
  ⟨some 2, none, .mv (.t 20)⟩]) [2]
 (.ret)))))) }
/- impl.OrderGet -/
def f16l0 : ACode := (.seq (.seq (.reg false [⟨some 15, none, .mv (.t 7)⟩,
  ⟨some 16, none, .mv (.t 5)⟩,
  ⟨some 17, none, .bin .lss .val (.t 15) (.t 16)⟩,
  ⟨some 18, none, .mv (.t 17)⟩,
  ⟨some 19, some (18, true), .mv (.t 4)⟩,
  ⟨some 20, some (18, true), .nilck (.t 19)⟩,
  ⟨some 21, some (18, true), .faddr 2 (.t 20)⟩,
  ⟨some 22, some (18, true), .load false 1 (.t 21)⟩,
  ⟨some 23, some (18, true), .un .not (.t 22)⟩,
  ⟨some 24, none, .pick (.t 18) (.t 23) (.c (.bool false))⟩,
  ⟨some 25, none, .mv (.t 24)⟩,
  ⟨some 26, some (25, true), .mv (.t 4)⟩,
  ⟨some 27, some (25, true), .nilck (.t 26)⟩,
  ⟨some 28, some (25, true), .faddr 3 (.t 27)⟩,
  ⟨some 29, some (25, true), .load false 1 (.t 28)⟩,
  ⟨some 30, some (25, true), .un .not (.t 29)⟩,
  ⟨some 31, none, .pick (.t 25) (.t 30) (.c (.bool false))⟩]) [0, 4, 5, 6, 7, 31]
 (.cond (.t 31) (.skip) (.exit 0))) [0, 4, 5, 6, 7]
 (.seq (.block 1 (.seq (.reg false [⟨some 34, none, .mv (.t 4)⟩,
  ⟨some 35, none, .call (.f 47) [(false, .t 34), (false, .c (.int .u8 (36))), (false, .c (.int .i64 (0))), (false, .c (.int .i64 (40)))] false⟩,
  ⟨some 8, none, .mv (.t 35)⟩]) [0, 4, 5, 6, 7, 8]
 (.seq (.seq (.reg false [⟨some 36, none, .mv (.t 4)⟩,
  ⟨some 37, none, .nilck (.t 36)⟩,
  ⟨some 38, none, .faddr 2 (.t 37)⟩,
  ⟨some 39, none, .load false 1 (.t 38)⟩,
  ⟨some 40, none, .mv (.t 39)⟩,
  ⟨some 41, some (40, false), .mv (.t 4)⟩,
  ⟨some 42, some (40, false), .nilck (.t 41)⟩,
  ⟨some 43, some (40, false), .faddr 3 (.t 42)⟩,
  ⟨some 44, some (40, false), .load false 1 (.t 43)⟩,
  ⟨some 45, none, .pick (.t 40) (.c (.bool true)) (.t 44)⟩]) [0, 4, 5, 6, 7, 8, 45]
 (.cond (.t 45) (.exit 0) (.skip))) [0, 4, 5, 6, 7, 8]
 (.seq (.seq (.reg false [⟨some 46, none, .mv (.t 0)⟩,
  ⟨some 47, none, .len true (.t 46)⟩,
  ⟨some 48, none, .mv (.t 4)⟩,
  ⟨some 49, none, .nilck (.t 48)⟩,
  ⟨some 50, none, .faddr 1 (.t 49)⟩,
  ⟨some 51, none, .load false 1 (.t 50)⟩,
  ⟨some 52, none, .bin .sub .val (.t 47) (.t 51)⟩,
  ⟨some 53, none, .mv (.t 8)⟩,
  ⟨some 54, none, .bin .lss .val (.t 52) (.t 53)⟩]) [0, 4, 5, 6, 7, 8, 54]
 (.cond (.t 54) (.seq (.reg false [⟨some 55, none, .mv (.t 4)⟩,
  ⟨some 56, none, .nilck (.t 55)⟩,
  ⟨some 57, none, .faddr 2 (.t 56)⟩,
  ⟨none, none, .store 1 (.t 57) (.c (.bool true))⟩]) [4, 6]
 (.exit 0)) (.skip))) [0, 4, 5, 6, 7, 8]
 (.seq (.reg true [⟨some 58, none, .mv (.t 6)⟩,
  ⟨some 59, none, .mv (.t 0)⟩,
  ⟨some 60, none, .mv (.t 4)⟩,
  ⟨some 61, none, .nilck (.t 60)⟩,
  ⟨some 62, none, .faddr 1 (.t 61)⟩,
  ⟨some 63, none, .load false 1 (.t 62)⟩,
  ⟨some 64, none, .mv (.t 4)⟩,
  ⟨some 65, none, .nilck (.t 64)⟩,
  ⟨some 66, none, .faddr 1 (.t 65)⟩,
  ⟨some 67, none, .load false 1 (.t 66)⟩,
  ⟨some 68, none, .mv (.t 8)⟩,
  ⟨some 69, none, .bin .add .val (.t 67) (.t 68)⟩,
  ⟨some 70, none, .slice none (.t 59) (some (.t 63)) (some (.t 69))⟩,
  ⟨some 71, none, .lit false 1 [.t 70]⟩,
  ⟨some 72, none, .append 1 16 (.t 58) (.t 71)⟩,
  ⟨some 6, none, .mv (.t 72)⟩]) [0, 4, 5, 6, 7, 8]
 (.seq (.reg false [⟨some 73, none, .mv (.t 4)⟩,
  ⟨some 74, none, .nilck (.t 73)⟩,
  ⟨some 75, none, .faddr 1 (.t 74)⟩,
  ⟨some 76, none, .load false 1 (.t 75)⟩,
  ⟨some 77, none, .mv (.t 8)⟩,
  ⟨some 78, none, .bin .add .val (.t 76) (.t 77)⟩,
  ⟨some 79, none, .nilck (.t 73)⟩,
  ⟨some 80, none, .faddr 1 (.t 79)⟩,
  ⟨none, none, .store 1 (.t 80) (.t 78)⟩]) [0, 4, 5, 6, 7]
 (.seq (.reg false [⟨some 81, none, .mv (.t 4)⟩,
  ⟨some 82, none, .call (.f 48) [(false, .t 81), (false, .c (.int .u8 (13)))] false⟩]) [0, 4, 5, 6, 7]
 (.reg false [⟨some 83, none, .mv (.t 4)⟩,
  ⟨some 84, none, .call (.f 48) [(false, .t 83), (false, .c (.int .u8 (10)))] false⟩])))))))) [0, 4, 5, 6, 7]
 (.reg false [⟨some 32, none, .mv (.t 7)⟩,
  ⟨some 33, none, .bin .add .val (.t 32) (.c (.int .i64 (1)))⟩,
  ⟨some 7, none, .mv (.t 33)⟩])))
def f16 : AFunc := { np := 1, nt := 102, res := [.tmp 2, .tmp 3], own := false, body := (.seq (.reg false [⟨some 2, none, .mv (.nil 1)⟩,
  ⟨some 3, none, .mv (.c (.int .i64 (0)))⟩]) [0]
 (.seq (.reg false [⟨some 9, none, .mv (.t 0)⟩,
  ⟨some 10, none, .build [.d (.str []), .d (.int .i64 (0)), .d (.bool false), .d (.bool false)] [(0, 1, .t 9)]⟩,
  ⟨some 11, none, .box (.t 10)⟩,
  ⟨some 4, none, .mv (.t 11)⟩]) [0, 4]
 (.seq (.reg false [⟨some 12, none, .mv (.t 4)⟩,
  ⟨some 13, none, .call (.f 47) [(false, .t 12), (false, .c (.int .u8 (42))), (false, .c (.int .i64 (1))), (false, .c (.int .i64 (8)))] false⟩,
  ⟨some 5, none, .mv (.t 13)⟩]) [0, 4, 5]
 (.seq (.reg false [⟨some 14, none, .lit true 1 []⟩,
  ⟨some 6, none, .mv (.t 14)⟩]) [0, 4, 5, 6]
 (.seq (.seq (.reg false [⟨some 7, none, .mv (.c (.int .i64 (0)))⟩]) [0, 4, 5, 6, 7]
 (.block 0 (.loop [0, 4, 5, 6, 7] f16l0))) [4, 6]
 (.seq (.block 2 (.seq (.reg false [⟨some 86, none, .mv (.t 4)⟩,
  ⟨some 87, none, .nilck (.t 86)⟩,
  ⟨some 88, none, .faddr 3 (.t 87)⟩,
  ⟨some 89, none, .load false 1 (.t 88)⟩,
  ⟨some 85, none, .mv (.t 89)⟩]) [4, 6, 85]
 (.cond (.t 85) (.seq (.reg false [⟨some 90, none, .lit false 1 []⟩,
  ⟨some 2, none, .mv (.t 90)⟩,
  ⟨some 3, none, .mv (.c (.int .i64 (-1)))⟩]) [2, 3]
 (.ret)) (.seq (.reg false [⟨some 92, none, .mv (.t 4)⟩,
  ⟨some 93, none, .nilck (.t 92)⟩,
  ⟨some 94, none, .faddr 2 (.t 93)⟩,
  ⟨some 95, none, .load false 1 (.t 94)⟩,
  ⟨some 91, none, .mv (.t 95)⟩]) [4, 6, 91]
 (.cond (.t 91) (.seq (.reg false [⟨some 96, none, .lit false 1 []⟩,
  ⟨some 2, none, .mv (.t 96)⟩,
  ⟨some 3, none, .mv (.c (.int .i64 (0)))⟩]) [2, 3]
 (.ret)) (.skip)))))) [4, 6]
 (.seq (.reg true [⟨some 97, none, .mv (.t 6)⟩,
  ⟨some 98, none, .mv (.t 4)⟩,
  ⟨some 99, none, .nilck (.t 98)⟩,
  ⟨some 100, none, .faddr 1 (.t 99)⟩,
  ⟨some 101, none, .load false 1 (.t 100)⟩,
  ⟨some 2, none, .mv (.t 97)⟩,
  ⟨some 3, none, .mv (.t 101)⟩]) [2, 3]
 (.ret)))))))) }
/- laws.qxTexts -/
def f17l0 : ACode := (.seq (.seq (.reg false [⟨some 11, none, .mv (.t 5)⟩,
  ⟨some 12, none, .mv (.t 0)⟩,
  ⟨some 13, none, .len false (.t 12)⟩,
  ⟨some 14, none, .bin .lss .val (.t 11) (.t 13)⟩]) [0, 1, 5, 14]
 (.cond (.t 14) (.skip) (.exit 0))) [0, 1, 5]
 (.seq (.block 1 (.seq (.reg true [⟨some 17, none, .mv (.t 0)⟩,
  ⟨some 18, none, .mv (.t 5)⟩,
  ⟨some 19, none, .iaddr 1 (.t 17) (.t 18)⟩,
  ⟨some 20, none, .load false 1 (.t 19)⟩,
  ⟨some 21, none, .mv (.t 1)⟩,
  ⟨some 22, none, .mv (.t 5)⟩,
  ⟨some 23, none, .iaddr 1 (.t 21) (.t 22)⟩,
  ⟨some 24, none, .load false 1 (.t 23)⟩,
  ⟨some 25, none, .bin .neq .val (.t 20) (.t 24)⟩]) [0, 1, 5, 25]
 (.cond (.t 25) (.seq (.reg false [⟨some 4, none, .mv (.c (.bool false))⟩]) [4]
 (.ret)) (.skip)))) [0, 1, 5]
 (.reg false [⟨some 15, none, .mv (.t 5)⟩,
  ⟨some 16, none, .bin .add .val (.t 15) (.c (.int .i64 (1)))⟩,
  ⟨some 5, none, .mv (.t 16)⟩])))
def f17 : AFunc := { np := 2, nt := 26, res := [.tmp 4], own := false, body := (.seq (.reg false [⟨some 4, none, .mv (.c (.bool false))⟩]) [0, 1]
 (.seq (.seq (.reg false [⟨some 6, none, .mv (.t 0)⟩,
  ⟨some 7, none, .len false (.t 6)⟩,
  ⟨some 8, none, .mv (.t 1)⟩,
  ⟨some 9, none, .len false (.t 8)⟩,
  ⟨some 10, none, .bin .neq .val (.t 7) (.t 9)⟩]) [0, 1, 10]
 (.cond (.t 10) (.seq (.reg false [⟨some 4, none, .mv (.c (.bool false))⟩]) [4]
 (.ret)) (.skip))) [0, 1]
 (.seq (.seq (.reg false [⟨some 5, none, .mv (.c (.int .i64 (0)))⟩]) [0, 1, 5]
 (.block 0 (.loop [0, 1, 5] f17l0))) []
 (.seq (.reg false [⟨some 4, none, .mv (.c (.bool true))⟩]) [4]
 (.ret))))) }
/- spec.OrderGet -/
def f18l0 : ACode := (.seq (.seq (.reg false [⟨some 23, none, .mv (.t 8)⟩,
  ⟨some 24, none, .mv (.t 4)⟩,
  ⟨some 25, none, .bin .lss .val (.t 23) (.t 24)⟩]) [0, 4, 5, 7, 8, 25]
 (.cond (.t 25) (.skip) (.exit 0))) [0, 4, 5, 7, 8]
 (.seq (.block 1 (.seq (.reg false [⟨some 29, none, .mv (.t 5)⟩,
  ⟨some 30, none, .pcall (.f 49) [.t 29, .c (.int .u8 (36)), .c (.int .i64 (0)), .c (.int .i64 (40))]⟩,
  ⟨some 28, none, .mv (.t 30)⟩,
  ⟨some 31, none, .extract (.t 28) 0⟩,
  ⟨some 32, none, .extract (.t 28) 1⟩,
  ⟨some 33, none, .extract (.t 28) 2⟩,
  ⟨some 9, none, .mv (.t 31)⟩,
  ⟨some 10, none, .mv (.t 32)⟩,
  ⟨some 11, none, .mv (.t 33)⟩]) [0, 4, 7, 8, 9, 10, 11]
 (.seq (.seq (.reg false [⟨some 34, none, .mv (.t 11)⟩,
  ⟨some 35, none, .bin .lss .val (.t 34) (.c (.int .i64 (1)))⟩]) [0, 4, 7, 8, 9, 10, 11, 35]
 (.cond (.t 35) (.seq (.reg false [⟨some 36, none, .lit false 1 []⟩,
  ⟨some 37, none, .mv (.t 11)⟩,
  ⟨some 2, none, .mv (.t 36)⟩,
  ⟨some 3, none, .mv (.t 37)⟩]) [2, 3]
 (.ret)) (.skip))) [0, 4, 7, 8, 9, 10]
 (.seq (.seq (.reg false [⟨some 38, none, .mv (.t 10)⟩,
  ⟨some 39, none, .len true (.t 38)⟩,
  ⟨some 40, none, .mv (.t 9)⟩,
  ⟨some 41, none, .bin .gtr .val (.t 39) (.t 40)⟩,
  ⟨some 42, none, .mv (.t 41)⟩,
  ⟨some 43, some (42, true), .mv (.t 10)⟩,
  ⟨some 44, some (42, true), .mv (.t 9)⟩,
  ⟨some 45, some (42, true), .idx (.t 43) (.t 44)⟩,
  ⟨some 46, some (42, true), .bin .neq .val (.t 45) (.c (.int .u8 (13)))⟩,
  ⟨some 47, none, .pick (.t 42) (.t 46) (.c (.bool false))⟩,
  ⟨some 48, none, .mv (.t 47)⟩,
  ⟨some 49, some (48, false), .mv (.t 10)⟩,
  ⟨some 50, some (48, false), .len true (.t 49)⟩,
  ⟨some 51, some (48, false), .mv (.t 9)⟩,
  ⟨some 52, some (48, false), .bin .add .val (.t 51) (.c (.int .i64 (1)))⟩,
  ⟨some 53, some (48, false), .bin .gtr .val (.t 50) (.t 52)⟩,
  ⟨some 54, some (48, false), .mv (.t 53)⟩,
  ⟨some 55, some (54, true), .mv (.t 10)⟩,
  ⟨some 56, some (54, true), .mv (.t 9)⟩,
  ⟨some 57, some (54, true), .bin .add .val (.t 56) (.c (.int .i64 (1)))⟩,
  ⟨some 58, some (54, true), .idx (.t 55) (.t 57)⟩,
  ⟨some 59, some (54, true), .bin .neq .val (.t 58) (.c (.int .u8 (10)))⟩,
  ⟨some 60, some (48, false), .pick (.t 54) (.t 59) (.c (.bool false))⟩,
  ⟨some 61, none, .pick (.t 48) (.c (.bool true)) (.t 60)⟩]) [0, 4, 7, 8, 9, 10, 61]
 (.cond (.t 61) (.seq (.reg false [⟨some 62, none, .lit false 1 []⟩,
  ⟨some 2, none, .mv (.t 62)⟩,
  ⟨some 3, none, .mv (.c (.int .i64 (-1)))⟩]) [2, 3]
 (.ret)) (.skip))) [0, 4, 7, 8, 9, 10]
 (.seq (.seq (.reg false [⟨some 63, none, .mv (.t 10)⟩,
  ⟨some 64, none, .len true (.t 63)⟩,
  ⟨some 65, none, .mv (.t 9)⟩,
  ⟨some 66, none, .bin .add .val (.t 65) (.c (.int .i64 (2)))⟩,
  ⟨some 67, none, .bin .lss .val (.t 64) (.t 66)⟩]) [0, 4, 7, 8, 9, 10, 67]
 (.cond (.t 67) (.seq (.reg false [⟨some 68, none, .lit false 1 []⟩,
  ⟨some 2, none, .mv (.t 68)⟩,
  ⟨some 3, none, .mv (.c (.int .i64 (0)))⟩]) [2, 3]
 (.ret)) (.skip))) [0, 4, 7, 8, 9, 10]
 (.seq (.reg false [⟨some 69, none, .mv (.t 7)⟩,
  ⟨some 70, none, .mv (.t 10)⟩,
  ⟨some 71, none, .mv (.t 9)⟩,
  ⟨some 72, none, .slice none (.t 70) none (some (.t 71))⟩,
  ⟨some 73, none, .lit false 1 [.t 72]⟩,
  ⟨some 74, none, .append 1 16 (.t 69) (.t 73)⟩,
  ⟨some 7, none, .mv (.t 74)⟩]) [0, 4, 7, 8, 9, 10]
 (.reg false [⟨some 75, none, .mv (.t 10)⟩,
  ⟨some 76, none, .mv (.t 9)⟩,
  ⟨some 77, none, .bin .add .val (.t 76) (.c (.int .i64 (2)))⟩,
  ⟨some 78, none, .slice none (.t 75) (some (.t 77)) none⟩,
  ⟨some 5, none, .mv (.t 78)⟩]))))))) [0, 4, 5, 7, 8]
 (.reg false [⟨some 26, none, .mv (.t 8)⟩,
  ⟨some 27, none, .bin .add .val (.t 26) (.c (.int .i64 (1)))⟩,
  ⟨some 8, none, .mv (.t 27)⟩])))
def f18 : AFunc := { np := 1, nt := 85, res := [.tmp 2, .tmp 3], own := false, body := (.seq (.reg false [⟨some 2, none, .mv (.nil 1)⟩,
  ⟨some 3, none, .mv (.c (.int .i64 (0)))⟩]) [0]
 (.seq (.reg false [⟨some 13, none, .mv (.t 0)⟩,
  ⟨some 14, none, .pcall (.f 49) [.t 13, .c (.int .u8 (42)), .c (.int .i64 (1)), .c (.int .i64 (8))]⟩,
  ⟨some 12, none, .mv (.t 14)⟩,
  ⟨some 15, none, .extract (.t 12) 0⟩,
  ⟨some 16, none, .extract (.t 12) 1⟩,
  ⟨some 17, none, .extract (.t 12) 2⟩,
  ⟨some 4, none, .mv (.t 15)⟩,
  ⟨some 5, none, .mv (.t 16)⟩,
  ⟨some 6, none, .mv (.t 17)⟩]) [0, 4, 5, 6]
 (.seq (.seq (.reg false [⟨some 18, none, .mv (.t 6)⟩,
  ⟨some 19, none, .bin .lss .val (.t 18) (.c (.int .i64 (1)))⟩]) [0, 4, 5, 6, 19]
 (.cond (.t 19) (.seq (.reg false [⟨some 20, none, .lit false 1 []⟩,
  ⟨some 21, none, .mv (.t 6)⟩,
  ⟨some 2, none, .mv (.t 20)⟩,
  ⟨some 3, none, .mv (.t 21)⟩]) [2, 3]
 (.ret)) (.skip))) [0, 4, 5]
 (.seq (.reg false [⟨some 22, none, .lit true 1 []⟩,
  ⟨some 7, none, .mv (.t 22)⟩]) [0, 4, 5, 7]
 (.seq (.seq (.reg false [⟨some 8, none, .mv (.c (.int .i64 (0)))⟩]) [0, 4, 5, 7, 8]
 (.block 0 (.loop [0, 4, 5, 7, 8] f18l0))) [0, 5, 7]
 (.seq (.reg false [⟨some 79, none, .mv (.t 7)⟩,
  ⟨some 80, none, .mv (.t 0)⟩,
  ⟨some 81, none, .len true (.t 80)⟩,
  ⟨some 82, none, .mv (.t 5)⟩,
  ⟨some 83, none, .len true (.t 82)⟩,
  ⟨some 84, none, .bin .sub .val (.t 81) (.t 83)⟩,
  ⟨some 2, none, .mv (.t 79)⟩,
  ⟨some 3, none, .mv (.t 84)⟩]) [2, 3]
 (.ret))))))) }
/- laws.szStringS -/
def f29l0 : ACode := (.seq (.seq (.reg false [⟨some 12, none, .mv (.t 5)⟩,
  ⟨some 13, none, .mv (.t 0)⟩,
  ⟨some 14, none, .len false (.t 13)⟩,
  ⟨some 15, none, .bin .lss .val (.t 12) (.t 14)⟩]) [0, 1, 5, 15]
 (.cond (.t 15) (.skip) (.exit 0))) [0, 1, 5]
 (.seq (.block 1 (.seq (.reg false [⟨some 18, none, .mv (.t 1)⟩,
  ⟨some 19, none, .mv (.t 0)⟩,
  ⟨some 20, none, .mv (.t 5)⟩,
  ⟨some 21, none, .iaddr 1 (.t 19) (.t 20)⟩,
  ⟨some 22, none, .load false 1 (.t 21)⟩,
  ⟨some 23, none, .len true (.t 22)⟩,
  ⟨some 24, none, .bin .sub .val (.t 18) (.t 23)⟩,
  ⟨some 1, none, .mv (.t 24)⟩]) [0, 1, 5]
 (.seq (.reg false [⟨some 25, none, .mv (.t 1)⟩,
  ⟨some 26, none, .bin .lss .val (.t 25) (.c (.int .i64 (0)))⟩]) [0, 1, 5, 26]
 (.cond (.t 26) (.seq (.reg false [⟨some 4, none, .mv (.c (.int .i64 (-1)))⟩]) [4]
 (.ret)) (.skip))))) [0, 1, 5]
 (.reg false [⟨some 16, none, .mv (.t 5)⟩,
  ⟨some 17, none, .bin .add .val (.t 16) (.c (.int .i64 (1)))⟩,
  ⟨some 5, none, .mv (.t 17)⟩])))
def f29 : AFunc := { np := 2, nt := 28, res := [.tmp 4], own := false, body := (.seq (.reg false [⟨some 4, none, .mv (.c (.int .i64 (0)))⟩]) [0, 1]
 (.seq (.reg false [⟨some 6, none, .mv (.t 1)⟩,
  ⟨some 7, none, .mv (.t 0)⟩,
  ⟨some 8, none, .len false (.t 7)⟩,
  ⟨some 9, none, .bin .sub .val (.t 6) (.t 8)⟩,
  ⟨some 1, none, .mv (.t 9)⟩]) [0, 1]
 (.seq (.seq (.reg false [⟨some 10, none, .mv (.t 1)⟩,
  ⟨some 11, none, .bin .lss .val (.t 10) (.c (.int .i64 (0)))⟩]) [0, 1, 11]
 (.cond (.t 11) (.seq (.reg false [⟨some 4, none, .mv (.c (.int .i64 (-1)))⟩]) [4]
 (.ret)) (.skip))) [0, 1]
 (.seq (.seq (.reg false [⟨some 5, none, .mv (.c (.int .i64 (0)))⟩]) [0, 1, 5]
 (.block 0 (.loop [0, 1, 5] f29l0))) [1]
 (.seq (.reg false [⟨some 27, none, .mv (.t 1)⟩,
  ⟨some 4, none, .mv (.t 27)⟩]) [4]
 (.ret)))))) }
/- spec.l1In -/
def f30 : AFunc := { np := 3, nt := 15, res := [.tmp 6], own := false, body := (.seq (.reg false [⟨some 6, none, .mv (.c (.bool false))⟩]) [0, 1, 2]
 (.seq (.reg false [⟨some 7, none, .mv (.t 0)⟩,
  ⟨some 8, none, .mv (.t 1)⟩,
  ⟨some 9, none, .bin .geq .val (.t 7) (.t 8)⟩,
  ⟨some 10, none, .mv (.t 9)⟩,
  ⟨some 11, some (10, true), .mv (.t 0)⟩,
  ⟨some 12, some (10, true), .mv (.t 2)⟩,
  ⟨some 13, some (10, true), .bin .leq .val (.t 11) (.t 12)⟩,
  ⟨some 14, none, .pick (.t 10) (.t 13) (.c (.bool false))⟩,
  ⟨some 6, none, .mv (.t 14)⟩]) [6]
 (.ret))) }
/- spec.l6Orders -/
def f31l0 : ACode := (.seq (.seq (.reg false [⟨some 4, none, .mv (.t 3)⟩,
  ⟨some 5, none, .mv (.t 0)⟩,
  ⟨some 6, none, .len false (.t 5)⟩,
  ⟨some 7, none, .bin .lss .val (.t 4) (.t 6)⟩]) [0, 3, 7]
 (.cond (.t 7) (.skip) (.exit 0))) [0, 3]
 (.seq (.block 1 (.seq (.reg false [⟨some 10, none, .mv (.t 0)⟩,
  ⟨some 11, none, .mv (.t 3)⟩,
  ⟨some 12, none, .iaddr 1 (.t 10) (.t 11)⟩,
  ⟨some 13, none, .load false 1 (.t 12)⟩,
  ⟨some 14, none, .pcall (.f 42) [.t 13]⟩,
  ⟨some 15, none, .un .not (.t 14)⟩]) [0, 3, 15]
 (.cond (.t 15) (.seq (.reg false [⟨some 2, none, .mv (.c (.bool false))⟩]) [2]
 (.ret)) (.skip)))) [0, 3]
 (.reg false [⟨some 8, none, .mv (.t 3)⟩,
  ⟨some 9, none, .bin .add .val (.t 8) (.c (.int .i64 (1)))⟩,
  ⟨some 3, none, .mv (.t 9)⟩])))
def f31 : AFunc := { np := 1, nt := 19, res := [.tmp 2], own := false, body := (.seq (.reg false [⟨some 2, none, .mv (.c (.bool false))⟩]) [0]
 (.seq (.seq (.reg false [⟨some 3, none, .mv (.c (.int .i64 (0)))⟩]) [0, 3]
 (.block 0 (.loop [0, 3] f31l0))) [0]
 (.seq (.reg false [⟨some 16, none, .mv (.t 0)⟩,
  ⟨some 17, none, .len false (.t 16)⟩,
  ⟨some 18, none, .pcall (.f 30) [.t 17, .c (.int .i64 (1)), .c (.int .i64 (60))]⟩,
  ⟨some 2, none, .mv (.t 18)⟩]) [2]
 (.ret)))) }
/- spec.l6Record -/
def f32l0 : ACode := (.seq (.seq (.reg false [⟨some 14, none, .mv (.t 6)⟩,
  ⟨some 15, none, .mv (.t 1)⟩,
  ⟨some 16, none, .len false (.t 15)⟩,
  ⟨some 17, none, .bin .lss .val (.t 14) (.t 16)⟩]) [1, 5, 6, 17]
 (.cond (.t 17) (.skip) (.exit 0))) [1, 5, 6]
 (.seq (.block 1 (.reg false [⟨some 20, none, .mv (.t 5)⟩,
  ⟨some 21, none, .mv (.t 1)⟩,
  ⟨some 22, none, .mv (.t 6)⟩,
  ⟨some 23, none, .iaddr 1 (.t 21) (.t 22)⟩,
  ⟨some 24, none, .load false 1 (.t 23)⟩,
  ⟨some 25, none, .pcall (.f 43) [.t 24]⟩,
  ⟨some 26, none, .bin .add .val (.t 20) (.t 25)⟩,
  ⟨some 5, none, .mv (.t 26)⟩])) [1, 5, 6]
 (.reg false [⟨some 18, none, .mv (.t 6)⟩,
  ⟨some 19, none, .bin .add .val (.t 18) (.c (.int .i64 (1)))⟩,
  ⟨some 6, none, .mv (.t 19)⟩])))
def f32 : AFunc := { np := 2, nt := 28, res := [.tmp 4], own := false, body := (.seq (.reg false [⟨some 4, none, .mv (.c (.str []))⟩]) [0, 1]
 (.seq (.reg false [⟨some 7, none, .mv (.t 0)⟩,
  ⟨some 8, none, .pcall (.f 65) [.t 7]⟩,
  ⟨some 9, none, .mv (.t 1)⟩,
  ⟨some 10, none, .len false (.t 9)⟩,
  ⟨some 11, none, .pcall (.f 65) [.t 10]⟩,
  ⟨some 12, none, .lit false 1 [.c (.str [65, 84]), .t 8, .t 11]⟩,
  ⟨some 13, none, .pcall (.f 43) [.t 12]⟩,
  ⟨some 5, none, .mv (.t 13)⟩]) [1, 5]
 (.seq (.seq (.reg false [⟨some 6, none, .mv (.c (.int .i64 (0)))⟩]) [1, 5, 6]
 (.block 0 (.loop [1, 5, 6] f32l0))) [5]
 (.seq (.reg false [⟨some 27, none, .mv (.t 5)⟩,
  ⟨some 4, none, .mv (.t 27)⟩]) [4]
 (.ret))))) }
/- laws.toStringS -/
def f33l0 : ACode := (.seq (.seq (.reg false [⟨some 8, none, .mv (.t 4)⟩,
  ⟨some 9, none, .mv (.t 0)⟩,
  ⟨some 10, none, .len false (.t 9)⟩,
  ⟨some 11, none, .bin .lss .val (.t 8) (.t 10)⟩]) [0, 3, 4, 11]
 (.cond (.t 11) (.skip) (.exit 0))) [0, 3, 4]
 (.seq (.block 1 (.reg false [⟨some 14, none, .mv (.t 3)⟩,
  ⟨some 15, none, .mv (.t 4)⟩,
  ⟨some 16, none, .mv (.t 0)⟩,
  ⟨some 17, none, .mv (.t 4)⟩,
  ⟨some 18, none, .iaddr 1 (.t 16) (.t 17)⟩,
  ⟨some 19, none, .load false 1 (.t 18)⟩,
  ⟨some 20, none, .iaddr 1 (.t 14) (.t 15)⟩,
  ⟨none, none, .store 1 (.t 20) (.t 19)⟩])) [0, 3, 4]
 (.reg false [⟨some 12, none, .mv (.t 4)⟩,
  ⟨some 13, none, .bin .add .val (.t 12) (.c (.int .i64 (1)))⟩,
  ⟨some 4, none, .mv (.t 13)⟩])))
def f33 : AFunc := { np := 1, nt := 22, res := [.tmp 2], own := false, body := (.seq (.reg false [⟨some 2, none, .mv (.nil 1)⟩]) [0]
 (.seq (.reg false [⟨some 5, none, .mv (.t 0)⟩,
  ⟨some 6, none, .len false (.t 5)⟩,
  ⟨some 7, none, .mkslice 1 16 (.d (.str [])) (.t 6) (.t 6)⟩,
  ⟨some 3, none, .mv (.t 7)⟩]) [0, 3]
 (.seq (.seq (.reg false [⟨some 4, none, .mv (.c (.int .i64 (0)))⟩]) [0, 3, 4]
 (.block 0 (.loop [0, 3, 4] f33l0))) [3]
 (.seq (.reg false [⟨some 21, none, .mv (.t 3)⟩,
  ⟨some 2, none, .mv (.t 21)⟩]) [2]
 (.ret))))) }
/- impl.within -/
def f34 : AFunc := { np := 3, nt := 15, res := [.tmp 6], own := false, body := (.seq (.reg false [⟨some 6, none, .mv (.c (.bool false))⟩]) [0, 1, 2]
 (.seq (.reg false [⟨some 7, none, .mv (.t 0)⟩,
  ⟨some 8, none, .mv (.t 1)⟩,
  ⟨some 9, none, .bin .geq .val (.t 7) (.t 8)⟩,
  ⟨some 10, none, .mv (.t 9)⟩,
  ⟨some 11, some (10, true), .mv (.t 0)⟩,
  ⟨some 12, some (10, true), .mv (.t 2)⟩,
  ⟨some 13, some (10, true), .bin .leq .val (.t 11) (.t 12)⟩,
  ⟨some 14, none, .pick (.t 10) (.t 13) (.c (.bool false))⟩,
  ⟨some 6, none, .mv (.t 14)⟩]) [6]
 (.ret))) }
/- impl.numberText -/
def f35 : AFunc := { np := 1, nt := 5, res := [.tmp 2], own := false, body := (.seq (.reg false [⟨some 2, none, .mv (.c (.str []))⟩]) [0]
 (.seq (.reg false [⟨some 3, none, .mv (.t 0)⟩,
  ⟨some 4, none, .pcall (.f 40) [.t 3]⟩,
  ⟨some 2, none, .mv (.t 4)⟩]) [2]
 (.ret))) }
/- impl.isOrder -/
def f36 : AFunc := { np := 1, nt := 10, res := [.tmp 2], own := false, body := (.seq (.reg false [⟨some 2, none, .mv (.c (.bool false))⟩]) [0]
 (.seq (.reg false [⟨some 3, none, .mv (.t 0)⟩,
  ⟨some 4, none, .len false (.t 3)⟩,
  ⟨some 5, none, .bin .gtr .val (.t 4) (.c (.int .i64 (0)))⟩,
  ⟨some 6, none, .mv (.t 5)⟩,
  ⟨some 7, some (6, true), .mv (.t 0)⟩,
  ⟨some 8, some (6, true), .pcall (.f 66) [.t 7, .c (.int .i64 (8))]⟩,
  ⟨some 9, none, .pick (.t 6) (.t 8) (.c (.bool false))⟩,
  ⟨some 2, none, .mv (.t 9)⟩]) [2]
 (.ret))) }
/- laws.eqStringS -/
def f37l0 : ACode := (.seq (.seq (.reg false [⟨some 11, none, .mv (.t 5)⟩,
  ⟨some 12, none, .mv (.t 0)⟩,
  ⟨some 13, none, .len false (.t 12)⟩,
  ⟨some 14, none, .bin .lss .val (.t 11) (.t 13)⟩]) [0, 1, 5, 14]
 (.cond (.t 14) (.skip) (.exit 0))) [0, 1, 5]
 (.seq (.block 1 (.seq (.reg true [⟨some 17, none, .mv (.t 0)⟩,
  ⟨some 18, none, .mv (.t 5)⟩,
  ⟨some 19, none, .iaddr 1 (.t 17) (.t 18)⟩,
  ⟨some 20, none, .load false 1 (.t 19)⟩,
  ⟨some 21, none, .mv (.t 1)⟩,
  ⟨some 22, none, .mv (.t 5)⟩,
  ⟨some 23, none, .iaddr 1 (.t 21) (.t 22)⟩,
  ⟨some 24, none, .load false 1 (.t 23)⟩,
  ⟨some 25, none, .bin .neq .val (.t 20) (.t 24)⟩]) [0, 1, 5, 25]
 (.cond (.t 25) (.seq (.reg false [⟨some 4, none, .mv (.c (.bool false))⟩]) [4]
 (.ret)) (.skip)))) [0, 1, 5]
 (.reg false [⟨some 15, none, .mv (.t 5)⟩,
  ⟨some 16, none, .bin .add .val (.t 15) (.c (.int .i64 (1)))⟩,
  ⟨some 5, none, .mv (.t 16)⟩])))
def f37 : AFunc := { np := 2, nt := 26, res := [.tmp 4], own := false, body := (.seq (.reg false [⟨some 4, none, .mv (.c (.bool false))⟩]) [0, 1]
 (.seq (.seq (.reg false [⟨some 6, none, .mv (.t 0)⟩,
  ⟨some 7, none, .len false (.t 6)⟩,
  ⟨some 8, none, .mv (.t 1)⟩,
  ⟨some 9, none, .len false (.t 8)⟩,
  ⟨some 10, none, .bin .neq .val (.t 7) (.t 9)⟩]) [0, 1, 10]
 (.cond (.t 10) (.seq (.reg false [⟨some 4, none, .mv (.c (.bool false))⟩]) [4]
 (.ret)) (.skip))) [0, 1]
 (.seq (.seq (.reg false [⟨some 5, none, .mv (.c (.int .i64 (0)))⟩]) [0, 1, 5]
 (.block 0 (.loop [0, 1, 5] f37l0))) []
 (.seq (.reg false [⟨some 4, none, .mv (.c (.bool true))⟩]) [4]
 (.ret))))) }
/- spec.l11AnyOrder -/
def f38 : AFunc := { np := 1, nt := 57, res := [.tmp 2], own := false, body := (.seq (.reg false [⟨some 2, none, .mv (.nil 1)⟩]) [0]
 (.seq (.reg false [⟨some 4, none, .mv (.t 0)⟩,
  ⟨some 5, none, .call (.f 44) [(false, .t 4)] false⟩,
  ⟨some 3, none, .mv (.t 5)⟩]) [0, 3]
 (.seq (.seq (.reg false [⟨some 6, none, .mv (.t 3)⟩,
  ⟨some 7, none, .len false (.t 6)⟩,
  ⟨some 8, none, .bin .eql .val (.t 7) (.c (.int .i64 (3)))⟩,
  ⟨some 9, none, .mv (.t 8)⟩,
  ⟨some 10, some (9, true), .mv (.t 0)⟩,
  ⟨some 11, some (9, true), .call (.f 45) [(false, .t 10), (false, .c (.int .i64 (2)))] false⟩,
  ⟨some 12, some (9, true), .bin .eql .val (.t 11) (.c (.int .i64 (0)))⟩,
  ⟨some 13, none, .pick (.t 9) (.t 12) (.c (.bool false))⟩,
  ⟨some 14, none, .mv (.t 13)⟩,
  ⟨some 15, some (14, true), .mv (.t 3)⟩,
  ⟨some 16, some (14, true), .iaddr 1 (.t 15) (.c (.int .i64 (0)))⟩,
  ⟨some 17, some (14, true), .load false 1 (.t 16)⟩,
  ⟨some 18, some (14, true), .bin .eql .val (.t 17) (.c (.str [68, 66, 83, 73, 90, 69]))⟩,
  ⟨some 19, some (14, true), .mv (.t 18)⟩,
  ⟨some 20, some (19, false), .mv (.t 3)⟩,
  ⟨some 21, some (19, false), .iaddr 1 (.t 20) (.c (.int .i64 (0)))⟩,
  ⟨some 22, some (19, false), .load false 1 (.t 21)⟩,
  ⟨some 23, some (19, false), .bin .eql .val (.t 22) (.c (.str [70, 76, 85, 83, 72]))⟩,
  ⟨some 24, some (14, true), .pick (.t 19) (.c (.bool true)) (.t 23)⟩,
  ⟨some 25, none, .pick (.t 14) (.t 24) (.c (.bool false))⟩]) [0, 3, 25]
 (.cond (.t 25) (.reg false [⟨some 26, none, .mv (.t 3)⟩,
  ⟨some 27, none, .slice (some 1) (.t 26) none (some (.c (.int .i64 (1))))⟩,
  ⟨some 3, none, .mv (.t 27)⟩]) (.skip))) [0, 3]
 (.seq (.seq (.reg false [⟨some 28, none, .mv (.t 0)⟩,
  ⟨some 29, none, .call (.f 45) [(false, .t 28), (false, .c (.int .i64 (24)))] false⟩]) [0, 3, 29]
 (.block 0 (.seq (.reg false [⟨some 31, none, .bin .eql .val (.t 29) (.c (.int .i64 (0)))⟩,
  ⟨some 30, none, .mv (.t 31)⟩]) [0, 3, 29, 30]
 (.cond (.t 30) (.reg false [⟨some 32, none, .mv (.t 3)⟩,
  ⟨some 33, none, .mv (.t 0)⟩,
  ⟨some 34, none, .mv (.t 3)⟩,
  ⟨some 35, none, .len false (.t 34)⟩,
  ⟨some 36, none, .call (.f 45) [(false, .t 33), (false, .t 35)] false⟩,
  ⟨some 37, none, .slice (some 1) (.t 32) none (some (.t 36))⟩,
  ⟨some 3, none, .mv (.t 37)⟩]) (.seq (.reg false [⟨some 39, none, .bin .eql .val (.t 29) (.c (.int .i64 (1)))⟩,
  ⟨some 38, none, .mv (.t 39)⟩]) [0, 3, 29, 38]
 (.cond (.t 38) (.reg false [⟨some 40, none, .mv (.t 3)⟩,
  ⟨some 41, none, .lit false 1 [.c (.str [109, 111, 114, 101]), .c (.str [109, 111, 114, 101]), .c (.str [109, 111, 114, 101]), .c (.str [109, 111, 114, 101]), .c (.str [109, 111, 114, 101]), .c (.str [109, 111, 114, 101])]⟩,
  ⟨some 42, none, .append 1 16 (.t 40) (.t 41)⟩,
  ⟨some 3, none, .mv (.t 42)⟩]) (.seq (.reg false [⟨some 44, none, .bin .eql .val (.t 29) (.c (.int .i64 (2)))⟩,
  ⟨some 43, none, .mv (.t 44)⟩]) [0, 3, 29, 43]
 (.cond (.t 43) (.reg false [⟨some 45, none, .mv (.t 3)⟩,
  ⟨some 46, none, .mv (.t 0)⟩,
  ⟨some 47, none, .lit false 1 [.c (.str [103, 101, 116]), .c (.str [70, 76, 85, 83, 72]), .c (.str [])]⟩,
  ⟨some 48, none, .call (.f 67) [(false, .t 46), (false, .t 47)] false⟩,
  ⟨some 49, none, .iaddr 1 (.t 45) (.c (.int .i64 (0)))⟩,
  ⟨none, none, .store 1 (.t 49) (.t 48)⟩]) (.seq (.reg false [⟨some 51, none, .bin .eql .val (.t 29) (.c (.int .i64 (3)))⟩,
  ⟨some 50, none, .mv (.t 51)⟩]) [0, 3, 50]
 (.cond (.t 50) (.reg false [⟨some 52, none, .mv (.t 0)⟩,
  ⟨some 53, none, .lit false 1 [.c (.str [68, 66, 83, 73, 90, 69]), .c (.str [70, 76, 85, 83, 72])]⟩,
  ⟨some 54, none, .call (.f 67) [(false, .t 52), (false, .t 53)] false⟩,
  ⟨some 55, none, .lit false 1 [.t 54]⟩,
  ⟨some 3, none, .mv (.t 55)⟩]) (.skip))))))))))) [3]
 (.seq (.reg false [⟨some 56, none, .mv (.t 3)⟩,
  ⟨some 2, none, .mv (.t 56)⟩]) [2]
 (.ret)))))) }
/- spec.l1Open -/
def f39 : AFunc := { np := 1, nt := 11, res := [.tmp 2], own := true, body := (.seq (.reg false [⟨some 2, none, .mv (.c .nilp)⟩]) [0]
 (.seq (.seq (.reg false [⟨some 3, none, .mv (.t 0)⟩,
  ⟨some 4, none, .len false (.t 3)⟩,
  ⟨some 5, none, .bin .gtr .val (.t 4) (.c (.int .i64 (2000)))⟩]) [0, 5]
 (.cond (.t 5) (.reg false [⟨some 6, none, .mv (.t 0)⟩,
  ⟨some 7, none, .slice (some 1) (.t 6) none (some (.c (.int .i64 (2000))))⟩,
  ⟨some 0, none, .mv (.t 7)⟩]) (.skip))) [0]
 (.seq (.reg false [⟨some 8, none, .mv (.t 0)⟩,
  ⟨some 9, none, .build [.nils 1, .d (.int .i64 (0))] [(0, 1, .t 8)]⟩,
  ⟨some 10, none, .box (.t 9)⟩,
  ⟨some 2, none, .mv (.t 10)⟩]) [2]
 (.ret)))) }
/- impl.bulk -/
def f41 : AFunc := { np := 1, nt := 11, res := [.tmp 2], own := false, body := (.seq (.reg false [⟨some 2, none, .mv (.c (.str []))⟩]) [0]
 (.seq (.reg false [⟨some 3, none, .mv (.t 0)⟩,
  ⟨some 4, none, .len true (.t 3)⟩,
  ⟨some 5, none, .pcall (.f 40) [.t 4]⟩,
  ⟨some 6, none, .bin .add .val (.c (.str [36])) (.t 5)⟩,
  ⟨some 7, none, .bin .add .val (.t 6) (.c (.str [13, 10]))⟩,
  ⟨some 8, none, .mv (.t 0)⟩,
  ⟨some 9, none, .bin .add .val (.t 7) (.t 8)⟩,
  ⟨some 10, none, .bin .add .val (.t 9) (.c (.str [13, 10]))⟩,
  ⟨some 2, none, .mv (.t 10)⟩]) [2]
 (.ret))) }
/- spec.l1Args -/
def f42l0 : ACode := (.seq (.seq (.reg false [⟨some 4, none, .mv (.t 3)⟩,
  ⟨some 5, none, .mv (.t 0)⟩,
  ⟨some 6, none, .len false (.t 5)⟩,
  ⟨some 7, none, .bin .lss .val (.t 4) (.t 6)⟩]) [0, 3, 7]
 (.cond (.t 7) (.skip) (.exit 0))) [0, 3]
 (.seq (.block 1 (.seq (.reg false [⟨some 10, none, .mv (.t 0)⟩,
  ⟨some 11, none, .mv (.t 3)⟩,
  ⟨some 12, none, .iaddr 1 (.t 10) (.t 11)⟩,
  ⟨some 13, none, .load false 1 (.t 12)⟩,
  ⟨some 14, none, .len true (.t 13)⟩,
  ⟨some 15, none, .bin .gtr .val (.t 14) (.c (.int .i64 (40)))⟩]) [0, 3, 15]
 (.cond (.t 15) (.seq (.reg false [⟨some 2, none, .mv (.c (.bool false))⟩]) [2]
 (.ret)) (.skip)))) [0, 3]
 (.reg false [⟨some 8, none, .mv (.t 3)⟩,
  ⟨some 9, none, .bin .add .val (.t 8) (.c (.int .i64 (1)))⟩,
  ⟨some 3, none, .mv (.t 9)⟩])))
def f42 : AFunc := { np := 1, nt := 19, res := [.tmp 2], own := false, body := (.seq (.reg false [⟨some 2, none, .mv (.c (.bool false))⟩]) [0]
 (.seq (.seq (.reg false [⟨some 3, none, .mv (.c (.int .i64 (0)))⟩]) [0, 3]
 (.block 0 (.loop [0, 3] f42l0))) [0]
 (.seq (.reg false [⟨some 16, none, .mv (.t 0)⟩,
  ⟨some 17, none, .len false (.t 16)⟩,
  ⟨some 18, none, .pcall (.f 30) [.t 17, .c (.int .i64 (1)), .c (.int .i64 (8))]⟩,
  ⟨some 2, none, .mv (.t 18)⟩]) [2]
 (.ret)))) }
/- spec.l1Order -/
def f43l0 : ACode := (.seq (.seq (.reg false [⟨some 10, none, .mv (.t 4)⟩,
  ⟨some 11, none, .mv (.t 0)⟩,
  ⟨some 12, none, .len false (.t 11)⟩,
  ⟨some 13, none, .bin .lss .val (.t 10) (.t 12)⟩]) [0, 3, 4, 13]
 (.cond (.t 13) (.skip) (.exit 0))) [0, 3, 4]
 (.seq (.block 1 (.reg false [⟨some 16, none, .mv (.t 3)⟩,
  ⟨some 17, none, .mv (.t 0)⟩,
  ⟨some 18, none, .mv (.t 4)⟩,
  ⟨some 19, none, .iaddr 1 (.t 17) (.t 18)⟩,
  ⟨some 20, none, .load false 1 (.t 19)⟩,
  ⟨some 21, none, .pcall (.f 69) [.t 20]⟩,
  ⟨some 22, none, .bin .add .val (.t 16) (.t 21)⟩,
  ⟨some 3, none, .mv (.t 22)⟩])) [0, 3, 4]
 (.reg false [⟨some 14, none, .mv (.t 4)⟩,
  ⟨some 15, none, .bin .add .val (.t 14) (.c (.int .i64 (1)))⟩,
  ⟨some 4, none, .mv (.t 15)⟩])))
def f43 : AFunc := { np := 1, nt := 24, res := [.tmp 2], own := false, body := (.seq (.reg false [⟨some 2, none, .mv (.c (.str []))⟩]) [0]
 (.seq (.reg false [⟨some 5, none, .mv (.t 0)⟩,
  ⟨some 6, none, .len false (.t 5)⟩,
  ⟨some 7, none, .pcall (.f 65) [.t 6]⟩,
  ⟨some 8, none, .bin .add .val (.c (.str [42])) (.t 7)⟩,
  ⟨some 9, none, .bin .add .val (.t 8) (.c (.str [13, 10]))⟩,
  ⟨some 3, none, .mv (.t 9)⟩]) [0, 3]
 (.seq (.seq (.reg false [⟨some 4, none, .mv (.c (.int .i64 (0)))⟩]) [0, 3, 4]
 (.block 0 (.loop [0, 3, 4] f43l0))) [3]
 (.seq (.reg false [⟨some 23, none, .mv (.t 3)⟩,
  ⟨some 2, none, .mv (.t 23)⟩]) [2]
 (.ret))))) }
/- spec.l11Order -/
def f44 : AFunc := { np := 1, nt := 157, res := [.tmp 2], own := true, body := (.seq (.reg false [⟨some 2, none, .mv (.nil 1)⟩]) [0]
 (.seq (.reg false [⟨some 5, none, .mv (.t 0)⟩,
  ⟨some 6, none, .call (.f 70) [(false, .t 5)] false⟩,
  ⟨some 3, none, .mv (.t 6)⟩]) [0, 3]
 (.seq (.reg false [⟨some 7, none, .mv (.t 0)⟩,
  ⟨some 8, none, .call (.f 71) [(false, .t 7)] false⟩,
  ⟨some 4, none, .mv (.t 8)⟩]) [0, 3, 4]
 (.seq (.seq (.reg false [⟨some 9, none, .mv (.t 0)⟩,
  ⟨some 10, none, .call (.f 45) [(false, .t 9), (false, .c (.int .i64 (12)))] false⟩]) [0, 3, 4, 10]
 (.block 0 (.seq (.reg false [⟨some 12, none, .bin .eql .val (.t 10) (.c (.int .i64 (0)))⟩,
  ⟨some 11, none, .mv (.t 12)⟩]) [0, 3, 4, 10, 11]
 (.cond (.t 11) (.seq (.reg false [⟨some 13, none, .mv (.t 0)⟩,
  ⟨some 14, none, .lit false 1 [.c (.str [71, 69, 84]), .c (.str [83, 84, 82, 76, 69, 78]), .c (.str [73, 78, 67, 82]), .c (.str [76, 80, 79, 80]), .c (.str [82, 80, 79, 80]), .c (.str [76, 76, 69, 78]), .c (.str [83, 77, 69, 77, 66, 69, 82, 83]), .c (.str [83, 67, 65, 82, 68]), .c (.str [90, 67, 65, 82, 68]), .c (.str [72, 71, 69, 84, 65, 76, 76]), .c (.str [72, 76, 69, 78]), .c (.str [84, 89, 80, 69]), .c (.str [84, 84, 76]), .c (.str [80, 69, 82, 83, 73, 83, 84])]⟩,
  ⟨some 15, none, .call (.f 67) [(false, .t 13), (false, .t 14)] false⟩,
  ⟨some 16, none, .mv (.t 3)⟩,
  ⟨some 17, none, .lit true 1 [.t 15, .t 16]⟩,
  ⟨some 2, none, .mv (.t 17)⟩]) [2]
 (.ret)) (.seq (.reg false [⟨some 19, none, .bin .eql .val (.t 10) (.c (.int .i64 (1)))⟩,
  ⟨some 18, none, .mv (.t 19)⟩]) [0, 3, 4, 10, 18]
 (.cond (.t 18) (.seq (.reg false [⟨some 20, none, .mv (.t 0)⟩,
  ⟨some 21, none, .lit false 1 [.c (.str [107]), .c (.str [107, 50])]⟩,
  ⟨some 22, none, .call (.f 67) [(false, .t 20), (false, .t 21)] false⟩,
  ⟨some 23, none, .mv (.t 4)⟩,
  ⟨some 24, none, .lit true 1 [.c (.str [83, 69, 84]), .t 22, .t 23]⟩,
  ⟨some 2, none, .mv (.t 24)⟩]) [2]
 (.ret)) (.seq (.reg false [⟨some 26, none, .bin .eql .val (.t 10) (.c (.int .i64 (2)))⟩,
  ⟨some 25, none, .mv (.t 26)⟩]) [0, 3, 4, 10, 25]
 (.cond (.t 25) (.seq (.reg false [⟨some 27, none, .mv (.t 0)⟩,
  ⟨some 28, none, .lit false 1 [.c (.str [65, 80, 80, 69, 78, 68]), .c (.str [73, 78, 67, 82, 66, 89])]⟩,
  ⟨some 29, none, .call (.f 67) [(false, .t 27), (false, .t 28)] false⟩,
  ⟨some 30, none, .mv (.t 0)⟩,
  ⟨some 31, none, .lit false 1 [.c (.str [107]), .c (.str [107, 50])]⟩,
  ⟨some 32, none, .call (.f 67) [(false, .t 30), (false, .t 31)] false⟩,
  ⟨some 33, none, .mv (.t 0)⟩,
  ⟨some 34, none, .mv (.t 4)⟩,
  ⟨some 35, none, .mv (.t 0)⟩,
  ⟨some 36, none, .call (.f 72) [(false, .t 35)] false⟩,
  ⟨some 37, none, .lit false 1 [.t 34, .t 36]⟩,
  ⟨some 38, none, .call (.f 67) [(false, .t 33), (false, .t 37)] false⟩,
  ⟨some 39, none, .lit true 1 [.t 29, .t 32, .t 38]⟩,
  ⟨some 2, none, .mv (.t 39)⟩]) [2]
 (.ret)) (.seq (.reg false [⟨some 41, none, .bin .eql .val (.t 10) (.c (.int .i64 (3)))⟩,
  ⟨some 40, none, .mv (.t 41)⟩]) [0, 3, 4, 10, 40]
 (.cond (.t 40) (.seq (.reg false [⟨some 42, none, .mv (.t 0)⟩,
  ⟨some 43, none, .lit false 1 [.c (.str [76, 80, 85, 83, 72]), .c (.str [82, 80, 85, 83, 72])]⟩,
  ⟨some 44, none, .call (.f 67) [(false, .t 42), (false, .t 43)] false⟩,
  ⟨some 45, none, .mv (.t 0)⟩,
  ⟨some 46, none, .lit false 1 [.c (.str [108]), .c (.str [108]), .c (.str [107])]⟩,
  ⟨some 47, none, .call (.f 67) [(false, .t 45), (false, .t 46)] false⟩,
  ⟨some 48, none, .mv (.t 4)⟩,
  ⟨some 49, none, .lit true 1 [.t 44, .t 47, .t 48]⟩,
  ⟨some 50, none, .mv (.t 0)⟩,
  ⟨some 51, none, .call (.f 73) [(false, .t 50), (false, .c (.int .i64 (3)))] false⟩,
  ⟨some 52, none, .append 1 16 (.t 49) (.t 51)⟩,
  ⟨some 2, none, .mv (.t 52)⟩]) [2]
 (.ret)) (.seq (.reg false [⟨some 54, none, .bin .eql .val (.t 10) (.c (.int .i64 (4)))⟩,
  ⟨some 53, none, .mv (.t 54)⟩]) [0, 3, 4, 10, 53]
 (.cond (.t 53) (.seq (.reg false [⟨some 55, none, .mv (.t 0)⟩,
  ⟨some 56, none, .lit false 1 [.c (.str [76, 82, 65, 78, 71, 69]), .c (.str [76, 84, 82, 73, 77]), .c (.str [76, 83, 69, 84]), .c (.str [76, 82, 69, 77]), .c (.str [71, 69, 84, 82, 65, 78, 71, 69])]⟩,
  ⟨some 57, none, .call (.f 67) [(false, .t 55), (false, .t 56)] false⟩,
  ⟨some 58, none, .mv (.t 0)⟩,
  ⟨some 59, none, .lit false 1 [.c (.str [108]), .c (.str [108]), .c (.str [107])]⟩,
  ⟨some 60, none, .call (.f 67) [(false, .t 58), (false, .t 59)] false⟩,
  ⟨some 61, none, .mv (.t 0)⟩,
  ⟨some 62, none, .call (.f 72) [(false, .t 61)] false⟩,
  ⟨some 63, none, .mv (.t 0)⟩,
  ⟨some 64, none, .mv (.t 0)⟩,
  ⟨some 65, none, .call (.f 72) [(false, .t 64)] false⟩,
  ⟨some 66, none, .mv (.t 4)⟩,
  ⟨some 67, none, .lit false 1 [.t 65, .t 66]⟩,
  ⟨some 68, none, .call (.f 67) [(false, .t 63), (false, .t 67)] false⟩,
  ⟨some 69, none, .lit true 1 [.t 57, .t 60, .t 62, .t 68]⟩,
  ⟨some 2, none, .mv (.t 69)⟩]) [2]
 (.ret)) (.seq (.reg false [⟨some 71, none, .bin .eql .val (.t 10) (.c (.int .i64 (5)))⟩,
  ⟨some 70, none, .mv (.t 71)⟩]) [0, 3, 4, 10, 70]
 (.cond (.t 70) (.seq (.reg false [⟨some 72, none, .mv (.t 0)⟩,
  ⟨some 73, none, .lit false 1 [.c (.str [83, 65, 68, 68]), .c (.str [83, 65, 68, 68]), .c (.str [83, 82, 69, 77])]⟩,
  ⟨some 74, none, .call (.f 67) [(false, .t 72), (false, .t 73)] false⟩,
  ⟨some 75, none, .mv (.t 0)⟩,
  ⟨some 76, none, .lit false 1 [.c (.str [115]), .c (.str [115, 50])]⟩,
  ⟨some 77, none, .call (.f 67) [(false, .t 75), (false, .t 76)] false⟩,
  ⟨some 78, none, .mv (.t 4)⟩,
  ⟨some 79, none, .lit true 1 [.t 74, .t 77, .t 78]⟩,
  ⟨some 80, none, .mv (.t 0)⟩,
  ⟨some 81, none, .call (.f 73) [(false, .t 80), (false, .c (.int .i64 (2)))] false⟩,
  ⟨some 82, none, .append 1 16 (.t 79) (.t 81)⟩,
  ⟨some 2, none, .mv (.t 82)⟩]) [2]
 (.ret)) (.seq (.reg false [⟨some 84, none, .bin .eql .val (.t 10) (.c (.int .i64 (6)))⟩,
  ⟨some 83, none, .mv (.t 84)⟩]) [0, 3, 4, 10, 83]
 (.cond (.t 83) (.seq (.reg false [⟨some 85, none, .mv (.t 0)⟩,
  ⟨some 86, none, .lit false 1 [.c (.str [83, 73, 83, 77, 69, 77, 66, 69, 82]), .c (.str [83, 73, 78, 84, 69, 82]), .c (.str [83, 85, 78, 73, 79, 78]), .c (.str [83, 68, 73, 70, 70])]⟩,
  ⟨some 87, none, .call (.f 67) [(false, .t 85), (false, .t 86)] false⟩,
  ⟨some 88, none, .mv (.t 0)⟩,
  ⟨some 89, none, .lit false 1 [.c (.str [115]), .c (.str [115, 50])]⟩,
  ⟨some 90, none, .call (.f 67) [(false, .t 88), (false, .t 89)] false⟩,
  ⟨some 91, none, .mv (.t 0)⟩,
  ⟨some 92, none, .mv (.t 4)⟩,
  ⟨some 93, none, .lit false 1 [.c (.str [115]), .c (.str [115, 50]), .t 92]⟩,
  ⟨some 94, none, .call (.f 67) [(false, .t 91), (false, .t 93)] false⟩,
  ⟨some 95, none, .lit true 1 [.t 87, .t 90, .t 94]⟩,
  ⟨some 2, none, .mv (.t 95)⟩]) [2]
 (.ret)) (.seq (.reg false [⟨some 97, none, .bin .eql .val (.t 10) (.c (.int .i64 (7)))⟩,
  ⟨some 96, none, .mv (.t 97)⟩]) [0, 3, 4, 10, 96]
 (.cond (.t 96) (.seq (.reg false [⟨some 98, none, .mv (.t 0)⟩,
  ⟨some 99, none, .lit false 1 [.c (.str [90, 65, 68, 68]), .c (.str [90, 65, 68, 68]), .c (.str [90, 73, 78, 67, 82, 66, 89]), .c (.str [90, 82, 65, 78, 71, 69]), .c (.str [90, 82, 65, 78, 71, 69, 66, 89, 83, 67, 79, 82, 69])]⟩,
  ⟨some 100, none, .call (.f 67) [(false, .t 98), (false, .t 99)] false⟩,
  ⟨some 101, none, .mv (.t 0)⟩,
  ⟨some 102, none, .call (.f 72) [(false, .t 101)] false⟩,
  ⟨some 103, none, .mv (.t 0)⟩,
  ⟨some 104, none, .mv (.t 4)⟩,
  ⟨some 105, none, .mv (.t 0)⟩,
  ⟨some 106, none, .call (.f 72) [(false, .t 105)] false⟩,
  ⟨some 107, none, .lit false 1 [.t 104, .t 106]⟩,
  ⟨some 108, none, .call (.f 67) [(false, .t 103), (false, .t 107)] false⟩,
  ⟨some 109, none, .lit true 1 [.t 100, .c (.str [122]), .t 102, .t 108]⟩,
  ⟨some 2, none, .mv (.t 109)⟩]) [2]
 (.ret)) (.seq (.reg false [⟨some 111, none, .bin .eql .val (.t 10) (.c (.int .i64 (8)))⟩,
  ⟨some 110, none, .mv (.t 111)⟩]) [0, 3, 4, 10, 110]
 (.cond (.t 110) (.seq (.reg false [⟨some 112, none, .mv (.t 0)⟩,
  ⟨some 113, none, .lit false 1 [.c (.str [90, 82, 69, 77]), .c (.str [90, 83, 67, 79, 82, 69]), .c (.str [90, 82, 65, 78, 75]), .c (.str [72, 71, 69, 84]), .c (.str [72, 68, 69, 76])]⟩,
  ⟨some 114, none, .call (.f 67) [(false, .t 112), (false, .t 113)] false⟩,
  ⟨some 115, none, .mv (.t 0)⟩,
  ⟨some 116, none, .lit false 1 [.c (.str [122]), .c (.str [104])]⟩,
  ⟨some 117, none, .call (.f 67) [(false, .t 115), (false, .t 116)] false⟩,
  ⟨some 118, none, .mv (.t 4)⟩,
  ⟨some 119, none, .lit true 1 [.t 114, .t 117, .t 118]⟩,
  ⟨some 2, none, .mv (.t 119)⟩]) [2]
 (.ret)) (.seq (.reg false [⟨some 121, none, .bin .eql .val (.t 10) (.c (.int .i64 (9)))⟩,
  ⟨some 120, none, .mv (.t 121)⟩]) [0, 3, 4, 10, 120]
 (.cond (.t 120) (.seq (.reg false [⟨some 122, none, .mv (.t 0)⟩,
  ⟨some 123, none, .lit false 1 [.c (.str [72, 83, 69, 84]), .c (.str [72, 83, 69, 84]), .c (.str [72, 73, 78, 67, 82, 66, 89])]⟩,
  ⟨some 124, none, .call (.f 67) [(false, .t 122), (false, .t 123)] false⟩,
  ⟨some 125, none, .mv (.t 0)⟩,
  ⟨some 126, none, .mv (.t 4)⟩,
  ⟨some 127, none, .lit false 1 [.c (.str [97]), .c (.str [98]), .t 126]⟩,
  ⟨some 128, none, .call (.f 67) [(false, .t 125), (false, .t 127)] false⟩,
  ⟨some 129, none, .mv (.t 0)⟩,
  ⟨some 130, none, .mv (.t 4)⟩,
  ⟨some 131, none, .mv (.t 0)⟩,
  ⟨some 132, none, .call (.f 72) [(false, .t 131)] false⟩,
  ⟨some 133, none, .lit false 1 [.t 130, .t 132]⟩,
  ⟨some 134, none, .call (.f 67) [(false, .t 129), (false, .t 133)] false⟩,
  ⟨some 135, none, .lit true 1 [.t 124, .c (.str [104]), .t 128, .t 134]⟩,
  ⟨some 2, none, .mv (.t 135)⟩]) [2]
 (.ret)) (.seq (.reg false [⟨some 137, none, .bin .eql .val (.t 10) (.c (.int .i64 (10)))⟩,
  ⟨some 136, none, .mv (.t 137)⟩]) [0, 3, 136]
 (.cond (.t 136) (.seq (.reg false [⟨some 138, none, .mv (.t 0)⟩,
  ⟨some 139, none, .lit false 1 [.c (.str [69, 88, 80, 73, 82, 69]), .c (.str [69, 88, 80, 73, 82, 69, 65, 84]), .c (.str [82, 69, 78, 65, 77, 69])]⟩,
  ⟨some 140, none, .call (.f 67) [(false, .t 138), (false, .t 139)] false⟩,
  ⟨some 141, none, .mv (.t 3)⟩,
  ⟨some 142, none, .mv (.t 0)⟩,
  ⟨some 143, none, .lit false 1 [.c (.str [53]), .c (.str [49]), .c (.str [49, 48, 48]), .c (.str [107]), .c (.str [108]), .c (.str [107, 50]), .c (.str [45, 49]), .c (.str [49, 48, 48, 48, 48, 48, 49])]⟩,
  ⟨some 144, none, .call (.f 67) [(false, .t 142), (false, .t 143)] false⟩,
  ⟨some 145, none, .lit true 1 [.t 140, .t 141, .t 144]⟩,
  ⟨some 2, none, .mv (.t 145)⟩]) [2]
 (.ret)) (.skip))))))))))))))))))))))))) [0, 3]
 (.seq (.reg false [⟨some 146, none, .mv (.t 0)⟩,
  ⟨some 147, none, .lit false 1 [.c (.str [68, 69, 76]), .c (.str [69, 88, 73, 83, 84, 83]), .c (.str [75, 69, 89, 83]), .c (.str [68, 66, 83, 73, 90, 69]), .c (.str [70, 76, 85, 83, 72]), .c (.str [78, 79, 78, 69]), .c (.str [68, 69, 76])]⟩,
  ⟨some 148, none, .call (.f 67) [(false, .t 146), (false, .t 147)] false⟩,
  ⟨some 149, none, .mv (.t 0)⟩,
  ⟨some 150, none, .mv (.t 3)⟩,
  ⟨some 151, none, .lit false 1 [.t 150, .c (.str [42]), .c (.str [63]), .c (.str [107, 42]), .c (.str [])]⟩,
  ⟨some 152, none, .call (.f 67) [(false, .t 149), (false, .t 151)] false⟩,
  ⟨some 153, none, .lit true 1 [.t 148, .t 152]⟩,
  ⟨some 154, none, .mv (.t 0)⟩,
  ⟨some 155, none, .call (.f 73) [(false, .t 154), (false, .c (.int .i64 (1)))] false⟩,
  ⟨some 156, none, .append 1 16 (.t 153) (.t 155)⟩,
  ⟨some 2, none, .mv (.t 156)⟩]) [2]
 (.ret)))))) }
/- spec.l1Rd).pick -/
def f45 : AFunc := { np := 2, nt := 99, res := [.tmp 4], own := false, body := (.seq (.reg false [⟨some 4, none, .mv (.c (.int .i64 (0)))⟩]) [0, 1]
 (.seq (.reg false [⟨some 7, none, .mv (.t 0)⟩,
  ⟨some 8, none, .mv (.t 0)⟩,
  ⟨some 9, none, .nilck (.t 8)⟩,
  ⟨some 10, none, .faddr 1 (.t 9)⟩,
  ⟨some 11, none, .load false 1 (.t 10)⟩,
  ⟨some 12, none, .bin .add .val (.t 11) (.c (.int .i64 (1)))⟩,
  ⟨some 13, none, .nilck (.t 7)⟩,
  ⟨some 14, none, .faddr 1 (.t 13)⟩,
  ⟨none, none, .store 1 (.t 14) (.t 12)⟩]) [0, 1]
 (.seq (.seq (.reg false [⟨some 15, none, .mv (.t 1)⟩,
  ⟨some 16, none, .bin .lss .val (.t 15) (.c (.int .i64 (1)))⟩,
  ⟨some 17, none, .mv (.t 16)⟩,
  ⟨some 18, some (17, false), .mv (.t 0)⟩,
  ⟨some 19, some (17, false), .nilck (.t 18)⟩,
  ⟨some 20, some (17, false), .faddr 0 (.t 19)⟩,
  ⟨some 21, some (17, false), .load false 1 (.t 20)⟩,
  ⟨some 22, some (17, false), .len false (.t 21)⟩,
  ⟨some 23, some (17, false), .bin .eql .val (.t 22) (.c (.int .i64 (0)))⟩,
  ⟨some 24, none, .pick (.t 17) (.c (.bool true)) (.t 23)⟩]) [0, 1, 24]
 (.cond (.t 24) (.seq (.reg false [⟨some 4, none, .mv (.c (.int .i64 (0)))⟩]) [4]
 (.ret)) (.skip))) [0, 1]
 (.seq (.reg false [⟨some 25, none, .mv (.t 0)⟩,
  ⟨some 26, none, .nilck (.t 25)⟩,
  ⟨some 27, none, .faddr 1 (.t 26)⟩,
  ⟨some 28, none, .load false 1 (.t 27)⟩,
  ⟨some 29, none, .bin .sub .val (.t 28) (.c (.int .i64 (1)))⟩,
  ⟨some 5, none, .mv (.t 29)⟩]) [0, 1, 5]
 (.seq (.seq (.reg false [⟨some 30, none, .mv (.t 5)⟩,
  ⟨some 31, none, .mv (.t 0)⟩,
  ⟨some 32, none, .nilck (.t 31)⟩,
  ⟨some 33, none, .faddr 0 (.t 32)⟩,
  ⟨some 34, none, .load false 1 (.t 33)⟩,
  ⟨some 35, none, .len false (.t 34)⟩,
  ⟨some 36, none, .bin .lss .val (.t 30) (.t 35)⟩]) [0, 1, 5, 36]
 (.cond (.t 36) (.seq (.reg false [⟨some 37, none, .mv (.t 0)⟩,
  ⟨some 38, none, .nilck (.t 37)⟩,
  ⟨some 39, none, .faddr 0 (.t 38)⟩,
  ⟨some 40, none, .load false 1 (.t 39)⟩,
  ⟨some 41, none, .mv (.t 5)⟩,
  ⟨some 42, none, .iaddr 1 (.t 40) (.t 41)⟩,
  ⟨some 43, none, .load false 1 (.t 42)⟩,
  ⟨some 44, none, .cvInt .i64 (.t 43)⟩,
  ⟨some 45, none, .mv (.t 1)⟩,
  ⟨some 46, none, .bin .rem .val (.t 44) (.t 45)⟩,
  ⟨some 4, none, .mv (.t 46)⟩]) [4]
 (.ret)) (.skip))) [0, 1, 5]
 (.seq (.reg true [⟨some 47, none, .mv (.t 0)⟩,
  ⟨some 48, none, .nilck (.t 47)⟩,
  ⟨some 49, none, .faddr 0 (.t 48)⟩,
  ⟨some 50, none, .load false 1 (.t 49)⟩,
  ⟨some 51, none, .mv (.t 5)⟩,
  ⟨some 52, none, .mv (.t 0)⟩,
  ⟨some 53, none, .nilck (.t 52)⟩,
  ⟨some 54, none, .faddr 0 (.t 53)⟩,
  ⟨some 55, none, .load false 1 (.t 54)⟩,
  ⟨some 56, none, .len false (.t 55)⟩,
  ⟨some 57, none, .bin .rem .val (.t 51) (.t 56)⟩,
  ⟨some 58, none, .iaddr 1 (.t 50) (.t 57)⟩,
  ⟨some 59, none, .load false 1 (.t 58)⟩,
  ⟨some 60, none, .cvInt .i64 (.t 59)⟩,
  ⟨some 61, none, .bin .mul .val (.t 60) (.c (.int .i64 (131)))⟩,
  ⟨some 62, none, .mv (.t 0)⟩,
  ⟨some 63, none, .nilck (.t 62)⟩,
  ⟨some 64, none, .faddr 0 (.t 63)⟩,
  ⟨some 65, none, .load false 1 (.t 64)⟩,
  ⟨some 66, none, .mv (.t 5)⟩,
  ⟨some 67, none, .bin .mul .val (.t 66) (.c (.int .i64 (7)))⟩,
  ⟨some 68, none, .bin .add .val (.t 67) (.c (.int .i64 (3)))⟩,
  ⟨some 69, none, .mv (.t 0)⟩,
  ⟨some 70, none, .nilck (.t 69)⟩,
  ⟨some 71, none, .faddr 0 (.t 70)⟩,
  ⟨some 72, none, .load false 1 (.t 71)⟩,
  ⟨some 73, none, .len false (.t 72)⟩,
  ⟨some 74, none, .bin .rem .val (.t 68) (.t 73)⟩,
  ⟨some 75, none, .iaddr 1 (.t 65) (.t 74)⟩,
  ⟨some 76, none, .load false 1 (.t 75)⟩,
  ⟨some 77, none, .cvInt .i64 (.t 76)⟩,
  ⟨some 78, none, .bin .mul .val (.t 77) (.c (.int .i64 (1117)))⟩,
  ⟨some 79, none, .bin .add .val (.t 61) (.t 78)⟩,
  ⟨some 80, none, .mv (.t 5)⟩,
  ⟨some 81, none, .bin .mul .val (.t 80) (.c (.int .i64 (29)))⟩,
  ⟨some 82, none, .bin .add .val (.t 79) (.t 81)⟩,
  ⟨some 83, none, .mv (.t 5)⟩,
  ⟨some 84, none, .mv (.t 0)⟩,
  ⟨some 85, none, .nilck (.t 84)⟩,
  ⟨some 86, none, .faddr 0 (.t 85)⟩,
  ⟨some 87, none, .load false 1 (.t 86)⟩,
  ⟨some 88, none, .len false (.t 87)⟩,
  ⟨some 89, none, .bin .quo .val (.t 83) (.t 88)⟩,
  ⟨some 90, none, .bin .mul .val (.t 89) (.c (.int .i64 (53)))⟩,
  ⟨some 91, none, .bin .add .val (.t 82) (.t 90)⟩,
  ⟨some 6, none, .mv (.t 91)⟩]) [1, 6]
 (.seq (.reg false [⟨some 92, none, .mv (.t 6)⟩,
  ⟨some 93, none, .mv (.t 6)⟩,
  ⟨some 94, none, .bin .quo .val (.t 93) (.c (.int .i64 (64)))⟩,
  ⟨some 95, none, .bin .xor .val (.t 92) (.t 94)⟩,
  ⟨some 6, none, .mv (.t 95)⟩]) [1, 6]
 (.seq (.reg false [⟨some 96, none, .mv (.t 6)⟩,
  ⟨some 97, none, .mv (.t 1)⟩,
  ⟨some 98, none, .bin .rem .val (.t 96) (.t 97)⟩,
  ⟨some 4, none, .mv (.t 98)⟩]) [4]
 (.ret))))))))) }
/- spec.l11Cut -/
def f46 : AFunc := { np := 2, nt := 32, res := [.tmp 4], own := false, body := (.seq (.reg false [⟨some 4, none, .mv (.c (.str []))⟩]) [0, 1]
 (.seq (.reg false [⟨some 6, none, .mv (.t 0)⟩,
  ⟨some 7, none, .mv (.t 1)⟩,
  ⟨some 8, none, .len true (.t 7)⟩,
  ⟨some 9, none, .bin .add .val (.t 8) (.c (.int .i64 (1)))⟩,
  ⟨some 10, none, .call (.f 45) [(false, .t 6), (false, .t 9)] false⟩,
  ⟨some 5, none, .mv (.t 10)⟩]) [0, 1, 5]
 (.seq (.seq (.reg false [⟨some 11, none, .mv (.t 0)⟩,
  ⟨some 12, none, .call (.f 45) [(false, .t 11), (false, .c (.int .i64 (5)))] false⟩]) [0, 1, 5, 12]
 (.block 0 (.seq (.reg false [⟨some 14, none, .bin .eql .val (.t 12) (.c (.int .i64 (0)))⟩,
  ⟨some 13, none, .mv (.t 14)⟩]) [0, 1, 5, 12, 13]
 (.cond (.t 13) (.seq (.reg true [⟨some 15, none, .mv (.t 1)⟩,
  ⟨some 16, none, .mv (.t 5)⟩,
  ⟨some 17, none, .slice none (.t 15) none (some (.t 16))⟩,
  ⟨some 18, none, .mv (.t 0)⟩,
  ⟨some 19, none, .lit false 1 [.c (.str [48]), .c (.str [42]), .c (.str [36]), .c (.str [13]), .c (.str [10]), .c (.str [120])]⟩,
  ⟨some 20, none, .call (.f 67) [(false, .t 18), (false, .t 19)] false⟩,
  ⟨some 21, none, .bin .add .val (.t 17) (.t 20)⟩,
  ⟨some 22, none, .mv (.t 1)⟩,
  ⟨some 23, none, .mv (.t 5)⟩,
  ⟨some 24, none, .slice none (.t 22) (some (.t 23)) none⟩,
  ⟨some 25, none, .bin .add .val (.t 21) (.t 24)⟩,
  ⟨some 4, none, .mv (.t 25)⟩]) [4]
 (.ret)) (.seq (.reg false [⟨some 27, none, .bin .eql .val (.t 12) (.c (.int .i64 (1)))⟩,
  ⟨some 26, none, .mv (.t 27)⟩]) [1, 5, 26]
 (.cond (.t 26) (.seq (.reg false [⟨some 28, none, .mv (.t 1)⟩,
  ⟨some 29, none, .mv (.t 5)⟩,
  ⟨some 30, none, .slice none (.t 28) none (some (.t 29))⟩,
  ⟨some 4, none, .mv (.t 30)⟩]) [4]
 (.ret)) (.skip))))))) [1]
 (.seq (.reg false [⟨some 31, none, .mv (.t 1)⟩,
  ⟨some 4, none, .mv (.t 31)⟩]) [4]
 (.ret))))) }
/- impl.wire).number -/
def f47l0 : ACode := (.seq (.seq (.reg false [⟨some 19, none, .mv (.t 0)⟩,
  ⟨some 20, none, .nilck (.t 19)⟩,
  ⟨some 21, none, .faddr 2 (.t 20)⟩,
  ⟨some 22, none, .load false 1 (.t 21)⟩,
  ⟨some 23, none, .un .not (.t 22)⟩,
  ⟨some 24, none, .mv (.t 23)⟩,
  ⟨some 25, some (24, true), .mv (.t 0)⟩,
  ⟨some 26, some (24, true), .nilck (.t 25)⟩,
  ⟨some 27, some (24, true), .faddr 3 (.t 26)⟩,
  ⟨some 28, some (24, true), .load false 1 (.t 27)⟩,
  ⟨some 29, some (24, true), .un .not (.t 28)⟩,
  ⟨some 30, none, .pick (.t 24) (.t 29) (.c (.bool false))⟩]) [0, 2, 3, 9, 10, 30]
 (.cond (.t 30) (.skip) (.exit 0))) [0, 2, 3, 9, 10]
 (.block 1 (.seq (.seq (.reg true [⟨some 31, none, .mv (.t 0)⟩,
  ⟨some 32, none, .nilck (.t 31)⟩,
  ⟨some 33, none, .faddr 1 (.t 32)⟩,
  ⟨some 34, none, .load false 1 (.t 33)⟩,
  ⟨some 35, none, .mv (.t 0)⟩,
  ⟨some 36, none, .nilck (.t 35)⟩,
  ⟨some 37, none, .faddr 0 (.t 36)⟩,
  ⟨some 38, none, .load false 1 (.t 37)⟩,
  ⟨some 39, none, .len true (.t 38)⟩,
  ⟨some 40, none, .bin .eql .val (.t 34) (.t 39)⟩]) [0, 2, 3, 9, 10, 40]
 (.cond (.t 40) (.seq (.reg false [⟨some 41, none, .mv (.t 0)⟩,
  ⟨some 42, none, .nilck (.t 41)⟩,
  ⟨some 43, none, .faddr 2 (.t 42)⟩,
  ⟨none, none, .store 1 (.t 43) (.c (.bool true))⟩]) [0, 9, 10]
 (.exit 0)) (.skip))) [0, 2, 3, 9, 10]
 (.seq (.reg true [⟨some 44, none, .mv (.t 0)⟩,
  ⟨some 45, none, .nilck (.t 44)⟩,
  ⟨some 46, none, .faddr 0 (.t 45)⟩,
  ⟨some 47, none, .load false 1 (.t 46)⟩,
  ⟨some 48, none, .mv (.t 0)⟩,
  ⟨some 49, none, .nilck (.t 48)⟩,
  ⟨some 50, none, .faddr 1 (.t 49)⟩,
  ⟨some 51, none, .load false 1 (.t 50)⟩,
  ⟨some 52, none, .idx (.t 47) (.t 51)⟩,
  ⟨some 11, none, .mv (.t 52)⟩]) [0, 2, 3, 9, 10, 11]
 (.seq (.seq (.reg false [⟨some 53, none, .mv (.t 11)⟩,
  ⟨some 54, none, .bin .lss .val (.t 53) (.c (.int .u8 (48)))⟩,
  ⟨some 55, none, .mv (.t 54)⟩,
  ⟨some 56, some (55, false), .mv (.t 11)⟩,
  ⟨some 57, some (55, false), .bin .gtr .val (.t 56) (.c (.int .u8 (57)))⟩,
  ⟨some 58, none, .pick (.t 55) (.c (.bool true)) (.t 57)⟩]) [0, 2, 3, 9, 10, 11, 58]
 (.cond (.t 58) (.exit 0) (.skip))) [0, 2, 3, 9, 10, 11]
 (.seq (.seq (.reg false [⟨some 59, none, .mv (.t 0)⟩,
  ⟨some 60, none, .nilck (.t 59)⟩,
  ⟨some 61, none, .faddr 1 (.t 60)⟩,
  ⟨some 62, none, .load false 1 (.t 61)⟩,
  ⟨some 63, none, .mv (.t 10)⟩,
  ⟨some 64, none, .bin .gtr .val (.t 62) (.t 63)⟩,
  ⟨some 65, none, .mv (.t 64)⟩,
  ⟨some 66, some (65, true), .mv (.t 9)⟩,
  ⟨some 67, some (65, true), .bin .eql .val (.t 66) (.c (.int .i64 (0)))⟩,
  ⟨some 68, none, .pick (.t 65) (.t 67) (.c (.bool false))⟩]) [0, 2, 3, 9, 10, 11, 68]
 (.cond (.t 68) (.seq (.reg false [⟨some 69, none, .mv (.t 0)⟩,
  ⟨some 70, none, .nilck (.t 69)⟩,
  ⟨some 71, none, .faddr 3 (.t 70)⟩,
  ⟨none, none, .store 1 (.t 71) (.c (.bool true))⟩]) [0, 9, 10]
 (.exit 0)) (.skip))) [0, 2, 3, 9, 10, 11]
 (.seq (.reg false [⟨some 72, none, .mv (.t 9)⟩,
  ⟨some 73, none, .bin .mul .val (.c (.int .i64 (10))) (.t 72)⟩,
  ⟨some 74, none, .mv (.t 11)⟩,
  ⟨some 75, none, .bin .sub .val (.t 74) (.c (.int .u8 (48)))⟩,
  ⟨some 76, none, .cvInt .i64 (.t 75)⟩,
  ⟨some 77, none, .bin .add .val (.t 73) (.t 76)⟩,
  ⟨some 9, none, .mv (.t 77)⟩]) [0, 2, 3, 9, 10]
 (.seq (.seq (.reg false [⟨some 78, none, .mv (.t 9)⟩,
  ⟨some 79, none, .mv (.t 2)⟩,
  ⟨some 80, none, .mv (.t 3)⟩,
  ⟨some 81, none, .pcall (.f 34) [.t 78, .t 79, .t 80]⟩,
  ⟨some 82, none, .un .not (.t 81)⟩]) [0, 2, 3, 9, 10, 82]
 (.cond (.t 82) (.reg false [⟨some 83, none, .mv (.t 0)⟩,
  ⟨some 84, none, .nilck (.t 83)⟩,
  ⟨some 85, none, .faddr 3 (.t 84)⟩,
  ⟨none, none, .store 1 (.t 85) (.c (.bool true))⟩]) (.skip))) [0, 2, 3, 9, 10]
 (.reg false [⟨some 86, none, .mv (.t 0)⟩,
  ⟨some 87, none, .nilck (.t 86)⟩,
  ⟨some 88, none, .faddr 1 (.t 87)⟩,
  ⟨some 89, none, .load false 1 (.t 88)⟩,
  ⟨some 90, none, .bin .add .val (.t 89) (.c (.int .i64 (1)))⟩,
  ⟨some 91, none, .nilck (.t 86)⟩,
  ⟨some 92, none, .faddr 1 (.t 91)⟩,
  ⟨none, none, .store 1 (.t 92) (.t 90)⟩])))))))))
def f47 : AFunc := { np := 4, nt := 114, res := [.tmp 8], own := false, body := (.seq (.reg false [⟨some 8, none, .mv (.c (.int .i64 (0)))⟩]) [0, 1, 2, 3]
 (.seq (.reg false [⟨some 12, none, .mv (.t 0)⟩,
  ⟨some 13, none, .mv (.t 1)⟩,
  ⟨some 14, none, .call (.f 48) [(false, .t 12), (false, .t 13)] false⟩]) [0, 2, 3]
 (.seq (.reg true [⟨some 15, none, .mv (.t 0)⟩,
  ⟨some 16, none, .nilck (.t 15)⟩,
  ⟨some 17, none, .faddr 1 (.t 16)⟩,
  ⟨some 18, none, .load false 1 (.t 17)⟩,
  ⟨some 9, none, .mv (.c (.int .i64 (0)))⟩,
  ⟨some 10, none, .mv (.t 18)⟩]) [0, 2, 3, 9, 10]
 (.seq (.block 0 (.loop [0, 2, 3, 9, 10] f47l0)) [0, 9, 10]
 (.seq (.seq (.reg false [⟨some 93, none, .mv (.t 0)⟩,
  ⟨some 94, none, .nilck (.t 93)⟩,
  ⟨some 95, none, .faddr 1 (.t 94)⟩,
  ⟨some 96, none, .load false 1 (.t 95)⟩,
  ⟨some 97, none, .mv (.t 10)⟩,
  ⟨some 98, none, .bin .eql .val (.t 96) (.t 97)⟩,
  ⟨some 99, none, .mv (.t 98)⟩,
  ⟨some 100, some (99, true), .mv (.t 0)⟩,
  ⟨some 101, some (99, true), .nilck (.t 100)⟩,
  ⟨some 102, some (99, true), .faddr 2 (.t 101)⟩,
  ⟨some 103, some (99, true), .load false 1 (.t 102)⟩,
  ⟨some 104, some (99, true), .un .not (.t 103)⟩,
  ⟨some 105, none, .pick (.t 99) (.t 104) (.c (.bool false))⟩]) [0, 9, 105]
 (.cond (.t 105) (.reg false [⟨some 106, none, .mv (.t 0)⟩,
  ⟨some 107, none, .nilck (.t 106)⟩,
  ⟨some 108, none, .faddr 3 (.t 107)⟩,
  ⟨none, none, .store 1 (.t 108) (.c (.bool true))⟩]) (.skip))) [0, 9]
 (.seq (.reg false [⟨some 109, none, .mv (.t 0)⟩,
  ⟨some 110, none, .call (.f 48) [(false, .t 109), (false, .c (.int .u8 (13)))] false⟩]) [0, 9]
 (.seq (.reg false [⟨some 111, none, .mv (.t 0)⟩,
  ⟨some 112, none, .call (.f 48) [(false, .t 111), (false, .c (.int .u8 (10)))] false⟩]) [9]
 (.seq (.reg false [⟨some 113, none, .mv (.t 9)⟩,
  ⟨some 8, none, .mv (.t 113)⟩]) [8]
 (.ret))))))))) }
/- impl.wire).byte -/
def f48 : AFunc := { np := 2, nt := 51, res := [], own := false, body := (.block 0 (.seq (.reg false [⟨some 12, none, .mv (.t 0)⟩,
  ⟨some 13, none, .nilck (.t 12)⟩,
  ⟨some 14, none, .faddr 2 (.t 13)⟩,
  ⟨some 15, none, .load false 1 (.t 14)⟩,
  ⟨some 16, none, .mv (.t 15)⟩,
  ⟨some 17, some (16, false), .mv (.t 0)⟩,
  ⟨some 18, some (16, false), .nilck (.t 17)⟩,
  ⟨some 19, some (16, false), .faddr 3 (.t 18)⟩,
  ⟨some 20, some (16, false), .load false 1 (.t 19)⟩,
  ⟨some 21, none, .pick (.t 16) (.c (.bool true)) (.t 20)⟩,
  ⟨some 11, none, .mv (.t 21)⟩]) [0, 1, 11]
 (.cond (.t 11) (.skip) (.seq (.reg true [⟨some 23, none, .mv (.t 0)⟩,
  ⟨some 24, none, .nilck (.t 23)⟩,
  ⟨some 25, none, .faddr 1 (.t 24)⟩,
  ⟨some 26, none, .load false 1 (.t 25)⟩,
  ⟨some 27, none, .mv (.t 0)⟩,
  ⟨some 28, none, .nilck (.t 27)⟩,
  ⟨some 29, none, .faddr 0 (.t 28)⟩,
  ⟨some 30, none, .load false 1 (.t 29)⟩,
  ⟨some 31, none, .len true (.t 30)⟩,
  ⟨some 32, none, .bin .eql .val (.t 26) (.t 31)⟩,
  ⟨some 22, none, .mv (.t 32)⟩]) [0, 1, 22]
 (.cond (.t 22) (.reg false [⟨some 33, none, .mv (.t 0)⟩,
  ⟨some 34, none, .nilck (.t 33)⟩,
  ⟨some 35, none, .faddr 2 (.t 34)⟩,
  ⟨none, none, .store 1 (.t 35) (.c (.bool true))⟩]) (.seq (.reg true [⟨some 37, none, .mv (.t 0)⟩,
  ⟨some 38, none, .nilck (.t 37)⟩,
  ⟨some 39, none, .faddr 0 (.t 38)⟩,
  ⟨some 40, none, .load false 1 (.t 39)⟩,
  ⟨some 41, none, .mv (.t 0)⟩,
  ⟨some 42, none, .nilck (.t 41)⟩,
  ⟨some 43, none, .faddr 1 (.t 42)⟩,
  ⟨some 44, none, .load false 1 (.t 43)⟩,
  ⟨some 45, none, .idx (.t 40) (.t 44)⟩,
  ⟨some 46, none, .mv (.t 1)⟩,
  ⟨some 47, none, .bin .neq .val (.t 45) (.t 46)⟩,
  ⟨some 36, none, .mv (.t 47)⟩]) [0, 36]
 (.cond (.t 36) (.reg false [⟨some 48, none, .mv (.t 0)⟩,
  ⟨some 49, none, .nilck (.t 48)⟩,
  ⟨some 50, none, .faddr 3 (.t 49)⟩,
  ⟨none, none, .store 1 (.t 50) (.c (.bool true))⟩]) (.reg false [⟨some 4, none, .mv (.t 0)⟩,
  ⟨some 5, none, .nilck (.t 4)⟩,
  ⟨some 6, none, .faddr 1 (.t 5)⟩,
  ⟨some 7, none, .load false 1 (.t 6)⟩,
  ⟨some 8, none, .bin .add .val (.t 7) (.c (.int .i64 (1)))⟩,
  ⟨some 9, none, .nilck (.t 4)⟩,
  ⟨some 10, none, .faddr 1 (.t 9)⟩,
  ⟨none, none, .store 1 (.t 10) (.t 8)⟩])))))))) }
/- spec.l1Head -/
def f49l0 : ACode := (.seq (.seq (.reg false [⟨some 12, none, .mv (.t 11)⟩,
  ⟨some 13, none, .mv (.t 0)⟩,
  ⟨some 14, none, .len true (.t 13)⟩,
  ⟨some 15, none, .bin .lss .val (.t 12) (.t 14)⟩,
  ⟨some 16, none, .mv (.t 15)⟩,
  ⟨some 17, some (16, true), .mv (.t 0)⟩,
  ⟨some 18, some (16, true), .mv (.t 11)⟩,
  ⟨some 19, some (16, true), .idx (.t 17) (.t 18)⟩,
  ⟨some 20, some (16, true), .bin .geq .val (.t 19) (.c (.int .u8 (48)))⟩,
  ⟨some 21, none, .pick (.t 16) (.t 20) (.c (.bool false))⟩,
  ⟨some 22, none, .mv (.t 21)⟩,
  ⟨some 23, some (22, true), .mv (.t 0)⟩,
  ⟨some 24, some (22, true), .mv (.t 11)⟩,
  ⟨some 25, some (22, true), .idx (.t 23) (.t 24)⟩,
  ⟨some 26, some (22, true), .bin .leq .val (.t 25) (.c (.int .u8 (57)))⟩,
  ⟨some 27, none, .pick (.t 22) (.t 26) (.c (.bool false))⟩,
  ⟨some 28, none, .mv (.t 27)⟩,
  ⟨some 29, some (28, true), .mv (.t 11)⟩,
  ⟨some 30, some (28, true), .bin .lss .val (.t 29) (.c (.int .i64 (4)))⟩,
  ⟨some 31, none, .pick (.t 28) (.t 30) (.c (.bool false))⟩]) [0, 1, 2, 3, 11, 31]
 (.cond (.t 31) (.skip) (.exit 0))) [0, 1, 2, 3, 11]
 (.block 1 (.reg false [⟨some 32, none, .mv (.t 11)⟩,
  ⟨some 33, none, .bin .add .val (.t 32) (.c (.int .i64 (1)))⟩,
  ⟨some 11, none, .mv (.t 33)⟩])))
def f49 : AFunc := { np := 4, nt := 96, res := [.tmp 8, .tmp 9, .tmp 10], own := false, body := (.seq (.reg false [⟨some 8, none, .mv (.c (.int .i64 (0)))⟩,
  ⟨some 9, none, .mv (.c (.str []))⟩,
  ⟨some 10, none, .mv (.c (.int .i64 (0)))⟩]) [0, 1, 2, 3]
 (.seq (.reg false [⟨some 11, none, .mv (.c (.int .i64 (1)))⟩]) [0, 1, 2, 3, 11]
 (.seq (.block 0 (.loop [0, 1, 2, 3, 11] f49l0)) [0, 1, 2, 3, 11]
 (.seq (.seq (.reg false [⟨some 34, none, .mv (.t 0)⟩,
  ⟨some 35, none, .len true (.t 34)⟩,
  ⟨some 36, none, .bin .eql .val (.t 35) (.c (.int .i64 (0)))⟩]) [0, 1, 2, 3, 11, 36]
 (.cond (.t 36) (.seq (.reg false [⟨some 8, none, .mv (.c (.int .i64 (0)))⟩,
  ⟨some 9, none, .mv (.c (.str []))⟩,
  ⟨some 10, none, .mv (.c (.int .i64 (0)))⟩]) [8, 9, 10]
 (.ret)) (.skip))) [0, 1, 2, 3, 11]
 (.seq (.seq (.reg false [⟨some 37, none, .mv (.t 0)⟩,
  ⟨some 38, none, .idx (.t 37) (.c (.int .i64 (0)))⟩,
  ⟨some 39, none, .mv (.t 1)⟩,
  ⟨some 40, none, .bin .neq .val (.t 38) (.t 39)⟩,
  ⟨some 41, none, .mv (.t 40)⟩,
  ⟨some 42, some (41, false), .mv (.t 11)⟩,
  ⟨some 43, some (41, false), .mv (.t 0)⟩,
  ⟨some 44, some (41, false), .len true (.t 43)⟩,
  ⟨some 45, some (41, false), .bin .lss .val (.t 42) (.t 44)⟩,
  ⟨some 46, some (41, false), .mv (.t 45)⟩,
  ⟨some 47, some (46, true), .mv (.t 11)⟩,
  ⟨some 48, some (46, true), .bin .eql .val (.t 47) (.c (.int .i64 (1)))⟩,
  ⟨some 49, some (46, true), .mv (.t 48)⟩,
  ⟨some 50, some (49, false), .mv (.t 0)⟩,
  ⟨some 51, some (49, false), .mv (.t 11)⟩,
  ⟨some 52, some (49, false), .idx (.t 50) (.t 51)⟩,
  ⟨some 53, some (49, false), .bin .neq .val (.t 52) (.c (.int .u8 (13)))⟩,
  ⟨some 54, some (46, true), .pick (.t 49) (.c (.bool true)) (.t 53)⟩,
  ⟨some 55, some (41, false), .pick (.t 46) (.t 54) (.c (.bool false))⟩,
  ⟨some 56, none, .pick (.t 41) (.c (.bool true)) (.t 55)⟩,
  ⟨some 57, none, .mv (.t 56)⟩,
  ⟨some 58, some (57, false), .mv (.t 11)⟩,
  ⟨some 59, some (57, false), .bin .add .val (.t 58) (.c (.int .i64 (1)))⟩,
  ⟨some 60, some (57, false), .mv (.t 0)⟩,
  ⟨some 61, some (57, false), .len true (.t 60)⟩,
  ⟨some 62, some (57, false), .bin .lss .val (.t 59) (.t 61)⟩,
  ⟨some 63, some (57, false), .mv (.t 62)⟩,
  ⟨some 64, some (63, true), .mv (.t 0)⟩,
  ⟨some 65, some (63, true), .mv (.t 11)⟩,
  ⟨some 66, some (63, true), .bin .add .val (.t 65) (.c (.int .i64 (1)))⟩,
  ⟨some 67, some (63, true), .idx (.t 64) (.t 66)⟩,
  ⟨some 68, some (63, true), .bin .neq .val (.t 67) (.c (.int .u8 (10)))⟩,
  ⟨some 69, some (57, false), .pick (.t 63) (.t 68) (.c (.bool false))⟩,
  ⟨some 70, none, .pick (.t 57) (.c (.bool true)) (.t 69)⟩]) [0, 2, 3, 11, 70]
 (.cond (.t 70) (.seq (.reg false [⟨some 8, none, .mv (.c (.int .i64 (0)))⟩,
  ⟨some 9, none, .mv (.c (.str []))⟩,
  ⟨some 10, none, .mv (.c (.int .i64 (-1)))⟩]) [8, 9, 10]
 (.ret)) (.skip))) [0, 2, 3, 11]
 (.seq (.seq (.reg false [⟨some 71, none, .mv (.t 11)⟩,
  ⟨some 72, none, .bin .gtr .val (.t 71) (.c (.int .i64 (1)))⟩,
  ⟨some 73, none, .mv (.t 72)⟩,
  ⟨some 74, some (73, true), .mv (.t 0)⟩,
  ⟨some 75, some (73, true), .mv (.t 11)⟩,
  ⟨some 76, some (73, true), .slice none (.t 74) (some (.c (.int .i64 (1)))) (some (.t 75))⟩,
  ⟨some 77, some (73, true), .pcall (.f 74) [.t 76]⟩,
  ⟨some 78, some (73, true), .mv (.t 2)⟩,
  ⟨some 79, some (73, true), .mv (.t 3)⟩,
  ⟨some 80, some (73, true), .pcall (.f 30) [.t 77, .t 78, .t 79]⟩,
  ⟨some 81, some (73, true), .un .not (.t 80)⟩,
  ⟨some 82, none, .pick (.t 73) (.t 81) (.c (.bool false))⟩]) [0, 11, 82]
 (.cond (.t 82) (.seq (.reg false [⟨some 8, none, .mv (.c (.int .i64 (0)))⟩,
  ⟨some 9, none, .mv (.c (.str []))⟩,
  ⟨some 10, none, .mv (.c (.int .i64 (-1)))⟩]) [8, 9, 10]
 (.ret)) (.skip))) [0, 11]
 (.seq (.seq (.reg false [⟨some 83, none, .mv (.t 11)⟩,
  ⟨some 84, none, .bin .add .val (.t 83) (.c (.int .i64 (1)))⟩,
  ⟨some 85, none, .mv (.t 0)⟩,
  ⟨some 86, none, .len true (.t 85)⟩,
  ⟨some 87, none, .bin .geq .val (.t 84) (.t 86)⟩]) [0, 11, 87]
 (.cond (.t 87) (.seq (.reg false [⟨some 8, none, .mv (.c (.int .i64 (0)))⟩,
  ⟨some 9, none, .mv (.c (.str []))⟩,
  ⟨some 10, none, .mv (.c (.int .i64 (0)))⟩]) [8, 9, 10]
 (.ret)) (.skip))) [0, 11]
 (.seq (.reg true [⟨some 88, none, .mv (.t 0)⟩,
  ⟨some 89, none, .mv (.t 11)⟩,
  ⟨some 90, none, .slice none (.t 88) (some (.c (.int .i64 (1)))) (some (.t 89))⟩,
  ⟨some 91, none, .pcall (.f 74) [.t 90]⟩,
  ⟨some 92, none, .mv (.t 0)⟩,
  ⟨some 93, none, .mv (.t 11)⟩,
  ⟨some 94, none, .bin .add .val (.t 93) (.c (.int .i64 (2)))⟩,
  ⟨some 95, none, .slice none (.t 92) (some (.t 94)) none⟩,
  ⟨some 8, none, .mv (.t 91)⟩,
  ⟨some 9, none, .mv (.t 95)⟩,
  ⟨some 10, none, .mv (.c (.int .i64 (1)))⟩]) [8, 9, 10]
 (.ret))))))))) }
/- spec.l1Dec -/
def f65 : AFunc := { np := 1, nt := 28, res := [.tmp 2], own := false, body := (.seq (.reg false [⟨some 2, none, .mv (.c (.str []))⟩]) [0]
 (.seq (.seq (.reg false [⟨some 3, none, .mv (.t 0)⟩,
  ⟨some 4, none, .bin .lss .val (.t 3) (.c (.int .i64 (-9223372036854775807)))⟩]) [0, 4]
 (.cond (.t 4) (.seq (.reg false [⟨some 2, none, .mv (.c (.str [45, 57, 50, 50, 51, 51, 55, 50, 48, 51, 54, 56, 53, 52, 55, 55, 53, 56, 48, 56]))⟩]) [2]
 (.ret)) (.skip))) [0]
 (.seq (.seq (.reg false [⟨some 5, none, .mv (.t 0)⟩,
  ⟨some 6, none, .bin .lss .val (.t 5) (.c (.int .i64 (0)))⟩]) [0, 6]
 (.cond (.t 6) (.seq (.reg false [⟨some 7, none, .mv (.t 0)⟩,
  ⟨some 8, none, .un .neg (.t 7)⟩,
  ⟨some 9, none, .pcall (.f 65) [.t 8]⟩,
  ⟨some 10, none, .bin .add .val (.c (.str [45])) (.t 9)⟩,
  ⟨some 2, none, .mv (.t 10)⟩]) [2]
 (.ret)) (.skip))) [0]
 (.seq (.seq (.reg false [⟨some 11, none, .mv (.t 0)⟩,
  ⟨some 12, none, .bin .lss .val (.t 11) (.c (.int .i64 (10)))⟩]) [0, 12]
 (.cond (.t 12) (.seq (.reg false [⟨some 13, none, .mv (.t 0)⟩,
  ⟨some 14, none, .bin .add .val (.c (.int .i64 (48))) (.t 13)⟩,
  ⟨some 15, none, .cvInt .u8 (.t 14)⟩,
  ⟨some 16, none, .lit false 1 [.t 15]⟩,
  ⟨some 17, none, .cvStr (.t 16)⟩,
  ⟨some 2, none, .mv (.t 17)⟩]) [2]
 (.ret)) (.skip))) [0]
 (.seq (.reg true [⟨some 18, none, .mv (.t 0)⟩,
  ⟨some 19, none, .bin .quo .val (.t 18) (.c (.int .i64 (10)))⟩,
  ⟨some 20, none, .pcall (.f 65) [.t 19]⟩,
  ⟨some 21, none, .mv (.t 0)⟩,
  ⟨some 22, none, .bin .rem .val (.t 21) (.c (.int .i64 (10)))⟩,
  ⟨some 23, none, .bin .add .val (.c (.int .i64 (48))) (.t 22)⟩,
  ⟨some 24, none, .cvInt .u8 (.t 23)⟩,
  ⟨some 25, none, .lit false 1 [.t 24]⟩,
  ⟨some 26, none, .cvStr (.t 25)⟩,
  ⟨some 27, none, .bin .add .val (.t 20) (.t 26)⟩,
  ⟨some 2, none, .mv (.t 27)⟩]) [2]
 (.ret)))))) }
/- impl.textsOk -/
def f66l0 : ACode := (.seq (.reg false [⟨some 10, none, .bin .lss .val (.t 9) (.t 8)⟩]) [0, 1, 7, 8, 9, 10]
 (.seq (.cond (.t 10) (.skip) (.exit 0)) [0, 1, 7, 8, 9]
 (.seq (.block 1 (.seq (.reg false [⟨some 11, none, .iaddr 1 (.t 7) (.t 9)⟩,
  ⟨some 12, none, .load false 1 (.t 11)⟩,
  ⟨some 6, none, .mv (.t 12)⟩]) [0, 1, 6, 7, 8, 9]
 (.seq (.reg false [⟨some 13, none, .mv (.t 6)⟩,
  ⟨some 14, none, .len true (.t 13)⟩,
  ⟨some 15, none, .bin .gtr .val (.t 14) (.c (.int .i64 (40)))⟩]) [0, 1, 7, 8, 9, 15]
 (.cond (.t 15) (.seq (.reg false [⟨some 4, none, .mv (.c (.bool false))⟩]) [4]
 (.ret)) (.skip))))) [0, 1, 7, 8, 9]
 (.reg false [⟨some 16, none, .bin .add .val (.t 9) (.c (.int .i64 (1)))⟩,
  ⟨some 9, none, .mv (.t 16)⟩]))))
def f66 : AFunc := { np := 2, nt := 21, res := [.tmp 4], own := false, body := (.seq (.reg false [⟨some 4, none, .mv (.c (.bool false))⟩]) [0, 1]
 (.seq (.seq (.reg false [⟨some 7, none, .mv (.t 0)⟩,
  ⟨some 8, none, .len false (.t 7)⟩,
  ⟨some 9, none, .mv (.c (.int .i64 (0)))⟩]) [0, 1, 7, 8, 9]
 (.block 0 (.loop [0, 1, 7, 8, 9] f66l0))) [0, 1]
 (.seq (.reg false [⟨some 17, none, .mv (.t 0)⟩,
  ⟨some 18, none, .len false (.t 17)⟩,
  ⟨some 19, none, .mv (.t 1)⟩,
  ⟨some 20, none, .bin .leq .val (.t 18) (.t 19)⟩,
  ⟨some 4, none, .mv (.t 20)⟩]) [4]
 (.ret)))) }
/- spec.l1Rd).of -/
def f67 : AFunc := { np := 2, nt := 12, res := [.tmp 4], own := false, body := (.seq (.reg false [⟨some 4, none, .mv (.c (.str []))⟩]) [0, 1]
 (.seq (.reg false [⟨some 5, none, .mv (.t 1)⟩,
  ⟨some 6, none, .mv (.t 0)⟩,
  ⟨some 7, none, .mv (.t 1)⟩,
  ⟨some 8, none, .len false (.t 7)⟩,
  ⟨some 9, none, .call (.f 45) [(false, .t 6), (false, .t 8)] false⟩,
  ⟨some 10, none, .iaddr 1 (.t 5) (.t 9)⟩,
  ⟨some 11, none, .load false 1 (.t 10)⟩,
  ⟨some 4, none, .mv (.t 11)⟩]) [4]
 (.ret))) }
/- spec.l1Bulk -/
def f69 : AFunc := { np := 1, nt := 11, res := [.tmp 2], own := false, body := (.seq (.reg false [⟨some 2, none, .mv (.c (.str []))⟩]) [0]
 (.seq (.reg false [⟨some 3, none, .mv (.t 0)⟩,
  ⟨some 4, none, .len true (.t 3)⟩,
  ⟨some 5, none, .pcall (.f 65) [.t 4]⟩,
  ⟨some 6, none, .bin .add .val (.c (.str [36])) (.t 5)⟩,
  ⟨some 7, none, .bin .add .val (.t 6) (.c (.str [13, 10]))⟩,
  ⟨some 8, none, .mv (.t 0)⟩,
  ⟨some 9, none, .bin .add .val (.t 7) (.t 8)⟩,
  ⟨some 10, none, .bin .add .val (.t 9) (.c (.str [13, 10]))⟩,
  ⟨some 2, none, .mv (.t 10)⟩]) [2]
 (.ret))) }
/- spec.l11Key -/
def f70 : AFunc := { np := 1, nt := 6, res := [.tmp 2], own := false, body := (.seq (.reg false [⟨some 2, none, .mv (.c (.str []))⟩]) [0]
 (.seq (.reg false [⟨some 3, none, .mv (.t 0)⟩,
  ⟨some 4, none, .lit false 1 [.c (.str [107]), .c (.str [108]), .c (.str [115]), .c (.str [122]), .c (.str [104]), .c (.str [107, 50]), .c (.str [108])]⟩,
  ⟨some 5, none, .call (.f 67) [(false, .t 3), (false, .t 4)] false⟩,
  ⟨some 2, none, .mv (.t 5)⟩]) [2]
 (.ret))) }
/- spec.l11Text -/
def f71 : AFunc := { np := 1, nt := 7, res := [.tmp 2], own := false, body := (.seq (.reg false [⟨some 2, none, .mv (.c (.str []))⟩]) [0]
 (.seq (.reg false [⟨some 3, none, .mv (.t 0)⟩,
  ⟨some 4, none, .pcall (.f 95) [.c (.str [120]), .c (.int .i64 (40))]⟩,
  ⟨some 5, none, .lit false 1 [.c (.str []), .c (.str [97]), .c (.str [98]), .c (.str [99]), .c (.str [53]), .c (.str [45, 51]), .c (.str [104, 101, 108, 108, 111]), .c (.str [13, 10]), .c (.str [255]), .t 4, .c (.str [57, 57, 57, 57, 57, 57, 57, 57, 57])]⟩,
  ⟨some 6, none, .call (.f 67) [(false, .t 3), (false, .t 5)] false⟩,
  ⟨some 2, none, .mv (.t 6)⟩]) [2]
 (.ret))) }
/- spec.l11Int -/
def f72 : AFunc := { np := 1, nt := 6, res := [.tmp 2], own := false, body := (.seq (.reg false [⟨some 2, none, .mv (.c (.str []))⟩]) [0]
 (.seq (.reg false [⟨some 3, none, .mv (.t 0)⟩,
  ⟨some 4, none, .lit false 1 [.c (.str [48]), .c (.str [49]), .c (.str [45, 49]), .c (.str [50]), .c (.str [45, 50]), .c (.str [53]), .c (.str [49, 48, 48]), .c (.str [45, 49, 48, 48]), .c (.str [49, 48, 48, 48, 48, 48, 48, 48, 48, 48]), .c (.str [120])]⟩,
  ⟨some 5, none, .call (.f 67) [(false, .t 3), (false, .t 4)] false⟩,
  ⟨some 2, none, .mv (.t 5)⟩]) [2]
 (.ret))) }
/- spec.l11Texts -/
def f73l0 : ACode := (.seq (.seq (.reg false [⟨some 12, none, .mv (.t 6)⟩,
  ⟨some 13, none, .bin .gtr .val (.t 12) (.c (.int .i64 (0)))⟩]) [0, 5, 6, 13]
 (.cond (.t 13) (.skip) (.exit 0))) [0, 5, 6]
 (.seq (.block 1 (.reg false [⟨some 16, none, .mv (.t 5)⟩,
  ⟨some 17, none, .mv (.t 0)⟩,
  ⟨some 18, none, .call (.f 71) [(false, .t 17)] false⟩,
  ⟨some 19, none, .lit false 1 [.t 18]⟩,
  ⟨some 20, none, .append 1 16 (.t 16) (.t 19)⟩,
  ⟨some 5, none, .mv (.t 20)⟩])) [0, 5, 6]
 (.reg false [⟨some 14, none, .mv (.t 6)⟩,
  ⟨some 15, none, .bin .sub .val (.t 14) (.c (.int .i64 (1)))⟩,
  ⟨some 6, none, .mv (.t 15)⟩])))
def f73 : AFunc := { np := 2, nt := 22, res := [.tmp 4], own := true, body := (.seq (.reg false [⟨some 4, none, .mv (.nil 1)⟩]) [0, 1]
 (.seq (.reg false [⟨some 7, none, .lit true 1 []⟩,
  ⟨some 5, none, .mv (.t 7)⟩]) [0, 1, 5]
 (.seq (.seq (.reg false [⟨some 8, none, .mv (.t 0)⟩,
  ⟨some 9, none, .mv (.t 1)⟩,
  ⟨some 10, none, .bin .add .val (.t 9) (.c (.int .i64 (1)))⟩,
  ⟨some 11, none, .call (.f 45) [(false, .t 8), (false, .t 10)] false⟩,
  ⟨some 6, none, .mv (.t 11)⟩]) [0, 5, 6]
 (.block 0 (.loop [0, 5, 6] f73l0))) [5]
 (.seq (.reg false [⟨some 21, none, .mv (.t 5)⟩,
  ⟨some 4, none, .mv (.t 21)⟩]) [4]
 (.ret))))) }
/- spec.l1Figures -/
def f74l0 : ACode := (.seq (.seq (.reg false [⟨some 5, none, .mv (.t 4)⟩,
  ⟨some 6, none, .mv (.t 0)⟩,
  ⟨some 7, none, .len true (.t 6)⟩,
  ⟨some 8, none, .bin .lss .val (.t 5) (.t 7)⟩]) [0, 3, 4, 8]
 (.cond (.t 8) (.skip) (.exit 0))) [0, 3, 4]
 (.seq (.block 1 (.seq (.seq (.reg false [⟨some 11, none, .mv (.t 0)⟩,
  ⟨some 12, none, .mv (.t 4)⟩,
  ⟨some 13, none, .idx (.t 11) (.t 12)⟩,
  ⟨some 14, none, .bin .lss .val (.t 13) (.c (.int .u8 (48)))⟩,
  ⟨some 15, none, .mv (.t 14)⟩,
  ⟨some 16, some (15, false), .mv (.t 0)⟩,
  ⟨some 17, some (15, false), .mv (.t 4)⟩,
  ⟨some 18, some (15, false), .idx (.t 16) (.t 17)⟩,
  ⟨some 19, some (15, false), .bin .gtr .val (.t 18) (.c (.int .u8 (57)))⟩,
  ⟨some 20, none, .pick (.t 15) (.c (.bool true)) (.t 19)⟩]) [0, 3, 4, 20]
 (.cond (.t 20) (.seq (.reg false [⟨some 2, none, .mv (.c (.int .i64 (-1)))⟩]) [2]
 (.ret)) (.skip))) [0, 3, 4]
 (.seq (.reg false [⟨some 21, none, .mv (.t 4)⟩,
  ⟨some 22, none, .bin .lss .val (.t 21) (.c (.int .i64 (10)))⟩]) [0, 3, 4, 22]
 (.cond (.t 22) (.reg false [⟨some 23, none, .mv (.t 3)⟩,
  ⟨some 24, none, .bin .mul .val (.t 23) (.c (.int .i64 (10)))⟩,
  ⟨some 25, none, .mv (.t 0)⟩,
  ⟨some 26, none, .mv (.t 4)⟩,
  ⟨some 27, none, .idx (.t 25) (.t 26)⟩,
  ⟨some 28, none, .bin .sub .val (.t 27) (.c (.int .u8 (48)))⟩,
  ⟨some 29, none, .cvInt .i64 (.t 28)⟩,
  ⟨some 30, none, .bin .add .val (.t 24) (.t 29)⟩,
  ⟨some 3, none, .mv (.t 30)⟩]) (.skip))))) [0, 3, 4]
 (.reg false [⟨some 9, none, .mv (.t 4)⟩,
  ⟨some 10, none, .bin .add .val (.t 9) (.c (.int .i64 (1)))⟩,
  ⟨some 4, none, .mv (.t 10)⟩])))
def f74 : AFunc := { np := 1, nt := 46, res := [.tmp 2], own := false, body := (.seq (.reg false [⟨some 2, none, .mv (.c (.int .i64 (0)))⟩]) [0]
 (.seq (.reg false [⟨some 3, none, .mv (.c (.int .i64 (0)))⟩]) [0, 3]
 (.seq (.seq (.reg false [⟨some 4, none, .mv (.c (.int .i64 (0)))⟩]) [0, 3, 4]
 (.block 0 (.loop [0, 3, 4] f74l0))) [0, 3]
 (.seq (.seq (.reg false [⟨some 31, none, .mv (.t 0)⟩,
  ⟨some 32, none, .len true (.t 31)⟩,
  ⟨some 33, none, .pcall (.f 30) [.t 32, .c (.int .i64 (1)), .c (.int .i64 (10))]⟩,
  ⟨some 34, none, .un .not (.t 33)⟩,
  ⟨some 35, none, .mv (.t 34)⟩,
  ⟨some 36, some (35, false), .mv (.t 0)⟩,
  ⟨some 37, some (35, false), .len true (.t 36)⟩,
  ⟨some 38, some (35, false), .bin .gtr .val (.t 37) (.c (.int .i64 (1)))⟩,
  ⟨some 39, some (35, false), .mv (.t 38)⟩,
  ⟨some 40, some (39, true), .mv (.t 0)⟩,
  ⟨some 41, some (39, true), .idx (.t 40) (.c (.int .i64 (0)))⟩,
  ⟨some 42, some (39, true), .bin .eql .val (.t 41) (.c (.int .u8 (48)))⟩,
  ⟨some 43, some (35, false), .pick (.t 39) (.t 42) (.c (.bool false))⟩,
  ⟨some 44, none, .pick (.t 35) (.c (.bool true)) (.t 43)⟩]) [3, 44]
 (.cond (.t 44) (.seq (.reg false [⟨some 2, none, .mv (.c (.int .i64 (-1)))⟩]) [2]
 (.ret)) (.skip))) [3]
 (.seq (.reg false [⟨some 45, none, .mv (.t 3)⟩,
  ⟨some 2, none, .mv (.t 45)⟩]) [2]
 (.ret)))))) }
/- spec.l1Many -/
def f95l0 : ACode := (.seq (.seq (.reg false [⟨some 6, none, .mv (.t 1)⟩,
  ⟨some 7, none, .bin .gtr .val (.t 6) (.c (.int .i64 (0)))⟩]) [0, 1, 5, 7]
 (.cond (.t 7) (.skip) (.exit 0))) [0, 1, 5]
 (.block 1 (.seq (.seq (.reg false [⟨some 8, none, .mv (.t 1)⟩,
  ⟨some 9, none, .bin .rem .val (.t 8) (.c (.int .i64 (2)))⟩,
  ⟨some 10, none, .bin .eql .val (.t 9) (.c (.int .i64 (1)))⟩]) [0, 1, 5, 10]
 (.cond (.t 10) (.reg false [⟨some 11, none, .mv (.t 5)⟩,
  ⟨some 12, none, .mv (.t 0)⟩,
  ⟨some 13, none, .bin .add .val (.t 11) (.t 12)⟩,
  ⟨some 5, none, .mv (.t 13)⟩]) (.skip))) [0, 1, 5]
 (.seq (.reg false [⟨some 14, none, .mv (.t 0)⟩,
  ⟨some 15, none, .mv (.t 0)⟩,
  ⟨some 16, none, .bin .add .val (.t 14) (.t 15)⟩,
  ⟨some 0, none, .mv (.t 16)⟩]) [0, 1, 5]
 (.reg false [⟨some 17, none, .mv (.t 1)⟩,
  ⟨some 18, none, .bin .quo .val (.t 17) (.c (.int .i64 (2)))⟩,
  ⟨some 1, none, .mv (.t 18)⟩])))))
def f95 : AFunc := { np := 2, nt := 20, res := [.tmp 4], own := false, body := (.seq (.reg false [⟨some 4, none, .mv (.c (.str []))⟩]) [0, 1]
 (.seq (.reg false [⟨some 5, none, .mv (.c (.str []))⟩]) [0, 1, 5]
 (.seq (.block 0 (.loop [0, 1, 5] f95l0)) [5]
 (.seq (.reg false [⟨some 19, none, .mv (.t 5)⟩,
  ⟨some 4, none, .mv (.t 19)⟩]) [4]
 (.ret))))) }
def tab : List (Nat × AFunc) := [(3, f3), (4, f4), (7, f7), (8, f8), (9, f9), (10, f10), (11, f11), (12, f12), (13, f13), (14, f14), (15, f15), (16, f16), (17, f17), (18, f18), (29, f29), (30, f30), (31, f31), (32, f32), (33, f33), (34, f34), (35, f35), (36, f36), (37, f37), (38, f38), (39, f39), (41, f41), (42, f42), (43, f43), (44, f44), (45, f45), (46, f46), (47, f47), (48, f48), (49, f49), (65, f65), (66, f66), (67, f67), (69, f69), (70, f70), (71, f71), (72, f72), (73, f73), (74, f74), (95, f95)]
theorem ok3 : chkFunc Tryd.prog Tryd.f3 f3 = true := by kernel_rfl
theorem ok4 : chkFunc Tryd.prog Tryd.f4 f4 = true := by kernel_rfl
theorem ok7 : chkFunc Tryd.prog Tryd.f7 f7 = true := by kernel_rfl
theorem ok8 : chkFunc Tryd.prog Tryd.f8 f8 = true := by kernel_rfl
theorem ok9 : chkFunc Tryd.prog Tryd.f9 f9 = true := by kernel_rfl
theorem ok10 : chkFunc Tryd.prog Tryd.f10 f10 = true := by kernel_rfl
theorem ok11 : chkFunc Tryd.prog Tryd.f11 f11 = true := by kernel_rfl
theorem ok12 : chkFunc Tryd.prog Tryd.f12 f12 = true := by kernel_rfl
theorem ok13 : chkFunc Tryd.prog Tryd.f13 f13 = true := by kernel_rfl
theorem ok14 : chkFunc Tryd.prog Tryd.f14 f14 = true := by kernel_rfl
theorem ok15 : chkFunc Tryd.prog Tryd.f15 f15 = true := by kernel_rfl
theorem ok16 : chkFunc Tryd.prog Tryd.f16 f16 = true := by kernel_rfl
theorem ok17 : chkFunc Tryd.prog Tryd.f17 f17 = true := by kernel_rfl
theorem ok18 : chkFunc Tryd.prog Tryd.f18 f18 = true := by kernel_rfl
theorem ok29 : chkFunc Tryd.prog Tryd.f29 f29 = true := by kernel_rfl
theorem ok30 : chkFunc Tryd.prog Tryd.f30 f30 = true := by kernel_rfl
theorem ok31 : chkFunc Tryd.prog Tryd.f31 f31 = true := by kernel_rfl
theorem ok32 : chkFunc Tryd.prog Tryd.f32 f32 = true := by kernel_rfl
theorem ok33 : chkFunc Tryd.prog Tryd.f33 f33 = true := by kernel_rfl
theorem ok34 : chkFunc Tryd.prog Tryd.f34 f34 = true := by kernel_rfl
theorem ok35 : chkFunc Tryd.prog Tryd.f35 f35 = true := by kernel_rfl
theorem ok36 : chkFunc Tryd.prog Tryd.f36 f36 = true := by kernel_rfl
theorem ok37 : chkFunc Tryd.prog Tryd.f37 f37 = true := by kernel_rfl
theorem ok38 : chkFunc Tryd.prog Tryd.f38 f38 = true := by kernel_rfl
theorem ok39 : chkFunc Tryd.prog Tryd.f39 f39 = true := by kernel_rfl
theorem ok41 : chkFunc Tryd.prog Tryd.f41 f41 = true := by kernel_rfl
theorem ok42 : chkFunc Tryd.prog Tryd.f42 f42 = true := by kernel_rfl
theorem ok43 : chkFunc Tryd.prog Tryd.f43 f43 = true := by kernel_rfl
theorem ok44 : chkFunc Tryd.prog Tryd.f44 f44 = true := by kernel_rfl
theorem ok45 : chkFunc Tryd.prog Tryd.f45 f45 = true := by kernel_rfl
theorem ok46 : chkFunc Tryd.prog Tryd.f46 f46 = true := by kernel_rfl
theorem ok47 : chkFunc Tryd.prog Tryd.f47 f47 = true := by kernel_rfl
theorem ok48 : chkFunc Tryd.prog Tryd.f48 f48 = true := by kernel_rfl
theorem ok49 : chkFunc Tryd.prog Tryd.f49 f49 = true := by kernel_rfl
theorem ok65 : chkFunc Tryd.prog Tryd.f65 f65 = true := by kernel_rfl
theorem ok66 : chkFunc Tryd.prog Tryd.f66 f66 = true := by kernel_rfl
theorem ok67 : chkFunc Tryd.prog Tryd.f67 f67 = true := by kernel_rfl
theorem ok69 : chkFunc Tryd.prog Tryd.f69 f69 = true := by kernel_rfl
theorem ok70 : chkFunc Tryd.prog Tryd.f70 f70 = true := by kernel_rfl
theorem ok71 : chkFunc Tryd.prog Tryd.f71 f71 = true := by kernel_rfl
theorem ok72 : chkFunc Tryd.prog Tryd.f72 f72 = true := by kernel_rfl
theorem ok73 : chkFunc Tryd.prog Tryd.f73 f73 = true := by kernel_rfl
theorem ok74 : chkFunc Tryd.prog Tryd.f74 f74 = true := by kernel_rfl
theorem ok95 : chkFunc Tryd.prog Tryd.f95 f95 = true := by kernel_rfl
theorem all_ok : ∀ p ∈ tab, ∃ fn, Tryd.prog.funcs[p.1]? = some fn ∧ chkFunc Tryd.prog fn p.2 = true := by
  intro p hp
  simp only [tab, List.mem_cons, List.not_mem_nil, or_false] at hp
  rcases hp with rfl | rfl | rfl | rfl | rfl | rfl | rfl | rfl | rfl | rfl | rfl | rfl | rfl | rfl | rfl | rfl | rfl | rfl | rfl | rfl | rfl | rfl | rfl | rfl | rfl | rfl | rfl | rfl | rfl | rfl | rfl | rfl | rfl | rfl | rfl | rfl | rfl | rfl | rfl | rfl | rfl | rfl | rfl | rfl
  · exact ⟨_, Tryd.func3, ok3⟩
  · exact ⟨_, Tryd.func4, ok4⟩
  · exact ⟨_, Tryd.func7, ok7⟩
  · exact ⟨_, Tryd.func8, ok8⟩
  · exact ⟨_, Tryd.func9, ok9⟩
  · exact ⟨_, Tryd.func10, ok10⟩
  · exact ⟨_, Tryd.func11, ok11⟩
  · exact ⟨_, Tryd.func12, ok12⟩
  · exact ⟨_, Tryd.func13, ok13⟩
  · exact ⟨_, Tryd.func14, ok14⟩
  · exact ⟨_, Tryd.func15, ok15⟩
  · exact ⟨_, Tryd.func16, ok16⟩
  · exact ⟨_, Tryd.func17, ok17⟩
  · exact ⟨_, Tryd.func18, ok18⟩
  · exact ⟨_, Tryd.func29, ok29⟩
  · exact ⟨_, Tryd.func30, ok30⟩
  · exact ⟨_, Tryd.func31, ok31⟩
  · exact ⟨_, Tryd.func32, ok32⟩
  · exact ⟨_, Tryd.func33, ok33⟩
  · exact ⟨_, Tryd.func34, ok34⟩
  · exact ⟨_, Tryd.func35, ok35⟩
  · exact ⟨_, Tryd.func36, ok36⟩
  · exact ⟨_, Tryd.func37, ok37⟩
  · exact ⟨_, Tryd.func38, ok38⟩
  · exact ⟨_, Tryd.func39, ok39⟩
  · exact ⟨_, Tryd.func41, ok41⟩
  · exact ⟨_, Tryd.func42, ok42⟩
  · exact ⟨_, Tryd.func43, ok43⟩
  · exact ⟨_, Tryd.func44, ok44⟩
  · exact ⟨_, Tryd.func45, ok45⟩
  · exact ⟨_, Tryd.func46, ok46⟩
  · exact ⟨_, Tryd.func47, ok47⟩
  · exact ⟨_, Tryd.func48, ok48⟩
  · exact ⟨_, Tryd.func49, ok49⟩
  · exact ⟨_, Tryd.func65, ok65⟩
  · exact ⟨_, Tryd.func66, ok66⟩
  · exact ⟨_, Tryd.func67, ok67⟩
  · exact ⟨_, Tryd.func69, ok69⟩
  · exact ⟨_, Tryd.func70, ok70⟩
  · exact ⟨_, Tryd.func71, ok71⟩
  · exact ⟨_, Tryd.func72, ok72⟩
  · exact ⟨_, Tryd.func73, ok73⟩
  · exact ⟨_, Tryd.func74, ok74⟩
  · exact ⟨_, Tryd.func95, ok95⟩
set_option maxRecDepth 100000
/-- What the variables hold that are read. -/
def globD : Glob := fun n => match n with
  | 0 => some (intsD .u64 Lib.pow10Tab)
  | _ => none
/-- strconv.Itoa: a number's decimals. -/
def itoaP : List V → Hp → Option (V × Hp)
  | [.d (.int .i64 n)], H => if -9223372036854775808 ≤ n ∧ n ≤ 9223372036854775807 then some (.d (.str (Lib.itoa n)), H) else none
  | _, _ => none
def primD : Nat → Option (List V → Hp → Option (V × Hp)) := fun k => match k with
  | 40 => some itoaP
  | _ => none
theorem fnOk40 : FnOk Tryd.prog 40 := ⟨_, Tryd.func40, by kernel_rfl, by kernel_rfl⟩
theorem one_int {w : World} {O : Own} {pl : Pl} {m : Nat} {n : Int} {us : Array Value} (h : RVs w O pl m [.d (.int .i64 n)] us) : us = #[.int .i64 n] := by
  obtain ⟨hl, hu⟩ := h
  have h0 := hu 0 (by simp)
  simp only [List.getD_cons_zero] at h0
  generalize hq : us.getD 0 undef = q at h0
  have h1 := h0.dd
  cases h1
  apply Array.ext
  · simpa using hl
  · intro i h1 h2
    have : i = 0 := by simpa using h2
    subst this
    rw [Array.getD_eq_getD_getElem?, Array.getElem?_eq_getElem h1] at hq
    simpa using hq
theorem prims_ok : ∀ k p, primD k = some p → ∀ args H r, p args H = some r → SoundAt Tryd.prog globD k args H r := by
  intro k p hk args H r hr
  unfold primD at hk
  split at hk
  · simp only [Option.some.injEq] at hk
    subst hk
    unfold itoaP at hr
    split at hr
    · rename_i H' n
      split at hr
      · rename_i hn
        simp only [Option.some.injEq] at hr
        subst hr
        refine prim_sound fnOk40 fun w pl us hG hR => ?_
        rw [one_int hR]
        refine (Tryd.strconv_Itoa n hn.1 hn.2 w (tab_of_gr (g := 0) hG (by kernel_rfl) rfl)).mono fun e w' ⟨he, m, os, hw⟩ => ⟨_, he, .str _ _ (by simp), m, os, hw⟩
      · simp at hr
    · simp at hr
  · simp at hk
theorem prg_ok : PrgOk Tryd.prog (ofTabG tab globD primD) := ofTabG_ok (by kernel_rfl) all_ok prims_ok
noncomputable abbrev R : Prg := ofTabG tab globD primD
theorem e40 (H : Hp) (n : Int) (h : -9223372036854775808 ≤ n ∧ n ≤ 9223372036854775807) : ev R 40 [.d (.int .i64 n)] H = some (.d (.str (Lib.itoa n)), H) :=
  ev_prim (p := itoaP) rfl (by simp only [itoaP]; rw [if_pos h])

end Go.Proofs.YtpmphmpaeooeeaaDoor.Code
