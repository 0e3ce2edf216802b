/- The functions of these laws as compact code, and that it is the given code. -/
import Derived.Test.YtpmphmpaeooeeaaChecked
import Derived.KernelRfl
import Derived.Test.YtpmphmpaeooeeaaE26
namespace Go.Proofs.Ytpmphmpaeooeeaa.Code
open Go Go.Ev Go.Proofs
/- laws.FnExactTextBitGet -/
def f3 : AFunc := { np := 2, nt := 19, res := [.tmp 4], own := false, body := (.seq (.reg false [⟨some 4, none, .mv (.c (.bool false))⟩]) [0, 1]
 (.seq (.seq (.reg false [⟨some 7, none, .mv (.t 0)⟩,
  ⟨some 8, none, .len true (.t 7)⟩,
  ⟨some 9, none, .bin .gtr .val (.t 8) (.c (.int .i64 (1048576)))⟩]) [0, 1, 9]
 (.cond (.t 9) (.seq (.reg false [⟨some 4, none, .mv (.c (.bool true))⟩]) [4]
 (.ret)) (.skip))) [0, 1]
 (.seq (.reg false [⟨some 10, none, .mv (.t 0)⟩,
  ⟨some 11, none, .mv (.t 1)⟩,
  ⟨some 12, none, .pcall (.f 11) [.t 10, .t 11]⟩,
  ⟨some 5, none, .mv (.t 12)⟩]) [0, 1, 5]
 (.seq (.reg false [⟨some 13, none, .mv (.t 0)⟩,
  ⟨some 14, none, .mv (.t 1)⟩,
  ⟨some 15, none, .pcall (.f 12) [.t 13, .t 14]⟩,
  ⟨some 6, none, .mv (.t 15)⟩]) [5, 6]
 (.seq (.seq (.reg false [⟨some 16, none, .mv (.t 6)⟩,
  ⟨some 17, none, .mv (.t 5)⟩,
  ⟨some 18, none, .bin .neq .val (.t 16) (.t 17)⟩]) [18]
 (.cond (.t 18) (.seq (.reg false [⟨some 4, none, .mv (.c (.bool false))⟩]) [4]
 (.ret)) (.skip))) []
 (.seq (.reg false [⟨some 4, none, .mv (.c (.bool true))⟩]) [4]
 (.ret))))))) }
/- laws.FnExactTextBitFind -/
def f4 : AFunc := { np := 2, nt := 19, res := [.tmp 4], own := false, body := (.seq (.reg false [⟨some 4, none, .mv (.c (.bool false))⟩]) [0, 1]
 (.seq (.seq (.reg false [⟨some 7, none, .mv (.t 0)⟩,
  ⟨some 8, none, .len true (.t 7)⟩,
  ⟨some 9, none, .bin .gtr .val (.t 8) (.c (.int .i64 (1048576)))⟩]) [0, 1, 9]
 (.cond (.t 9) (.seq (.reg false [⟨some 4, none, .mv (.c (.bool true))⟩]) [4]
 (.ret)) (.skip))) [0, 1]
 (.seq (.reg false [⟨some 10, none, .mv (.t 0)⟩,
  ⟨some 11, none, .mv (.t 1)⟩,
  ⟨some 12, none, .pcall (.f 13) [.t 10, .t 11]⟩,
  ⟨some 5, none, .mv (.t 12)⟩]) [0, 1, 5]
 (.seq (.reg false [⟨some 13, none, .mv (.t 0)⟩,
  ⟨some 14, none, .mv (.t 1)⟩,
  ⟨some 15, none, .pcall (.f 14) [.t 13, .t 14]⟩,
  ⟨some 6, none, .mv (.t 15)⟩]) [5, 6]
 (.seq (.seq (.reg false [⟨some 16, none, .mv (.t 6)⟩,
  ⟨some 17, none, .mv (.t 5)⟩,
  ⟨some 18, none, .bin .neq .val (.t 16) (.t 17)⟩]) [18]
 (.cond (.t 18) (.seq (.reg false [⟨some 4, none, .mv (.c (.bool false))⟩]) [4]
 (.ret)) (.skip))) []
 (.seq (.reg false [⟨some 4, none, .mv (.c (.bool true))⟩]) [4]
 (.ret))))))) }
/- laws.FnExactListAt -/
def f5 : AFunc := { np := 2, nt := 34, res := [.tmp 4], own := false, body := (.seq (.reg false [⟨some 4, none, .mv (.c (.bool false))⟩]) [0, 1]
 (.seq (.seq (.reg false [⟨some 9, none, .mv (.t 1)⟩,
  ⟨some 10, none, .len true (.t 9)⟩,
  ⟨some 11, none, .bin .gtr .val (.t 10) (.c (.int .i64 (1048576)))⟩]) [0, 1, 11]
 (.cond (.t 11) (.seq (.reg false [⟨some 4, none, .mv (.c (.bool true))⟩]) [4]
 (.ret)) (.skip))) [0, 1]
 (.seq (.reg false [⟨some 5, none, .mv (.c (.int .i64 (1048576)))⟩]) [0, 1, 5]
 (.seq (.reg false [⟨some 12, none, .mv (.t 0)⟩,
  ⟨some 13, none, .mv (.t 5)⟩,
  ⟨some 14, none, .pcall (.f 15) [.t 12, .t 13]⟩,
  ⟨some 5, none, .mv (.t 14)⟩]) [0, 1, 5]
 (.seq (.seq (.reg false [⟨some 15, none, .mv (.t 5)⟩,
  ⟨some 16, none, .bin .lss .val (.t 15) (.c (.int .i64 (0)))⟩]) [0, 1, 16]
 (.cond (.t 16) (.seq (.reg false [⟨some 4, none, .mv (.c (.bool true))⟩]) [4]
 (.ret)) (.skip))) [0, 1]
 (.seq (.reg false [⟨some 17, none, .mv (.t 0)⟩,
  ⟨some 18, none, .pcall (.f 17) [.t 17]⟩,
  ⟨some 19, none, .mv (.t 1)⟩,
  ⟨some 20, none, .pcall (.f 16) [.t 18, .t 19]⟩,
  ⟨some 6, none, .mv (.t 20)⟩]) [0, 1, 6]
 (.seq (.reg false [⟨some 21, none, .mv (.t 0)⟩,
  ⟨some 22, none, .pcall (.f 17) [.t 21]⟩,
  ⟨some 7, none, .mv (.t 22)⟩]) [0, 1, 6, 7]
 (.seq (.reg false [⟨some 23, none, .mv (.t 7)⟩,
  ⟨some 24, none, .mv (.t 1)⟩,
  ⟨some 25, none, .pcall (.f 18) [.t 23, .t 24]⟩,
  ⟨some 8, none, .mv (.t 25)⟩]) [0, 6, 7, 8]
 (.seq (.seq (.reg false [⟨some 26, none, .mv (.t 8)⟩,
  ⟨some 27, none, .mv (.t 6)⟩,
  ⟨some 28, none, .bin .neq .val (.t 26) (.t 27)⟩]) [0, 7, 28]
 (.cond (.t 28) (.seq (.reg false [⟨some 4, none, .mv (.c (.bool false))⟩]) [4]
 (.ret)) (.skip))) [0, 7]
 (.seq (.seq (.reg false [⟨some 29, none, .mv (.t 7)⟩,
  ⟨some 30, none, .mv (.t 0)⟩,
  ⟨some 31, none, .pcall (.f 17) [.t 30]⟩,
  ⟨some 32, none, .pcall (.f 19) [.t 29, .t 31]⟩,
  ⟨some 33, none, .un .not (.t 32)⟩]) [33]
 (.cond (.t 33) (.seq (.reg false [⟨some 4, none, .mv (.c (.bool false))⟩]) [4]
 (.ret)) (.skip))) []
 (.seq (.reg false [⟨some 4, none, .mv (.c (.bool true))⟩]) [4]
 (.ret)))))))))))) }
/- laws.FnExactTextBitCount -/
def f6 : AFunc := { np := 3, nt := 23, res := [.tmp 6], own := false, body := (.seq (.reg false [⟨some 6, none, .mv (.c (.bool false))⟩]) [0, 1, 2]
 (.seq (.seq (.reg false [⟨some 9, none, .mv (.t 0)⟩,
  ⟨some 10, none, .len true (.t 9)⟩,
  ⟨some 11, none, .bin .gtr .val (.t 10) (.c (.int .i64 (1048576)))⟩]) [0, 1, 2, 11]
 (.cond (.t 11) (.seq (.reg false [⟨some 6, none, .mv (.c (.bool true))⟩]) [6]
 (.ret)) (.skip))) [0, 1, 2]
 (.seq (.reg false [⟨some 12, none, .mv (.t 0)⟩,
  ⟨some 13, none, .mv (.t 1)⟩,
  ⟨some 14, none, .mv (.t 2)⟩,
  ⟨some 15, none, .pcall (.f 20) [.t 12, .t 13, .t 14]⟩,
  ⟨some 7, none, .mv (.t 15)⟩]) [0, 1, 2, 7]
 (.seq (.reg false [⟨some 16, none, .mv (.t 0)⟩,
  ⟨some 17, none, .mv (.t 1)⟩,
  ⟨some 18, none, .mv (.t 2)⟩,
  ⟨some 19, none, .pcall (.f 21) [.t 16, .t 17, .t 18]⟩,
  ⟨some 8, none, .mv (.t 19)⟩]) [7, 8]
 (.seq (.seq (.reg false [⟨some 20, none, .mv (.t 8)⟩,
  ⟨some 21, none, .mv (.t 7)⟩,
  ⟨some 22, none, .bin .neq .val (.t 20) (.t 21)⟩]) [22]
 (.cond (.t 22) (.seq (.reg false [⟨some 6, none, .mv (.c (.bool false))⟩]) [6]
 (.ret)) (.skip))) []
 (.seq (.reg false [⟨some 6, none, .mv (.c (.bool true))⟩]) [6]
 (.ret))))))) }
/- laws.FnListAt -/
def f7 : AFunc := { np := 1, nt := 45, res := [.tmp 2], own := false, body := (.seq (.reg false [⟨some 2, none, .mv (.c (.bool false))⟩]) [0]
 (.seq (.seq (.reg false [⟨some 6, none, .mv (.t 0)⟩,
  ⟨some 7, none, .len false (.t 6)⟩,
  ⟨some 8, none, .bin .gtr .val (.t 7) (.c (.int .i64 (1048576)))⟩]) [0, 8]
 (.cond (.t 8) (.seq (.reg false [⟨some 2, none, .mv (.c (.bool true))⟩]) [2]
 (.ret)) (.skip))) [0]
 (.seq (.reg false [⟨some 10, none, .mv (.t 0)⟩,
  ⟨some 11, none, .pcall (.f 22) [.t 10]⟩,
  ⟨some 9, none, .mv (.t 11)⟩,
  ⟨some 12, none, .extract (.t 9) 0⟩,
  ⟨some 13, none, .extract (.t 9) 1⟩,
  ⟨some 3, none, .mv (.t 12)⟩,
  ⟨some 4, none, .mv (.t 13)⟩]) [3, 4]
 (.seq (.reg false [⟨some 14, none, .mv (.t 3)⟩,
  ⟨some 15, none, .mv (.t 4)⟩,
  ⟨some 16, none, .pcall (.f 18) [.t 14, .t 15]⟩,
  ⟨some 5, none, .mv (.t 16)⟩]) [3, 4, 5]
 (.seq (.seq (.reg false [⟨some 17, none, .mv (.t 5)⟩,
  ⟨some 18, none, .mv (.t 3)⟩,
  ⟨some 19, none, .mv (.t 4)⟩,
  ⟨some 20, none, .pcall (.f 16) [.t 18, .t 19]⟩,
  ⟨some 21, none, .bin .neq .val (.t 17) (.t 20)⟩,
  ⟨some 22, none, .mv (.t 21)⟩,
  ⟨some 23, some (22, false), .mv (.t 5)⟩,
  ⟨some 24, some (22, false), .bin .lss .val (.t 23) (.c (.int .i64 (0)))⟩,
  ⟨some 25, none, .pick (.t 22) (.c (.bool true)) (.t 24)⟩]) [3, 4, 5, 25]
 (.cond (.t 25) (.seq (.reg false [⟨some 26, none, .mv (.t 5)⟩,
  ⟨some 27, none, .mv (.t 3)⟩,
  ⟨some 28, none, .mv (.t 4)⟩,
  ⟨some 29, none, .pcall (.f 16) [.t 27, .t 28]⟩,
  ⟨some 30, none, .bin .eql .val (.t 26) (.t 29)⟩,
  ⟨some 2, none, .mv (.t 30)⟩]) [2]
 (.ret)) (.skip))) [3, 4, 5]
 (.seq (.reg false [⟨some 31, none, .mv (.t 3)⟩,
  ⟨some 32, none, .mv (.t 5)⟩,
  ⟨some 33, none, .iaddr 1 (.t 31) (.t 32)⟩,
  ⟨some 34, none, .load false 1 (.t 33)⟩,
  ⟨some 35, none, .mv (.t 4)⟩,
  ⟨some 36, none, .bin .eql .val (.t 34) (.t 35)⟩,
  ⟨some 37, none, .mv (.t 36)⟩,
  ⟨some 38, some (37, true), .mv (.t 3)⟩,
  ⟨some 39, some (37, true), .mv (.t 5)⟩,
  ⟨some 40, some (37, true), .slice (some 1) (.t 38) none (some (.t 39))⟩,
  ⟨some 41, some (37, true), .mv (.t 4)⟩,
  ⟨some 42, some (37, true), .pcall (.f 23) [.t 40, .t 41]⟩,
  ⟨some 43, some (37, true), .un .not (.t 42)⟩,
  ⟨some 44, none, .pick (.t 37) (.t 43) (.c (.bool false))⟩,
  ⟨some 2, none, .mv (.t 44)⟩]) [2]
 (.ret))))))) }
/- laws.FnTextBitFind -/
def f8l0 : ACode := (.seq (.seq (.reg false [⟨some 42, none, .mv (.t 6)⟩,
  ⟨some 43, none, .mv (.t 3)⟩,
  ⟨some 44, none, .len true (.t 43)⟩,
  ⟨some 45, none, .bin .mul .val (.c (.int .i64 (8))) (.t 44)⟩,
  ⟨some 46, none, .bin .lss .val (.t 42) (.t 45)⟩]) [3, 4, 5, 6, 46]
 (.cond (.t 46) (.skip) (.exit 0))) [3, 4, 5, 6]
 (.seq (.block 1 (.seq (.reg false [⟨some 49, none, .mv (.t 3)⟩,
  ⟨some 50, none, .mv (.t 6)⟩,
  ⟨some 51, none, .pcall (.f 12) [.t 49, .t 50]⟩,
  ⟨some 52, none, .mv (.t 4)⟩,
  ⟨some 53, none, .bin .eql .val (.t 51) (.t 52)⟩,
  ⟨some 7, none, .mv (.t 53)⟩]) [3, 4, 5, 6, 7]
 (.seq (.reg false [⟨some 54, none, .mv (.t 7)⟩,
  ⟨some 55, none, .mv (.t 54)⟩,
  ⟨some 56, some (55, true), .mv (.t 5)⟩,
  ⟨some 57, some (55, true), .mv (.t 6)⟩,
  ⟨some 58, some (55, true), .bin .gtr .val (.t 56) (.t 57)⟩,
  ⟨some 59, none, .pick (.t 55) (.t 58) (.c (.bool false))⟩,
  ⟨some 60, none, .mv (.t 59)⟩,
  ⟨some 61, some (60, false), .mv (.t 5)⟩,
  ⟨some 62, some (60, false), .mv (.t 6)⟩,
  ⟨some 63, some (60, false), .bin .eql .val (.t 61) (.t 62)⟩,
  ⟨some 64, some (60, false), .mv (.t 63)⟩,
  ⟨some 65, some (64, true), .mv (.t 7)⟩,
  ⟨some 66, some (64, true), .un .not (.t 65)⟩,
  ⟨some 67, some (60, false), .pick (.t 64) (.t 66) (.c (.bool false))⟩,
  ⟨some 68, none, .pick (.t 60) (.c (.bool true)) (.t 67)⟩,
  ⟨some 69, none, .mv (.t 68)⟩,
  ⟨some 70, some (69, false), .mv (.t 7)⟩,
  ⟨some 71, some (69, false), .mv (.t 70)⟩,
  ⟨some 72, some (71, true), .mv (.t 5)⟩,
  ⟨some 73, some (71, true), .bin .lss .val (.t 72) (.c (.int .i64 (0)))⟩,
  ⟨some 74, some (69, false), .pick (.t 71) (.t 73) (.c (.bool false))⟩,
  ⟨some 75, none, .pick (.t 69) (.c (.bool true)) (.t 74)⟩]) [3, 4, 5, 6, 75]
 (.cond (.t 75) (.seq (.reg false [⟨some 2, none, .mv (.c (.bool false))⟩]) [2]
 (.ret)) (.skip))))) [3, 4, 5, 6]
 (.reg false [⟨some 47, none, .mv (.t 6)⟩,
  ⟨some 48, none, .bin .add .val (.t 47) (.c (.int .i64 (1)))⟩,
  ⟨some 6, none, .mv (.t 48)⟩])))
def f8 : AFunc := { np := 1, nt := 83, res := [.tmp 2], own := false, body := (.seq (.reg false [⟨some 2, none, .mv (.c (.bool false))⟩]) [0]
 (.seq (.seq (.reg false [⟨some 8, none, .mv (.t 0)⟩,
  ⟨some 9, none, .len false (.t 8)⟩,
  ⟨some 10, none, .bin .gtr .val (.t 9) (.c (.int .i64 (1048576)))⟩]) [0, 10]
 (.cond (.t 10) (.seq (.reg false [⟨some 2, none, .mv (.c (.bool true))⟩]) [2]
 (.ret)) (.skip))) [0]
 (.seq (.reg false [⟨some 12, none, .mv (.t 0)⟩,
  ⟨some 13, none, .pcall (.f 24) [.t 12]⟩,
  ⟨some 11, none, .mv (.t 13)⟩,
  ⟨some 14, none, .extract (.t 11) 0⟩,
  ⟨some 15, none, .extract (.t 11) 1⟩,
  ⟨some 3, none, .mv (.t 14)⟩,
  ⟨some 4, none, .mv (.t 15)⟩]) [3, 4]
 (.seq (.reg false [⟨some 16, none, .mv (.t 3)⟩,
  ⟨some 17, none, .mv (.t 4)⟩,
  ⟨some 18, none, .pcall (.f 14) [.t 16, .t 17]⟩,
  ⟨some 5, none, .mv (.t 18)⟩]) [3, 4, 5]
 (.seq (.seq (.reg false [⟨some 19, none, .mv (.t 5)⟩,
  ⟨some 20, none, .mv (.t 3)⟩,
  ⟨some 21, none, .mv (.t 4)⟩,
  ⟨some 22, none, .pcall (.f 13) [.t 20, .t 21]⟩,
  ⟨some 23, none, .bin .neq .val (.t 19) (.t 22)⟩,
  ⟨some 24, none, .mv (.t 23)⟩,
  ⟨some 25, some (24, false), .mv (.t 4)⟩,
  ⟨some 26, some (24, false), .bin .lss .val (.t 25) (.c (.int .i64 (0)))⟩,
  ⟨some 27, none, .pick (.t 24) (.c (.bool true)) (.t 26)⟩,
  ⟨some 28, none, .mv (.t 27)⟩,
  ⟨some 29, some (28, false), .mv (.t 4)⟩,
  ⟨some 30, some (28, false), .bin .gtr .val (.t 29) (.c (.int .i64 (1)))⟩,
  ⟨some 31, none, .pick (.t 28) (.c (.bool true)) (.t 30)⟩,
  ⟨some 32, none, .mv (.t 31)⟩,
  ⟨some 33, some (32, false), .mv (.t 3)⟩,
  ⟨some 34, some (32, false), .len true (.t 33)⟩,
  ⟨some 35, some (32, false), .bin .eql .val (.t 34) (.c (.int .i64 (0)))⟩,
  ⟨some 36, none, .pick (.t 32) (.c (.bool true)) (.t 35)⟩]) [3, 4, 5, 36]
 (.cond (.t 36) (.seq (.reg false [⟨some 37, none, .mv (.t 5)⟩,
  ⟨some 38, none, .mv (.t 3)⟩,
  ⟨some 39, none, .mv (.t 4)⟩,
  ⟨some 40, none, .pcall (.f 13) [.t 38, .t 39]⟩,
  ⟨some 41, none, .bin .eql .val (.t 37) (.t 40)⟩,
  ⟨some 2, none, .mv (.t 41)⟩]) [2]
 (.ret)) (.skip))) [3, 4, 5]
 (.seq (.seq (.reg false [⟨some 6, none, .mv (.c (.int .i64 (0)))⟩]) [3, 4, 5, 6]
 (.block 0 (.loop [3, 4, 5, 6] f8l0))) [3, 5]
 (.seq (.reg false [⟨some 76, none, .mv (.t 5)⟩,
  ⟨some 77, none, .bin .geq .val (.t 76) (.c (.int .i64 (0)))⟩,
  ⟨some 78, none, .mv (.t 77)⟩,
  ⟨some 79, some (78, false), .mv (.t 3)⟩,
  ⟨some 80, some (78, false), .pcall (.f 21) [.t 79, .c (.int .i64 (0)), .c (.int .i64 (-1))]⟩,
  ⟨some 81, some (78, false), .bin .eql .val (.t 80) (.c (.int .i64 (0)))⟩,
  ⟨some 82, none, .pick (.t 78) (.c (.bool true)) (.t 81)⟩,
  ⟨some 2, none, .mv (.t 82)⟩]) [2]
 (.ret)))))))) }
/- laws.FnOrderPart -/
def f9 : AFunc := { np := 2, nt := 75, res := [.tmp 4], own := false, body := (.seq (.reg false [⟨some 4, none, .mv (.c (.bool false))⟩]) [0, 1]
 (.seq (.seq (.reg false [⟨some 13, none, .mv (.t 0)⟩,
  ⟨some 14, none, .len false (.t 13)⟩,
  ⟨some 15, none, .bin .gtr .val (.t 14) (.c (.int .i64 (1048576)))⟩,
  ⟨some 16, none, .mv (.t 15)⟩,
  ⟨some 17, some (16, false), .mv (.t 1)⟩,
  ⟨some 18, some (16, false), .len false (.t 17)⟩,
  ⟨some 19, some (16, false), .bin .gtr .val (.t 18) (.c (.int .i64 (1048576)))⟩,
  ⟨some 20, none, .pick (.t 16) (.c (.bool true)) (.t 19)⟩]) [0, 1, 20]
 (.cond (.t 20) (.seq (.reg false [⟨some 4, none, .mv (.c (.bool true))⟩]) [4]
 (.ret)) (.skip))) [0, 1]
 (.seq (.reg false [⟨some 21, none, .mv (.t 0)⟩,
  ⟨some 22, none, .call (.f 25) [(false, .t 21)] false⟩,
  ⟨some 5, none, .mv (.t 22)⟩]) [1, 5]
 (.seq (.reg false [⟨some 24, none, .mv (.t 5)⟩,
  ⟨some 25, none, .pcall (.f 26) [.t 24]⟩,
  ⟨some 23, none, .mv (.t 25)⟩,
  ⟨some 26, none, .extract (.t 23) 0⟩,
  ⟨some 27, none, .extract (.t 23) 1⟩,
  ⟨some 6, none, .mv (.t 26)⟩,
  ⟨some 7, none, .mv (.t 27)⟩]) [1, 5, 7]
 (.seq (.reg false [⟨some 29, none, .mv (.t 5)⟩,
  ⟨some 30, none, .pcall (.f 27) [.t 29]⟩,
  ⟨some 28, none, .mv (.t 30)⟩,
  ⟨some 31, none, .extract (.t 28) 0⟩,
  ⟨some 32, none, .extract (.t 28) 1⟩,
  ⟨some 8, none, .mv (.t 31)⟩,
  ⟨some 9, none, .mv (.t 32)⟩]) [1, 5, 7, 9]
 (.seq (.seq (.reg false [⟨some 33, none, .mv (.t 7)⟩,
  ⟨some 34, none, .mv (.t 9)⟩,
  ⟨some 35, none, .bin .neq .val (.t 33) (.t 34)⟩]) [1, 5, 7, 35]
 (.cond (.t 35) (.seq (.reg false [⟨some 4, none, .mv (.c (.bool false))⟩]) [4]
 (.ret)) (.skip))) [1, 5, 7]
 (.seq (.reg false [⟨some 36, none, .mv (.t 1)⟩,
  ⟨some 37, none, .len false (.t 36)⟩,
  ⟨some 38, none, .mv (.t 5)⟩,
  ⟨some 39, none, .len true (.t 38)⟩,
  ⟨some 40, none, .bin .add .val (.t 39) (.c (.int .i64 (1)))⟩,
  ⟨some 41, none, .bin .rem .val (.t 37) (.t 40)⟩,
  ⟨some 10, none, .mv (.t 41)⟩]) [5, 7, 10]
 (.seq (.reg false [⟨some 43, none, .mv (.t 5)⟩,
  ⟨some 44, none, .mv (.t 10)⟩,
  ⟨some 45, none, .slice none (.t 43) none (some (.t 44))⟩,
  ⟨some 46, none, .pcall (.f 26) [.t 45]⟩,
  ⟨some 42, none, .mv (.t 46)⟩,
  ⟨some 47, none, .extract (.t 42) 0⟩,
  ⟨some 48, none, .extract (.t 42) 1⟩,
  ⟨some 11, none, .mv (.t 47)⟩,
  ⟨some 12, none, .mv (.t 48)⟩]) [7, 10, 12]
 (.seq (.seq (.reg false [⟨some 49, none, .mv (.t 7)⟩,
  ⟨some 50, none, .bin .gtr .val (.t 49) (.c (.int .i64 (0)))⟩]) [7, 10, 12, 50]
 (.cond (.t 50) (.seq (.reg false [⟨some 51, none, .mv (.t 10)⟩,
  ⟨some 52, none, .mv (.t 7)⟩,
  ⟨some 53, none, .bin .lss .val (.t 51) (.t 52)⟩,
  ⟨some 54, none, .mv (.t 53)⟩,
  ⟨some 55, some (54, true), .mv (.t 12)⟩,
  ⟨some 56, some (54, true), .bin .eql .val (.t 55) (.c (.int .i64 (0)))⟩,
  ⟨some 57, none, .pick (.t 54) (.t 56) (.c (.bool false))⟩,
  ⟨some 58, none, .mv (.t 57)⟩,
  ⟨some 59, some (58, false), .mv (.t 10)⟩,
  ⟨some 60, some (58, false), .mv (.t 7)⟩,
  ⟨some 61, some (58, false), .bin .geq .val (.t 59) (.t 60)⟩,
  ⟨some 62, some (58, false), .mv (.t 61)⟩,
  ⟨some 63, some (62, true), .mv (.t 12)⟩,
  ⟨some 64, some (62, true), .mv (.t 7)⟩,
  ⟨some 65, some (62, true), .bin .eql .val (.t 63) (.t 64)⟩,
  ⟨some 66, some (58, false), .pick (.t 62) (.t 65) (.c (.bool false))⟩,
  ⟨some 67, none, .pick (.t 58) (.c (.bool true)) (.t 66)⟩,
  ⟨some 4, none, .mv (.t 67)⟩]) [4]
 (.ret)) (.skip))) [7, 12]
 (.seq (.reg false [⟨some 68, none, .mv (.t 12)⟩,
  ⟨some 69, none, .bin .eql .val (.t 68) (.c (.int .i64 (0)))⟩,
  ⟨some 70, none, .mv (.t 69)⟩,
  ⟨some 71, some (70, false), .mv (.t 12)⟩,
  ⟨some 72, some (70, false), .mv (.t 7)⟩,
  ⟨some 73, some (70, false), .bin .eql .val (.t 71) (.t 72)⟩,
  ⟨some 74, none, .pick (.t 70) (.c (.bool true)) (.t 73)⟩,
  ⟨some 4, none, .mv (.t 74)⟩]) [4]
 (.ret))))))))))) }
/- laws.FnExactServerNew -/
def f10 : AFunc := { np := 1, nt := 41, res := [.tmp 2], own := false, body := (.seq (.reg false [⟨some 2, none, .mv (.c (.bool false))⟩]) [0]
 (.seq (.reg false [⟨some 8, none, .mv (.t 0)⟩,
  ⟨some 9, none, .call (.f 28) [(false, .t 8)] false⟩,
  ⟨some 3, none, .alloc (.agg [.d (.int .i64 (0)), .nils 7, .d (.str []), .nils 6])⟩,
  ⟨none, none, .store 4 (.t 3) (.t 9)⟩]) [0, 3]
 (.seq (.reg false [⟨some 10, none, .mv (.t 0)⟩,
  ⟨some 11, none, .call (.f 29) [(false, .t 10)] false⟩,
  ⟨some 4, none, .alloc (.agg [.d (.int .i64 (0)), .nils 7, .d (.str []), .nils 6])⟩,
  ⟨none, none, .store 4 (.t 4) (.t 11)⟩]) [0, 3, 4]
 (.seq (.seq (.reg false [⟨some 12, none, .load true 4 (.t 4)⟩,
  ⟨some 13, none, .load true 4 (.t 3)⟩,
  ⟨some 14, none, .pcall (.f 30) [.t 12, .t 13]⟩,
  ⟨some 15, none, .un .not (.t 14)⟩]) [0, 3, 4, 15]
 (.cond (.t 15) (.seq (.reg false [⟨some 2, none, .mv (.c (.bool false))⟩]) [2]
 (.ret)) (.skip))) [0, 3, 4]
 (.seq (.reg false [⟨some 5, none, .mv (.c (.int .i64 (1)))⟩]) [0, 3, 4, 5]
 (.seq (.reg false [⟨some 16, none, .load true 4 (.t 4)⟩,
  ⟨some 17, none, .mv (.t 5)⟩,
  ⟨some 18, none, .call (.f 31) [(false, .t 16), (false, .t 17)] false⟩,
  ⟨some 5, none, .mv (.t 18)⟩]) [0, 3, 4, 5]
 (.seq (.reg false [⟨some 6, none, .mv (.c (.int .i64 (1)))⟩]) [0, 3, 4, 5, 6]
 (.seq (.reg false [⟨some 19, none, .load true 4 (.t 4)⟩,
  ⟨some 20, none, .mv (.t 6)⟩,
  ⟨some 21, none, .pcall (.f 32) [.t 19, .t 20]⟩,
  ⟨some 6, none, .mv (.t 21)⟩]) [0, 3, 4, 5, 6]
 (.seq (.seq (.reg false [⟨some 22, none, .mv (.t 6)⟩,
  ⟨some 23, none, .bin .lss .val (.t 22) (.c (.int .i64 (0)))⟩]) [0, 3, 4, 5, 6, 23]
 (.cond (.t 23) (.seq (.reg false [⟨some 2, none, .mv (.c (.bool false))⟩]) [2]
 (.ret)) (.skip))) [0, 3, 4, 5, 6]
 (.seq (.seq (.reg false [⟨some 24, none, .mv (.t 6)⟩,
  ⟨some 25, none, .mv (.t 5)⟩,
  ⟨some 26, none, .bin .neq .val (.t 24) (.t 25)⟩]) [0, 3, 4, 5, 26]
 (.cond (.t 26) (.seq (.reg false [⟨some 2, none, .mv (.c (.bool false))⟩]) [2]
 (.ret)) (.skip))) [0, 3, 4, 5]
 (.seq (.reg false [⟨some 27, none, .mv (.t 0)⟩,
  ⟨some 28, none, .call (.f 29) [(false, .t 27)] false⟩,
  ⟨some 7, none, .alloc (.agg [.d (.int .i64 (0)), .nils 7, .d (.str []), .nils 6])⟩,
  ⟨none, none, .store 4 (.t 7) (.t 28)⟩]) [3, 4, 5, 7]
 (.seq (.seq (.reg false [⟨some 29, none, .load true 4 (.t 7)⟩,
  ⟨some 30, none, .load true 4 (.t 3)⟩,
  ⟨some 31, none, .pcall (.f 30) [.t 29, .t 30]⟩,
  ⟨some 32, none, .un .not (.t 31)⟩]) [4, 5, 32]
 (.cond (.t 32) (.seq (.reg false [⟨some 2, none, .mv (.c (.bool false))⟩]) [2]
 (.ret)) (.skip))) [4, 5]
 (.seq (.reg false [⟨some 6, none, .mv (.c (.int .i64 (1)))⟩]) [4, 5, 6]
 (.seq (.reg false [⟨some 33, none, .load true 4 (.t 4)⟩,
  ⟨some 34, none, .mv (.t 6)⟩,
  ⟨some 35, none, .pcall (.f 32) [.t 33, .t 34]⟩,
  ⟨some 6, none, .mv (.t 35)⟩]) [5, 6]
 (.seq (.seq (.reg false [⟨some 36, none, .mv (.t 6)⟩,
  ⟨some 37, none, .bin .lss .val (.t 36) (.c (.int .i64 (0)))⟩]) [5, 6, 37]
 (.cond (.t 37) (.seq (.reg false [⟨some 2, none, .mv (.c (.bool false))⟩]) [2]
 (.ret)) (.skip))) [5, 6]
 (.seq (.seq (.reg false [⟨some 38, none, .mv (.t 6)⟩,
  ⟨some 39, none, .mv (.t 5)⟩,
  ⟨some 40, none, .bin .neq .val (.t 38) (.t 39)⟩]) [40]
 (.cond (.t 40) (.seq (.reg false [⟨some 2, none, .mv (.c (.bool false))⟩]) [2]
 (.ret)) (.skip))) []
 (.seq (.reg false [⟨some 2, none, .mv (.c (.bool true))⟩]) [2]
 (.ret)))))))))))))))))) }
/- spec.TextBitGet -/
def f11 : AFunc := { np := 2, nt := 12, res := [.tmp 4], own := false, body := (.seq (.reg false [⟨some 4, none, .mv (.c (.int .i64 (0)))⟩]) [0, 1]
 (.seq (.seq (.reg false [⟨some 5, none, .mv (.t 0)⟩,
  ⟨some 6, none, .mv (.t 1)⟩,
  ⟨some 7, none, .pcall (.f 33) [.t 5, .t 6]⟩,
  ⟨some 8, none, .un .not (.t 7)⟩]) [0, 1, 8]
 (.cond (.t 8) (.seq (.reg false [⟨some 4, none, .mv (.c (.int .i64 (0)))⟩]) [4]
 (.ret)) (.skip))) [0, 1]
 (.seq (.reg false [⟨some 9, none, .mv (.t 0)⟩,
  ⟨some 10, none, .mv (.t 1)⟩,
  ⟨some 11, none, .pcall (.f 34) [.t 9, .t 10]⟩,
  ⟨some 4, none, .mv (.t 11)⟩]) [4]
 (.ret)))) }
/- impl.TextBitGet -/
def f12 : AFunc := { np := 2, nt := 16, res := [.tmp 4], own := false, body := (.seq (.reg false [⟨some 4, none, .mv (.c (.int .i64 (0)))⟩]) [0, 1]
 (.seq (.seq (.reg false [⟨some 5, none, .mv (.t 0)⟩,
  ⟨some 6, none, .len true (.t 5)⟩,
  ⟨some 7, none, .bin .gtr .val (.t 6) (.c (.int .i64 (40)))⟩,
  ⟨some 8, none, .mv (.t 7)⟩,
  ⟨some 9, some (8, false), .mv (.t 1)⟩,
  ⟨some 10, some (8, false), .pcall (.f 35) [.t 9, .c (.int .i64 (0)), .c (.int .i64 (319))]⟩,
  ⟨some 11, some (8, false), .un .not (.t 10)⟩,
  ⟨some 12, none, .pick (.t 8) (.c (.bool true)) (.t 11)⟩]) [0, 1, 12]
 (.cond (.t 12) (.seq (.reg false [⟨some 4, none, .mv (.c (.int .i64 (0)))⟩]) [4]
 (.ret)) (.skip))) [0, 1]
 (.seq (.reg false [⟨some 13, none, .mv (.t 0)⟩,
  ⟨some 14, none, .mv (.t 1)⟩,
  ⟨some 15, none, .pcall (.f 36) [.t 13, .t 14]⟩,
  ⟨some 4, none, .mv (.t 15)⟩]) [4]
 (.ret)))) }
/- spec.TextBitFind -/
def f13l0 : ACode := (.seq (.seq (.reg false [⟨some 19, none, .mv (.t 5)⟩,
  ⟨some 20, none, .mv (.t 0)⟩,
  ⟨some 21, none, .len true (.t 20)⟩,
  ⟨some 22, none, .bin .mul .val (.c (.int .i64 (8))) (.t 21)⟩,
  ⟨some 23, none, .bin .lss .val (.t 19) (.t 22)⟩]) [0, 1, 5, 23]
 (.cond (.t 23) (.skip) (.exit 0))) [0, 1, 5]
 (.seq (.block 1 (.seq (.reg false [⟨some 26, none, .mv (.t 0)⟩,
  ⟨some 27, none, .mv (.t 5)⟩,
  ⟨some 28, none, .pcall (.f 34) [.t 26, .t 27]⟩,
  ⟨some 29, none, .mv (.t 1)⟩,
  ⟨some 30, none, .bin .eql .val (.t 28) (.t 29)⟩]) [0, 1, 5, 30]
 (.cond (.t 30) (.seq (.reg false [⟨some 31, none, .mv (.t 5)⟩,
  ⟨some 4, none, .mv (.t 31)⟩]) [4]
 (.ret)) (.skip)))) [0, 1, 5]
 (.reg false [⟨some 24, none, .mv (.t 5)⟩,
  ⟨some 25, none, .bin .add .val (.t 24) (.c (.int .i64 (1)))⟩,
  ⟨some 5, none, .mv (.t 25)⟩])))
def f13 : AFunc := { np := 2, nt := 37, res := [.tmp 4], own := false, body := (.seq (.reg false [⟨some 4, none, .mv (.c (.int .i64 (0)))⟩]) [0, 1]
 (.seq (.seq (.reg false [⟨some 6, none, .mv (.t 0)⟩,
  ⟨some 7, none, .len true (.t 6)⟩,
  ⟨some 8, none, .bin .gtr .val (.t 7) (.c (.int .i64 (40)))⟩,
  ⟨some 9, none, .mv (.t 8)⟩,
  ⟨some 10, some (9, false), .mv (.t 0)⟩,
  ⟨some 11, some (9, false), .len true (.t 10)⟩,
  ⟨some 12, some (9, false), .bin .eql .val (.t 11) (.c (.int .i64 (0)))⟩,
  ⟨some 13, none, .pick (.t 9) (.c (.bool true)) (.t 12)⟩,
  ⟨some 14, none, .mv (.t 13)⟩,
  ⟨some 15, some (14, false), .mv (.t 1)⟩,
  ⟨some 16, some (14, false), .pcall (.f 37) [.t 15, .c (.int .i64 (0)), .c (.int .i64 (1))]⟩,
  ⟨some 17, some (14, false), .un .not (.t 16)⟩,
  ⟨some 18, none, .pick (.t 14) (.c (.bool true)) (.t 17)⟩]) [0, 1, 18]
 (.cond (.t 18) (.seq (.reg false [⟨some 4, none, .mv (.c (.int .i64 (-1)))⟩]) [4]
 (.ret)) (.skip))) [0, 1]
 (.seq (.seq (.reg false [⟨some 5, none, .mv (.c (.int .i64 (0)))⟩]) [0, 1, 5]
 (.block 0 (.loop [0, 1, 5] f13l0))) [0, 1]
 (.seq (.seq (.reg false [⟨some 32, none, .mv (.t 1)⟩,
  ⟨some 33, none, .bin .eql .val (.t 32) (.c (.int .i64 (0)))⟩]) [0, 33]
 (.cond (.t 33) (.seq (.reg false [⟨some 34, none, .mv (.t 0)⟩,
  ⟨some 35, none, .len true (.t 34)⟩,
  ⟨some 36, none, .bin .mul .val (.c (.int .i64 (8))) (.t 35)⟩,
  ⟨some 4, none, .mv (.t 36)⟩]) [4]
 (.ret)) (.skip))) []
 (.seq (.reg false [⟨some 4, none, .mv (.c (.int .i64 (-1)))⟩]) [4]
 (.ret)))))) }
/- impl.TextBitFind -/
def f14l0 : ACode := (.seq (.reg false [⟨some 19, none, .bin .lss .val (.t 18) (.t 17)⟩]) [0, 1, 17, 18, 19]
 (.seq (.cond (.t 19) (.skip) (.exit 0)) [0, 1, 17, 18]
 (.seq (.block 1 (.seq (.reg false [⟨some 20, none, .mv (.t 18)⟩,
  ⟨some 5, none, .mv (.t 20)⟩]) [0, 1, 5, 17, 18]
 (.seq (.reg false [⟨some 21, none, .mv (.t 0)⟩,
  ⟨some 22, none, .mv (.t 5)⟩,
  ⟨some 23, none, .pcall (.f 36) [.t 21, .t 22]⟩,
  ⟨some 24, none, .mv (.t 1)⟩,
  ⟨some 25, none, .bin .eql .val (.t 23) (.t 24)⟩]) [0, 1, 5, 17, 18, 25]
 (.cond (.t 25) (.seq (.reg false [⟨some 26, none, .mv (.t 5)⟩,
  ⟨some 4, none, .mv (.t 26)⟩]) [4]
 (.ret)) (.skip))))) [0, 1, 17, 18]
 (.reg false [⟨some 27, none, .bin .add .val (.t 18) (.c (.int .i64 (1)))⟩,
  ⟨some 18, none, .mv (.t 27)⟩]))))
def f14 : AFunc := { np := 2, nt := 33, res := [.tmp 4], own := false, body := (.seq (.reg false [⟨some 4, none, .mv (.c (.int .i64 (0)))⟩]) [0, 1]
 (.seq (.seq (.reg false [⟨some 6, none, .mv (.t 0)⟩,
  ⟨some 7, none, .len true (.t 6)⟩,
  ⟨some 8, none, .pcall (.f 35) [.t 7, .c (.int .i64 (1)), .c (.int .i64 (40))]⟩,
  ⟨some 9, none, .un .not (.t 8)⟩,
  ⟨some 10, none, .mv (.t 9)⟩,
  ⟨some 11, some (10, false), .mv (.t 1)⟩,
  ⟨some 12, some (10, false), .pcall (.f 35) [.t 11, .c (.int .i64 (0)), .c (.int .i64 (1))]⟩,
  ⟨some 13, some (10, false), .un .not (.t 12)⟩,
  ⟨some 14, none, .pick (.t 10) (.c (.bool true)) (.t 13)⟩]) [0, 1, 14]
 (.cond (.t 14) (.seq (.reg false [⟨some 4, none, .mv (.c (.int .i64 (-1)))⟩]) [4]
 (.ret)) (.skip))) [0, 1]
 (.seq (.seq (.reg false [⟨some 15, none, .mv (.t 0)⟩,
  ⟨some 16, none, .len true (.t 15)⟩,
  ⟨some 17, none, .bin .mul .val (.c (.int .i64 (8))) (.t 16)⟩,
  ⟨some 18, none, .mv (.c (.int .i64 (0)))⟩]) [0, 1, 17, 18]
 (.block 0 (.loop [0, 1, 17, 18] f14l0))) [0, 1]
 (.seq (.seq (.reg false [⟨some 28, none, .mv (.t 1)⟩,
  ⟨some 29, none, .bin .eql .val (.t 28) (.c (.int .i64 (0)))⟩]) [0, 29]
 (.cond (.t 29) (.seq (.reg false [⟨some 30, none, .mv (.t 0)⟩,
  ⟨some 31, none, .len true (.t 30)⟩,
  ⟨some 32, none, .bin .mul .val (.c (.int .i64 (8))) (.t 31)⟩,
  ⟨some 4, none, .mv (.t 32)⟩]) [4]
 (.ret)) (.skip))) []
 (.seq (.reg false [⟨some 4, none, .mv (.c (.int .i64 (-1)))⟩]) [4]
 (.ret)))))) }
/- laws.szStringS -/
def f15l0 : ACode := (.seq (.seq (.reg false [⟨some 12, none, .mv (.t 5)⟩,
  ⟨some 13, none, .mv (.t 0)⟩,
  ⟨some 14, none, .len false (.t 13)⟩,
  ⟨some 15, none, .bin .lss .val (.t 12) (.t 14)⟩]) [0, 1, 5, 15]
 (.cond (.t 15) (.skip) (.exit 0))) [0, 1, 5]
 (.seq (.block 1 (.seq (.reg false [⟨some 18, none, .mv (.t 1)⟩,
  ⟨some 19, none, .mv (.t 0)⟩,
  ⟨some 20, none, .mv (.t 5)⟩,
  ⟨some 21, none, .iaddr 1 (.t 19) (.t 20)⟩,
  ⟨some 22, none, .load false 1 (.t 21)⟩,
  ⟨some 23, none, .len true (.t 22)⟩,
  ⟨some 24, none, .bin .sub .val (.t 18) (.t 23)⟩,
  ⟨some 1, none, .mv (.t 24)⟩]) [0, 1, 5]
 (.seq (.reg false [⟨some 25, none, .mv (.t 1)⟩,
  ⟨some 26, none, .bin .lss .val (.t 25) (.c (.int .i64 (0)))⟩]) [0, 1, 5, 26]
 (.cond (.t 26) (.seq (.reg false [⟨some 4, none, .mv (.c (.int .i64 (-1)))⟩]) [4]
 (.ret)) (.skip))))) [0, 1, 5]
 (.reg false [⟨some 16, none, .mv (.t 5)⟩,
  ⟨some 17, none, .bin .add .val (.t 16) (.c (.int .i64 (1)))⟩,
  ⟨some 5, none, .mv (.t 17)⟩])))
def f15 : AFunc := { np := 2, nt := 28, res := [.tmp 4], own := false, body := (.seq (.reg false [⟨some 4, none, .mv (.c (.int .i64 (0)))⟩]) [0, 1]
 (.seq (.reg false [⟨some 6, none, .mv (.t 1)⟩,
  ⟨some 7, none, .mv (.t 0)⟩,
  ⟨some 8, none, .len false (.t 7)⟩,
  ⟨some 9, none, .bin .sub .val (.t 6) (.t 8)⟩,
  ⟨some 1, none, .mv (.t 9)⟩]) [0, 1]
 (.seq (.seq (.reg false [⟨some 10, none, .mv (.t 1)⟩,
  ⟨some 11, none, .bin .lss .val (.t 10) (.c (.int .i64 (0)))⟩]) [0, 1, 11]
 (.cond (.t 11) (.seq (.reg false [⟨some 4, none, .mv (.c (.int .i64 (-1)))⟩]) [4]
 (.ret)) (.skip))) [0, 1]
 (.seq (.seq (.reg false [⟨some 5, none, .mv (.c (.int .i64 (0)))⟩]) [0, 1, 5]
 (.block 0 (.loop [0, 1, 5] f15l0))) [1]
 (.seq (.reg false [⟨some 27, none, .mv (.t 1)⟩,
  ⟨some 4, none, .mv (.t 27)⟩]) [4]
 (.ret)))))) }
/- spec.ListAt -/
def f16l0 : ACode := (.seq (.seq (.reg false [⟨some 6, none, .mv (.t 5)⟩,
  ⟨some 7, none, .mv (.t 0)⟩,
  ⟨some 8, none, .len false (.t 7)⟩,
  ⟨some 9, none, .bin .lss .val (.t 6) (.t 8)⟩,
  ⟨some 10, none, .mv (.t 9)⟩,
  ⟨some 11, some (10, true), .mv (.t 0)⟩,
  ⟨some 12, some (10, true), .pcall (.f 38) [.t 11]⟩,
  ⟨some 13, none, .pick (.t 10) (.t 12) (.c (.bool false))⟩]) [0, 1, 5, 13]
 (.cond (.t 13) (.skip) (.exit 0))) [0, 1, 5]
 (.seq (.block 1 (.seq (.reg false [⟨some 16, none, .mv (.t 0)⟩,
  ⟨some 17, none, .mv (.t 5)⟩,
  ⟨some 18, none, .iaddr 1 (.t 16) (.t 17)⟩,
  ⟨some 19, none, .load false 1 (.t 18)⟩,
  ⟨some 20, none, .mv (.t 1)⟩,
  ⟨some 21, none, .bin .eql .val (.t 19) (.t 20)⟩]) [0, 1, 5, 21]
 (.cond (.t 21) (.seq (.reg false [⟨some 22, none, .mv (.t 5)⟩,
  ⟨some 4, none, .mv (.t 22)⟩]) [4]
 (.ret)) (.skip)))) [0, 1, 5]
 (.reg false [⟨some 14, none, .mv (.t 5)⟩,
  ⟨some 15, none, .bin .add .val (.t 14) (.c (.int .i64 (1)))⟩,
  ⟨some 5, none, .mv (.t 15)⟩])))
def f16 : AFunc := { np := 2, nt := 23, res := [.tmp 4], own := false, body := (.seq (.reg false [⟨some 4, none, .mv (.c (.int .i64 (0)))⟩]) [0, 1]
 (.seq (.seq (.reg false [⟨some 5, none, .mv (.c (.int .i64 (0)))⟩]) [0, 1, 5]
 (.block 0 (.loop [0, 1, 5] f16l0))) []
 (.seq (.reg false [⟨some 4, none, .mv (.c (.int .i64 (-1)))⟩]) [4]
 (.ret)))) }
/- laws.toStringS -/
def f17l0 : ACode := (.seq (.seq (.reg false [⟨some 8, none, .mv (.t 4)⟩,
  ⟨some 9, none, .mv (.t 0)⟩,
  ⟨some 10, none, .len false (.t 9)⟩,
  ⟨some 11, none, .bin .lss .val (.t 8) (.t 10)⟩]) [0, 3, 4, 11]
 (.cond (.t 11) (.skip) (.exit 0))) [0, 3, 4]
 (.seq (.block 1 (.reg false [⟨some 14, none, .mv (.t 3)⟩,
  ⟨some 15, none, .mv (.t 4)⟩,
  ⟨some 16, none, .mv (.t 0)⟩,
  ⟨some 17, none, .mv (.t 4)⟩,
  ⟨some 18, none, .iaddr 1 (.t 16) (.t 17)⟩,
  ⟨some 19, none, .load false 1 (.t 18)⟩,
  ⟨some 20, none, .iaddr 1 (.t 14) (.t 15)⟩,
  ⟨none, none, .store 1 (.t 20) (.t 19)⟩])) [0, 3, 4]
 (.reg false [⟨some 12, none, .mv (.t 4)⟩,
  ⟨some 13, none, .bin .add .val (.t 12) (.c (.int .i64 (1)))⟩,
  ⟨some 4, none, .mv (.t 13)⟩])))
def f17 : AFunc := { np := 1, nt := 22, res := [.tmp 2], own := false, body := (.seq (.reg false [⟨some 2, none, .mv (.nil 1)⟩]) [0]
 (.seq (.reg false [⟨some 5, none, .mv (.t 0)⟩,
  ⟨some 6, none, .len false (.t 5)⟩,
  ⟨some 7, none, .mkslice 1 16 (.d (.str [])) (.t 6) (.t 6)⟩,
  ⟨some 3, none, .mv (.t 7)⟩]) [0, 3]
 (.seq (.seq (.reg false [⟨some 4, none, .mv (.c (.int .i64 (0)))⟩]) [0, 3, 4]
 (.block 0 (.loop [0, 3, 4] f17l0))) [3]
 (.seq (.reg false [⟨some 21, none, .mv (.t 3)⟩,
  ⟨some 2, none, .mv (.t 21)⟩]) [2]
 (.ret))))) }
/- impl.ListAt -/
def f18 : AFunc := { np := 2, nt := 11, res := [.tmp 4], own := false, body := (.seq (.reg false [⟨some 4, none, .mv (.c (.int .i64 (0)))⟩]) [0, 1]
 (.seq (.seq (.reg false [⟨some 5, none, .mv (.t 0)⟩,
  ⟨some 6, none, .pcall (.f 39) [.t 5]⟩,
  ⟨some 7, none, .un .not (.t 6)⟩]) [0, 1, 7]
 (.cond (.t 7) (.seq (.reg false [⟨some 4, none, .mv (.c (.int .i64 (-1)))⟩]) [4]
 (.ret)) (.skip))) [0, 1]
 (.seq (.reg false [⟨some 8, none, .mv (.t 0)⟩,
  ⟨some 9, none, .mv (.t 1)⟩,
  ⟨some 10, none, .pcall (.f 40) [.t 8, .t 9]⟩,
  ⟨some 4, none, .mv (.t 10)⟩]) [4]
 (.ret)))) }
/- laws.eqStringS -/
def f19l0 : ACode := (.seq (.seq (.reg false [⟨some 11, none, .mv (.t 5)⟩,
  ⟨some 12, none, .mv (.t 0)⟩,
  ⟨some 13, none, .len false (.t 12)⟩,
  ⟨some 14, none, .bin .lss .val (.t 11) (.t 13)⟩]) [0, 1, 5, 14]
 (.cond (.t 14) (.skip) (.exit 0))) [0, 1, 5]
 (.seq (.block 1 (.seq (.reg true [⟨some 17, none, .mv (.t 0)⟩,
  ⟨some 18, none, .mv (.t 5)⟩,
  ⟨some 19, none, .iaddr 1 (.t 17) (.t 18)⟩,
  ⟨some 20, none, .load false 1 (.t 19)⟩,
  ⟨some 21, none, .mv (.t 1)⟩,
  ⟨some 22, none, .mv (.t 5)⟩,
  ⟨some 23, none, .iaddr 1 (.t 21) (.t 22)⟩,
  ⟨some 24, none, .load false 1 (.t 23)⟩,
  ⟨some 25, none, .bin .neq .val (.t 20) (.t 24)⟩]) [0, 1, 5, 25]
 (.cond (.t 25) (.seq (.reg false [⟨some 4, none, .mv (.c (.bool false))⟩]) [4]
 (.ret)) (.skip)))) [0, 1, 5]
 (.reg false [⟨some 15, none, .mv (.t 5)⟩,
  ⟨some 16, none, .bin .add .val (.t 15) (.c (.int .i64 (1)))⟩,
  ⟨some 5, none, .mv (.t 16)⟩])))
def f19 : AFunc := { np := 2, nt := 26, res := [.tmp 4], own := false, body := (.seq (.reg false [⟨some 4, none, .mv (.c (.bool false))⟩]) [0, 1]
 (.seq (.seq (.reg false [⟨some 6, none, .mv (.t 0)⟩,
  ⟨some 7, none, .len false (.t 6)⟩,
  ⟨some 8, none, .mv (.t 1)⟩,
  ⟨some 9, none, .len false (.t 8)⟩,
  ⟨some 10, none, .bin .neq .val (.t 7) (.t 9)⟩]) [0, 1, 10]
 (.cond (.t 10) (.seq (.reg false [⟨some 4, none, .mv (.c (.bool false))⟩]) [4]
 (.ret)) (.skip))) [0, 1]
 (.seq (.seq (.reg false [⟨some 5, none, .mv (.c (.int .i64 (0)))⟩]) [0, 1, 5]
 (.block 0 (.loop [0, 1, 5] f19l0))) []
 (.seq (.reg false [⟨some 4, none, .mv (.c (.bool true))⟩]) [4]
 (.ret))))) }
/- spec.TextBitCount -/
def f20l0 : ACode := (.seq (.seq (.reg false [⟨some 34, none, .mv (.t 10)⟩,
  ⟨some 35, none, .mv (.t 8)⟩,
  ⟨some 36, none, .bin .mul .val (.c (.int .i64 (8))) (.t 35)⟩,
  ⟨some 37, none, .bin .lss .val (.t 34) (.t 36)⟩]) [0, 8, 9, 10, 37]
 (.cond (.t 37) (.skip) (.exit 0))) [0, 8, 9, 10]
 (.seq (.block 1 (.reg false [⟨some 40, none, .mv (.t 9)⟩,
  ⟨some 41, none, .mv (.t 0)⟩,
  ⟨some 42, none, .mv (.t 10)⟩,
  ⟨some 43, none, .pcall (.f 34) [.t 41, .t 42]⟩,
  ⟨some 44, none, .bin .add .val (.t 40) (.t 43)⟩,
  ⟨some 9, none, .mv (.t 44)⟩])) [0, 8, 9, 10]
 (.reg false [⟨some 38, none, .mv (.t 10)⟩,
  ⟨some 39, none, .bin .add .val (.t 38) (.c (.int .i64 (1)))⟩,
  ⟨some 10, none, .mv (.t 39)⟩])))
def f20 : AFunc := { np := 3, nt := 46, res := [.tmp 6], own := false, body := (.seq (.reg false [⟨some 6, none, .mv (.c (.int .i64 (0)))⟩]) [0, 1, 2]
 (.seq (.seq (.reg false [⟨some 11, none, .mv (.t 0)⟩,
  ⟨some 12, none, .len true (.t 11)⟩,
  ⟨some 13, none, .bin .gtr .val (.t 12) (.c (.int .i64 (40)))⟩,
  ⟨some 14, none, .mv (.t 13)⟩,
  ⟨some 15, some (14, false), .mv (.t 1)⟩,
  ⟨some 16, some (14, false), .pcall (.f 41) [.t 15]⟩,
  ⟨some 17, some (14, false), .un .not (.t 16)⟩,
  ⟨some 18, none, .pick (.t 14) (.c (.bool true)) (.t 17)⟩,
  ⟨some 19, none, .mv (.t 18)⟩,
  ⟨some 20, some (19, false), .mv (.t 2)⟩,
  ⟨some 21, some (19, false), .pcall (.f 41) [.t 20]⟩,
  ⟨some 22, some (19, false), .un .not (.t 21)⟩,
  ⟨some 23, none, .pick (.t 19) (.c (.bool true)) (.t 22)⟩]) [0, 1, 2, 23]
 (.cond (.t 23) (.seq (.reg false [⟨some 6, none, .mv (.c (.int .i64 (0)))⟩]) [6]
 (.ret)) (.skip))) [0, 1, 2]
 (.seq (.reg false [⟨some 25, none, .mv (.t 0)⟩,
  ⟨some 26, none, .len true (.t 25)⟩,
  ⟨some 27, none, .mv (.t 1)⟩,
  ⟨some 28, none, .mv (.t 2)⟩,
  ⟨some 29, none, .pcall (.f 42) [.t 26, .t 27, .t 28]⟩,
  ⟨some 24, none, .mv (.t 29)⟩,
  ⟨some 30, none, .extract (.t 24) 0⟩,
  ⟨some 31, none, .extract (.t 24) 1⟩,
  ⟨some 7, none, .mv (.t 30)⟩,
  ⟨some 8, none, .mv (.t 31)⟩]) [0, 7, 8]
 (.seq (.reg false [⟨some 9, none, .mv (.c (.int .i64 (0)))⟩]) [0, 7, 8, 9]
 (.seq (.seq (.reg false [⟨some 32, none, .mv (.t 7)⟩,
  ⟨some 33, none, .bin .mul .val (.c (.int .i64 (8))) (.t 32)⟩,
  ⟨some 10, none, .mv (.t 33)⟩]) [0, 8, 9, 10]
 (.block 0 (.loop [0, 8, 9, 10] f20l0))) [9]
 (.seq (.reg false [⟨some 45, none, .mv (.t 9)⟩,
  ⟨some 6, none, .mv (.t 45)⟩]) [6]
 (.ret))))))) }
/- impl.TextBitCount -/
def f21l0 : ACode := (.seq (.seq (.reg false [⟨some 23, none, .mv (.t 10)⟩,
  ⟨some 24, none, .mv (.t 8)⟩,
  ⟨some 25, none, .bin .lss .val (.t 23) (.t 24)⟩]) [0, 8, 9, 10, 25]
 (.cond (.t 25) (.skip) (.exit 0))) [0, 8, 9, 10]
 (.seq (.block 1 (.reg false [⟨some 28, none, .mv (.t 9)⟩,
  ⟨some 29, none, .mv (.t 0)⟩,
  ⟨some 30, none, .mv (.t 10)⟩,
  ⟨some 31, none, .idx (.t 29) (.t 30)⟩,
  ⟨some 32, none, .pcall (.f 44) [.t 31]⟩,
  ⟨some 33, none, .bin .add .val (.t 28) (.t 32)⟩,
  ⟨some 9, none, .mv (.t 33)⟩])) [0, 8, 9, 10]
 (.reg false [⟨some 26, none, .mv (.t 10)⟩,
  ⟨some 27, none, .bin .add .val (.t 26) (.c (.int .i64 (1)))⟩,
  ⟨some 10, none, .mv (.t 27)⟩])))
def f21 : AFunc := { np := 3, nt := 35, res := [.tmp 6], own := false, body := (.seq (.reg false [⟨some 6, none, .mv (.c (.int .i64 (0)))⟩]) [0, 1, 2]
 (.seq (.seq (.reg false [⟨some 11, none, .mv (.t 0)⟩,
  ⟨some 12, none, .len true (.t 11)⟩,
  ⟨some 13, none, .bin .gtr .val (.t 12) (.c (.int .i64 (40)))⟩]) [0, 1, 2, 13]
 (.cond (.t 13) (.seq (.reg false [⟨some 6, none, .mv (.c (.int .i64 (0)))⟩]) [6]
 (.ret)) (.skip))) [0, 1, 2]
 (.seq (.reg false [⟨some 15, none, .mv (.t 0)⟩,
  ⟨some 16, none, .len true (.t 15)⟩,
  ⟨some 17, none, .mv (.t 1)⟩,
  ⟨some 18, none, .mv (.t 2)⟩,
  ⟨some 19, none, .pcall (.f 43) [.t 16, .t 17, .t 18]⟩,
  ⟨some 14, none, .mv (.t 19)⟩,
  ⟨some 20, none, .extract (.t 14) 0⟩,
  ⟨some 21, none, .extract (.t 14) 1⟩,
  ⟨some 7, none, .mv (.t 20)⟩,
  ⟨some 8, none, .mv (.t 21)⟩]) [0, 7, 8]
 (.seq (.reg false [⟨some 9, none, .mv (.c (.int .i64 (0)))⟩]) [0, 7, 8, 9]
 (.seq (.seq (.reg false [⟨some 22, none, .mv (.t 7)⟩,
  ⟨some 10, none, .mv (.t 22)⟩]) [0, 8, 9, 10]
 (.block 0 (.loop [0, 8, 9, 10] f21l0))) [9]
 (.seq (.reg false [⟨some 34, none, .mv (.t 9)⟩,
  ⟨some 6, none, .mv (.t 34)⟩]) [6]
 (.ret))))))) }
/- spec.DrawListAt -/
def f22 : AFunc := { np := 1, nt := 11, res := [.tmp 2, .tmp 3], own := false, body := (.seq (.reg false [⟨some 2, none, .mv (.nil 1)⟩,
  ⟨some 3, none, .mv (.c (.str []))⟩]) [0]
 (.seq (.reg false [⟨some 5, none, .mv (.t 0)⟩,
  ⟨some 6, none, .call (.f 45) [(false, .t 5)] false⟩,
  ⟨some 4, none, .mv (.t 6)⟩]) [4]
 (.seq (.reg false [⟨some 7, none, .mv (.t 4)⟩,
  ⟨some 8, none, .call (.f 46) [(false, .t 7)] false⟩,
  ⟨some 9, none, .mv (.t 4)⟩,
  ⟨some 10, none, .call (.f 47) [(false, .t 9)] false⟩,
  ⟨some 2, none, .mv (.t 8)⟩,
  ⟨some 3, none, .mv (.t 10)⟩]) [2, 3]
 (.ret)))) }
/- laws.qxHas -/
def f23l0 : ACode := (.seq (.seq (.reg false [⟨some 6, none, .mv (.t 5)⟩,
  ⟨some 7, none, .mv (.t 0)⟩,
  ⟨some 8, none, .len false (.t 7)⟩,
  ⟨some 9, none, .bin .lss .val (.t 6) (.t 8)⟩]) [0, 1, 5, 9]
 (.cond (.t 9) (.skip) (.exit 0))) [0, 1, 5]
 (.seq (.block 1 (.seq (.reg false [⟨some 12, none, .mv (.t 0)⟩,
  ⟨some 13, none, .mv (.t 5)⟩,
  ⟨some 14, none, .iaddr 1 (.t 12) (.t 13)⟩,
  ⟨some 15, none, .load false 1 (.t 14)⟩,
  ⟨some 16, none, .mv (.t 1)⟩,
  ⟨some 17, none, .bin .eql .val (.t 15) (.t 16)⟩]) [0, 1, 5, 17]
 (.cond (.t 17) (.seq (.reg false [⟨some 4, none, .mv (.c (.bool true))⟩]) [4]
 (.ret)) (.skip)))) [0, 1, 5]
 (.reg false [⟨some 10, none, .mv (.t 5)⟩,
  ⟨some 11, none, .bin .add .val (.t 10) (.c (.int .i64 (1)))⟩,
  ⟨some 5, none, .mv (.t 11)⟩])))
def f23 : AFunc := { np := 2, nt := 18, res := [.tmp 4], own := false, body := (.seq (.reg false [⟨some 4, none, .mv (.c (.bool false))⟩]) [0, 1]
 (.seq (.seq (.reg false [⟨some 5, none, .mv (.c (.int .i64 (0)))⟩]) [0, 1, 5]
 (.block 0 (.loop [0, 1, 5] f23l0))) []
 (.seq (.reg false [⟨some 4, none, .mv (.c (.bool false))⟩]) [4]
 (.ret)))) }
/- spec.DrawTextBitFind -/
def f24 : AFunc := { np := 1, nt := 14, res := [.tmp 2, .tmp 3], own := false, body := (.seq (.reg false [⟨some 2, none, .mv (.c (.str []))⟩,
  ⟨some 3, none, .mv (.c (.int .i64 (0)))⟩]) [0]
 (.seq (.reg false [⟨some 5, none, .mv (.t 0)⟩,
  ⟨some 6, none, .call (.f 45) [(false, .t 5)] false⟩,
  ⟨some 4, none, .mv (.t 6)⟩]) [4]
 (.seq (.reg false [⟨some 7, none, .mv (.t 4)⟩,
  ⟨some 8, none, .mv (.t 4)⟩,
  ⟨some 9, none, .call (.f 47) [(false, .t 8)] false⟩,
  ⟨some 10, none, .lit false 1 [.c (.str []), .c (.str [255]), .c (.str [0, 1]), .c (.str [255, 254]), .c (.str [0]), .t 9]⟩,
  ⟨some 11, none, .call (.f 48) [(false, .t 7), (false, .t 10)] false⟩,
  ⟨some 12, none, .mv (.t 4)⟩,
  ⟨some 13, none, .call (.f 49) [(false, .t 12), (false, .c (.int .i64 (3)))] false⟩,
  ⟨some 2, none, .mv (.t 11)⟩,
  ⟨some 3, none, .mv (.t 13)⟩]) [2, 3]
 (.ret)))) }
/- spec.DrawOrderGet -/
def f25 : AFunc := { np := 1, nt := 21, res := [.tmp 2], own := false, body := (.seq (.reg false [⟨some 2, none, .mv (.c (.str []))⟩]) [0]
 (.seq (.reg false [⟨some 5, none, .mv (.t 0)⟩,
  ⟨some 6, none, .call (.f 45) [(false, .t 5)] false⟩,
  ⟨some 3, none, .mv (.t 6)⟩]) [3]
 (.seq (.reg false [⟨some 7, none, .mv (.t 3)⟩,
  ⟨some 8, none, .call (.f 51) [(false, .t 7)] false⟩,
  ⟨some 9, none, .pcall (.f 50) [.t 8]⟩,
  ⟨some 4, none, .mv (.t 9)⟩]) [3, 4]
 (.seq (.seq (.reg false [⟨some 10, none, .mv (.t 3)⟩,
  ⟨some 11, none, .call (.f 49) [(false, .t 10), (false, .c (.int .i64 (3)))] false⟩,
  ⟨some 12, none, .bin .eql .val (.t 11) (.c (.int .i64 (0)))⟩]) [3, 4, 12]
 (.cond (.t 12) (.reg false [⟨some 13, none, .mv (.t 4)⟩,
  ⟨some 14, none, .mv (.t 3)⟩,
  ⟨some 15, none, .call (.f 51) [(false, .t 14)] false⟩,
  ⟨some 16, none, .pcall (.f 50) [.t 15]⟩,
  ⟨some 17, none, .bin .add .val (.t 13) (.t 16)⟩,
  ⟨some 4, none, .mv (.t 17)⟩]) (.skip))) [3, 4]
 (.seq (.reg false [⟨some 18, none, .mv (.t 3)⟩,
  ⟨some 19, none, .mv (.t 4)⟩,
  ⟨some 20, none, .call (.f 52) [(false, .t 18), (false, .t 19)] false⟩,
  ⟨some 2, none, .mv (.t 20)⟩]) [2]
 (.ret)))))) }
/- impl.OrderGet -/
def f26l0 : ACode := (.seq (.seq (.reg false [⟨some 15, none, .mv (.t 7)⟩,
  ⟨some 16, none, .mv (.t 5)⟩,
  ⟨some 17, none, .bin .lss .val (.t 15) (.t 16)⟩,
  ⟨some 18, none, .mv (.t 17)⟩,
  ⟨some 19, some (18, true), .mv (.t 4)⟩,
  ⟨some 20, some (18, true), .nilck (.t 19)⟩,
  ⟨some 21, some (18, true), .faddr 2 (.t 20)⟩,
  ⟨some 22, some (18, true), .load false 1 (.t 21)⟩,
  ⟨some 23, some (18, true), .un .not (.t 22)⟩,
  ⟨some 24, none, .pick (.t 18) (.t 23) (.c (.bool false))⟩,
  ⟨some 25, none, .mv (.t 24)⟩,
  ⟨some 26, some (25, true), .mv (.t 4)⟩,
  ⟨some 27, some (25, true), .nilck (.t 26)⟩,
  ⟨some 28, some (25, true), .faddr 3 (.t 27)⟩,
  ⟨some 29, some (25, true), .load false 1 (.t 28)⟩,
  ⟨some 30, some (25, true), .un .not (.t 29)⟩,
  ⟨some 31, none, .pick (.t 25) (.t 30) (.c (.bool false))⟩]) [0, 4, 5, 6, 7, 31]
 (.cond (.t 31) (.skip) (.exit 0))) [0, 4, 5, 6, 7]
 (.seq (.block 1 (.seq (.reg false [⟨some 34, none, .mv (.t 4)⟩,
  ⟨some 35, none, .call (.f 53) [(false, .t 34), (false, .c (.int .u8 (36))), (false, .c (.int .i64 (0))), (false, .c (.int .i64 (40)))] false⟩,
  ⟨some 8, none, .mv (.t 35)⟩]) [0, 4, 5, 6, 7, 8]
 (.seq (.seq (.reg false [⟨some 36, none, .mv (.t 4)⟩,
  ⟨some 37, none, .nilck (.t 36)⟩,
  ⟨some 38, none, .faddr 2 (.t 37)⟩,
  ⟨some 39, none, .load false 1 (.t 38)⟩,
  ⟨some 40, none, .mv (.t 39)⟩,
  ⟨some 41, some (40, false), .mv (.t 4)⟩,
  ⟨some 42, some (40, false), .nilck (.t 41)⟩,
  ⟨some 43, some (40, false), .faddr 3 (.t 42)⟩,
  ⟨some 44, some (40, false), .load false 1 (.t 43)⟩,
  ⟨some 45, none, .pick (.t 40) (.c (.bool true)) (.t 44)⟩]) [0, 4, 5, 6, 7, 8, 45]
 (.cond (.t 45) (.exit 0) (.skip))) [0, 4, 5, 6, 7, 8]
 (.seq (.seq (.reg false [⟨some 46, none, .mv (.t 0)⟩,
  ⟨some 47, none, .len true (.t 46)⟩,
  ⟨some 48, none, .mv (.t 4)⟩,
  ⟨some 49, none, .nilck (.t 48)⟩,
  ⟨some 50, none, .faddr 1 (.t 49)⟩,
  ⟨some 51, none, .load false 1 (.t 50)⟩,
  ⟨some 52, none, .bin .sub .val (.t 47) (.t 51)⟩,
  ⟨some 53, none, .mv (.t 8)⟩,
  ⟨some 54, none, .bin .lss .val (.t 52) (.t 53)⟩]) [0, 4, 5, 6, 7, 8, 54]
 (.cond (.t 54) (.seq (.reg false [⟨some 55, none, .mv (.t 4)⟩,
  ⟨some 56, none, .nilck (.t 55)⟩,
  ⟨some 57, none, .faddr 2 (.t 56)⟩,
  ⟨none, none, .store 1 (.t 57) (.c (.bool true))⟩]) [4, 6]
 (.exit 0)) (.skip))) [0, 4, 5, 6, 7, 8]
 (.seq (.reg true [⟨some 58, none, .mv (.t 6)⟩,
  ⟨some 59, none, .mv (.t 0)⟩,
  ⟨some 60, none, .mv (.t 4)⟩,
  ⟨some 61, none, .nilck (.t 60)⟩,
  ⟨some 62, none, .faddr 1 (.t 61)⟩,
  ⟨some 63, none, .load false 1 (.t 62)⟩,
  ⟨some 64, none, .mv (.t 4)⟩,
  ⟨some 65, none, .nilck (.t 64)⟩,
  ⟨some 66, none, .faddr 1 (.t 65)⟩,
  ⟨some 67, none, .load false 1 (.t 66)⟩,
  ⟨some 68, none, .mv (.t 8)⟩,
  ⟨some 69, none, .bin .add .val (.t 67) (.t 68)⟩,
  ⟨some 70, none, .slice none (.t 59) (some (.t 63)) (some (.t 69))⟩,
  ⟨some 71, none, .lit false 1 [.t 70]⟩,
  ⟨some 72, none, .append 1 16 (.t 58) (.t 71)⟩,
  ⟨some 6, none, .mv (.t 72)⟩]) [0, 4, 5, 6, 7, 8]
 (.seq (.reg false [⟨some 73, none, .mv (.t 4)⟩,
  ⟨some 74, none, .nilck (.t 73)⟩,
  ⟨some 75, none, .faddr 1 (.t 74)⟩,
  ⟨some 76, none, .load false 1 (.t 75)⟩,
  ⟨some 77, none, .mv (.t 8)⟩,
  ⟨some 78, none, .bin .add .val (.t 76) (.t 77)⟩,
  ⟨some 79, none, .nilck (.t 73)⟩,
  ⟨some 80, none, .faddr 1 (.t 79)⟩,
  ⟨none, none, .store 1 (.t 80) (.t 78)⟩]) [0, 4, 5, 6, 7]
 (.seq (.reg false [⟨some 81, none, .mv (.t 4)⟩,
  ⟨some 82, none, .call (.f 54) [(false, .t 81), (false, .c (.int .u8 (13)))] false⟩]) [0, 4, 5, 6, 7]
 (.reg false [⟨some 83, none, .mv (.t 4)⟩,
  ⟨some 84, none, .call (.f 54) [(false, .t 83), (false, .c (.int .u8 (10)))] false⟩])))))))) [0, 4, 5, 6, 7]
 (.reg false [⟨some 32, none, .mv (.t 7)⟩,
  ⟨some 33, none, .bin .add .val (.t 32) (.c (.int .i64 (1)))⟩,
  ⟨some 7, none, .mv (.t 33)⟩])))
def f26 : AFunc := { np := 1, nt := 102, res := [.tmp 2, .tmp 3], own := false, body := (.seq (.reg false [⟨some 2, none, .mv (.nil 1)⟩,
  ⟨some 3, none, .mv (.c (.int .i64 (0)))⟩]) [0]
 (.seq (.reg false [⟨some 9, none, .mv (.t 0)⟩,
  ⟨some 10, none, .build [.d (.str []), .d (.int .i64 (0)), .d (.bool false), .d (.bool false)] [(0, 1, .t 9)]⟩,
  ⟨some 11, none, .box (.t 10)⟩,
  ⟨some 4, none, .mv (.t 11)⟩]) [0, 4]
 (.seq (.reg false [⟨some 12, none, .mv (.t 4)⟩,
  ⟨some 13, none, .call (.f 53) [(false, .t 12), (false, .c (.int .u8 (42))), (false, .c (.int .i64 (1))), (false, .c (.int .i64 (8)))] false⟩,
  ⟨some 5, none, .mv (.t 13)⟩]) [0, 4, 5]
 (.seq (.reg false [⟨some 14, none, .lit true 1 []⟩,
  ⟨some 6, none, .mv (.t 14)⟩]) [0, 4, 5, 6]
 (.seq (.seq (.reg false [⟨some 7, none, .mv (.c (.int .i64 (0)))⟩]) [0, 4, 5, 6, 7]
 (.block 0 (.loop [0, 4, 5, 6, 7] f26l0))) [4, 6]
 (.seq (.block 2 (.seq (.reg false [⟨some 86, none, .mv (.t 4)⟩,
  ⟨some 87, none, .nilck (.t 86)⟩,
  ⟨some 88, none, .faddr 3 (.t 87)⟩,
  ⟨some 89, none, .load false 1 (.t 88)⟩,
  ⟨some 85, none, .mv (.t 89)⟩]) [4, 6, 85]
 (.cond (.t 85) (.seq (.reg false [⟨some 90, none, .lit false 1 []⟩,
  ⟨some 2, none, .mv (.t 90)⟩,
  ⟨some 3, none, .mv (.c (.int .i64 (-1)))⟩]) [2, 3]
 (.ret)) (.seq (.reg false [⟨some 92, none, .mv (.t 4)⟩,
  ⟨some 93, none, .nilck (.t 92)⟩,
  ⟨some 94, none, .faddr 2 (.t 93)⟩,
  ⟨some 95, none, .load false 1 (.t 94)⟩,
  ⟨some 91, none, .mv (.t 95)⟩]) [4, 6, 91]
 (.cond (.t 91) (.seq (.reg false [⟨some 96, none, .lit false 1 []⟩,
  ⟨some 2, none, .mv (.t 96)⟩,
  ⟨some 3, none, .mv (.c (.int .i64 (0)))⟩]) [2, 3]
 (.ret)) (.skip)))))) [4, 6]
 (.seq (.reg true [⟨some 97, none, .mv (.t 6)⟩,
  ⟨some 98, none, .mv (.t 4)⟩,
  ⟨some 99, none, .nilck (.t 98)⟩,
  ⟨some 100, none, .faddr 1 (.t 99)⟩,
  ⟨some 101, none, .load false 1 (.t 100)⟩,
  ⟨some 2, none, .mv (.t 97)⟩,
  ⟨some 3, none, .mv (.t 101)⟩]) [2, 3]
 (.ret)))))))) }
/- spec.OrderGet -/
def f27l0 : ACode := (.seq (.seq (.reg false [⟨some 23, none, .mv (.t 8)⟩,
  ⟨some 24, none, .mv (.t 4)⟩,
  ⟨some 25, none, .bin .lss .val (.t 23) (.t 24)⟩]) [0, 4, 5, 7, 8, 25]
 (.cond (.t 25) (.skip) (.exit 0))) [0, 4, 5, 7, 8]
 (.seq (.block 1 (.seq (.reg false [⟨some 29, none, .mv (.t 5)⟩,
  ⟨some 30, none, .pcall (.f 55) [.t 29, .c (.int .u8 (36)), .c (.int .i64 (0)), .c (.int .i64 (40))]⟩,
  ⟨some 28, none, .mv (.t 30)⟩,
  ⟨some 31, none, .extract (.t 28) 0⟩,
  ⟨some 32, none, .extract (.t 28) 1⟩,
  ⟨some 33, none, .extract (.t 28) 2⟩,
  ⟨some 9, none, .mv (.t 31)⟩,
  ⟨some 10, none, .mv (.t 32)⟩,
  ⟨some 11, none, .mv (.t 33)⟩]) [0, 4, 7, 8, 9, 10, 11]
 (.seq (.seq (.reg false [⟨some 34, none, .mv (.t 11)⟩,
  ⟨some 35, none, .bin .lss .val (.t 34) (.c (.int .i64 (1)))⟩]) [0, 4, 7, 8, 9, 10, 11, 35]
 (.cond (.t 35) (.seq (.reg false [⟨some 36, none, .lit false 1 []⟩,
  ⟨some 37, none, .mv (.t 11)⟩,
  ⟨some 2, none, .mv (.t 36)⟩,
  ⟨some 3, none, .mv (.t 37)⟩]) [2, 3]
 (.ret)) (.skip))) [0, 4, 7, 8, 9, 10]
 (.seq (.seq (.reg false [⟨some 38, none, .mv (.t 10)⟩,
  ⟨some 39, none, .len true (.t 38)⟩,
  ⟨some 40, none, .mv (.t 9)⟩,
  ⟨some 41, none, .bin .gtr .val (.t 39) (.t 40)⟩,
  ⟨some 42, none, .mv (.t 41)⟩,
  ⟨some 43, some (42, true), .mv (.t 10)⟩,
  ⟨some 44, some (42, true), .mv (.t 9)⟩,
  ⟨some 45, some (42, true), .idx (.t 43) (.t 44)⟩,
  ⟨some 46, some (42, true), .bin .neq .val (.t 45) (.c (.int .u8 (13)))⟩,
  ⟨some 47, none, .pick (.t 42) (.t 46) (.c (.bool false))⟩,
  ⟨some 48, none, .mv (.t 47)⟩,
  ⟨some 49, some (48, false), .mv (.t 10)⟩,
  ⟨some 50, some (48, false), .len true (.t 49)⟩,
  ⟨some 51, some (48, false), .mv (.t 9)⟩,
  ⟨some 52, some (48, false), .bin .add .val (.t 51) (.c (.int .i64 (1)))⟩,
  ⟨some 53, some (48, false), .bin .gtr .val (.t 50) (.t 52)⟩,
  ⟨some 54, some (48, false), .mv (.t 53)⟩,
  ⟨some 55, some (54, true), .mv (.t 10)⟩,
  ⟨some 56, some (54, true), .mv (.t 9)⟩,
  ⟨some 57, some (54, true), .bin .add .val (.t 56) (.c (.int .i64 (1)))⟩,
  ⟨some 58, some (54, true), .idx (.t 55) (.t 57)⟩,
  ⟨some 59, some (54, true), .bin .neq .val (.t 58) (.c (.int .u8 (10)))⟩,
  ⟨some 60, some (48, false), .pick (.t 54) (.t 59) (.c (.bool false))⟩,
  ⟨some 61, none, .pick (.t 48) (.c (.bool true)) (.t 60)⟩]) [0, 4, 7, 8, 9, 10, 61]
 (.cond (.t 61) (.seq (.reg false [⟨some 62, none, .lit false 1 []⟩,
  ⟨some 2, none, .mv (.t 62)⟩,
  ⟨some 3, none, .mv (.c (.int .i64 (-1)))⟩]) [2, 3]
 (.ret)) (.skip))) [0, 4, 7, 8, 9, 10]
 (.seq (.seq (.reg false [⟨some 63, none, .mv (.t 10)⟩,
  ⟨some 64, none, .len true (.t 63)⟩,
  ⟨some 65, none, .mv (.t 9)⟩,
  ⟨some 66, none, .bin .add .val (.t 65) (.c (.int .i64 (2)))⟩,
  ⟨some 67, none, .bin .lss .val (.t 64) (.t 66)⟩]) [0, 4, 7, 8, 9, 10, 67]
 (.cond (.t 67) (.seq (.reg false [⟨some 68, none, .lit false 1 []⟩,
  ⟨some 2, none, .mv (.t 68)⟩,
  ⟨some 3, none, .mv (.c (.int .i64 (0)))⟩]) [2, 3]
 (.ret)) (.skip))) [0, 4, 7, 8, 9, 10]
 (.seq (.reg false [⟨some 69, none, .mv (.t 7)⟩,
  ⟨some 70, none, .mv (.t 10)⟩,
  ⟨some 71, none, .mv (.t 9)⟩,
  ⟨some 72, none, .slice none (.t 70) none (some (.t 71))⟩,
  ⟨some 73, none, .lit false 1 [.t 72]⟩,
  ⟨some 74, none, .append 1 16 (.t 69) (.t 73)⟩,
  ⟨some 7, none, .mv (.t 74)⟩]) [0, 4, 7, 8, 9, 10]
 (.reg false [⟨some 75, none, .mv (.t 10)⟩,
  ⟨some 76, none, .mv (.t 9)⟩,
  ⟨some 77, none, .bin .add .val (.t 76) (.c (.int .i64 (2)))⟩,
  ⟨some 78, none, .slice none (.t 75) (some (.t 77)) none⟩,
  ⟨some 5, none, .mv (.t 78)⟩]))))))) [0, 4, 5, 7, 8]
 (.reg false [⟨some 26, none, .mv (.t 8)⟩,
  ⟨some 27, none, .bin .add .val (.t 26) (.c (.int .i64 (1)))⟩,
  ⟨some 8, none, .mv (.t 27)⟩])))
def f27 : AFunc := { np := 1, nt := 85, res := [.tmp 2, .tmp 3], own := false, body := (.seq (.reg false [⟨some 2, none, .mv (.nil 1)⟩,
  ⟨some 3, none, .mv (.c (.int .i64 (0)))⟩]) [0]
 (.seq (.reg false [⟨some 13, none, .mv (.t 0)⟩,
  ⟨some 14, none, .pcall (.f 55) [.t 13, .c (.int .u8 (42)), .c (.int .i64 (1)), .c (.int .i64 (8))]⟩,
  ⟨some 12, none, .mv (.t 14)⟩,
  ⟨some 15, none, .extract (.t 12) 0⟩,
  ⟨some 16, none, .extract (.t 12) 1⟩,
  ⟨some 17, none, .extract (.t 12) 2⟩,
  ⟨some 4, none, .mv (.t 15)⟩,
  ⟨some 5, none, .mv (.t 16)⟩,
  ⟨some 6, none, .mv (.t 17)⟩]) [0, 4, 5, 6]
 (.seq (.seq (.reg false [⟨some 18, none, .mv (.t 6)⟩,
  ⟨some 19, none, .bin .lss .val (.t 18) (.c (.int .i64 (1)))⟩]) [0, 4, 5, 6, 19]
 (.cond (.t 19) (.seq (.reg false [⟨some 20, none, .lit false 1 []⟩,
  ⟨some 21, none, .mv (.t 6)⟩,
  ⟨some 2, none, .mv (.t 20)⟩,
  ⟨some 3, none, .mv (.t 21)⟩]) [2, 3]
 (.ret)) (.skip))) [0, 4, 5]
 (.seq (.reg false [⟨some 22, none, .lit true 1 []⟩,
  ⟨some 7, none, .mv (.t 22)⟩]) [0, 4, 5, 7]
 (.seq (.seq (.reg false [⟨some 8, none, .mv (.c (.int .i64 (0)))⟩]) [0, 4, 5, 7, 8]
 (.block 0 (.loop [0, 4, 5, 7, 8] f27l0))) [0, 5, 7]
 (.seq (.reg false [⟨some 79, none, .mv (.t 7)⟩,
  ⟨some 80, none, .mv (.t 0)⟩,
  ⟨some 81, none, .len true (.t 80)⟩,
  ⟨some 82, none, .mv (.t 5)⟩,
  ⟨some 83, none, .len true (.t 82)⟩,
  ⟨some 84, none, .bin .sub .val (.t 81) (.t 83)⟩,
  ⟨some 2, none, .mv (.t 79)⟩,
  ⟨some 3, none, .mv (.t 84)⟩]) [2, 3]
 (.ret))))))) }
/- spec.ServerNew -/
def f28l0 : ACode := (.seq (.seq (.reg false [⟨some 6, none, .mv (.t 4)⟩,
  ⟨some 7, none, .mv (.t 0)⟩,
  ⟨some 8, none, .bin .lss .val (.t 6) (.t 7)⟩,
  ⟨some 9, none, .mv (.t 8)⟩,
  ⟨some 10, some (9, true), .mv (.t 0)⟩,
  ⟨some 11, some (9, true), .pcall (.f 37) [.t 10, .c (.int .i64 (1)), .c (.int .i64 (3))]⟩,
  ⟨some 12, none, .pick (.t 9) (.t 11) (.c (.bool false))⟩]) [0, 2, 3, 4, 12]
 (.cond (.t 12) (.skip) (.exit 0))) [0, 2, 3, 4]
 (.seq (.block 1 (.reg false [⟨some 15, none, .faddr 3 (.t 3)⟩,
  ⟨some 16, none, .load false 1 (.t 15)⟩,
  ⟨some 17, none, .build [.d (.bool false), .d (.bool false), .nils 1, .nils 1, .d (.bool false), .nils 1] []⟩,
  ⟨some 18, none, .lit true 6 [.t 17]⟩,
  ⟨some 19, none, .append 6 88 (.t 16) (.t 18)⟩,
  ⟨some 20, none, .faddr 3 (.t 3)⟩,
  ⟨none, none, .store 1 (.t 20) (.t 19)⟩])) [0, 2, 3, 4]
 (.reg false [⟨some 13, none, .mv (.t 4)⟩,
  ⟨some 14, none, .bin .add .val (.t 13) (.c (.int .i64 (1)))⟩,
  ⟨some 4, none, .mv (.t 14)⟩])))
def f28 : AFunc := { np := 1, nt := 22, res := [.cell 2 true 4], own := false, body := (.seq (.reg false [⟨some 2, none, .alloc (.agg [.d (.int .i64 (0)), .nils 7, .d (.str []), .nils 6])⟩]) [0, 2]
 (.seq (.reg false [⟨some 5, none, .build [.d (.int .i64 (0)), .nils 7, .d (.str []), .nils 6] []⟩,
  ⟨some 3, none, .alloc (.agg [.d (.int .i64 (0)), .nils 7, .d (.str []), .nils 6])⟩,
  ⟨none, none, .store 4 (.t 3) (.t 5)⟩]) [0, 2, 3]
 (.seq (.seq (.reg false [⟨some 4, none, .mv (.c (.int .i64 (0)))⟩]) [0, 2, 3, 4]
 (.block 0 (.loop [0, 2, 3, 4] f28l0))) [2, 3]
 (.seq (.reg false [⟨some 21, none, .load true 4 (.t 3)⟩,
  ⟨none, none, .store 4 (.t 2) (.t 21)⟩]) [2]
 (.ret))))) }
/- impl.ServerNew -/
def f29l0 : ACode := (.seq (.reg false [⟨some 14, none, .bin .lss .val (.t 13) (.t 12)⟩]) [2, 3, 12, 13, 14]
 (.seq (.cond (.t 14) (.skip) (.exit 0)) [2, 3, 12, 13]
 (.seq (.block 1 (.reg true [⟨some 15, none, .faddr 3 (.t 3)⟩,
  ⟨some 16, none, .load false 1 (.t 15)⟩,
  ⟨some 17, none, .pcall (.f 56) []⟩,
  ⟨some 18, none, .lit false 6 [.t 17]⟩,
  ⟨some 19, none, .append 6 88 (.t 16) (.t 18)⟩,
  ⟨some 20, none, .faddr 3 (.t 3)⟩,
  ⟨none, none, .store 1 (.t 20) (.t 19)⟩])) [2, 3, 12, 13]
 (.reg false [⟨some 21, none, .bin .add .val (.t 13) (.c (.int .i64 (1)))⟩,
  ⟨some 13, none, .mv (.t 21)⟩]))))
def f29 : AFunc := { np := 1, nt := 23, res := [.cell 2 true 4], own := true, body := (.seq (.reg false [⟨some 2, none, .alloc (.agg [.d (.int .i64 (0)), .nils 7, .d (.str []), .nils 6])⟩]) [0, 2]
 (.seq (.seq (.reg false [⟨some 4, none, .mv (.t 0)⟩,
  ⟨some 5, none, .pcall (.f 35) [.t 4, .c (.int .i64 (1)), .c (.int .i64 (3))]⟩,
  ⟨some 6, none, .un .not (.t 5)⟩]) [0, 2, 6]
 (.cond (.t 6) (.seq (.reg false [⟨some 7, none, .build [.d (.int .i64 (0)), .nils 7, .d (.str []), .nils 6] []⟩,
  ⟨none, none, .store 4 (.t 2) (.t 7)⟩]) [2]
 (.ret)) (.skip))) [0, 2]
 (.seq (.reg false [⟨some 8, none, .lit false 7 []⟩,
  ⟨some 9, none, .build [.d (.int .i64 (0)), .nils 7] [(0, 1, .c (.int .i64 (0))), (1, 1, .t 8)]⟩,
  ⟨some 10, none, .lit true 6 []⟩,
  ⟨some 11, none, .build [.d (.int .i64 (0)), .nils 7, .d (.str []), .nils 6] [(0, 2, .t 9), (2, 1, .c (.str [])), (3, 1, .t 10)]⟩,
  ⟨some 3, none, .alloc (.agg [.d (.int .i64 (0)), .nils 7, .d (.str []), .nils 6])⟩,
  ⟨none, none, .store 4 (.t 3) (.t 11)⟩]) [0, 2, 3]
 (.seq (.seq (.reg false [⟨some 12, none, .mv (.t 0)⟩,
  ⟨some 13, none, .mv (.c (.int .i64 (0)))⟩]) [2, 3, 12, 13]
 (.block 0 (.loop [2, 3, 12, 13] f29l0))) [2, 3]
 (.seq (.reg false [⟨some 22, none, .load true 4 (.t 3)⟩,
  ⟨none, none, .store 4 (.t 2) (.t 22)⟩]) [2]
 (.ret)))))) }
/- laws.eqServer -/
def f30 : AFunc := { np := 2, nt := 22, res := [.tmp 4], own := false, body := (.seq (.reg false [⟨some 2, none, .box (.t 0)⟩,
  ⟨some 3, none, .box (.t 1)⟩,
  ⟨some 4, none, .mv (.c (.bool false))⟩]) [2, 3]
 (.seq (.seq (.reg false [⟨some 5, none, .faddr 0 (.t 2)⟩,
  ⟨some 6, none, .load true 2 (.t 5)⟩,
  ⟨some 7, none, .faddr 0 (.t 3)⟩,
  ⟨some 8, none, .load true 2 (.t 7)⟩,
  ⟨some 9, none, .pcall (.f 57) [.t 6, .t 8]⟩,
  ⟨some 10, none, .un .not (.t 9)⟩]) [2, 3, 10]
 (.cond (.t 10) (.seq (.reg false [⟨some 4, none, .mv (.c (.bool false))⟩]) [4]
 (.ret)) (.skip))) [2, 3]
 (.seq (.seq (.reg false [⟨some 11, none, .faddr 2 (.t 2)⟩,
  ⟨some 12, none, .load false 1 (.t 11)⟩,
  ⟨some 13, none, .faddr 2 (.t 3)⟩,
  ⟨some 14, none, .load false 1 (.t 13)⟩,
  ⟨some 15, none, .bin .neq .val (.t 12) (.t 14)⟩]) [2, 3, 15]
 (.cond (.t 15) (.seq (.reg false [⟨some 4, none, .mv (.c (.bool false))⟩]) [4]
 (.ret)) (.skip))) [2, 3]
 (.seq (.seq (.reg false [⟨some 16, none, .faddr 3 (.t 2)⟩,
  ⟨some 17, none, .load false 1 (.t 16)⟩,
  ⟨some 18, none, .faddr 3 (.t 3)⟩,
  ⟨some 19, none, .load false 1 (.t 18)⟩,
  ⟨some 20, none, .pcall (.f 58) [.t 17, .t 19]⟩,
  ⟨some 21, none, .un .not (.t 20)⟩]) [21]
 (.cond (.t 21) (.seq (.reg false [⟨some 4, none, .mv (.c (.bool false))⟩]) [4]
 (.ret)) (.skip))) []
 (.seq (.reg false [⟨some 4, none, .mv (.c (.bool true))⟩]) [4]
 (.ret)))))) }
/- laws.markServer -/
def f31 : AFunc := { np := 2, nt := 14, res := [.tmp 4], own := false, body := (.seq (.reg false [⟨some 2, none, .box (.t 0)⟩,
  ⟨some 4, none, .mv (.c (.int .i64 (0)))⟩]) [1, 2]
 (.seq (.reg false [⟨some 5, none, .faddr 0 (.t 2)⟩,
  ⟨some 6, none, .load true 2 (.t 5)⟩,
  ⟨some 7, none, .mv (.t 1)⟩,
  ⟨some 8, none, .call (.f 59) [(false, .t 6), (false, .t 7)] false⟩,
  ⟨some 1, none, .mv (.t 8)⟩]) [1, 2]
 (.seq (.reg false [⟨some 9, none, .faddr 3 (.t 2)⟩,
  ⟨some 10, none, .load false 1 (.t 9)⟩,
  ⟨some 11, none, .mv (.t 1)⟩,
  ⟨some 12, none, .call (.f 60) [(false, .t 10), (false, .t 11)] false⟩,
  ⟨some 1, none, .mv (.t 12)⟩]) [1]
 (.seq (.reg false [⟨some 13, none, .mv (.t 1)⟩,
  ⟨some 4, none, .mv (.t 13)⟩]) [4]
 (.ret))))) }
/- laws.heldServer -/
def f32 : AFunc := { np := 2, nt := 18, res := [.tmp 4], own := false, body := (.seq (.reg false [⟨some 2, none, .box (.t 0)⟩,
  ⟨some 4, none, .mv (.c (.int .i64 (0)))⟩]) [1, 2]
 (.seq (.reg false [⟨some 5, none, .faddr 0 (.t 2)⟩,
  ⟨some 6, none, .load true 2 (.t 5)⟩,
  ⟨some 7, none, .mv (.t 1)⟩,
  ⟨some 8, none, .pcall (.f 61) [.t 6, .t 7]⟩,
  ⟨some 1, none, .mv (.t 8)⟩]) [1, 2]
 (.seq (.seq (.reg false [⟨some 9, none, .mv (.t 1)⟩,
  ⟨some 10, none, .bin .lss .val (.t 9) (.c (.int .i64 (0)))⟩]) [1, 2, 10]
 (.cond (.t 10) (.seq (.reg false [⟨some 4, none, .mv (.c (.int .i64 (-1)))⟩]) [4]
 (.ret)) (.skip))) [1, 2]
 (.seq (.reg false [⟨some 11, none, .faddr 3 (.t 2)⟩,
  ⟨some 12, none, .load false 1 (.t 11)⟩,
  ⟨some 13, none, .mv (.t 1)⟩,
  ⟨some 14, none, .pcall (.f 62) [.t 12, .t 13]⟩,
  ⟨some 1, none, .mv (.t 14)⟩]) [1]
 (.seq (.seq (.reg false [⟨some 15, none, .mv (.t 1)⟩,
  ⟨some 16, none, .bin .lss .val (.t 15) (.c (.int .i64 (0)))⟩]) [1, 16]
 (.cond (.t 16) (.seq (.reg false [⟨some 4, none, .mv (.c (.int .i64 (-1)))⟩]) [4]
 (.ret)) (.skip))) [1]
 (.seq (.reg false [⟨some 17, none, .mv (.t 1)⟩,
  ⟨some 4, none, .mv (.t 17)⟩]) [4]
 (.ret))))))) }
/- spec.l8Bit -/
def f33 : AFunc := { np := 2, nt := 12, res := [.tmp 4], own := false, body := (.seq (.reg false [⟨some 4, none, .mv (.c (.bool false))⟩]) [0, 1]
 (.seq (.reg false [⟨some 5, none, .mv (.t 0)⟩,
  ⟨some 6, none, .len true (.t 5)⟩,
  ⟨some 7, none, .bin .leq .val (.t 6) (.c (.int .i64 (40)))⟩,
  ⟨some 8, none, .mv (.t 7)⟩,
  ⟨some 9, some (8, true), .mv (.t 1)⟩,
  ⟨some 10, some (8, true), .pcall (.f 37) [.t 9, .c (.int .i64 (0)), .c (.int .i64 (319))]⟩,
  ⟨some 11, none, .pick (.t 8) (.t 10) (.c (.bool false))⟩,
  ⟨some 4, none, .mv (.t 11)⟩]) [4]
 (.ret))) }
/- spec.l8Get -/
def f34 : AFunc := { np := 2, nt := 20, res := [.tmp 4], own := false, body := (.seq (.reg false [⟨some 4, none, .mv (.c (.int .i64 (0)))⟩]) [0, 1]
 (.seq (.seq (.reg false [⟨some 5, none, .mv (.t 1)⟩,
  ⟨some 6, none, .bin .quo .val (.t 5) (.c (.int .i64 (8)))⟩,
  ⟨some 7, none, .mv (.t 0)⟩,
  ⟨some 8, none, .len true (.t 7)⟩,
  ⟨some 9, none, .bin .geq .val (.t 6) (.t 8)⟩]) [0, 1, 9]
 (.cond (.t 9) (.seq (.reg false [⟨some 4, none, .mv (.c (.int .i64 (0)))⟩]) [4]
 (.ret)) (.skip))) [0, 1]
 (.seq (.reg false [⟨some 10, none, .mv (.t 0)⟩,
  ⟨some 11, none, .mv (.t 1)⟩,
  ⟨some 12, none, .bin .quo .val (.t 11) (.c (.int .i64 (8)))⟩,
  ⟨some 13, none, .idx (.t 10) (.t 12)⟩,
  ⟨some 14, none, .cvInt .i64 (.t 13)⟩,
  ⟨some 15, none, .mv (.t 1)⟩,
  ⟨some 16, none, .bin .rem .val (.t 15) (.c (.int .i64 (8)))⟩,
  ⟨some 17, none, .bin .sub .val (.c (.int .i64 (7))) (.t 16)⟩,
  ⟨some 18, none, .bin .shr .val (.t 14) (.t 17)⟩,
  ⟨some 19, none, .bin .and .val (.t 18) (.c (.int .i64 (1)))⟩,
  ⟨some 4, none, .mv (.t 19)⟩]) [4]
 (.ret)))) }
/- impl.within -/
def f35 : AFunc := { np := 3, nt := 15, res := [.tmp 6], own := false, body := (.seq (.reg false [⟨some 6, none, .mv (.c (.bool false))⟩]) [0, 1, 2]
 (.seq (.reg false [⟨some 7, none, .mv (.t 0)⟩,
  ⟨some 8, none, .mv (.t 1)⟩,
  ⟨some 9, none, .bin .geq .val (.t 7) (.t 8)⟩,
  ⟨some 10, none, .mv (.t 9)⟩,
  ⟨some 11, some (10, true), .mv (.t 0)⟩,
  ⟨some 12, some (10, true), .mv (.t 2)⟩,
  ⟨some 13, some (10, true), .bin .leq .val (.t 11) (.t 12)⟩,
  ⟨some 14, none, .pick (.t 10) (.t 13) (.c (.bool false))⟩,
  ⟨some 6, none, .mv (.t 14)⟩]) [6]
 (.ret))) }
/- impl.bitAt -/
def f36 : AFunc := { np := 2, nt := 20, res := [.tmp 4], own := false, body := (.seq (.reg false [⟨some 4, none, .mv (.c (.int .i64 (0)))⟩]) [0, 1]
 (.seq (.seq (.reg false [⟨some 5, none, .mv (.t 1)⟩,
  ⟨some 6, none, .bin .quo .val (.t 5) (.c (.int .i64 (8)))⟩,
  ⟨some 7, none, .mv (.t 0)⟩,
  ⟨some 8, none, .len true (.t 7)⟩,
  ⟨some 9, none, .bin .geq .val (.t 6) (.t 8)⟩]) [0, 1, 9]
 (.cond (.t 9) (.seq (.reg false [⟨some 4, none, .mv (.c (.int .i64 (0)))⟩]) [4]
 (.ret)) (.skip))) [0, 1]
 (.seq (.reg false [⟨some 10, none, .mv (.t 0)⟩,
  ⟨some 11, none, .mv (.t 1)⟩,
  ⟨some 12, none, .bin .quo .val (.t 11) (.c (.int .i64 (8)))⟩,
  ⟨some 13, none, .idx (.t 10) (.t 12)⟩,
  ⟨some 14, none, .mv (.t 1)⟩,
  ⟨some 15, none, .bin .rem .val (.t 14) (.c (.int .i64 (8)))⟩,
  ⟨some 16, none, .bin .sub .val (.c (.int .i64 (7))) (.t 15)⟩,
  ⟨some 17, none, .bin .shr .val (.t 13) (.t 16)⟩,
  ⟨some 18, none, .cvInt .i64 (.t 17)⟩,
  ⟨some 19, none, .bin .and .val (.t 18) (.c (.int .i64 (1)))⟩,
  ⟨some 4, none, .mv (.t 19)⟩]) [4]
 (.ret)))) }
/- spec.l1In -/
def f37 : AFunc := { np := 3, nt := 15, res := [.tmp 6], own := false, body := (.seq (.reg false [⟨some 6, none, .mv (.c (.bool false))⟩]) [0, 1, 2]
 (.seq (.reg false [⟨some 7, none, .mv (.t 0)⟩,
  ⟨some 8, none, .mv (.t 1)⟩,
  ⟨some 9, none, .bin .geq .val (.t 7) (.t 8)⟩,
  ⟨some 10, none, .mv (.t 9)⟩,
  ⟨some 11, some (10, true), .mv (.t 0)⟩,
  ⟨some 12, some (10, true), .mv (.t 2)⟩,
  ⟨some 13, some (10, true), .bin .leq .val (.t 11) (.t 12)⟩,
  ⟨some 14, none, .pick (.t 10) (.t 13) (.c (.bool false))⟩,
  ⟨some 6, none, .mv (.t 14)⟩]) [6]
 (.ret))) }
/- spec.l2Texts -/
def f38l0 : ACode := (.seq (.seq (.reg false [⟨some 4, none, .mv (.t 3)⟩,
  ⟨some 5, none, .mv (.t 0)⟩,
  ⟨some 6, none, .len false (.t 5)⟩,
  ⟨some 7, none, .bin .lss .val (.t 4) (.t 6)⟩]) [0, 3, 7]
 (.cond (.t 7) (.skip) (.exit 0))) [0, 3]
 (.seq (.block 1 (.seq (.reg false [⟨some 10, none, .mv (.t 0)⟩,
  ⟨some 11, none, .mv (.t 3)⟩,
  ⟨some 12, none, .iaddr 1 (.t 10) (.t 11)⟩,
  ⟨some 13, none, .load false 1 (.t 12)⟩,
  ⟨some 14, none, .len true (.t 13)⟩,
  ⟨some 15, none, .bin .gtr .val (.t 14) (.c (.int .i64 (40)))⟩]) [0, 3, 15]
 (.cond (.t 15) (.seq (.reg false [⟨some 2, none, .mv (.c (.bool false))⟩]) [2]
 (.ret)) (.skip)))) [0, 3]
 (.reg false [⟨some 8, none, .mv (.t 3)⟩,
  ⟨some 9, none, .bin .add .val (.t 8) (.c (.int .i64 (1)))⟩,
  ⟨some 3, none, .mv (.t 9)⟩])))
def f38 : AFunc := { np := 1, nt := 19, res := [.tmp 2], own := false, body := (.seq (.reg false [⟨some 2, none, .mv (.c (.bool false))⟩]) [0]
 (.seq (.seq (.reg false [⟨some 3, none, .mv (.c (.int .i64 (0)))⟩]) [0, 3]
 (.block 0 (.loop [0, 3] f38l0))) [0]
 (.seq (.reg false [⟨some 16, none, .mv (.t 0)⟩,
  ⟨some 17, none, .len false (.t 16)⟩,
  ⟨some 18, none, .bin .leq .val (.t 17) (.c (.int .i64 (16)))⟩,
  ⟨some 2, none, .mv (.t 18)⟩]) [2]
 (.ret)))) }
/- impl.listOk -/
def f39 : AFunc := { np := 1, nt := 5, res := [.tmp 2], own := false, body := (.seq (.reg false [⟨some 2, none, .mv (.c (.bool false))⟩]) [0]
 (.seq (.reg false [⟨some 3, none, .mv (.t 0)⟩,
  ⟨some 4, none, .pcall (.f 63) [.t 3, .c (.int .i64 (16))]⟩,
  ⟨some 2, none, .mv (.t 4)⟩]) [2]
 (.ret))) }
/- slices.Index[[]string,string] -/
def f40l0 : ACode := (.seq (.reg false [⟨some 9, none, .bin .lss .val (.t 8) (.t 7)⟩]) [0, 1, 7, 8, 9]
 (.seq (.cond (.t 9) (.skip) (.exit 0)) [0, 1, 7, 8]
 (.seq (.block 1 (.seq (.reg false [⟨some 10, none, .mv (.t 8)⟩,
  ⟨some 5, none, .mv (.t 10)⟩]) [0, 1, 5, 7, 8]
 (.seq (.reg false [⟨some 11, none, .mv (.t 1)⟩,
  ⟨some 12, none, .mv (.t 0)⟩,
  ⟨some 13, none, .mv (.t 5)⟩,
  ⟨some 14, none, .iaddr 1 (.t 12) (.t 13)⟩,
  ⟨some 15, none, .load false 1 (.t 14)⟩,
  ⟨some 16, none, .bin .eql .val (.t 11) (.t 15)⟩]) [0, 1, 5, 7, 8, 16]
 (.cond (.t 16) (.seq (.reg false [⟨some 17, none, .mv (.t 5)⟩,
  ⟨some 4, none, .mv (.t 17)⟩]) [4]
 (.ret)) (.skip))))) [0, 1, 7, 8]
 (.reg false [⟨some 18, none, .bin .add .val (.t 8) (.c (.int .i64 (1)))⟩,
  ⟨some 8, none, .mv (.t 18)⟩]))))
def f40 : AFunc := { np := 2, nt := 19, res := [.tmp 4], own := false, body := (.seq (.reg false [⟨some 4, none, .mv (.c (.int .i64 (0)))⟩]) [0, 1]
 (.seq (.seq (.reg false [⟨some 6, none, .mv (.t 0)⟩,
  ⟨some 7, none, .len false (.t 6)⟩,
  ⟨some 8, none, .mv (.c (.int .i64 (0)))⟩]) [0, 1, 7, 8]
 (.block 0 (.loop [0, 1, 7, 8] f40l0))) []
 (.seq (.reg false [⟨some 4, none, .mv (.c (.int .i64 (-1)))⟩]) [4]
 (.ret)))) }
/- spec.l2Place -/
def f41 : AFunc := { np := 1, nt := 5, res := [.tmp 2], own := false, body := (.seq (.reg false [⟨some 2, none, .mv (.c (.bool false))⟩]) [0]
 (.seq (.reg false [⟨some 3, none, .mv (.t 0)⟩,
  ⟨some 4, none, .pcall (.f 37) [.t 3, .c (.int .i64 (-1000000000)), .c (.int .i64 (1000000000))]⟩,
  ⟨some 2, none, .mv (.t 4)⟩]) [2]
 (.ret))) }
/- spec.l2Ends -/
def f42 : AFunc := { np := 3, nt := 31, res := [.tmp 6, .tmp 7], own := false, body := (.seq (.reg false [⟨some 6, none, .mv (.c (.int .i64 (0)))⟩,
  ⟨some 7, none, .mv (.c (.int .i64 (0)))⟩]) [0, 1, 2]
 (.seq (.seq (.reg false [⟨some 8, none, .mv (.t 1)⟩,
  ⟨some 9, none, .bin .lss .val (.t 8) (.c (.int .i64 (0)))⟩]) [0, 1, 2, 9]
 (.cond (.t 9) (.reg false [⟨some 10, none, .mv (.t 1)⟩,
  ⟨some 11, none, .mv (.t 0)⟩,
  ⟨some 12, none, .bin .add .val (.t 10) (.t 11)⟩,
  ⟨some 1, none, .mv (.t 12)⟩]) (.skip))) [0, 1, 2]
 (.seq (.seq (.reg false [⟨some 13, none, .mv (.t 2)⟩,
  ⟨some 14, none, .bin .lss .val (.t 13) (.c (.int .i64 (0)))⟩]) [0, 1, 2, 14]
 (.cond (.t 14) (.reg false [⟨some 15, none, .mv (.t 2)⟩,
  ⟨some 16, none, .mv (.t 0)⟩,
  ⟨some 17, none, .bin .add .val (.t 15) (.t 16)⟩,
  ⟨some 2, none, .mv (.t 17)⟩]) (.skip))) [0, 1, 2]
 (.seq (.seq (.reg false [⟨some 18, none, .mv (.t 1)⟩,
  ⟨some 19, none, .bin .lss .val (.t 18) (.c (.int .i64 (0)))⟩]) [0, 1, 2, 19]
 (.cond (.t 19) (.reg false [⟨some 1, none, .mv (.c (.int .i64 (0)))⟩]) (.skip))) [0, 1, 2]
 (.seq (.seq (.reg false [⟨some 20, none, .mv (.t 2)⟩,
  ⟨some 21, none, .mv (.t 0)⟩,
  ⟨some 22, none, .bin .geq .val (.t 20) (.t 21)⟩]) [0, 1, 2, 22]
 (.cond (.t 22) (.reg false [⟨some 23, none, .mv (.t 0)⟩,
  ⟨some 24, none, .bin .sub .val (.t 23) (.c (.int .i64 (1)))⟩,
  ⟨some 2, none, .mv (.t 24)⟩]) (.skip))) [1, 2]
 (.seq (.seq (.reg false [⟨some 25, none, .mv (.t 1)⟩,
  ⟨some 26, none, .mv (.t 2)⟩,
  ⟨some 27, none, .bin .gtr .val (.t 25) (.t 26)⟩]) [1, 2, 27]
 (.cond (.t 27) (.seq (.reg false [⟨some 6, none, .mv (.c (.int .i64 (0)))⟩,
  ⟨some 7, none, .mv (.c (.int .i64 (0)))⟩]) [6, 7]
 (.ret)) (.skip))) [1, 2]
 (.seq (.reg false [⟨some 28, none, .mv (.t 1)⟩,
  ⟨some 29, none, .mv (.t 2)⟩,
  ⟨some 30, none, .bin .add .val (.t 29) (.c (.int .i64 (1)))⟩,
  ⟨some 6, none, .mv (.t 28)⟩,
  ⟨some 7, none, .mv (.t 30)⟩]) [6, 7]
 (.ret)))))))) }
/- impl.span -/
def f43 : AFunc := { np := 3, nt := 38, res := [.tmp 6, .tmp 7], own := false, body := (.seq (.reg false [⟨some 6, none, .mv (.c (.int .i64 (0)))⟩,
  ⟨some 7, none, .mv (.c (.int .i64 (0)))⟩]) [0, 1, 2]
 (.seq (.seq (.reg false [⟨some 8, none, .mv (.t 1)⟩,
  ⟨some 9, none, .pcall (.f 64) [.t 8]⟩,
  ⟨some 10, none, .un .not (.t 9)⟩,
  ⟨some 11, none, .mv (.t 10)⟩,
  ⟨some 12, some (11, false), .mv (.t 2)⟩,
  ⟨some 13, some (11, false), .pcall (.f 64) [.t 12]⟩,
  ⟨some 14, some (11, false), .un .not (.t 13)⟩,
  ⟨some 15, none, .pick (.t 11) (.c (.bool true)) (.t 14)⟩]) [0, 1, 2, 15]
 (.cond (.t 15) (.seq (.reg false [⟨some 6, none, .mv (.c (.int .i64 (0)))⟩,
  ⟨some 7, none, .mv (.c (.int .i64 (0)))⟩]) [6, 7]
 (.ret)) (.skip))) [0, 1, 2]
 (.seq (.seq (.reg false [⟨some 16, none, .mv (.t 1)⟩,
  ⟨some 17, none, .bin .lss .val (.t 16) (.c (.int .i64 (0)))⟩]) [0, 1, 2, 17]
 (.cond (.t 17) (.reg false [⟨some 18, none, .mv (.t 1)⟩,
  ⟨some 19, none, .mv (.t 0)⟩,
  ⟨some 20, none, .bin .add .val (.t 18) (.t 19)⟩,
  ⟨some 1, none, .mv (.t 20)⟩]) (.skip))) [0, 1, 2]
 (.seq (.seq (.reg false [⟨some 21, none, .mv (.t 2)⟩,
  ⟨some 22, none, .bin .lss .val (.t 21) (.c (.int .i64 (0)))⟩]) [0, 1, 2, 22]
 (.cond (.t 22) (.reg false [⟨some 23, none, .mv (.t 2)⟩,
  ⟨some 24, none, .mv (.t 0)⟩,
  ⟨some 25, none, .bin .add .val (.t 23) (.t 24)⟩,
  ⟨some 2, none, .mv (.t 25)⟩]) (.skip))) [0, 1, 2]
 (.seq (.reg false [⟨some 26, none, .mv (.t 1)⟩,
  ⟨some 27, none, .mnmx true [.t 26, .c (.int .i64 (0))]⟩,
  ⟨some 28, none, .mv (.t 2)⟩,
  ⟨some 29, none, .mv (.t 0)⟩,
  ⟨some 30, none, .bin .sub .val (.t 29) (.c (.int .i64 (1)))⟩,
  ⟨some 31, none, .mnmx false [.t 28, .t 30]⟩,
  ⟨some 1, none, .mv (.t 27)⟩,
  ⟨some 2, none, .mv (.t 31)⟩]) [1, 2]
 (.seq (.seq (.reg false [⟨some 32, none, .mv (.t 1)⟩,
  ⟨some 33, none, .mv (.t 2)⟩,
  ⟨some 34, none, .bin .gtr .val (.t 32) (.t 33)⟩]) [1, 2, 34]
 (.cond (.t 34) (.seq (.reg false [⟨some 6, none, .mv (.c (.int .i64 (0)))⟩,
  ⟨some 7, none, .mv (.c (.int .i64 (0)))⟩]) [6, 7]
 (.ret)) (.skip))) [1, 2]
 (.seq (.reg false [⟨some 35, none, .mv (.t 1)⟩,
  ⟨some 36, none, .mv (.t 2)⟩,
  ⟨some 37, none, .bin .add .val (.t 36) (.c (.int .i64 (1)))⟩,
  ⟨some 6, none, .mv (.t 35)⟩,
  ⟨some 7, none, .mv (.t 37)⟩]) [6, 7]
 (.ret)))))))) }
/- bits.OnesCount8 -/
def f44 : AFunc := { np := 1, nt := 6, res := [.tmp 2], own := false, body := (.seq (.reg false [⟨some 2, none, .mv (.c (.int .i64 (0)))⟩]) [0]
 (.seq (.reg false [⟨some 3, none, .mv (.t 0)⟩,
  ⟨some 4, none, .idx (.c (.str [0, 1, 1, 2, 1, 2, 2, 3, 1, 2, 2, 3, 2, 3, 3, 4, 1, 2, 2, 3, 2, 3, 3, 4, 2, 3, 3, 4, 3, 4, 4, 5, 1, 2, 2, 3, 2, 3, 3, 4, 2, 3, 3, 4, 3, 4, 4, 5, 2, 3, 3, 4, 3, 4, 4, 5, 3, 4, 4, 5, 4, 5, 5, 6, 1, 2, 2, 3, 2, 3, 3, 4, 2, 3, 3, 4, 3, 4, 4, 5, 2, 3, 3, 4, 3, 4, 4, 5, 3, 4, 4, 5, 4, 5, 5, 6, 2, 3, 3, 4, 3, 4, 4, 5, 3, 4, 4, 5, 4, 5, 5, 6, 3, 4, 4, 5, 4, 5, 5, 6, 4, 5, 5, 6, 5, 6, 6, 7, 1, 2, 2, 3, 2, 3, 3, 4, 2, 3, 3, 4, 3, 4, 4, 5, 2, 3, 3, 4, 3, 4, 4, 5, 3, 4, 4, 5, 4, 5, 5, 6, 2, 3, 3, 4, 3, 4, 4, 5, 3, 4, 4, 5, 4, 5, 5, 6, 3, 4, 4, 5, 4, 5, 5, 6, 4, 5, 5, 6, 5, 6, 6, 7, 2, 3, 3, 4, 3, 4, 4, 5, 3, 4, 4, 5, 4, 5, 5, 6, 3, 4, 4, 5, 4, 5, 5, 6, 4, 5, 5, 6, 5, 6, 6, 7, 3, 4, 4, 5, 4, 5, 5, 6, 4, 5, 5, 6, 5, 6, 6, 7, 4, 5, 5, 6, 5, 6, 6, 7, 5, 6, 6, 7, 6, 7, 7, 8])) (.t 3)⟩,
  ⟨some 5, none, .cvInt .i64 (.t 4)⟩,
  ⟨some 2, none, .mv (.t 5)⟩]) [2]
 (.ret))) }
/- spec.l1Open -/
def f45 : AFunc := { np := 1, nt := 11, res := [.tmp 2], own := true, body := (.seq (.reg false [⟨some 2, none, .mv (.c .nilp)⟩]) [0]
 (.seq (.seq (.reg false [⟨some 3, none, .mv (.t 0)⟩,
  ⟨some 4, none, .len false (.t 3)⟩,
  ⟨some 5, none, .bin .gtr .val (.t 4) (.c (.int .i64 (2000)))⟩]) [0, 5]
 (.cond (.t 5) (.reg false [⟨some 6, none, .mv (.t 0)⟩,
  ⟨some 7, none, .slice (some 1) (.t 6) none (some (.c (.int .i64 (2000))))⟩,
  ⟨some 0, none, .mv (.t 7)⟩]) (.skip))) [0]
 (.seq (.reg false [⟨some 8, none, .mv (.t 0)⟩,
  ⟨some 9, none, .build [.nils 1, .d (.int .i64 (0))] [(0, 1, .t 8)]⟩,
  ⟨some 10, none, .box (.t 9)⟩,
  ⟨some 2, none, .mv (.t 10)⟩]) [2]
 (.ret)))) }
/- spec.l11AnyTexts -/
def f46l0 : ACode := (.seq (.seq (.reg false [⟨some 16, none, .mv (.t 3)⟩,
  ⟨some 17, none, .len false (.t 16)⟩,
  ⟨some 18, none, .mv (.t 0)⟩,
  ⟨some 19, none, .call (.f 49) [(false, .t 18), (false, .c (.int .i64 (2)))] false⟩,
  ⟨some 20, none, .bin .add .val (.c (.int .i64 (16))) (.t 19)⟩,
  ⟨some 21, none, .bin .lss .val (.t 17) (.t 20)⟩]) [0, 3, 21]
 (.cond (.t 21) (.skip) (.exit 1))) [0, 3]
 (.block 2 (.reg false [⟨some 22, none, .mv (.t 3)⟩,
  ⟨some 23, none, .mv (.t 3)⟩,
  ⟨some 24, none, .len false (.t 23)⟩,
  ⟨some 25, none, .pcall (.f 67) [.t 24]⟩,
  ⟨some 26, none, .bin .add .val (.c (.str [110])) (.t 25)⟩,
  ⟨some 27, none, .lit false 1 [.t 26]⟩,
  ⟨some 28, none, .append 1 16 (.t 22) (.t 27)⟩,
  ⟨some 3, none, .mv (.t 28)⟩])))
def f46 : AFunc := { np := 1, nt := 30, res := [.tmp 2], own := false, body := (.seq (.reg false [⟨some 2, none, .mv (.nil 1)⟩]) [0]
 (.seq (.reg false [⟨some 4, none, .mv (.t 0)⟩,
  ⟨some 5, none, .call (.f 65) [(false, .t 4), (false, .c (.int .i64 (6)))] false⟩,
  ⟨some 3, none, .mv (.t 5)⟩]) [0, 3]
 (.seq (.seq (.reg false [⟨some 6, none, .mv (.t 0)⟩,
  ⟨some 7, none, .call (.f 49) [(false, .t 6), (false, .c (.int .i64 (16)))] false⟩]) [0, 3, 7]
 (.block 0 (.seq (.reg false [⟨some 9, none, .bin .eql .val (.t 7) (.c (.int .i64 (0)))⟩,
  ⟨some 8, none, .mv (.t 9)⟩]) [0, 3, 7, 8]
 (.cond (.t 8) (.reg false [⟨some 10, none, .mv (.t 3)⟩,
  ⟨some 11, none, .pcall (.f 66) [.c (.str [121]), .c (.int .i64 (41))]⟩,
  ⟨some 12, none, .lit false 1 [.t 11]⟩,
  ⟨some 13, none, .append 1 16 (.t 10) (.t 12)⟩,
  ⟨some 3, none, .mv (.t 13)⟩]) (.seq (.reg false [⟨some 15, none, .bin .eql .val (.t 7) (.c (.int .i64 (1)))⟩,
  ⟨some 14, none, .mv (.t 15)⟩]) [0, 3, 14]
 (.cond (.t 14) (.block 1 (.loop [0, 3] f46l0)) (.skip))))))) [3]
 (.seq (.reg false [⟨some 29, none, .mv (.t 3)⟩,
  ⟨some 2, none, .mv (.t 29)⟩]) [2]
 (.ret))))) }
/- spec.l11Text -/
def f47 : AFunc := { np := 1, nt := 7, res := [.tmp 2], own := false, body := (.seq (.reg false [⟨some 2, none, .mv (.c (.str []))⟩]) [0]
 (.seq (.reg false [⟨some 3, none, .mv (.t 0)⟩,
  ⟨some 4, none, .pcall (.f 66) [.c (.str [120]), .c (.int .i64 (40))]⟩,
  ⟨some 5, none, .lit false 1 [.c (.str []), .c (.str [97]), .c (.str [98]), .c (.str [99]), .c (.str [53]), .c (.str [45, 51]), .c (.str [104, 101, 108, 108, 111]), .c (.str [13, 10]), .c (.str [255]), .t 4, .c (.str [57, 57, 57, 57, 57, 57, 57, 57, 57])]⟩,
  ⟨some 6, none, .call (.f 48) [(false, .t 3), (false, .t 5)] false⟩,
  ⟨some 2, none, .mv (.t 6)⟩]) [2]
 (.ret))) }
/- spec.l1Rd).of -/
def f48 : AFunc := { np := 2, nt := 12, res := [.tmp 4], own := false, body := (.seq (.reg false [⟨some 4, none, .mv (.c (.str []))⟩]) [0, 1]
 (.seq (.reg false [⟨some 5, none, .mv (.t 1)⟩,
  ⟨some 6, none, .mv (.t 0)⟩,
  ⟨some 7, none, .mv (.t 1)⟩,
  ⟨some 8, none, .len false (.t 7)⟩,
  ⟨some 9, none, .call (.f 49) [(false, .t 6), (false, .t 8)] false⟩,
  ⟨some 10, none, .iaddr 1 (.t 5) (.t 9)⟩,
  ⟨some 11, none, .load false 1 (.t 10)⟩,
  ⟨some 4, none, .mv (.t 11)⟩]) [4]
 (.ret))) }
/- spec.l1Rd).pick -/
def f49 : AFunc := { np := 2, nt := 99, res := [.tmp 4], own := false, body := (.seq (.reg false [⟨some 4, none, .mv (.c (.int .i64 (0)))⟩]) [0, 1]
 (.seq (.reg false [⟨some 7, none, .mv (.t 0)⟩,
  ⟨some 8, none, .mv (.t 0)⟩,
  ⟨some 9, none, .nilck (.t 8)⟩,
  ⟨some 10, none, .faddr 1 (.t 9)⟩,
  ⟨some 11, none, .load false 1 (.t 10)⟩,
  ⟨some 12, none, .bin .add .val (.t 11) (.c (.int .i64 (1)))⟩,
  ⟨some 13, none, .nilck (.t 7)⟩,
  ⟨some 14, none, .faddr 1 (.t 13)⟩,
  ⟨none, none, .store 1 (.t 14) (.t 12)⟩]) [0, 1]
 (.seq (.seq (.reg false [⟨some 15, none, .mv (.t 1)⟩,
  ⟨some 16, none, .bin .lss .val (.t 15) (.c (.int .i64 (1)))⟩,
  ⟨some 17, none, .mv (.t 16)⟩,
  ⟨some 18, some (17, false), .mv (.t 0)⟩,
  ⟨some 19, some (17, false), .nilck (.t 18)⟩,
  ⟨some 20, some (17, false), .faddr 0 (.t 19)⟩,
  ⟨some 21, some (17, false), .load false 1 (.t 20)⟩,
  ⟨some 22, some (17, false), .len false (.t 21)⟩,
  ⟨some 23, some (17, false), .bin .eql .val (.t 22) (.c (.int .i64 (0)))⟩,
  ⟨some 24, none, .pick (.t 17) (.c (.bool true)) (.t 23)⟩]) [0, 1, 24]
 (.cond (.t 24) (.seq (.reg false [⟨some 4, none, .mv (.c (.int .i64 (0)))⟩]) [4]
 (.ret)) (.skip))) [0, 1]
 (.seq (.reg false [⟨some 25, none, .mv (.t 0)⟩,
  ⟨some 26, none, .nilck (.t 25)⟩,
  ⟨some 27, none, .faddr 1 (.t 26)⟩,
  ⟨some 28, none, .load false 1 (.t 27)⟩,
  ⟨some 29, none, .bin .sub .val (.t 28) (.c (.int .i64 (1)))⟩,
  ⟨some 5, none, .mv (.t 29)⟩]) [0, 1, 5]
 (.seq (.seq (.reg false [⟨some 30, none, .mv (.t 5)⟩,
  ⟨some 31, none, .mv (.t 0)⟩,
  ⟨some 32, none, .nilck (.t 31)⟩,
  ⟨some 33, none, .faddr 0 (.t 32)⟩,
  ⟨some 34, none, .load false 1 (.t 33)⟩,
  ⟨some 35, none, .len false (.t 34)⟩,
  ⟨some 36, none, .bin .lss .val (.t 30) (.t 35)⟩]) [0, 1, 5, 36]
 (.cond (.t 36) (.seq (.reg false [⟨some 37, none, .mv (.t 0)⟩,
  ⟨some 38, none, .nilck (.t 37)⟩,
  ⟨some 39, none, .faddr 0 (.t 38)⟩,
  ⟨some 40, none, .load false 1 (.t 39)⟩,
  ⟨some 41, none, .mv (.t 5)⟩,
  ⟨some 42, none, .iaddr 1 (.t 40) (.t 41)⟩,
  ⟨some 43, none, .load false 1 (.t 42)⟩,
  ⟨some 44, none, .cvInt .i64 (.t 43)⟩,
  ⟨some 45, none, .mv (.t 1)⟩,
  ⟨some 46, none, .bin .rem .val (.t 44) (.t 45)⟩,
  ⟨some 4, none, .mv (.t 46)⟩]) [4]
 (.ret)) (.skip))) [0, 1, 5]
 (.seq (.reg true [⟨some 47, none, .mv (.t 0)⟩,
  ⟨some 48, none, .nilck (.t 47)⟩,
  ⟨some 49, none, .faddr 0 (.t 48)⟩,
  ⟨some 50, none, .load false 1 (.t 49)⟩,
  ⟨some 51, none, .mv (.t 5)⟩,
  ⟨some 52, none, .mv (.t 0)⟩,
  ⟨some 53, none, .nilck (.t 52)⟩,
  ⟨some 54, none, .faddr 0 (.t 53)⟩,
  ⟨some 55, none, .load false 1 (.t 54)⟩,
  ⟨some 56, none, .len false (.t 55)⟩,
  ⟨some 57, none, .bin .rem .val (.t 51) (.t 56)⟩,
  ⟨some 58, none, .iaddr 1 (.t 50) (.t 57)⟩,
  ⟨some 59, none, .load false 1 (.t 58)⟩,
  ⟨some 60, none, .cvInt .i64 (.t 59)⟩,
  ⟨some 61, none, .bin .mul .val (.t 60) (.c (.int .i64 (131)))⟩,
  ⟨some 62, none, .mv (.t 0)⟩,
  ⟨some 63, none, .nilck (.t 62)⟩,
  ⟨some 64, none, .faddr 0 (.t 63)⟩,
  ⟨some 65, none, .load false 1 (.t 64)⟩,
  ⟨some 66, none, .mv (.t 5)⟩,
  ⟨some 67, none, .bin .mul .val (.t 66) (.c (.int .i64 (7)))⟩,
  ⟨some 68, none, .bin .add .val (.t 67) (.c (.int .i64 (3)))⟩,
  ⟨some 69, none, .mv (.t 0)⟩,
  ⟨some 70, none, .nilck (.t 69)⟩,
  ⟨some 71, none, .faddr 0 (.t 70)⟩,
  ⟨some 72, none, .load false 1 (.t 71)⟩,
  ⟨some 73, none, .len false (.t 72)⟩,
  ⟨some 74, none, .bin .rem .val (.t 68) (.t 73)⟩,
  ⟨some 75, none, .iaddr 1 (.t 65) (.t 74)⟩,
  ⟨some 76, none, .load false 1 (.t 75)⟩,
  ⟨some 77, none, .cvInt .i64 (.t 76)⟩,
  ⟨some 78, none, .bin .mul .val (.t 77) (.c (.int .i64 (1117)))⟩,
  ⟨some 79, none, .bin .add .val (.t 61) (.t 78)⟩,
  ⟨some 80, none, .mv (.t 5)⟩,
  ⟨some 81, none, .bin .mul .val (.t 80) (.c (.int .i64 (29)))⟩,
  ⟨some 82, none, .bin .add .val (.t 79) (.t 81)⟩,
  ⟨some 83, none, .mv (.t 5)⟩,
  ⟨some 84, none, .mv (.t 0)⟩,
  ⟨some 85, none, .nilck (.t 84)⟩,
  ⟨some 86, none, .faddr 0 (.t 85)⟩,
  ⟨some 87, none, .load false 1 (.t 86)⟩,
  ⟨some 88, none, .len false (.t 87)⟩,
  ⟨some 89, none, .bin .quo .val (.t 83) (.t 88)⟩,
  ⟨some 90, none, .bin .mul .val (.t 89) (.c (.int .i64 (53)))⟩,
  ⟨some 91, none, .bin .add .val (.t 82) (.t 90)⟩,
  ⟨some 6, none, .mv (.t 91)⟩]) [1, 6]
 (.seq (.reg false [⟨some 92, none, .mv (.t 6)⟩,
  ⟨some 93, none, .mv (.t 6)⟩,
  ⟨some 94, none, .bin .quo .val (.t 93) (.c (.int .i64 (64)))⟩,
  ⟨some 95, none, .bin .xor .val (.t 92) (.t 94)⟩,
  ⟨some 6, none, .mv (.t 95)⟩]) [1, 6]
 (.seq (.reg false [⟨some 96, none, .mv (.t 6)⟩,
  ⟨some 97, none, .mv (.t 1)⟩,
  ⟨some 98, none, .bin .rem .val (.t 96) (.t 97)⟩,
  ⟨some 4, none, .mv (.t 98)⟩]) [4]
 (.ret))))))))) }
/- spec.OrderPut -/
def f50 : AFunc := { np := 1, nt := 8, res := [.tmp 2], own := false, body := (.seq (.reg false [⟨some 2, none, .mv (.c (.str []))⟩]) [0]
 (.seq (.seq (.reg false [⟨some 3, none, .mv (.t 0)⟩,
  ⟨some 4, none, .pcall (.f 68) [.t 3]⟩,
  ⟨some 5, none, .un .not (.t 4)⟩]) [0, 5]
 (.cond (.t 5) (.seq (.reg false [⟨some 2, none, .mv (.c (.str []))⟩]) [2]
 (.ret)) (.skip))) [0]
 (.seq (.reg false [⟨some 6, none, .mv (.t 0)⟩,
  ⟨some 7, none, .pcall (.f 69) [.t 6]⟩,
  ⟨some 2, none, .mv (.t 7)⟩]) [2]
 (.ret)))) }
/- spec.l11Order -/
def f51 : AFunc := { np := 1, nt := 157, res := [.tmp 2], own := false, body := (.seq (.reg false [⟨some 2, none, .mv (.nil 1)⟩]) [0]
 (.seq (.reg false [⟨some 5, none, .mv (.t 0)⟩,
  ⟨some 6, none, .call (.f 70) [(false, .t 5)] false⟩,
  ⟨some 3, none, .mv (.t 6)⟩]) [0, 3]
 (.seq (.reg false [⟨some 7, none, .mv (.t 0)⟩,
  ⟨some 8, none, .call (.f 47) [(false, .t 7)] false⟩,
  ⟨some 4, none, .mv (.t 8)⟩]) [0, 3, 4]
 (.seq (.seq (.reg false [⟨some 9, none, .mv (.t 0)⟩,
  ⟨some 10, none, .call (.f 49) [(false, .t 9), (false, .c (.int .i64 (12)))] false⟩]) [0, 3, 4, 10]
 (.block 0 (.seq (.reg false [⟨some 12, none, .bin .eql .val (.t 10) (.c (.int .i64 (0)))⟩,
  ⟨some 11, none, .mv (.t 12)⟩]) [0, 3, 4, 10, 11]
 (.cond (.t 11) (.seq (.reg false [⟨some 13, none, .mv (.t 0)⟩,
  ⟨some 14, none, .lit false 1 [.c (.str [71, 69, 84]), .c (.str [83, 84, 82, 76, 69, 78]), .c (.str [73, 78, 67, 82]), .c (.str [76, 80, 79, 80]), .c (.str [82, 80, 79, 80]), .c (.str [76, 76, 69, 78]), .c (.str [83, 77, 69, 77, 66, 69, 82, 83]), .c (.str [83, 67, 65, 82, 68]), .c (.str [90, 67, 65, 82, 68]), .c (.str [72, 71, 69, 84, 65, 76, 76]), .c (.str [72, 76, 69, 78]), .c (.str [84, 89, 80, 69]), .c (.str [84, 84, 76]), .c (.str [80, 69, 82, 83, 73, 83, 84])]⟩,
  ⟨some 15, none, .call (.f 48) [(false, .t 13), (false, .t 14)] false⟩,
  ⟨some 16, none, .mv (.t 3)⟩,
  ⟨some 17, none, .lit false 1 [.t 15, .t 16]⟩,
  ⟨some 2, none, .mv (.t 17)⟩]) [2]
 (.ret)) (.seq (.reg false [⟨some 19, none, .bin .eql .val (.t 10) (.c (.int .i64 (1)))⟩,
  ⟨some 18, none, .mv (.t 19)⟩]) [0, 3, 4, 10, 18]
 (.cond (.t 18) (.seq (.reg false [⟨some 20, none, .mv (.t 0)⟩,
  ⟨some 21, none, .lit false 1 [.c (.str [107]), .c (.str [107, 50])]⟩,
  ⟨some 22, none, .call (.f 48) [(false, .t 20), (false, .t 21)] false⟩,
  ⟨some 23, none, .mv (.t 4)⟩,
  ⟨some 24, none, .lit false 1 [.c (.str [83, 69, 84]), .t 22, .t 23]⟩,
  ⟨some 2, none, .mv (.t 24)⟩]) [2]
 (.ret)) (.seq (.reg false [⟨some 26, none, .bin .eql .val (.t 10) (.c (.int .i64 (2)))⟩,
  ⟨some 25, none, .mv (.t 26)⟩]) [0, 3, 4, 10, 25]
 (.cond (.t 25) (.seq (.reg false [⟨some 27, none, .mv (.t 0)⟩,
  ⟨some 28, none, .lit false 1 [.c (.str [65, 80, 80, 69, 78, 68]), .c (.str [73, 78, 67, 82, 66, 89])]⟩,
  ⟨some 29, none, .call (.f 48) [(false, .t 27), (false, .t 28)] false⟩,
  ⟨some 30, none, .mv (.t 0)⟩,
  ⟨some 31, none, .lit false 1 [.c (.str [107]), .c (.str [107, 50])]⟩,
  ⟨some 32, none, .call (.f 48) [(false, .t 30), (false, .t 31)] false⟩,
  ⟨some 33, none, .mv (.t 0)⟩,
  ⟨some 34, none, .mv (.t 4)⟩,
  ⟨some 35, none, .mv (.t 0)⟩,
  ⟨some 36, none, .call (.f 71) [(false, .t 35)] false⟩,
  ⟨some 37, none, .lit false 1 [.t 34, .t 36]⟩,
  ⟨some 38, none, .call (.f 48) [(false, .t 33), (false, .t 37)] false⟩,
  ⟨some 39, none, .lit false 1 [.t 29, .t 32, .t 38]⟩,
  ⟨some 2, none, .mv (.t 39)⟩]) [2]
 (.ret)) (.seq (.reg false [⟨some 41, none, .bin .eql .val (.t 10) (.c (.int .i64 (3)))⟩,
  ⟨some 40, none, .mv (.t 41)⟩]) [0, 3, 4, 10, 40]
 (.cond (.t 40) (.seq (.reg false [⟨some 42, none, .mv (.t 0)⟩,
  ⟨some 43, none, .lit false 1 [.c (.str [76, 80, 85, 83, 72]), .c (.str [82, 80, 85, 83, 72])]⟩,
  ⟨some 44, none, .call (.f 48) [(false, .t 42), (false, .t 43)] false⟩,
  ⟨some 45, none, .mv (.t 0)⟩,
  ⟨some 46, none, .lit false 1 [.c (.str [108]), .c (.str [108]), .c (.str [107])]⟩,
  ⟨some 47, none, .call (.f 48) [(false, .t 45), (false, .t 46)] false⟩,
  ⟨some 48, none, .mv (.t 4)⟩,
  ⟨some 49, none, .lit true 1 [.t 44, .t 47, .t 48]⟩,
  ⟨some 50, none, .mv (.t 0)⟩,
  ⟨some 51, none, .call (.f 65) [(false, .t 50), (false, .c (.int .i64 (3)))] false⟩,
  ⟨some 52, none, .append 1 16 (.t 49) (.t 51)⟩,
  ⟨some 2, none, .mv (.t 52)⟩]) [2]
 (.ret)) (.seq (.reg false [⟨some 54, none, .bin .eql .val (.t 10) (.c (.int .i64 (4)))⟩,
  ⟨some 53, none, .mv (.t 54)⟩]) [0, 3, 4, 10, 53]
 (.cond (.t 53) (.seq (.reg false [⟨some 55, none, .mv (.t 0)⟩,
  ⟨some 56, none, .lit false 1 [.c (.str [76, 82, 65, 78, 71, 69]), .c (.str [76, 84, 82, 73, 77]), .c (.str [76, 83, 69, 84]), .c (.str [76, 82, 69, 77]), .c (.str [71, 69, 84, 82, 65, 78, 71, 69])]⟩,
  ⟨some 57, none, .call (.f 48) [(false, .t 55), (false, .t 56)] false⟩,
  ⟨some 58, none, .mv (.t 0)⟩,
  ⟨some 59, none, .lit false 1 [.c (.str [108]), .c (.str [108]), .c (.str [107])]⟩,
  ⟨some 60, none, .call (.f 48) [(false, .t 58), (false, .t 59)] false⟩,
  ⟨some 61, none, .mv (.t 0)⟩,
  ⟨some 62, none, .call (.f 71) [(false, .t 61)] false⟩,
  ⟨some 63, none, .mv (.t 0)⟩,
  ⟨some 64, none, .mv (.t 0)⟩,
  ⟨some 65, none, .call (.f 71) [(false, .t 64)] false⟩,
  ⟨some 66, none, .mv (.t 4)⟩,
  ⟨some 67, none, .lit false 1 [.t 65, .t 66]⟩,
  ⟨some 68, none, .call (.f 48) [(false, .t 63), (false, .t 67)] false⟩,
  ⟨some 69, none, .lit false 1 [.t 57, .t 60, .t 62, .t 68]⟩,
  ⟨some 2, none, .mv (.t 69)⟩]) [2]
 (.ret)) (.seq (.reg false [⟨some 71, none, .bin .eql .val (.t 10) (.c (.int .i64 (5)))⟩,
  ⟨some 70, none, .mv (.t 71)⟩]) [0, 3, 4, 10, 70]
 (.cond (.t 70) (.seq (.reg false [⟨some 72, none, .mv (.t 0)⟩,
  ⟨some 73, none, .lit false 1 [.c (.str [83, 65, 68, 68]), .c (.str [83, 65, 68, 68]), .c (.str [83, 82, 69, 77])]⟩,
  ⟨some 74, none, .call (.f 48) [(false, .t 72), (false, .t 73)] false⟩,
  ⟨some 75, none, .mv (.t 0)⟩,
  ⟨some 76, none, .lit false 1 [.c (.str [115]), .c (.str [115, 50])]⟩,
  ⟨some 77, none, .call (.f 48) [(false, .t 75), (false, .t 76)] false⟩,
  ⟨some 78, none, .mv (.t 4)⟩,
  ⟨some 79, none, .lit true 1 [.t 74, .t 77, .t 78]⟩,
  ⟨some 80, none, .mv (.t 0)⟩,
  ⟨some 81, none, .call (.f 65) [(false, .t 80), (false, .c (.int .i64 (2)))] false⟩,
  ⟨some 82, none, .append 1 16 (.t 79) (.t 81)⟩,
  ⟨some 2, none, .mv (.t 82)⟩]) [2]
 (.ret)) (.seq (.reg false [⟨some 84, none, .bin .eql .val (.t 10) (.c (.int .i64 (6)))⟩,
  ⟨some 83, none, .mv (.t 84)⟩]) [0, 3, 4, 10, 83]
 (.cond (.t 83) (.seq (.reg false [⟨some 85, none, .mv (.t 0)⟩,
  ⟨some 86, none, .lit false 1 [.c (.str [83, 73, 83, 77, 69, 77, 66, 69, 82]), .c (.str [83, 73, 78, 84, 69, 82]), .c (.str [83, 85, 78, 73, 79, 78]), .c (.str [83, 68, 73, 70, 70])]⟩,
  ⟨some 87, none, .call (.f 48) [(false, .t 85), (false, .t 86)] false⟩,
  ⟨some 88, none, .mv (.t 0)⟩,
  ⟨some 89, none, .lit false 1 [.c (.str [115]), .c (.str [115, 50])]⟩,
  ⟨some 90, none, .call (.f 48) [(false, .t 88), (false, .t 89)] false⟩,
  ⟨some 91, none, .mv (.t 0)⟩,
  ⟨some 92, none, .mv (.t 4)⟩,
  ⟨some 93, none, .lit false 1 [.c (.str [115]), .c (.str [115, 50]), .t 92]⟩,
  ⟨some 94, none, .call (.f 48) [(false, .t 91), (false, .t 93)] false⟩,
  ⟨some 95, none, .lit false 1 [.t 87, .t 90, .t 94]⟩,
  ⟨some 2, none, .mv (.t 95)⟩]) [2]
 (.ret)) (.seq (.reg false [⟨some 97, none, .bin .eql .val (.t 10) (.c (.int .i64 (7)))⟩,
  ⟨some 96, none, .mv (.t 97)⟩]) [0, 3, 4, 10, 96]
 (.cond (.t 96) (.seq (.reg false [⟨some 98, none, .mv (.t 0)⟩,
  ⟨some 99, none, .lit false 1 [.c (.str [90, 65, 68, 68]), .c (.str [90, 65, 68, 68]), .c (.str [90, 73, 78, 67, 82, 66, 89]), .c (.str [90, 82, 65, 78, 71, 69]), .c (.str [90, 82, 65, 78, 71, 69, 66, 89, 83, 67, 79, 82, 69])]⟩,
  ⟨some 100, none, .call (.f 48) [(false, .t 98), (false, .t 99)] false⟩,
  ⟨some 101, none, .mv (.t 0)⟩,
  ⟨some 102, none, .call (.f 71) [(false, .t 101)] false⟩,
  ⟨some 103, none, .mv (.t 0)⟩,
  ⟨some 104, none, .mv (.t 4)⟩,
  ⟨some 105, none, .mv (.t 0)⟩,
  ⟨some 106, none, .call (.f 71) [(false, .t 105)] false⟩,
  ⟨some 107, none, .lit false 1 [.t 104, .t 106]⟩,
  ⟨some 108, none, .call (.f 48) [(false, .t 103), (false, .t 107)] false⟩,
  ⟨some 109, none, .lit false 1 [.t 100, .c (.str [122]), .t 102, .t 108]⟩,
  ⟨some 2, none, .mv (.t 109)⟩]) [2]
 (.ret)) (.seq (.reg false [⟨some 111, none, .bin .eql .val (.t 10) (.c (.int .i64 (8)))⟩,
  ⟨some 110, none, .mv (.t 111)⟩]) [0, 3, 4, 10, 110]
 (.cond (.t 110) (.seq (.reg false [⟨some 112, none, .mv (.t 0)⟩,
  ⟨some 113, none, .lit false 1 [.c (.str [90, 82, 69, 77]), .c (.str [90, 83, 67, 79, 82, 69]), .c (.str [90, 82, 65, 78, 75]), .c (.str [72, 71, 69, 84]), .c (.str [72, 68, 69, 76])]⟩,
  ⟨some 114, none, .call (.f 48) [(false, .t 112), (false, .t 113)] false⟩,
  ⟨some 115, none, .mv (.t 0)⟩,
  ⟨some 116, none, .lit false 1 [.c (.str [122]), .c (.str [104])]⟩,
  ⟨some 117, none, .call (.f 48) [(false, .t 115), (false, .t 116)] false⟩,
  ⟨some 118, none, .mv (.t 4)⟩,
  ⟨some 119, none, .lit false 1 [.t 114, .t 117, .t 118]⟩,
  ⟨some 2, none, .mv (.t 119)⟩]) [2]
 (.ret)) (.seq (.reg false [⟨some 121, none, .bin .eql .val (.t 10) (.c (.int .i64 (9)))⟩,
  ⟨some 120, none, .mv (.t 121)⟩]) [0, 3, 4, 10, 120]
 (.cond (.t 120) (.seq (.reg false [⟨some 122, none, .mv (.t 0)⟩,
  ⟨some 123, none, .lit false 1 [.c (.str [72, 83, 69, 84]), .c (.str [72, 83, 69, 84]), .c (.str [72, 73, 78, 67, 82, 66, 89])]⟩,
  ⟨some 124, none, .call (.f 48) [(false, .t 122), (false, .t 123)] false⟩,
  ⟨some 125, none, .mv (.t 0)⟩,
  ⟨some 126, none, .mv (.t 4)⟩,
  ⟨some 127, none, .lit false 1 [.c (.str [97]), .c (.str [98]), .t 126]⟩,
  ⟨some 128, none, .call (.f 48) [(false, .t 125), (false, .t 127)] false⟩,
  ⟨some 129, none, .mv (.t 0)⟩,
  ⟨some 130, none, .mv (.t 4)⟩,
  ⟨some 131, none, .mv (.t 0)⟩,
  ⟨some 132, none, .call (.f 71) [(false, .t 131)] false⟩,
  ⟨some 133, none, .lit false 1 [.t 130, .t 132]⟩,
  ⟨some 134, none, .call (.f 48) [(false, .t 129), (false, .t 133)] false⟩,
  ⟨some 135, none, .lit false 1 [.t 124, .c (.str [104]), .t 128, .t 134]⟩,
  ⟨some 2, none, .mv (.t 135)⟩]) [2]
 (.ret)) (.seq (.reg false [⟨some 137, none, .bin .eql .val (.t 10) (.c (.int .i64 (10)))⟩,
  ⟨some 136, none, .mv (.t 137)⟩]) [0, 3, 136]
 (.cond (.t 136) (.seq (.reg false [⟨some 138, none, .mv (.t 0)⟩,
  ⟨some 139, none, .lit false 1 [.c (.str [69, 88, 80, 73, 82, 69]), .c (.str [69, 88, 80, 73, 82, 69, 65, 84]), .c (.str [82, 69, 78, 65, 77, 69])]⟩,
  ⟨some 140, none, .call (.f 48) [(false, .t 138), (false, .t 139)] false⟩,
  ⟨some 141, none, .mv (.t 3)⟩,
  ⟨some 142, none, .mv (.t 0)⟩,
  ⟨some 143, none, .lit false 1 [.c (.str [53]), .c (.str [49]), .c (.str [49, 48, 48]), .c (.str [107]), .c (.str [108]), .c (.str [107, 50]), .c (.str [45, 49]), .c (.str [49, 48, 48, 48, 48, 48, 49])]⟩,
  ⟨some 144, none, .call (.f 48) [(false, .t 142), (false, .t 143)] false⟩,
  ⟨some 145, none, .lit false 1 [.t 140, .t 141, .t 144]⟩,
  ⟨some 2, none, .mv (.t 145)⟩]) [2]
 (.ret)) (.skip))))))))))))))))))))))))) [0, 3]
 (.seq (.reg false [⟨some 146, none, .mv (.t 0)⟩,
  ⟨some 147, none, .lit false 1 [.c (.str [68, 69, 76]), .c (.str [69, 88, 73, 83, 84, 83]), .c (.str [75, 69, 89, 83]), .c (.str [68, 66, 83, 73, 90, 69]), .c (.str [70, 76, 85, 83, 72]), .c (.str [78, 79, 78, 69]), .c (.str [68, 69, 76])]⟩,
  ⟨some 148, none, .call (.f 48) [(false, .t 146), (false, .t 147)] false⟩,
  ⟨some 149, none, .mv (.t 0)⟩,
  ⟨some 150, none, .mv (.t 3)⟩,
  ⟨some 151, none, .lit false 1 [.t 150, .c (.str [42]), .c (.str [63]), .c (.str [107, 42]), .c (.str [])]⟩,
  ⟨some 152, none, .call (.f 48) [(false, .t 149), (false, .t 151)] false⟩,
  ⟨some 153, none, .lit true 1 [.t 148, .t 152]⟩,
  ⟨some 154, none, .mv (.t 0)⟩,
  ⟨some 155, none, .call (.f 65) [(false, .t 154), (false, .c (.int .i64 (1)))] false⟩,
  ⟨some 156, none, .append 1 16 (.t 153) (.t 155)⟩,
  ⟨some 2, none, .mv (.t 156)⟩]) [2]
 (.ret)))))) }
/- spec.l11Cut -/
def f52 : AFunc := { np := 2, nt := 32, res := [.tmp 4], own := false, body := (.seq (.reg false [⟨some 4, none, .mv (.c (.str []))⟩]) [0, 1]
 (.seq (.reg false [⟨some 6, none, .mv (.t 0)⟩,
  ⟨some 7, none, .mv (.t 1)⟩,
  ⟨some 8, none, .len true (.t 7)⟩,
  ⟨some 9, none, .bin .add .val (.t 8) (.c (.int .i64 (1)))⟩,
  ⟨some 10, none, .call (.f 49) [(false, .t 6), (false, .t 9)] false⟩,
  ⟨some 5, none, .mv (.t 10)⟩]) [0, 1, 5]
 (.seq (.seq (.reg false [⟨some 11, none, .mv (.t 0)⟩,
  ⟨some 12, none, .call (.f 49) [(false, .t 11), (false, .c (.int .i64 (5)))] false⟩]) [0, 1, 5, 12]
 (.block 0 (.seq (.reg false [⟨some 14, none, .bin .eql .val (.t 12) (.c (.int .i64 (0)))⟩,
  ⟨some 13, none, .mv (.t 14)⟩]) [0, 1, 5, 12, 13]
 (.cond (.t 13) (.seq (.reg true [⟨some 15, none, .mv (.t 1)⟩,
  ⟨some 16, none, .mv (.t 5)⟩,
  ⟨some 17, none, .slice none (.t 15) none (some (.t 16))⟩,
  ⟨some 18, none, .mv (.t 0)⟩,
  ⟨some 19, none, .lit false 1 [.c (.str [48]), .c (.str [42]), .c (.str [36]), .c (.str [13]), .c (.str [10]), .c (.str [120])]⟩,
  ⟨some 20, none, .call (.f 48) [(false, .t 18), (false, .t 19)] false⟩,
  ⟨some 21, none, .bin .add .val (.t 17) (.t 20)⟩,
  ⟨some 22, none, .mv (.t 1)⟩,
  ⟨some 23, none, .mv (.t 5)⟩,
  ⟨some 24, none, .slice none (.t 22) (some (.t 23)) none⟩,
  ⟨some 25, none, .bin .add .val (.t 21) (.t 24)⟩,
  ⟨some 4, none, .mv (.t 25)⟩]) [4]
 (.ret)) (.seq (.reg false [⟨some 27, none, .bin .eql .val (.t 12) (.c (.int .i64 (1)))⟩,
  ⟨some 26, none, .mv (.t 27)⟩]) [1, 5, 26]
 (.cond (.t 26) (.seq (.reg false [⟨some 28, none, .mv (.t 1)⟩,
  ⟨some 29, none, .mv (.t 5)⟩,
  ⟨some 30, none, .slice none (.t 28) none (some (.t 29))⟩,
  ⟨some 4, none, .mv (.t 30)⟩]) [4]
 (.ret)) (.skip))))))) [1]
 (.seq (.reg false [⟨some 31, none, .mv (.t 1)⟩,
  ⟨some 4, none, .mv (.t 31)⟩]) [4]
 (.ret))))) }
/- impl.wire).number -/
def f53l0 : ACode := (.seq (.seq (.reg false [⟨some 19, none, .mv (.t 0)⟩,
  ⟨some 20, none, .nilck (.t 19)⟩,
  ⟨some 21, none, .faddr 2 (.t 20)⟩,
  ⟨some 22, none, .load false 1 (.t 21)⟩,
  ⟨some 23, none, .un .not (.t 22)⟩,
  ⟨some 24, none, .mv (.t 23)⟩,
  ⟨some 25, some (24, true), .mv (.t 0)⟩,
  ⟨some 26, some (24, true), .nilck (.t 25)⟩,
  ⟨some 27, some (24, true), .faddr 3 (.t 26)⟩,
  ⟨some 28, some (24, true), .load false 1 (.t 27)⟩,
  ⟨some 29, some (24, true), .un .not (.t 28)⟩,
  ⟨some 30, none, .pick (.t 24) (.t 29) (.c (.bool false))⟩]) [0, 2, 3, 9, 10, 30]
 (.cond (.t 30) (.skip) (.exit 0))) [0, 2, 3, 9, 10]
 (.block 1 (.seq (.seq (.reg true [⟨some 31, none, .mv (.t 0)⟩,
  ⟨some 32, none, .nilck (.t 31)⟩,
  ⟨some 33, none, .faddr 1 (.t 32)⟩,
  ⟨some 34, none, .load false 1 (.t 33)⟩,
  ⟨some 35, none, .mv (.t 0)⟩,
  ⟨some 36, none, .nilck (.t 35)⟩,
  ⟨some 37, none, .faddr 0 (.t 36)⟩,
  ⟨some 38, none, .load false 1 (.t 37)⟩,
  ⟨some 39, none, .len true (.t 38)⟩,
  ⟨some 40, none, .bin .eql .val (.t 34) (.t 39)⟩]) [0, 2, 3, 9, 10, 40]
 (.cond (.t 40) (.seq (.reg false [⟨some 41, none, .mv (.t 0)⟩,
  ⟨some 42, none, .nilck (.t 41)⟩,
  ⟨some 43, none, .faddr 2 (.t 42)⟩,
  ⟨none, none, .store 1 (.t 43) (.c (.bool true))⟩]) [0, 9, 10]
 (.exit 0)) (.skip))) [0, 2, 3, 9, 10]
 (.seq (.reg true [⟨some 44, none, .mv (.t 0)⟩,
  ⟨some 45, none, .nilck (.t 44)⟩,
  ⟨some 46, none, .faddr 0 (.t 45)⟩,
  ⟨some 47, none, .load false 1 (.t 46)⟩,
  ⟨some 48, none, .mv (.t 0)⟩,
  ⟨some 49, none, .nilck (.t 48)⟩,
  ⟨some 50, none, .faddr 1 (.t 49)⟩,
  ⟨some 51, none, .load false 1 (.t 50)⟩,
  ⟨some 52, none, .idx (.t 47) (.t 51)⟩,
  ⟨some 11, none, .mv (.t 52)⟩]) [0, 2, 3, 9, 10, 11]
 (.seq (.seq (.reg false [⟨some 53, none, .mv (.t 11)⟩,
  ⟨some 54, none, .bin .lss .val (.t 53) (.c (.int .u8 (48)))⟩,
  ⟨some 55, none, .mv (.t 54)⟩,
  ⟨some 56, some (55, false), .mv (.t 11)⟩,
  ⟨some 57, some (55, false), .bin .gtr .val (.t 56) (.c (.int .u8 (57)))⟩,
  ⟨some 58, none, .pick (.t 55) (.c (.bool true)) (.t 57)⟩]) [0, 2, 3, 9, 10, 11, 58]
 (.cond (.t 58) (.exit 0) (.skip))) [0, 2, 3, 9, 10, 11]
 (.seq (.seq (.reg false [⟨some 59, none, .mv (.t 0)⟩,
  ⟨some 60, none, .nilck (.t 59)⟩,
  ⟨some 61, none, .faddr 1 (.t 60)⟩,
  ⟨some 62, none, .load false 1 (.t 61)⟩,
  ⟨some 63, none, .mv (.t 10)⟩,
  ⟨some 64, none, .bin .gtr .val (.t 62) (.t 63)⟩,
  ⟨some 65, none, .mv (.t 64)⟩,
  ⟨some 66, some (65, true), .mv (.t 9)⟩,
  ⟨some 67, some (65, true), .bin .eql .val (.t 66) (.c (.int .i64 (0)))⟩,
  ⟨some 68, none, .pick (.t 65) (.t 67) (.c (.bool false))⟩]) [0, 2, 3, 9, 10, 11, 68]
 (.cond (.t 68) (.seq (.reg false [⟨some 69, none, .mv (.t 0)⟩,
  ⟨some 70, none, .nilck (.t 69)⟩,
  ⟨some 71, none, .faddr 3 (.t 70)⟩,
  ⟨none, none, .store 1 (.t 71) (.c (.bool true))⟩]) [0, 9, 10]
 (.exit 0)) (.skip))) [0, 2, 3, 9, 10, 11]
 (.seq (.reg false [⟨some 72, none, .mv (.t 9)⟩,
  ⟨some 73, none, .bin .mul .val (.c (.int .i64 (10))) (.t 72)⟩,
  ⟨some 74, none, .mv (.t 11)⟩,
  ⟨some 75, none, .bin .sub .val (.t 74) (.c (.int .u8 (48)))⟩,
  ⟨some 76, none, .cvInt .i64 (.t 75)⟩,
  ⟨some 77, none, .bin .add .val (.t 73) (.t 76)⟩,
  ⟨some 9, none, .mv (.t 77)⟩]) [0, 2, 3, 9, 10]
 (.seq (.seq (.reg false [⟨some 78, none, .mv (.t 9)⟩,
  ⟨some 79, none, .mv (.t 2)⟩,
  ⟨some 80, none, .mv (.t 3)⟩,
  ⟨some 81, none, .pcall (.f 35) [.t 78, .t 79, .t 80]⟩,
  ⟨some 82, none, .un .not (.t 81)⟩]) [0, 2, 3, 9, 10, 82]
 (.cond (.t 82) (.reg false [⟨some 83, none, .mv (.t 0)⟩,
  ⟨some 84, none, .nilck (.t 83)⟩,
  ⟨some 85, none, .faddr 3 (.t 84)⟩,
  ⟨none, none, .store 1 (.t 85) (.c (.bool true))⟩]) (.skip))) [0, 2, 3, 9, 10]
 (.reg false [⟨some 86, none, .mv (.t 0)⟩,
  ⟨some 87, none, .nilck (.t 86)⟩,
  ⟨some 88, none, .faddr 1 (.t 87)⟩,
  ⟨some 89, none, .load false 1 (.t 88)⟩,
  ⟨some 90, none, .bin .add .val (.t 89) (.c (.int .i64 (1)))⟩,
  ⟨some 91, none, .nilck (.t 86)⟩,
  ⟨some 92, none, .faddr 1 (.t 91)⟩,
  ⟨none, none, .store 1 (.t 92) (.t 90)⟩])))))))))
def f53 : AFunc := { np := 4, nt := 114, res := [.tmp 8], own := false, body := (.seq (.reg false [⟨some 8, none, .mv (.c (.int .i64 (0)))⟩]) [0, 1, 2, 3]
 (.seq (.reg false [⟨some 12, none, .mv (.t 0)⟩,
  ⟨some 13, none, .mv (.t 1)⟩,
  ⟨some 14, none, .call (.f 54) [(false, .t 12), (false, .t 13)] false⟩]) [0, 2, 3]
 (.seq (.reg true [⟨some 15, none, .mv (.t 0)⟩,
  ⟨some 16, none, .nilck (.t 15)⟩,
  ⟨some 17, none, .faddr 1 (.t 16)⟩,
  ⟨some 18, none, .load false 1 (.t 17)⟩,
  ⟨some 9, none, .mv (.c (.int .i64 (0)))⟩,
  ⟨some 10, none, .mv (.t 18)⟩]) [0, 2, 3, 9, 10]
 (.seq (.block 0 (.loop [0, 2, 3, 9, 10] f53l0)) [0, 9, 10]
 (.seq (.seq (.reg false [⟨some 93, none, .mv (.t 0)⟩,
  ⟨some 94, none, .nilck (.t 93)⟩,
  ⟨some 95, none, .faddr 1 (.t 94)⟩,
  ⟨some 96, none, .load false 1 (.t 95)⟩,
  ⟨some 97, none, .mv (.t 10)⟩,
  ⟨some 98, none, .bin .eql .val (.t 96) (.t 97)⟩,
  ⟨some 99, none, .mv (.t 98)⟩,
  ⟨some 100, some (99, true), .mv (.t 0)⟩,
  ⟨some 101, some (99, true), .nilck (.t 100)⟩,
  ⟨some 102, some (99, true), .faddr 2 (.t 101)⟩,
  ⟨some 103, some (99, true), .load false 1 (.t 102)⟩,
  ⟨some 104, some (99, true), .un .not (.t 103)⟩,
  ⟨some 105, none, .pick (.t 99) (.t 104) (.c (.bool false))⟩]) [0, 9, 105]
 (.cond (.t 105) (.reg false [⟨some 106, none, .mv (.t 0)⟩,
  ⟨some 107, none, .nilck (.t 106)⟩,
  ⟨some 108, none, .faddr 3 (.t 107)⟩,
  ⟨none, none, .store 1 (.t 108) (.c (.bool true))⟩]) (.skip))) [0, 9]
 (.seq (.reg false [⟨some 109, none, .mv (.t 0)⟩,
  ⟨some 110, none, .call (.f 54) [(false, .t 109), (false, .c (.int .u8 (13)))] false⟩]) [0, 9]
 (.seq (.reg false [⟨some 111, none, .mv (.t 0)⟩,
  ⟨some 112, none, .call (.f 54) [(false, .t 111), (false, .c (.int .u8 (10)))] false⟩]) [9]
 (.seq (.reg false [⟨some 113, none, .mv (.t 9)⟩,
  ⟨some 8, none, .mv (.t 113)⟩]) [8]
 (.ret))))))))) }
/- impl.wire).byte -/
def f54 : AFunc := { np := 2, nt := 51, res := [], own := false, body := (.block 0 (.seq (.reg false [⟨some 12, none, .mv (.t 0)⟩,
  ⟨some 13, none, .nilck (.t 12)⟩,
  ⟨some 14, none, .faddr 2 (.t 13)⟩,
  ⟨some 15, none, .load false 1 (.t 14)⟩,
  ⟨some 16, none, .mv (.t 15)⟩,
  ⟨some 17, some (16, false), .mv (.t 0)⟩,
  ⟨some 18, some (16, false), .nilck (.t 17)⟩,
  ⟨some 19, some (16, false), .faddr 3 (.t 18)⟩,
  ⟨some 20, some (16, false), .load false 1 (.t 19)⟩,
  ⟨some 21, none, .pick (.t 16) (.c (.bool true)) (.t 20)⟩,
  ⟨some 11, none, .mv (.t 21)⟩]) [0, 1, 11]
 (.cond (.t 11) (.skip) (.seq (.reg true [⟨some 23, none, .mv (.t 0)⟩,
  ⟨some 24, none, .nilck (.t 23)⟩,
  ⟨some 25, none, .faddr 1 (.t 24)⟩,
  ⟨some 26, none, .load false 1 (.t 25)⟩,
  ⟨some 27, none, .mv (.t 0)⟩,
  ⟨some 28, none, .nilck (.t 27)⟩,
  ⟨some 29, none, .faddr 0 (.t 28)⟩,
  ⟨some 30, none, .load false 1 (.t 29)⟩,
  ⟨some 31, none, .len true (.t 30)⟩,
  ⟨some 32, none, .bin .eql .val (.t 26) (.t 31)⟩,
  ⟨some 22, none, .mv (.t 32)⟩]) [0, 1, 22]
 (.cond (.t 22) (.reg false [⟨some 33, none, .mv (.t 0)⟩,
  ⟨some 34, none, .nilck (.t 33)⟩,
  ⟨some 35, none, .faddr 2 (.t 34)⟩,
  ⟨none, none, .store 1 (.t 35) (.c (.bool true))⟩]) (.seq (.reg true [⟨some 37, none, .mv (.t 0)⟩,
  ⟨some 38, none, .nilck (.t 37)⟩,
  ⟨some 39, none, .faddr 0 (.t 38)⟩,
  ⟨some 40, none, .load false 1 (.t 39)⟩,
  ⟨some 41, none, .mv (.t 0)⟩,
  ⟨some 42, none, .nilck (.t 41)⟩,
  ⟨some 43, none, .faddr 1 (.t 42)⟩,
  ⟨some 44, none, .load false 1 (.t 43)⟩,
  ⟨some 45, none, .idx (.t 40) (.t 44)⟩,
  ⟨some 46, none, .mv (.t 1)⟩,
  ⟨some 47, none, .bin .neq .val (.t 45) (.t 46)⟩,
  ⟨some 36, none, .mv (.t 47)⟩]) [0, 36]
 (.cond (.t 36) (.reg false [⟨some 48, none, .mv (.t 0)⟩,
  ⟨some 49, none, .nilck (.t 48)⟩,
  ⟨some 50, none, .faddr 3 (.t 49)⟩,
  ⟨none, none, .store 1 (.t 50) (.c (.bool true))⟩]) (.reg false [⟨some 4, none, .mv (.t 0)⟩,
  ⟨some 5, none, .nilck (.t 4)⟩,
  ⟨some 6, none, .faddr 1 (.t 5)⟩,
  ⟨some 7, none, .load false 1 (.t 6)⟩,
  ⟨some 8, none, .bin .add .val (.t 7) (.c (.int .i64 (1)))⟩,
  ⟨some 9, none, .nilck (.t 4)⟩,
  ⟨some 10, none, .faddr 1 (.t 9)⟩,
  ⟨none, none, .store 1 (.t 10) (.t 8)⟩])))))))) }
/- spec.l1Head -/
def f55l0 : ACode := (.seq (.seq (.reg false [⟨some 12, none, .mv (.t 11)⟩,
  ⟨some 13, none, .mv (.t 0)⟩,
  ⟨some 14, none, .len true (.t 13)⟩,
  ⟨some 15, none, .bin .lss .val (.t 12) (.t 14)⟩,
  ⟨some 16, none, .mv (.t 15)⟩,
  ⟨some 17, some (16, true), .mv (.t 0)⟩,
  ⟨some 18, some (16, true), .mv (.t 11)⟩,
  ⟨some 19, some (16, true), .idx (.t 17) (.t 18)⟩,
  ⟨some 20, some (16, true), .bin .geq .val (.t 19) (.c (.int .u8 (48)))⟩,
  ⟨some 21, none, .pick (.t 16) (.t 20) (.c (.bool false))⟩,
  ⟨some 22, none, .mv (.t 21)⟩,
  ⟨some 23, some (22, true), .mv (.t 0)⟩,
  ⟨some 24, some (22, true), .mv (.t 11)⟩,
  ⟨some 25, some (22, true), .idx (.t 23) (.t 24)⟩,
  ⟨some 26, some (22, true), .bin .leq .val (.t 25) (.c (.int .u8 (57)))⟩,
  ⟨some 27, none, .pick (.t 22) (.t 26) (.c (.bool false))⟩,
  ⟨some 28, none, .mv (.t 27)⟩,
  ⟨some 29, some (28, true), .mv (.t 11)⟩,
  ⟨some 30, some (28, true), .bin .lss .val (.t 29) (.c (.int .i64 (4)))⟩,
  ⟨some 31, none, .pick (.t 28) (.t 30) (.c (.bool false))⟩]) [0, 1, 2, 3, 11, 31]
 (.cond (.t 31) (.skip) (.exit 0))) [0, 1, 2, 3, 11]
 (.block 1 (.reg false [⟨some 32, none, .mv (.t 11)⟩,
  ⟨some 33, none, .bin .add .val (.t 32) (.c (.int .i64 (1)))⟩,
  ⟨some 11, none, .mv (.t 33)⟩])))
def f55 : AFunc := { np := 4, nt := 96, res := [.tmp 8, .tmp 9, .tmp 10], own := false, body := (.seq (.reg false [⟨some 8, none, .mv (.c (.int .i64 (0)))⟩,
  ⟨some 9, none, .mv (.c (.str []))⟩,
  ⟨some 10, none, .mv (.c (.int .i64 (0)))⟩]) [0, 1, 2, 3]
 (.seq (.reg false [⟨some 11, none, .mv (.c (.int .i64 (1)))⟩]) [0, 1, 2, 3, 11]
 (.seq (.block 0 (.loop [0, 1, 2, 3, 11] f55l0)) [0, 1, 2, 3, 11]
 (.seq (.seq (.reg false [⟨some 34, none, .mv (.t 0)⟩,
  ⟨some 35, none, .len true (.t 34)⟩,
  ⟨some 36, none, .bin .eql .val (.t 35) (.c (.int .i64 (0)))⟩]) [0, 1, 2, 3, 11, 36]
 (.cond (.t 36) (.seq (.reg false [⟨some 8, none, .mv (.c (.int .i64 (0)))⟩,
  ⟨some 9, none, .mv (.c (.str []))⟩,
  ⟨some 10, none, .mv (.c (.int .i64 (0)))⟩]) [8, 9, 10]
 (.ret)) (.skip))) [0, 1, 2, 3, 11]
 (.seq (.seq (.reg false [⟨some 37, none, .mv (.t 0)⟩,
  ⟨some 38, none, .idx (.t 37) (.c (.int .i64 (0)))⟩,
  ⟨some 39, none, .mv (.t 1)⟩,
  ⟨some 40, none, .bin .neq .val (.t 38) (.t 39)⟩,
  ⟨some 41, none, .mv (.t 40)⟩,
  ⟨some 42, some (41, false), .mv (.t 11)⟩,
  ⟨some 43, some (41, false), .mv (.t 0)⟩,
  ⟨some 44, some (41, false), .len true (.t 43)⟩,
  ⟨some 45, some (41, false), .bin .lss .val (.t 42) (.t 44)⟩,
  ⟨some 46, some (41, false), .mv (.t 45)⟩,
  ⟨some 47, some (46, true), .mv (.t 11)⟩,
  ⟨some 48, some (46, true), .bin .eql .val (.t 47) (.c (.int .i64 (1)))⟩,
  ⟨some 49, some (46, true), .mv (.t 48)⟩,
  ⟨some 50, some (49, false), .mv (.t 0)⟩,
  ⟨some 51, some (49, false), .mv (.t 11)⟩,
  ⟨some 52, some (49, false), .idx (.t 50) (.t 51)⟩,
  ⟨some 53, some (49, false), .bin .neq .val (.t 52) (.c (.int .u8 (13)))⟩,
  ⟨some 54, some (46, true), .pick (.t 49) (.c (.bool true)) (.t 53)⟩,
  ⟨some 55, some (41, false), .pick (.t 46) (.t 54) (.c (.bool false))⟩,
  ⟨some 56, none, .pick (.t 41) (.c (.bool true)) (.t 55)⟩,
  ⟨some 57, none, .mv (.t 56)⟩,
  ⟨some 58, some (57, false), .mv (.t 11)⟩,
  ⟨some 59, some (57, false), .bin .add .val (.t 58) (.c (.int .i64 (1)))⟩,
  ⟨some 60, some (57, false), .mv (.t 0)⟩,
  ⟨some 61, some (57, false), .len true (.t 60)⟩,
  ⟨some 62, some (57, false), .bin .lss .val (.t 59) (.t 61)⟩,
  ⟨some 63, some (57, false), .mv (.t 62)⟩,
  ⟨some 64, some (63, true), .mv (.t 0)⟩,
  ⟨some 65, some (63, true), .mv (.t 11)⟩,
  ⟨some 66, some (63, true), .bin .add .val (.t 65) (.c (.int .i64 (1)))⟩,
  ⟨some 67, some (63, true), .idx (.t 64) (.t 66)⟩,
  ⟨some 68, some (63, true), .bin .neq .val (.t 67) (.c (.int .u8 (10)))⟩,
  ⟨some 69, some (57, false), .pick (.t 63) (.t 68) (.c (.bool false))⟩,
  ⟨some 70, none, .pick (.t 57) (.c (.bool true)) (.t 69)⟩]) [0, 2, 3, 11, 70]
 (.cond (.t 70) (.seq (.reg false [⟨some 8, none, .mv (.c (.int .i64 (0)))⟩,
  ⟨some 9, none, .mv (.c (.str []))⟩,
  ⟨some 10, none, .mv (.c (.int .i64 (-1)))⟩]) [8, 9, 10]
 (.ret)) (.skip))) [0, 2, 3, 11]
 (.seq (.seq (.reg false [⟨some 71, none, .mv (.t 11)⟩,
  ⟨some 72, none, .bin .gtr .val (.t 71) (.c (.int .i64 (1)))⟩,
  ⟨some 73, none, .mv (.t 72)⟩,
  ⟨some 74, some (73, true), .mv (.t 0)⟩,
  ⟨some 75, some (73, true), .mv (.t 11)⟩,
  ⟨some 76, some (73, true), .slice none (.t 74) (some (.c (.int .i64 (1)))) (some (.t 75))⟩,
  ⟨some 77, some (73, true), .pcall (.f 72) [.t 76]⟩,
  ⟨some 78, some (73, true), .mv (.t 2)⟩,
  ⟨some 79, some (73, true), .mv (.t 3)⟩,
  ⟨some 80, some (73, true), .pcall (.f 37) [.t 77, .t 78, .t 79]⟩,
  ⟨some 81, some (73, true), .un .not (.t 80)⟩,
  ⟨some 82, none, .pick (.t 73) (.t 81) (.c (.bool false))⟩]) [0, 11, 82]
 (.cond (.t 82) (.seq (.reg false [⟨some 8, none, .mv (.c (.int .i64 (0)))⟩,
  ⟨some 9, none, .mv (.c (.str []))⟩,
  ⟨some 10, none, .mv (.c (.int .i64 (-1)))⟩]) [8, 9, 10]
 (.ret)) (.skip))) [0, 11]
 (.seq (.seq (.reg false [⟨some 83, none, .mv (.t 11)⟩,
  ⟨some 84, none, .bin .add .val (.t 83) (.c (.int .i64 (1)))⟩,
  ⟨some 85, none, .mv (.t 0)⟩,
  ⟨some 86, none, .len true (.t 85)⟩,
  ⟨some 87, none, .bin .geq .val (.t 84) (.t 86)⟩]) [0, 11, 87]
 (.cond (.t 87) (.seq (.reg false [⟨some 8, none, .mv (.c (.int .i64 (0)))⟩,
  ⟨some 9, none, .mv (.c (.str []))⟩,
  ⟨some 10, none, .mv (.c (.int .i64 (0)))⟩]) [8, 9, 10]
 (.ret)) (.skip))) [0, 11]
 (.seq (.reg true [⟨some 88, none, .mv (.t 0)⟩,
  ⟨some 89, none, .mv (.t 11)⟩,
  ⟨some 90, none, .slice none (.t 88) (some (.c (.int .i64 (1)))) (some (.t 89))⟩,
  ⟨some 91, none, .pcall (.f 72) [.t 90]⟩,
  ⟨some 92, none, .mv (.t 0)⟩,
  ⟨some 93, none, .mv (.t 11)⟩,
  ⟨some 94, none, .bin .add .val (.t 93) (.c (.int .i64 (2)))⟩,
  ⟨some 95, none, .slice none (.t 92) (some (.t 94)) none⟩,
  ⟨some 8, none, .mv (.t 91)⟩,
  ⟨some 9, none, .mv (.t 95)⟩,
  ⟨some 10, none, .mv (.c (.int .i64 (1)))⟩]) [8, 9, 10]
 (.ret))))))))) }
/- impl.newClient -/
def f56 : AFunc := { np := 0, nt := 5, res := [.cell 0 true 6], own := false, body := (.seq (.reg false [⟨some 0, none, .alloc (.agg [.d (.bool false), .d (.bool false), .nils 1, .nils 1, .d (.bool false), .nils 1])⟩]) [0]
 (.seq (.reg false [⟨some 1, none, .lit false 1 []⟩,
  ⟨some 2, none, .lit false 1 []⟩,
  ⟨some 3, none, .lit false 1 []⟩,
  ⟨some 4, none, .build [.d (.bool false), .d (.bool false), .nils 1, .nils 1, .d (.bool false), .nils 1] [(2, 1, .t 1), (3, 1, .t 2), (5, 1, .t 3)]⟩,
  ⟨none, none, .store 6 (.t 0) (.t 4)⟩]) [0]
 (.ret))) }
/- laws.eqBase -/
def f57 : AFunc := { np := 2, nt := 16, res := [.tmp 4], own := false, body := (.seq (.reg false [⟨some 2, none, .box (.t 0)⟩,
  ⟨some 3, none, .box (.t 1)⟩,
  ⟨some 4, none, .mv (.c (.bool false))⟩]) [2, 3]
 (.seq (.seq (.reg false [⟨some 5, none, .faddr 0 (.t 2)⟩,
  ⟨some 6, none, .load false 1 (.t 5)⟩,
  ⟨some 7, none, .faddr 0 (.t 3)⟩,
  ⟨some 8, none, .load false 1 (.t 7)⟩,
  ⟨some 9, none, .bin .neq .val (.t 6) (.t 8)⟩]) [2, 3, 9]
 (.cond (.t 9) (.seq (.reg false [⟨some 4, none, .mv (.c (.bool false))⟩]) [4]
 (.ret)) (.skip))) [2, 3]
 (.seq (.seq (.reg false [⟨some 10, none, .faddr 1 (.t 2)⟩,
  ⟨some 11, none, .load false 1 (.t 10)⟩,
  ⟨some 12, none, .faddr 1 (.t 3)⟩,
  ⟨some 13, none, .load false 1 (.t 12)⟩,
  ⟨some 14, none, .pcall (.f 73) [.t 11, .t 13]⟩,
  ⟨some 15, none, .un .not (.t 14)⟩]) [15]
 (.cond (.t 15) (.seq (.reg false [⟨some 4, none, .mv (.c (.bool false))⟩]) [4]
 (.ret)) (.skip))) []
 (.seq (.reg false [⟨some 4, none, .mv (.c (.bool true))⟩]) [4]
 (.ret))))) }
/- laws.eqClientS -/
def f58l0 : ACode := (.seq (.seq (.reg false [⟨some 11, none, .mv (.t 5)⟩,
  ⟨some 12, none, .mv (.t 0)⟩,
  ⟨some 13, none, .len false (.t 12)⟩,
  ⟨some 14, none, .bin .lss .val (.t 11) (.t 13)⟩]) [0, 1, 5, 14]
 (.cond (.t 14) (.skip) (.exit 0))) [0, 1, 5]
 (.seq (.block 1 (.seq (.reg true [⟨some 17, none, .mv (.t 0)⟩,
  ⟨some 18, none, .mv (.t 5)⟩,
  ⟨some 19, none, .iaddr 6 (.t 17) (.t 18)⟩,
  ⟨some 20, none, .load true 6 (.t 19)⟩,
  ⟨some 21, none, .mv (.t 1)⟩,
  ⟨some 22, none, .mv (.t 5)⟩,
  ⟨some 23, none, .iaddr 6 (.t 21) (.t 22)⟩,
  ⟨some 24, none, .load true 6 (.t 23)⟩,
  ⟨some 25, none, .pcall (.f 74) [.t 20, .t 24]⟩,
  ⟨some 26, none, .un .not (.t 25)⟩]) [0, 1, 5, 26]
 (.cond (.t 26) (.seq (.reg false [⟨some 4, none, .mv (.c (.bool false))⟩]) [4]
 (.ret)) (.skip)))) [0, 1, 5]
 (.reg false [⟨some 15, none, .mv (.t 5)⟩,
  ⟨some 16, none, .bin .add .val (.t 15) (.c (.int .i64 (1)))⟩,
  ⟨some 5, none, .mv (.t 16)⟩])))
def f58 : AFunc := { np := 2, nt := 27, res := [.tmp 4], own := false, body := (.seq (.reg false [⟨some 4, none, .mv (.c (.bool false))⟩]) [0, 1]
 (.seq (.seq (.reg false [⟨some 6, none, .mv (.t 0)⟩,
  ⟨some 7, none, .len false (.t 6)⟩,
  ⟨some 8, none, .mv (.t 1)⟩,
  ⟨some 9, none, .len false (.t 8)⟩,
  ⟨some 10, none, .bin .neq .val (.t 7) (.t 9)⟩]) [0, 1, 10]
 (.cond (.t 10) (.seq (.reg false [⟨some 4, none, .mv (.c (.bool false))⟩]) [4]
 (.ret)) (.skip))) [0, 1]
 (.seq (.seq (.reg false [⟨some 5, none, .mv (.c (.int .i64 (0)))⟩]) [0, 1, 5]
 (.block 0 (.loop [0, 1, 5] f58l0))) []
 (.seq (.reg false [⟨some 4, none, .mv (.c (.bool true))⟩]) [4]
 (.ret))))) }
/- laws.markBase -/
def f59 : AFunc := { np := 2, nt := 10, res := [.tmp 4], own := false, body := (.seq (.reg false [⟨some 2, none, .box (.t 0)⟩,
  ⟨some 4, none, .mv (.c (.int .i64 (0)))⟩]) [1, 2]
 (.seq (.reg false [⟨some 5, none, .faddr 1 (.t 2)⟩,
  ⟨some 6, none, .load false 1 (.t 5)⟩,
  ⟨some 7, none, .mv (.t 1)⟩,
  ⟨some 8, none, .call (.f 75) [(false, .t 6), (false, .t 7)] false⟩,
  ⟨some 1, none, .mv (.t 8)⟩]) [1]
 (.seq (.reg false [⟨some 9, none, .mv (.t 1)⟩,
  ⟨some 4, none, .mv (.t 9)⟩]) [4]
 (.ret)))) }
/- laws.markClientS -/
def f60l0 : ACode := (.seq (.seq (.reg false [⟨some 6, none, .mv (.t 5)⟩,
  ⟨some 7, none, .mv (.t 0)⟩,
  ⟨some 8, none, .len false (.t 7)⟩,
  ⟨some 9, none, .bin .lss .val (.t 6) (.t 8)⟩]) [0, 1, 5, 9]
 (.cond (.t 9) (.skip) (.exit 0))) [0, 1, 5]
 (.seq (.block 1 (.seq (.reg false [⟨some 12, none, .mv (.t 0)⟩,
  ⟨some 13, none, .mv (.t 5)⟩,
  ⟨some 14, none, .mv (.t 1)⟩,
  ⟨some 15, none, .bin .rem .val (.t 14) (.c (.int .i64 (3)))⟩,
  ⟨some 16, none, .bin .eql .val (.t 15) (.c (.int .i64 (0)))⟩,
  ⟨some 17, none, .iaddr 6 (.t 12) (.t 13)⟩,
  ⟨some 18, none, .faddr 0 (.t 17)⟩,
  ⟨none, none, .store 1 (.t 18) (.t 16)⟩]) [0, 1, 5]
 (.seq (.reg false [⟨some 19, none, .mv (.t 1)⟩,
  ⟨some 20, none, .bin .add .val (.t 19) (.c (.int .i64 (1)))⟩,
  ⟨some 1, none, .mv (.t 20)⟩]) [0, 1, 5]
 (.seq (.reg false [⟨some 21, none, .mv (.t 0)⟩,
  ⟨some 22, none, .mv (.t 5)⟩,
  ⟨some 23, none, .mv (.t 1)⟩,
  ⟨some 24, none, .bin .rem .val (.t 23) (.c (.int .i64 (3)))⟩,
  ⟨some 25, none, .bin .eql .val (.t 24) (.c (.int .i64 (0)))⟩,
  ⟨some 26, none, .iaddr 6 (.t 21) (.t 22)⟩,
  ⟨some 27, none, .faddr 1 (.t 26)⟩,
  ⟨none, none, .store 1 (.t 27) (.t 25)⟩]) [0, 1, 5]
 (.seq (.reg false [⟨some 28, none, .mv (.t 1)⟩,
  ⟨some 29, none, .bin .add .val (.t 28) (.c (.int .i64 (1)))⟩,
  ⟨some 1, none, .mv (.t 29)⟩]) [0, 1, 5]
 (.seq (.reg false [⟨some 30, none, .mv (.t 0)⟩,
  ⟨some 31, none, .mv (.t 5)⟩,
  ⟨some 32, none, .iaddr 6 (.t 30) (.t 31)⟩,
  ⟨some 33, none, .faddr 2 (.t 32)⟩,
  ⟨some 34, none, .load false 1 (.t 33)⟩,
  ⟨some 35, none, .mv (.t 1)⟩,
  ⟨some 36, none, .call (.f 76) [(false, .t 34), (false, .t 35)] false⟩,
  ⟨some 1, none, .mv (.t 36)⟩]) [0, 1, 5]
 (.seq (.reg false [⟨some 37, none, .mv (.t 0)⟩,
  ⟨some 38, none, .mv (.t 5)⟩,
  ⟨some 39, none, .iaddr 6 (.t 37) (.t 38)⟩,
  ⟨some 40, none, .faddr 3 (.t 39)⟩,
  ⟨some 41, none, .load false 1 (.t 40)⟩,
  ⟨some 42, none, .mv (.t 1)⟩,
  ⟨some 43, none, .call (.f 77) [(false, .t 41), (false, .t 42)] false⟩,
  ⟨some 1, none, .mv (.t 43)⟩]) [0, 1, 5]
 (.seq (.reg false [⟨some 44, none, .mv (.t 0)⟩,
  ⟨some 45, none, .mv (.t 5)⟩,
  ⟨some 46, none, .mv (.t 1)⟩,
  ⟨some 47, none, .bin .rem .val (.t 46) (.c (.int .i64 (3)))⟩,
  ⟨some 48, none, .bin .eql .val (.t 47) (.c (.int .i64 (0)))⟩,
  ⟨some 49, none, .iaddr 6 (.t 44) (.t 45)⟩,
  ⟨some 50, none, .faddr 4 (.t 49)⟩,
  ⟨none, none, .store 1 (.t 50) (.t 48)⟩]) [0, 1, 5]
 (.seq (.reg false [⟨some 51, none, .mv (.t 1)⟩,
  ⟨some 52, none, .bin .add .val (.t 51) (.c (.int .i64 (1)))⟩,
  ⟨some 1, none, .mv (.t 52)⟩]) [0, 1, 5]
 (.reg false [⟨some 53, none, .mv (.t 0)⟩,
  ⟨some 54, none, .mv (.t 5)⟩,
  ⟨some 55, none, .iaddr 6 (.t 53) (.t 54)⟩,
  ⟨some 56, none, .faddr 5 (.t 55)⟩,
  ⟨some 57, none, .load false 1 (.t 56)⟩,
  ⟨some 58, none, .mv (.t 1)⟩,
  ⟨some 59, none, .call (.f 77) [(false, .t 57), (false, .t 58)] false⟩,
  ⟨some 1, none, .mv (.t 59)⟩])))))))))) [0, 1, 5]
 (.reg false [⟨some 10, none, .mv (.t 5)⟩,
  ⟨some 11, none, .bin .add .val (.t 10) (.c (.int .i64 (1)))⟩,
  ⟨some 5, none, .mv (.t 11)⟩])))
def f60 : AFunc := { np := 2, nt := 61, res := [.tmp 4], own := false, body := (.seq (.reg false [⟨some 4, none, .mv (.c (.int .i64 (0)))⟩]) [0, 1]
 (.seq (.seq (.reg false [⟨some 5, none, .mv (.c (.int .i64 (0)))⟩]) [0, 1, 5]
 (.block 0 (.loop [0, 1, 5] f60l0))) [1]
 (.seq (.reg false [⟨some 60, none, .mv (.t 1)⟩,
  ⟨some 4, none, .mv (.t 60)⟩]) [4]
 (.ret)))) }
/- laws.heldBase -/
def f61 : AFunc := { np := 2, nt := 12, res := [.tmp 4], own := false, body := (.seq (.reg false [⟨some 2, none, .box (.t 0)⟩,
  ⟨some 4, none, .mv (.c (.int .i64 (0)))⟩]) [1, 2]
 (.seq (.reg false [⟨some 5, none, .faddr 1 (.t 2)⟩,
  ⟨some 6, none, .load false 1 (.t 5)⟩,
  ⟨some 7, none, .mv (.t 1)⟩,
  ⟨some 8, none, .pcall (.f 78) [.t 6, .t 7]⟩,
  ⟨some 1, none, .mv (.t 8)⟩]) [1]
 (.seq (.seq (.reg false [⟨some 9, none, .mv (.t 1)⟩,
  ⟨some 10, none, .bin .lss .val (.t 9) (.c (.int .i64 (0)))⟩]) [1, 10]
 (.cond (.t 10) (.seq (.reg false [⟨some 4, none, .mv (.c (.int .i64 (-1)))⟩]) [4]
 (.ret)) (.skip))) [1]
 (.seq (.reg false [⟨some 11, none, .mv (.t 1)⟩,
  ⟨some 4, none, .mv (.t 11)⟩]) [4]
 (.ret))))) }
/- laws.heldClientS -/
def f62l0 : ACode := (.seq (.seq (.reg false [⟨some 6, none, .mv (.t 5)⟩,
  ⟨some 7, none, .mv (.t 0)⟩,
  ⟨some 8, none, .len false (.t 7)⟩,
  ⟨some 9, none, .bin .lss .val (.t 6) (.t 8)⟩]) [0, 1, 5, 9]
 (.cond (.t 9) (.skip) (.exit 0))) [0, 1, 5]
 (.seq (.block 1 (.seq (.seq (.reg false [⟨some 12, none, .mv (.t 0)⟩,
  ⟨some 13, none, .mv (.t 5)⟩,
  ⟨some 14, none, .iaddr 6 (.t 12) (.t 13)⟩,
  ⟨some 15, none, .faddr 0 (.t 14)⟩,
  ⟨some 16, none, .load false 1 (.t 15)⟩,
  ⟨some 17, none, .mv (.t 1)⟩,
  ⟨some 18, none, .bin .rem .val (.t 17) (.c (.int .i64 (3)))⟩,
  ⟨some 19, none, .bin .eql .val (.t 18) (.c (.int .i64 (0)))⟩,
  ⟨some 20, none, .bin .neq .bool (.t 16) (.t 19)⟩]) [0, 1, 5, 20]
 (.cond (.t 20) (.seq (.reg false [⟨some 4, none, .mv (.c (.int .i64 (-1)))⟩]) [4]
 (.ret)) (.skip))) [0, 1, 5]
 (.seq (.reg false [⟨some 21, none, .mv (.t 1)⟩,
  ⟨some 22, none, .bin .add .val (.t 21) (.c (.int .i64 (1)))⟩,
  ⟨some 1, none, .mv (.t 22)⟩]) [0, 1, 5]
 (.seq (.seq (.reg false [⟨some 23, none, .mv (.t 0)⟩,
  ⟨some 24, none, .mv (.t 5)⟩,
  ⟨some 25, none, .iaddr 6 (.t 23) (.t 24)⟩,
  ⟨some 26, none, .faddr 1 (.t 25)⟩,
  ⟨some 27, none, .load false 1 (.t 26)⟩,
  ⟨some 28, none, .mv (.t 1)⟩,
  ⟨some 29, none, .bin .rem .val (.t 28) (.c (.int .i64 (3)))⟩,
  ⟨some 30, none, .bin .eql .val (.t 29) (.c (.int .i64 (0)))⟩,
  ⟨some 31, none, .bin .neq .bool (.t 27) (.t 30)⟩]) [0, 1, 5, 31]
 (.cond (.t 31) (.seq (.reg false [⟨some 4, none, .mv (.c (.int .i64 (-1)))⟩]) [4]
 (.ret)) (.skip))) [0, 1, 5]
 (.seq (.reg false [⟨some 32, none, .mv (.t 1)⟩,
  ⟨some 33, none, .bin .add .val (.t 32) (.c (.int .i64 (1)))⟩,
  ⟨some 1, none, .mv (.t 33)⟩]) [0, 1, 5]
 (.seq (.reg false [⟨some 34, none, .mv (.t 0)⟩,
  ⟨some 35, none, .mv (.t 5)⟩,
  ⟨some 36, none, .iaddr 6 (.t 34) (.t 35)⟩,
  ⟨some 37, none, .faddr 2 (.t 36)⟩,
  ⟨some 38, none, .load false 1 (.t 37)⟩,
  ⟨some 39, none, .mv (.t 1)⟩,
  ⟨some 40, none, .pcall (.f 79) [.t 38, .t 39]⟩,
  ⟨some 1, none, .mv (.t 40)⟩]) [0, 1, 5]
 (.seq (.seq (.reg false [⟨some 41, none, .mv (.t 1)⟩,
  ⟨some 42, none, .bin .lss .val (.t 41) (.c (.int .i64 (0)))⟩]) [0, 1, 5, 42]
 (.cond (.t 42) (.seq (.reg false [⟨some 4, none, .mv (.c (.int .i64 (-1)))⟩]) [4]
 (.ret)) (.skip))) [0, 1, 5]
 (.seq (.reg false [⟨some 43, none, .mv (.t 0)⟩,
  ⟨some 44, none, .mv (.t 5)⟩,
  ⟨some 45, none, .iaddr 6 (.t 43) (.t 44)⟩,
  ⟨some 46, none, .faddr 3 (.t 45)⟩,
  ⟨some 47, none, .load false 1 (.t 46)⟩,
  ⟨some 48, none, .mv (.t 1)⟩,
  ⟨some 49, none, .pcall (.f 80) [.t 47, .t 48]⟩,
  ⟨some 1, none, .mv (.t 49)⟩]) [0, 1, 5]
 (.seq (.seq (.reg false [⟨some 50, none, .mv (.t 1)⟩,
  ⟨some 51, none, .bin .lss .val (.t 50) (.c (.int .i64 (0)))⟩]) [0, 1, 5, 51]
 (.cond (.t 51) (.seq (.reg false [⟨some 4, none, .mv (.c (.int .i64 (-1)))⟩]) [4]
 (.ret)) (.skip))) [0, 1, 5]
 (.seq (.seq (.reg false [⟨some 52, none, .mv (.t 0)⟩,
  ⟨some 53, none, .mv (.t 5)⟩,
  ⟨some 54, none, .iaddr 6 (.t 52) (.t 53)⟩,
  ⟨some 55, none, .faddr 4 (.t 54)⟩,
  ⟨some 56, none, .load false 1 (.t 55)⟩,
  ⟨some 57, none, .mv (.t 1)⟩,
  ⟨some 58, none, .bin .rem .val (.t 57) (.c (.int .i64 (3)))⟩,
  ⟨some 59, none, .bin .eql .val (.t 58) (.c (.int .i64 (0)))⟩,
  ⟨some 60, none, .bin .neq .bool (.t 56) (.t 59)⟩]) [0, 1, 5, 60]
 (.cond (.t 60) (.seq (.reg false [⟨some 4, none, .mv (.c (.int .i64 (-1)))⟩]) [4]
 (.ret)) (.skip))) [0, 1, 5]
 (.seq (.reg false [⟨some 61, none, .mv (.t 1)⟩,
  ⟨some 62, none, .bin .add .val (.t 61) (.c (.int .i64 (1)))⟩,
  ⟨some 1, none, .mv (.t 62)⟩]) [0, 1, 5]
 (.seq (.reg false [⟨some 63, none, .mv (.t 0)⟩,
  ⟨some 64, none, .mv (.t 5)⟩,
  ⟨some 65, none, .iaddr 6 (.t 63) (.t 64)⟩,
  ⟨some 66, none, .faddr 5 (.t 65)⟩,
  ⟨some 67, none, .load false 1 (.t 66)⟩,
  ⟨some 68, none, .mv (.t 1)⟩,
  ⟨some 69, none, .pcall (.f 80) [.t 67, .t 68]⟩,
  ⟨some 1, none, .mv (.t 69)⟩]) [0, 1, 5]
 (.seq (.reg false [⟨some 70, none, .mv (.t 1)⟩,
  ⟨some 71, none, .bin .lss .val (.t 70) (.c (.int .i64 (0)))⟩]) [0, 1, 5, 71]
 (.cond (.t 71) (.seq (.reg false [⟨some 4, none, .mv (.c (.int .i64 (-1)))⟩]) [4]
 (.ret)) (.skip))))))))))))))) [0, 1, 5]
 (.reg false [⟨some 10, none, .mv (.t 5)⟩,
  ⟨some 11, none, .bin .add .val (.t 10) (.c (.int .i64 (1)))⟩,
  ⟨some 5, none, .mv (.t 11)⟩])))
def f62 : AFunc := { np := 2, nt := 73, res := [.tmp 4], own := false, body := (.seq (.reg false [⟨some 4, none, .mv (.c (.int .i64 (0)))⟩]) [0, 1]
 (.seq (.seq (.reg false [⟨some 5, none, .mv (.c (.int .i64 (0)))⟩]) [0, 1, 5]
 (.block 0 (.loop [0, 1, 5] f62l0))) [1]
 (.seq (.reg false [⟨some 72, none, .mv (.t 1)⟩,
  ⟨some 4, none, .mv (.t 72)⟩]) [4]
 (.ret)))) }
/- impl.textsOk -/
def f63l0 : ACode := (.seq (.reg false [⟨some 10, none, .bin .lss .val (.t 9) (.t 8)⟩]) [0, 1, 7, 8, 9, 10]
 (.seq (.cond (.t 10) (.skip) (.exit 0)) [0, 1, 7, 8, 9]
 (.seq (.block 1 (.seq (.reg false [⟨some 11, none, .iaddr 1 (.t 7) (.t 9)⟩,
  ⟨some 12, none, .load false 1 (.t 11)⟩,
  ⟨some 6, none, .mv (.t 12)⟩]) [0, 1, 6, 7, 8, 9]
 (.seq (.reg false [⟨some 13, none, .mv (.t 6)⟩,
  ⟨some 14, none, .len true (.t 13)⟩,
  ⟨some 15, none, .bin .gtr .val (.t 14) (.c (.int .i64 (40)))⟩]) [0, 1, 7, 8, 9, 15]
 (.cond (.t 15) (.seq (.reg false [⟨some 4, none, .mv (.c (.bool false))⟩]) [4]
 (.ret)) (.skip))))) [0, 1, 7, 8, 9]
 (.reg false [⟨some 16, none, .bin .add .val (.t 9) (.c (.int .i64 (1)))⟩,
  ⟨some 9, none, .mv (.t 16)⟩]))))
def f63 : AFunc := { np := 2, nt := 21, res := [.tmp 4], own := false, body := (.seq (.reg false [⟨some 4, none, .mv (.c (.bool false))⟩]) [0, 1]
 (.seq (.seq (.reg false [⟨some 7, none, .mv (.t 0)⟩,
  ⟨some 8, none, .len false (.t 7)⟩,
  ⟨some 9, none, .mv (.c (.int .i64 (0)))⟩]) [0, 1, 7, 8, 9]
 (.block 0 (.loop [0, 1, 7, 8, 9] f63l0))) [0, 1]
 (.seq (.reg false [⟨some 17, none, .mv (.t 0)⟩,
  ⟨some 18, none, .len false (.t 17)⟩,
  ⟨some 19, none, .mv (.t 1)⟩,
  ⟨some 20, none, .bin .leq .val (.t 18) (.t 19)⟩,
  ⟨some 4, none, .mv (.t 20)⟩]) [4]
 (.ret)))) }
/- impl.position -/
def f64 : AFunc := { np := 1, nt := 5, res := [.tmp 2], own := false, body := (.seq (.reg false [⟨some 2, none, .mv (.c (.bool false))⟩]) [0]
 (.seq (.reg false [⟨some 3, none, .mv (.t 0)⟩,
  ⟨some 4, none, .pcall (.f 35) [.t 3, .c (.int .i64 (-1000000000)), .c (.int .i64 (1000000000))]⟩,
  ⟨some 2, none, .mv (.t 4)⟩]) [2]
 (.ret))) }
/- spec.l11Texts -/
def f65l0 : ACode := (.seq (.seq (.reg false [⟨some 12, none, .mv (.t 6)⟩,
  ⟨some 13, none, .bin .gtr .val (.t 12) (.c (.int .i64 (0)))⟩]) [0, 5, 6, 13]
 (.cond (.t 13) (.skip) (.exit 0))) [0, 5, 6]
 (.seq (.block 1 (.reg false [⟨some 16, none, .mv (.t 5)⟩,
  ⟨some 17, none, .mv (.t 0)⟩,
  ⟨some 18, none, .call (.f 47) [(false, .t 17)] false⟩,
  ⟨some 19, none, .lit false 1 [.t 18]⟩,
  ⟨some 20, none, .append 1 16 (.t 16) (.t 19)⟩,
  ⟨some 5, none, .mv (.t 20)⟩])) [0, 5, 6]
 (.reg false [⟨some 14, none, .mv (.t 6)⟩,
  ⟨some 15, none, .bin .sub .val (.t 14) (.c (.int .i64 (1)))⟩,
  ⟨some 6, none, .mv (.t 15)⟩])))
def f65 : AFunc := { np := 2, nt := 22, res := [.tmp 4], own := true, body := (.seq (.reg false [⟨some 4, none, .mv (.nil 1)⟩]) [0, 1]
 (.seq (.reg false [⟨some 7, none, .lit true 1 []⟩,
  ⟨some 5, none, .mv (.t 7)⟩]) [0, 1, 5]
 (.seq (.seq (.reg false [⟨some 8, none, .mv (.t 0)⟩,
  ⟨some 9, none, .mv (.t 1)⟩,
  ⟨some 10, none, .bin .add .val (.t 9) (.c (.int .i64 (1)))⟩,
  ⟨some 11, none, .call (.f 49) [(false, .t 8), (false, .t 10)] false⟩,
  ⟨some 6, none, .mv (.t 11)⟩]) [0, 5, 6]
 (.block 0 (.loop [0, 5, 6] f65l0))) [5]
 (.seq (.reg false [⟨some 21, none, .mv (.t 5)⟩,
  ⟨some 4, none, .mv (.t 21)⟩]) [4]
 (.ret))))) }
/- spec.l1Many -/
def f66l0 : ACode := (.seq (.seq (.reg false [⟨some 6, none, .mv (.t 1)⟩,
  ⟨some 7, none, .bin .gtr .val (.t 6) (.c (.int .i64 (0)))⟩]) [0, 1, 5, 7]
 (.cond (.t 7) (.skip) (.exit 0))) [0, 1, 5]
 (.block 1 (.seq (.seq (.reg false [⟨some 8, none, .mv (.t 1)⟩,
  ⟨some 9, none, .bin .rem .val (.t 8) (.c (.int .i64 (2)))⟩,
  ⟨some 10, none, .bin .eql .val (.t 9) (.c (.int .i64 (1)))⟩]) [0, 1, 5, 10]
 (.cond (.t 10) (.reg false [⟨some 11, none, .mv (.t 5)⟩,
  ⟨some 12, none, .mv (.t 0)⟩,
  ⟨some 13, none, .bin .add .val (.t 11) (.t 12)⟩,
  ⟨some 5, none, .mv (.t 13)⟩]) (.skip))) [0, 1, 5]
 (.seq (.reg false [⟨some 14, none, .mv (.t 0)⟩,
  ⟨some 15, none, .mv (.t 0)⟩,
  ⟨some 16, none, .bin .add .val (.t 14) (.t 15)⟩,
  ⟨some 0, none, .mv (.t 16)⟩]) [0, 1, 5]
 (.reg false [⟨some 17, none, .mv (.t 1)⟩,
  ⟨some 18, none, .bin .quo .val (.t 17) (.c (.int .i64 (2)))⟩,
  ⟨some 1, none, .mv (.t 18)⟩])))))
def f66 : AFunc := { np := 2, nt := 20, res := [.tmp 4], own := false, body := (.seq (.reg false [⟨some 4, none, .mv (.c (.str []))⟩]) [0, 1]
 (.seq (.reg false [⟨some 5, none, .mv (.c (.str []))⟩]) [0, 1, 5]
 (.seq (.block 0 (.loop [0, 1, 5] f66l0)) [5]
 (.seq (.reg false [⟨some 19, none, .mv (.t 5)⟩,
  ⟨some 4, none, .mv (.t 19)⟩]) [4]
 (.ret))))) }
/- spec.l1Dec -/
def f67 : AFunc := { np := 1, nt := 28, res := [.tmp 2], own := false, body := (.seq (.reg false [⟨some 2, none, .mv (.c (.str []))⟩]) [0]
 (.seq (.seq (.reg false [⟨some 3, none, .mv (.t 0)⟩,
  ⟨some 4, none, .bin .lss .val (.t 3) (.c (.int .i64 (-9223372036854775807)))⟩]) [0, 4]
 (.cond (.t 4) (.seq (.reg false [⟨some 2, none, .mv (.c (.str [45, 57, 50, 50, 51, 51, 55, 50, 48, 51, 54, 56, 53, 52, 55, 55, 53, 56, 48, 56]))⟩]) [2]
 (.ret)) (.skip))) [0]
 (.seq (.seq (.reg false [⟨some 5, none, .mv (.t 0)⟩,
  ⟨some 6, none, .bin .lss .val (.t 5) (.c (.int .i64 (0)))⟩]) [0, 6]
 (.cond (.t 6) (.seq (.reg false [⟨some 7, none, .mv (.t 0)⟩,
  ⟨some 8, none, .un .neg (.t 7)⟩,
  ⟨some 9, none, .pcall (.f 67) [.t 8]⟩,
  ⟨some 10, none, .bin .add .val (.c (.str [45])) (.t 9)⟩,
  ⟨some 2, none, .mv (.t 10)⟩]) [2]
 (.ret)) (.skip))) [0]
 (.seq (.seq (.reg false [⟨some 11, none, .mv (.t 0)⟩,
  ⟨some 12, none, .bin .lss .val (.t 11) (.c (.int .i64 (10)))⟩]) [0, 12]
 (.cond (.t 12) (.seq (.reg false [⟨some 13, none, .mv (.t 0)⟩,
  ⟨some 14, none, .bin .add .val (.c (.int .i64 (48))) (.t 13)⟩,
  ⟨some 15, none, .cvInt .u8 (.t 14)⟩,
  ⟨some 16, none, .lit false 1 [.t 15]⟩,
  ⟨some 17, none, .cvStr (.t 16)⟩,
  ⟨some 2, none, .mv (.t 17)⟩]) [2]
 (.ret)) (.skip))) [0]
 (.seq (.reg true [⟨some 18, none, .mv (.t 0)⟩,
  ⟨some 19, none, .bin .quo .val (.t 18) (.c (.int .i64 (10)))⟩,
  ⟨some 20, none, .pcall (.f 67) [.t 19]⟩,
  ⟨some 21, none, .mv (.t 0)⟩,
  ⟨some 22, none, .bin .rem .val (.t 21) (.c (.int .i64 (10)))⟩,
  ⟨some 23, none, .bin .add .val (.c (.int .i64 (48))) (.t 22)⟩,
  ⟨some 24, none, .cvInt .u8 (.t 23)⟩,
  ⟨some 25, none, .lit false 1 [.t 24]⟩,
  ⟨some 26, none, .cvStr (.t 25)⟩,
  ⟨some 27, none, .bin .add .val (.t 20) (.t 26)⟩,
  ⟨some 2, none, .mv (.t 27)⟩]) [2]
 (.ret)))))) }
/- spec.l1Args -/
def f68l0 : ACode := (.seq (.seq (.reg false [⟨some 4, none, .mv (.t 3)⟩,
  ⟨some 5, none, .mv (.t 0)⟩,
  ⟨some 6, none, .len false (.t 5)⟩,
  ⟨some 7, none, .bin .lss .val (.t 4) (.t 6)⟩]) [0, 3, 7]
 (.cond (.t 7) (.skip) (.exit 0))) [0, 3]
 (.seq (.block 1 (.seq (.reg false [⟨some 10, none, .mv (.t 0)⟩,
  ⟨some 11, none, .mv (.t 3)⟩,
  ⟨some 12, none, .iaddr 1 (.t 10) (.t 11)⟩,
  ⟨some 13, none, .load false 1 (.t 12)⟩,
  ⟨some 14, none, .len true (.t 13)⟩,
  ⟨some 15, none, .bin .gtr .val (.t 14) (.c (.int .i64 (40)))⟩]) [0, 3, 15]
 (.cond (.t 15) (.seq (.reg false [⟨some 2, none, .mv (.c (.bool false))⟩]) [2]
 (.ret)) (.skip)))) [0, 3]
 (.reg false [⟨some 8, none, .mv (.t 3)⟩,
  ⟨some 9, none, .bin .add .val (.t 8) (.c (.int .i64 (1)))⟩,
  ⟨some 3, none, .mv (.t 9)⟩])))
def f68 : AFunc := { np := 1, nt := 19, res := [.tmp 2], own := false, body := (.seq (.reg false [⟨some 2, none, .mv (.c (.bool false))⟩]) [0]
 (.seq (.seq (.reg false [⟨some 3, none, .mv (.c (.int .i64 (0)))⟩]) [0, 3]
 (.block 0 (.loop [0, 3] f68l0))) [0]
 (.seq (.reg false [⟨some 16, none, .mv (.t 0)⟩,
  ⟨some 17, none, .len false (.t 16)⟩,
  ⟨some 18, none, .pcall (.f 37) [.t 17, .c (.int .i64 (1)), .c (.int .i64 (8))]⟩,
  ⟨some 2, none, .mv (.t 18)⟩]) [2]
 (.ret)))) }
/- spec.l1Order -/
def f69l0 : ACode := (.seq (.seq (.reg false [⟨some 10, none, .mv (.t 4)⟩,
  ⟨some 11, none, .mv (.t 0)⟩,
  ⟨some 12, none, .len false (.t 11)⟩,
  ⟨some 13, none, .bin .lss .val (.t 10) (.t 12)⟩]) [0, 3, 4, 13]
 (.cond (.t 13) (.skip) (.exit 0))) [0, 3, 4]
 (.seq (.block 1 (.reg false [⟨some 16, none, .mv (.t 3)⟩,
  ⟨some 17, none, .mv (.t 0)⟩,
  ⟨some 18, none, .mv (.t 4)⟩,
  ⟨some 19, none, .iaddr 1 (.t 17) (.t 18)⟩,
  ⟨some 20, none, .load false 1 (.t 19)⟩,
  ⟨some 21, none, .pcall (.f 81) [.t 20]⟩,
  ⟨some 22, none, .bin .add .val (.t 16) (.t 21)⟩,
  ⟨some 3, none, .mv (.t 22)⟩])) [0, 3, 4]
 (.reg false [⟨some 14, none, .mv (.t 4)⟩,
  ⟨some 15, none, .bin .add .val (.t 14) (.c (.int .i64 (1)))⟩,
  ⟨some 4, none, .mv (.t 15)⟩])))
def f69 : AFunc := { np := 1, nt := 24, res := [.tmp 2], own := false, body := (.seq (.reg false [⟨some 2, none, .mv (.c (.str []))⟩]) [0]
 (.seq (.reg false [⟨some 5, none, .mv (.t 0)⟩,
  ⟨some 6, none, .len false (.t 5)⟩,
  ⟨some 7, none, .pcall (.f 67) [.t 6]⟩,
  ⟨some 8, none, .bin .add .val (.c (.str [42])) (.t 7)⟩,
  ⟨some 9, none, .bin .add .val (.t 8) (.c (.str [13, 10]))⟩,
  ⟨some 3, none, .mv (.t 9)⟩]) [0, 3]
 (.seq (.seq (.reg false [⟨some 4, none, .mv (.c (.int .i64 (0)))⟩]) [0, 3, 4]
 (.block 0 (.loop [0, 3, 4] f69l0))) [3]
 (.seq (.reg false [⟨some 23, none, .mv (.t 3)⟩,
  ⟨some 2, none, .mv (.t 23)⟩]) [2]
 (.ret))))) }
/- spec.l11Key -/
def f70 : AFunc := { np := 1, nt := 6, res := [.tmp 2], own := false, body := (.seq (.reg false [⟨some 2, none, .mv (.c (.str []))⟩]) [0]
 (.seq (.reg false [⟨some 3, none, .mv (.t 0)⟩,
  ⟨some 4, none, .lit false 1 [.c (.str [107]), .c (.str [108]), .c (.str [115]), .c (.str [122]), .c (.str [104]), .c (.str [107, 50]), .c (.str [108])]⟩,
  ⟨some 5, none, .call (.f 48) [(false, .t 3), (false, .t 4)] false⟩,
  ⟨some 2, none, .mv (.t 5)⟩]) [2]
 (.ret))) }
/- spec.l11Int -/
def f71 : AFunc := { np := 1, nt := 6, res := [.tmp 2], own := false, body := (.seq (.reg false [⟨some 2, none, .mv (.c (.str []))⟩]) [0]
 (.seq (.reg false [⟨some 3, none, .mv (.t 0)⟩,
  ⟨some 4, none, .lit false 1 [.c (.str [48]), .c (.str [49]), .c (.str [45, 49]), .c (.str [50]), .c (.str [45, 50]), .c (.str [53]), .c (.str [49, 48, 48]), .c (.str [45, 49, 48, 48]), .c (.str [49, 48, 48, 48, 48, 48, 48, 48, 48, 48]), .c (.str [120])]⟩,
  ⟨some 5, none, .call (.f 48) [(false, .t 3), (false, .t 4)] false⟩,
  ⟨some 2, none, .mv (.t 5)⟩]) [2]
 (.ret))) }
/- spec.l1Figures -/
def f72l0 : ACode := (.seq (.seq (.reg false [⟨some 5, none, .mv (.t 4)⟩,
  ⟨some 6, none, .mv (.t 0)⟩,
  ⟨some 7, none, .len true (.t 6)⟩,
  ⟨some 8, none, .bin .lss .val (.t 5) (.t 7)⟩]) [0, 3, 4, 8]
 (.cond (.t 8) (.skip) (.exit 0))) [0, 3, 4]
 (.seq (.block 1 (.seq (.seq (.reg false [⟨some 11, none, .mv (.t 0)⟩,
  ⟨some 12, none, .mv (.t 4)⟩,
  ⟨some 13, none, .idx (.t 11) (.t 12)⟩,
  ⟨some 14, none, .bin .lss .val (.t 13) (.c (.int .u8 (48)))⟩,
  ⟨some 15, none, .mv (.t 14)⟩,
  ⟨some 16, some (15, false), .mv (.t 0)⟩,
  ⟨some 17, some (15, false), .mv (.t 4)⟩,
  ⟨some 18, some (15, false), .idx (.t 16) (.t 17)⟩,
  ⟨some 19, some (15, false), .bin .gtr .val (.t 18) (.c (.int .u8 (57)))⟩,
  ⟨some 20, none, .pick (.t 15) (.c (.bool true)) (.t 19)⟩]) [0, 3, 4, 20]
 (.cond (.t 20) (.seq (.reg false [⟨some 2, none, .mv (.c (.int .i64 (-1)))⟩]) [2]
 (.ret)) (.skip))) [0, 3, 4]
 (.seq (.reg false [⟨some 21, none, .mv (.t 4)⟩,
  ⟨some 22, none, .bin .lss .val (.t 21) (.c (.int .i64 (10)))⟩]) [0, 3, 4, 22]
 (.cond (.t 22) (.reg false [⟨some 23, none, .mv (.t 3)⟩,
  ⟨some 24, none, .bin .mul .val (.t 23) (.c (.int .i64 (10)))⟩,
  ⟨some 25, none, .mv (.t 0)⟩,
  ⟨some 26, none, .mv (.t 4)⟩,
  ⟨some 27, none, .idx (.t 25) (.t 26)⟩,
  ⟨some 28, none, .bin .sub .val (.t 27) (.c (.int .u8 (48)))⟩,
  ⟨some 29, none, .cvInt .i64 (.t 28)⟩,
  ⟨some 30, none, .bin .add .val (.t 24) (.t 29)⟩,
  ⟨some 3, none, .mv (.t 30)⟩]) (.skip))))) [0, 3, 4]
 (.reg false [⟨some 9, none, .mv (.t 4)⟩,
  ⟨some 10, none, .bin .add .val (.t 9) (.c (.int .i64 (1)))⟩,
  ⟨some 4, none, .mv (.t 10)⟩])))
def f72 : AFunc := { np := 1, nt := 46, res := [.tmp 2], own := false, body := (.seq (.reg false [⟨some 2, none, .mv (.c (.int .i64 (0)))⟩]) [0]
 (.seq (.reg false [⟨some 3, none, .mv (.c (.int .i64 (0)))⟩]) [0, 3]
 (.seq (.seq (.reg false [⟨some 4, none, .mv (.c (.int .i64 (0)))⟩]) [0, 3, 4]
 (.block 0 (.loop [0, 3, 4] f72l0))) [0, 3]
 (.seq (.seq (.reg false [⟨some 31, none, .mv (.t 0)⟩,
  ⟨some 32, none, .len true (.t 31)⟩,
  ⟨some 33, none, .pcall (.f 37) [.t 32, .c (.int .i64 (1)), .c (.int .i64 (10))]⟩,
  ⟨some 34, none, .un .not (.t 33)⟩,
  ⟨some 35, none, .mv (.t 34)⟩,
  ⟨some 36, some (35, false), .mv (.t 0)⟩,
  ⟨some 37, some (35, false), .len true (.t 36)⟩,
  ⟨some 38, some (35, false), .bin .gtr .val (.t 37) (.c (.int .i64 (1)))⟩,
  ⟨some 39, some (35, false), .mv (.t 38)⟩,
  ⟨some 40, some (39, true), .mv (.t 0)⟩,
  ⟨some 41, some (39, true), .idx (.t 40) (.c (.int .i64 (0)))⟩,
  ⟨some 42, some (39, true), .bin .eql .val (.t 41) (.c (.int .u8 (48)))⟩,
  ⟨some 43, some (35, false), .pick (.t 39) (.t 42) (.c (.bool false))⟩,
  ⟨some 44, none, .pick (.t 35) (.c (.bool true)) (.t 43)⟩]) [3, 44]
 (.cond (.t 44) (.seq (.reg false [⟨some 2, none, .mv (.c (.int .i64 (-1)))⟩]) [2]
 (.ret)) (.skip))) [3]
 (.seq (.reg false [⟨some 45, none, .mv (.t 3)⟩,
  ⟨some 2, none, .mv (.t 45)⟩]) [2]
 (.ret)))))) }
/- laws.eqEntryS -/
def f73l0 : ACode := (.seq (.seq (.reg false [⟨some 11, none, .mv (.t 5)⟩,
  ⟨some 12, none, .mv (.t 0)⟩,
  ⟨some 13, none, .len false (.t 12)⟩,
  ⟨some 14, none, .bin .lss .val (.t 11) (.t 13)⟩]) [0, 1, 5, 14]
 (.cond (.t 14) (.skip) (.exit 0))) [0, 1, 5]
 (.seq (.block 1 (.seq (.reg true [⟨some 17, none, .mv (.t 0)⟩,
  ⟨some 18, none, .mv (.t 5)⟩,
  ⟨some 19, none, .iaddr 7 (.t 17) (.t 18)⟩,
  ⟨some 20, none, .load true 7 (.t 19)⟩,
  ⟨some 21, none, .mv (.t 1)⟩,
  ⟨some 22, none, .mv (.t 5)⟩,
  ⟨some 23, none, .iaddr 7 (.t 21) (.t 22)⟩,
  ⟨some 24, none, .load true 7 (.t 23)⟩,
  ⟨some 25, none, .pcall (.f 82) [.t 20, .t 24]⟩,
  ⟨some 26, none, .un .not (.t 25)⟩]) [0, 1, 5, 26]
 (.cond (.t 26) (.seq (.reg false [⟨some 4, none, .mv (.c (.bool false))⟩]) [4]
 (.ret)) (.skip)))) [0, 1, 5]
 (.reg false [⟨some 15, none, .mv (.t 5)⟩,
  ⟨some 16, none, .bin .add .val (.t 15) (.c (.int .i64 (1)))⟩,
  ⟨some 5, none, .mv (.t 16)⟩])))
def f73 : AFunc := { np := 2, nt := 27, res := [.tmp 4], own := false, body := (.seq (.reg false [⟨some 4, none, .mv (.c (.bool false))⟩]) [0, 1]
 (.seq (.seq (.reg false [⟨some 6, none, .mv (.t 0)⟩,
  ⟨some 7, none, .len false (.t 6)⟩,
  ⟨some 8, none, .mv (.t 1)⟩,
  ⟨some 9, none, .len false (.t 8)⟩,
  ⟨some 10, none, .bin .neq .val (.t 7) (.t 9)⟩]) [0, 1, 10]
 (.cond (.t 10) (.seq (.reg false [⟨some 4, none, .mv (.c (.bool false))⟩]) [4]
 (.ret)) (.skip))) [0, 1]
 (.seq (.seq (.reg false [⟨some 5, none, .mv (.c (.int .i64 (0)))⟩]) [0, 1, 5]
 (.block 0 (.loop [0, 1, 5] f73l0))) []
 (.seq (.reg false [⟨some 4, none, .mv (.c (.bool true))⟩]) [4]
 (.ret))))) }
/- laws.eqClient -/
def f74 : AFunc := { np := 2, nt := 38, res := [.tmp 4], own := false, body := (.seq (.reg false [⟨some 2, none, .box (.t 0)⟩,
  ⟨some 3, none, .box (.t 1)⟩,
  ⟨some 4, none, .mv (.c (.bool false))⟩]) [2, 3]
 (.seq (.seq (.reg false [⟨some 5, none, .faddr 0 (.t 2)⟩,
  ⟨some 6, none, .load false 1 (.t 5)⟩,
  ⟨some 7, none, .faddr 0 (.t 3)⟩,
  ⟨some 8, none, .load false 1 (.t 7)⟩,
  ⟨some 9, none, .bin .neq .bool (.t 6) (.t 8)⟩]) [2, 3, 9]
 (.cond (.t 9) (.seq (.reg false [⟨some 4, none, .mv (.c (.bool false))⟩]) [4]
 (.ret)) (.skip))) [2, 3]
 (.seq (.seq (.reg false [⟨some 10, none, .faddr 1 (.t 2)⟩,
  ⟨some 11, none, .load false 1 (.t 10)⟩,
  ⟨some 12, none, .faddr 1 (.t 3)⟩,
  ⟨some 13, none, .load false 1 (.t 12)⟩,
  ⟨some 14, none, .bin .neq .bool (.t 11) (.t 13)⟩]) [2, 3, 14]
 (.cond (.t 14) (.seq (.reg false [⟨some 4, none, .mv (.c (.bool false))⟩]) [4]
 (.ret)) (.skip))) [2, 3]
 (.seq (.seq (.reg false [⟨some 15, none, .faddr 2 (.t 2)⟩,
  ⟨some 16, none, .load false 1 (.t 15)⟩,
  ⟨some 17, none, .faddr 2 (.t 3)⟩,
  ⟨some 18, none, .load false 1 (.t 17)⟩,
  ⟨some 19, none, .pcall (.f 83) [.t 16, .t 18]⟩,
  ⟨some 20, none, .un .not (.t 19)⟩]) [2, 3, 20]
 (.cond (.t 20) (.seq (.reg false [⟨some 4, none, .mv (.c (.bool false))⟩]) [4]
 (.ret)) (.skip))) [2, 3]
 (.seq (.seq (.reg false [⟨some 21, none, .faddr 3 (.t 2)⟩,
  ⟨some 22, none, .load false 1 (.t 21)⟩,
  ⟨some 23, none, .faddr 3 (.t 3)⟩,
  ⟨some 24, none, .load false 1 (.t 23)⟩,
  ⟨some 25, none, .pcall (.f 19) [.t 22, .t 24]⟩,
  ⟨some 26, none, .un .not (.t 25)⟩]) [2, 3, 26]
 (.cond (.t 26) (.seq (.reg false [⟨some 4, none, .mv (.c (.bool false))⟩]) [4]
 (.ret)) (.skip))) [2, 3]
 (.seq (.seq (.reg false [⟨some 27, none, .faddr 4 (.t 2)⟩,
  ⟨some 28, none, .load false 1 (.t 27)⟩,
  ⟨some 29, none, .faddr 4 (.t 3)⟩,
  ⟨some 30, none, .load false 1 (.t 29)⟩,
  ⟨some 31, none, .bin .neq .bool (.t 28) (.t 30)⟩]) [2, 3, 31]
 (.cond (.t 31) (.seq (.reg false [⟨some 4, none, .mv (.c (.bool false))⟩]) [4]
 (.ret)) (.skip))) [2, 3]
 (.seq (.seq (.reg false [⟨some 32, none, .faddr 5 (.t 2)⟩,
  ⟨some 33, none, .load false 1 (.t 32)⟩,
  ⟨some 34, none, .faddr 5 (.t 3)⟩,
  ⟨some 35, none, .load false 1 (.t 34)⟩,
  ⟨some 36, none, .pcall (.f 19) [.t 33, .t 35]⟩,
  ⟨some 37, none, .un .not (.t 36)⟩]) [37]
 (.cond (.t 37) (.seq (.reg false [⟨some 4, none, .mv (.c (.bool false))⟩]) [4]
 (.ret)) (.skip))) []
 (.seq (.reg false [⟨some 4, none, .mv (.c (.bool true))⟩]) [4]
 (.ret))))))))) }
/- laws.markEntryS -/
def f75l0 : ACode := (.seq (.seq (.reg false [⟨some 6, none, .mv (.t 5)⟩,
  ⟨some 7, none, .mv (.t 0)⟩,
  ⟨some 8, none, .len false (.t 7)⟩,
  ⟨some 9, none, .bin .lss .val (.t 6) (.t 8)⟩]) [0, 1, 5, 9]
 (.cond (.t 9) (.skip) (.exit 0))) [0, 1, 5]
 (.seq (.block 1 (.seq (.reg false [⟨some 12, none, .mv (.t 0)⟩,
  ⟨some 13, none, .mv (.t 5)⟩,
  ⟨some 14, none, .mv (.t 1)⟩,
  ⟨some 15, none, .pcall (.f 84) [.t 14]⟩,
  ⟨some 16, none, .iaddr 7 (.t 12) (.t 13)⟩,
  ⟨some 17, none, .faddr 0 (.t 16)⟩,
  ⟨none, none, .store 1 (.t 17) (.t 15)⟩]) [0, 1, 5]
 (.seq (.reg false [⟨some 18, none, .mv (.t 1)⟩,
  ⟨some 19, none, .bin .add .val (.t 18) (.c (.int .i64 (1)))⟩,
  ⟨some 1, none, .mv (.t 19)⟩]) [0, 1, 5]
 (.seq (.reg false [⟨some 20, none, .mv (.t 0)⟩,
  ⟨some 21, none, .mv (.t 5)⟩,
  ⟨some 22, none, .mv (.t 1)⟩,
  ⟨some 23, none, .iaddr 7 (.t 20) (.t 21)⟩,
  ⟨some 24, none, .faddr 1 (.t 23)⟩,
  ⟨none, none, .store 1 (.t 24) (.t 22)⟩]) [0, 1, 5]
 (.seq (.reg false [⟨some 25, none, .mv (.t 1)⟩,
  ⟨some 26, none, .bin .add .val (.t 25) (.c (.int .i64 (1)))⟩,
  ⟨some 1, none, .mv (.t 26)⟩]) [0, 1, 5]
 (.seq (.reg false [⟨some 27, none, .mv (.t 0)⟩,
  ⟨some 28, none, .mv (.t 5)⟩,
  ⟨some 29, none, .mv (.t 1)⟩,
  ⟨some 30, none, .iaddr 7 (.t 27) (.t 28)⟩,
  ⟨some 31, none, .faddr 2 (.t 30)⟩,
  ⟨none, none, .store 1 (.t 31) (.t 29)⟩]) [0, 1, 5]
 (.seq (.reg false [⟨some 32, none, .mv (.t 1)⟩,
  ⟨some 33, none, .bin .add .val (.t 32) (.c (.int .i64 (1)))⟩,
  ⟨some 1, none, .mv (.t 33)⟩]) [0, 1, 5]
 (.seq (.reg false [⟨some 34, none, .mv (.t 0)⟩,
  ⟨some 35, none, .mv (.t 5)⟩,
  ⟨some 36, none, .mv (.t 1)⟩,
  ⟨some 37, none, .pcall (.f 84) [.t 36]⟩,
  ⟨some 38, none, .iaddr 7 (.t 34) (.t 35)⟩,
  ⟨some 39, none, .faddr 3 (.t 38)⟩,
  ⟨none, none, .store 1 (.t 39) (.t 37)⟩]) [0, 1, 5]
 (.seq (.reg false [⟨some 40, none, .mv (.t 1)⟩,
  ⟨some 41, none, .bin .add .val (.t 40) (.c (.int .i64 (1)))⟩,
  ⟨some 1, none, .mv (.t 41)⟩]) [0, 1, 5]
 (.seq (.reg false [⟨some 42, none, .mv (.t 0)⟩,
  ⟨some 43, none, .mv (.t 5)⟩,
  ⟨some 44, none, .iaddr 7 (.t 42) (.t 43)⟩,
  ⟨some 45, none, .faddr 4 (.t 44)⟩,
  ⟨some 46, none, .load false 1 (.t 45)⟩,
  ⟨some 47, none, .mv (.t 1)⟩,
  ⟨some 48, none, .call (.f 77) [(false, .t 46), (false, .t 47)] false⟩,
  ⟨some 1, none, .mv (.t 48)⟩]) [0, 1, 5]
 (.seq (.reg false [⟨some 49, none, .mv (.t 0)⟩,
  ⟨some 50, none, .mv (.t 5)⟩,
  ⟨some 51, none, .iaddr 7 (.t 49) (.t 50)⟩,
  ⟨some 52, none, .faddr 5 (.t 51)⟩,
  ⟨some 53, none, .load false 1 (.t 52)⟩,
  ⟨some 54, none, .mv (.t 1)⟩,
  ⟨some 55, none, .call (.f 85) [(false, .t 53), (false, .t 54)] false⟩,
  ⟨some 1, none, .mv (.t 55)⟩]) [0, 1, 5]
 (.reg false [⟨some 56, none, .mv (.t 0)⟩,
  ⟨some 57, none, .mv (.t 5)⟩,
  ⟨some 58, none, .iaddr 7 (.t 56) (.t 57)⟩,
  ⟨some 59, none, .faddr 6 (.t 58)⟩,
  ⟨some 60, none, .load false 1 (.t 59)⟩,
  ⟨some 61, none, .mv (.t 1)⟩,
  ⟨some 62, none, .call (.f 86) [(false, .t 60), (false, .t 61)] false⟩,
  ⟨some 1, none, .mv (.t 62)⟩])))))))))))) [0, 1, 5]
 (.reg false [⟨some 10, none, .mv (.t 5)⟩,
  ⟨some 11, none, .bin .add .val (.t 10) (.c (.int .i64 (1)))⟩,
  ⟨some 5, none, .mv (.t 11)⟩])))
def f75 : AFunc := { np := 2, nt := 64, res := [.tmp 4], own := false, body := (.seq (.reg false [⟨some 4, none, .mv (.c (.int .i64 (0)))⟩]) [0, 1]
 (.seq (.seq (.reg false [⟨some 5, none, .mv (.c (.int .i64 (0)))⟩]) [0, 1, 5]
 (.block 0 (.loop [0, 1, 5] f75l0))) [1]
 (.seq (.reg false [⟨some 63, none, .mv (.t 1)⟩,
  ⟨some 4, none, .mv (.t 63)⟩]) [4]
 (.ret)))) }
/- laws.markStringSS -/
def f76l0 : ACode := (.seq (.seq (.reg false [⟨some 6, none, .mv (.t 5)⟩,
  ⟨some 7, none, .mv (.t 0)⟩,
  ⟨some 8, none, .len false (.t 7)⟩,
  ⟨some 9, none, .bin .lss .val (.t 6) (.t 8)⟩]) [0, 1, 5, 9]
 (.cond (.t 9) (.skip) (.exit 0))) [0, 1, 5]
 (.seq (.block 1 (.reg false [⟨some 12, none, .mv (.t 0)⟩,
  ⟨some 13, none, .mv (.t 5)⟩,
  ⟨some 14, none, .iaddr 1 (.t 12) (.t 13)⟩,
  ⟨some 15, none, .load false 1 (.t 14)⟩,
  ⟨some 16, none, .mv (.t 1)⟩,
  ⟨some 17, none, .call (.f 77) [(false, .t 15), (false, .t 16)] false⟩,
  ⟨some 1, none, .mv (.t 17)⟩])) [0, 1, 5]
 (.reg false [⟨some 10, none, .mv (.t 5)⟩,
  ⟨some 11, none, .bin .add .val (.t 10) (.c (.int .i64 (1)))⟩,
  ⟨some 5, none, .mv (.t 11)⟩])))
def f76 : AFunc := { np := 2, nt := 19, res := [.tmp 4], own := false, body := (.seq (.reg false [⟨some 4, none, .mv (.c (.int .i64 (0)))⟩]) [0, 1]
 (.seq (.seq (.reg false [⟨some 5, none, .mv (.c (.int .i64 (0)))⟩]) [0, 1, 5]
 (.block 0 (.loop [0, 1, 5] f76l0))) [1]
 (.seq (.reg false [⟨some 18, none, .mv (.t 1)⟩,
  ⟨some 4, none, .mv (.t 18)⟩]) [4]
 (.ret)))) }
/- laws.markStringS -/
def f77l0 : ACode := (.seq (.seq (.reg false [⟨some 6, none, .mv (.t 5)⟩,
  ⟨some 7, none, .mv (.t 0)⟩,
  ⟨some 8, none, .len false (.t 7)⟩,
  ⟨some 9, none, .bin .lss .val (.t 6) (.t 8)⟩]) [0, 1, 5, 9]
 (.cond (.t 9) (.skip) (.exit 0))) [0, 1, 5]
 (.seq (.block 1 (.seq (.reg false [⟨some 12, none, .mv (.t 0)⟩,
  ⟨some 13, none, .mv (.t 5)⟩,
  ⟨some 14, none, .mv (.t 1)⟩,
  ⟨some 15, none, .pcall (.f 84) [.t 14]⟩,
  ⟨some 16, none, .iaddr 1 (.t 12) (.t 13)⟩,
  ⟨none, none, .store 1 (.t 16) (.t 15)⟩]) [0, 1, 5]
 (.reg false [⟨some 17, none, .mv (.t 1)⟩,
  ⟨some 18, none, .bin .add .val (.t 17) (.c (.int .i64 (1)))⟩,
  ⟨some 1, none, .mv (.t 18)⟩]))) [0, 1, 5]
 (.reg false [⟨some 10, none, .mv (.t 5)⟩,
  ⟨some 11, none, .bin .add .val (.t 10) (.c (.int .i64 (1)))⟩,
  ⟨some 5, none, .mv (.t 11)⟩])))
def f77 : AFunc := { np := 2, nt := 20, res := [.tmp 4], own := false, body := (.seq (.reg false [⟨some 4, none, .mv (.c (.int .i64 (0)))⟩]) [0, 1]
 (.seq (.seq (.reg false [⟨some 5, none, .mv (.c (.int .i64 (0)))⟩]) [0, 1, 5]
 (.block 0 (.loop [0, 1, 5] f77l0))) [1]
 (.seq (.reg false [⟨some 19, none, .mv (.t 1)⟩,
  ⟨some 4, none, .mv (.t 19)⟩]) [4]
 (.ret)))) }
/- laws.heldEntryS -/
def f78l0 : ACode := (.seq (.seq (.reg false [⟨some 6, none, .mv (.t 5)⟩,
  ⟨some 7, none, .mv (.t 0)⟩,
  ⟨some 8, none, .len false (.t 7)⟩,
  ⟨some 9, none, .bin .lss .val (.t 6) (.t 8)⟩]) [0, 1, 5, 9]
 (.cond (.t 9) (.skip) (.exit 0))) [0, 1, 5]
 (.seq (.block 1 (.seq (.seq (.reg true [⟨some 12, none, .mv (.t 0)⟩,
  ⟨some 13, none, .mv (.t 5)⟩,
  ⟨some 14, none, .iaddr 7 (.t 12) (.t 13)⟩,
  ⟨some 15, none, .faddr 0 (.t 14)⟩,
  ⟨some 16, none, .load false 1 (.t 15)⟩,
  ⟨some 17, none, .mv (.t 1)⟩,
  ⟨some 18, none, .pcall (.f 84) [.t 17]⟩,
  ⟨some 19, none, .bin .neq .val (.t 16) (.t 18)⟩]) [0, 1, 5, 19]
 (.cond (.t 19) (.seq (.reg false [⟨some 4, none, .mv (.c (.int .i64 (-1)))⟩]) [4]
 (.ret)) (.skip))) [0, 1, 5]
 (.seq (.reg false [⟨some 20, none, .mv (.t 1)⟩,
  ⟨some 21, none, .bin .add .val (.t 20) (.c (.int .i64 (1)))⟩,
  ⟨some 1, none, .mv (.t 21)⟩]) [0, 1, 5]
 (.seq (.seq (.reg false [⟨some 22, none, .mv (.t 0)⟩,
  ⟨some 23, none, .mv (.t 5)⟩,
  ⟨some 24, none, .iaddr 7 (.t 22) (.t 23)⟩,
  ⟨some 25, none, .faddr 1 (.t 24)⟩,
  ⟨some 26, none, .load false 1 (.t 25)⟩,
  ⟨some 27, none, .mv (.t 1)⟩,
  ⟨some 28, none, .bin .neq .val (.t 26) (.t 27)⟩]) [0, 1, 5, 28]
 (.cond (.t 28) (.seq (.reg false [⟨some 4, none, .mv (.c (.int .i64 (-1)))⟩]) [4]
 (.ret)) (.skip))) [0, 1, 5]
 (.seq (.reg false [⟨some 29, none, .mv (.t 1)⟩,
  ⟨some 30, none, .bin .add .val (.t 29) (.c (.int .i64 (1)))⟩,
  ⟨some 1, none, .mv (.t 30)⟩]) [0, 1, 5]
 (.seq (.seq (.reg false [⟨some 31, none, .mv (.t 0)⟩,
  ⟨some 32, none, .mv (.t 5)⟩,
  ⟨some 33, none, .iaddr 7 (.t 31) (.t 32)⟩,
  ⟨some 34, none, .faddr 2 (.t 33)⟩,
  ⟨some 35, none, .load false 1 (.t 34)⟩,
  ⟨some 36, none, .mv (.t 1)⟩,
  ⟨some 37, none, .bin .neq .val (.t 35) (.t 36)⟩]) [0, 1, 5, 37]
 (.cond (.t 37) (.seq (.reg false [⟨some 4, none, .mv (.c (.int .i64 (-1)))⟩]) [4]
 (.ret)) (.skip))) [0, 1, 5]
 (.seq (.reg false [⟨some 38, none, .mv (.t 1)⟩,
  ⟨some 39, none, .bin .add .val (.t 38) (.c (.int .i64 (1)))⟩,
  ⟨some 1, none, .mv (.t 39)⟩]) [0, 1, 5]
 (.seq (.seq (.reg true [⟨some 40, none, .mv (.t 0)⟩,
  ⟨some 41, none, .mv (.t 5)⟩,
  ⟨some 42, none, .iaddr 7 (.t 40) (.t 41)⟩,
  ⟨some 43, none, .faddr 3 (.t 42)⟩,
  ⟨some 44, none, .load false 1 (.t 43)⟩,
  ⟨some 45, none, .mv (.t 1)⟩,
  ⟨some 46, none, .pcall (.f 84) [.t 45]⟩,
  ⟨some 47, none, .bin .neq .val (.t 44) (.t 46)⟩]) [0, 1, 5, 47]
 (.cond (.t 47) (.seq (.reg false [⟨some 4, none, .mv (.c (.int .i64 (-1)))⟩]) [4]
 (.ret)) (.skip))) [0, 1, 5]
 (.seq (.reg false [⟨some 48, none, .mv (.t 1)⟩,
  ⟨some 49, none, .bin .add .val (.t 48) (.c (.int .i64 (1)))⟩,
  ⟨some 1, none, .mv (.t 49)⟩]) [0, 1, 5]
 (.seq (.reg false [⟨some 50, none, .mv (.t 0)⟩,
  ⟨some 51, none, .mv (.t 5)⟩,
  ⟨some 52, none, .iaddr 7 (.t 50) (.t 51)⟩,
  ⟨some 53, none, .faddr 4 (.t 52)⟩,
  ⟨some 54, none, .load false 1 (.t 53)⟩,
  ⟨some 55, none, .mv (.t 1)⟩,
  ⟨some 56, none, .pcall (.f 80) [.t 54, .t 55]⟩,
  ⟨some 1, none, .mv (.t 56)⟩]) [0, 1, 5]
 (.seq (.seq (.reg false [⟨some 57, none, .mv (.t 1)⟩,
  ⟨some 58, none, .bin .lss .val (.t 57) (.c (.int .i64 (0)))⟩]) [0, 1, 5, 58]
 (.cond (.t 58) (.seq (.reg false [⟨some 4, none, .mv (.c (.int .i64 (-1)))⟩]) [4]
 (.ret)) (.skip))) [0, 1, 5]
 (.seq (.reg false [⟨some 59, none, .mv (.t 0)⟩,
  ⟨some 60, none, .mv (.t 5)⟩,
  ⟨some 61, none, .iaddr 7 (.t 59) (.t 60)⟩,
  ⟨some 62, none, .faddr 5 (.t 61)⟩,
  ⟨some 63, none, .load false 1 (.t 62)⟩,
  ⟨some 64, none, .mv (.t 1)⟩,
  ⟨some 65, none, .pcall (.f 87) [.t 63, .t 64]⟩,
  ⟨some 1, none, .mv (.t 65)⟩]) [0, 1, 5]
 (.seq (.seq (.reg false [⟨some 66, none, .mv (.t 1)⟩,
  ⟨some 67, none, .bin .lss .val (.t 66) (.c (.int .i64 (0)))⟩]) [0, 1, 5, 67]
 (.cond (.t 67) (.seq (.reg false [⟨some 4, none, .mv (.c (.int .i64 (-1)))⟩]) [4]
 (.ret)) (.skip))) [0, 1, 5]
 (.seq (.reg false [⟨some 68, none, .mv (.t 0)⟩,
  ⟨some 69, none, .mv (.t 5)⟩,
  ⟨some 70, none, .iaddr 7 (.t 68) (.t 69)⟩,
  ⟨some 71, none, .faddr 6 (.t 70)⟩,
  ⟨some 72, none, .load false 1 (.t 71)⟩,
  ⟨some 73, none, .mv (.t 1)⟩,
  ⟨some 74, none, .pcall (.f 88) [.t 72, .t 73]⟩,
  ⟨some 1, none, .mv (.t 74)⟩]) [0, 1, 5]
 (.seq (.reg false [⟨some 75, none, .mv (.t 1)⟩,
  ⟨some 76, none, .bin .lss .val (.t 75) (.c (.int .i64 (0)))⟩]) [0, 1, 5, 76]
 (.cond (.t 76) (.seq (.reg false [⟨some 4, none, .mv (.c (.int .i64 (-1)))⟩]) [4]
 (.ret)) (.skip))))))))))))))))) [0, 1, 5]
 (.reg false [⟨some 10, none, .mv (.t 5)⟩,
  ⟨some 11, none, .bin .add .val (.t 10) (.c (.int .i64 (1)))⟩,
  ⟨some 5, none, .mv (.t 11)⟩])))
def f78 : AFunc := { np := 2, nt := 78, res := [.tmp 4], own := false, body := (.seq (.reg false [⟨some 4, none, .mv (.c (.int .i64 (0)))⟩]) [0, 1]
 (.seq (.seq (.reg false [⟨some 5, none, .mv (.c (.int .i64 (0)))⟩]) [0, 1, 5]
 (.block 0 (.loop [0, 1, 5] f78l0))) [1]
 (.seq (.reg false [⟨some 77, none, .mv (.t 1)⟩,
  ⟨some 4, none, .mv (.t 77)⟩]) [4]
 (.ret)))) }
/- laws.heldStringSS -/
def f79l0 : ACode := (.seq (.seq (.reg false [⟨some 6, none, .mv (.t 5)⟩,
  ⟨some 7, none, .mv (.t 0)⟩,
  ⟨some 8, none, .len false (.t 7)⟩,
  ⟨some 9, none, .bin .lss .val (.t 6) (.t 8)⟩]) [0, 1, 5, 9]
 (.cond (.t 9) (.skip) (.exit 0))) [0, 1, 5]
 (.seq (.block 1 (.seq (.reg false [⟨some 12, none, .mv (.t 0)⟩,
  ⟨some 13, none, .mv (.t 5)⟩,
  ⟨some 14, none, .iaddr 1 (.t 12) (.t 13)⟩,
  ⟨some 15, none, .load false 1 (.t 14)⟩,
  ⟨some 16, none, .mv (.t 1)⟩,
  ⟨some 17, none, .pcall (.f 80) [.t 15, .t 16]⟩,
  ⟨some 1, none, .mv (.t 17)⟩]) [0, 1, 5]
 (.seq (.reg false [⟨some 18, none, .mv (.t 1)⟩,
  ⟨some 19, none, .bin .lss .val (.t 18) (.c (.int .i64 (0)))⟩]) [0, 1, 5, 19]
 (.cond (.t 19) (.seq (.reg false [⟨some 4, none, .mv (.c (.int .i64 (-1)))⟩]) [4]
 (.ret)) (.skip))))) [0, 1, 5]
 (.reg false [⟨some 10, none, .mv (.t 5)⟩,
  ⟨some 11, none, .bin .add .val (.t 10) (.c (.int .i64 (1)))⟩,
  ⟨some 5, none, .mv (.t 11)⟩])))
def f79 : AFunc := { np := 2, nt := 21, res := [.tmp 4], own := false, body := (.seq (.reg false [⟨some 4, none, .mv (.c (.int .i64 (0)))⟩]) [0, 1]
 (.seq (.seq (.reg false [⟨some 5, none, .mv (.c (.int .i64 (0)))⟩]) [0, 1, 5]
 (.block 0 (.loop [0, 1, 5] f79l0))) [1]
 (.seq (.reg false [⟨some 20, none, .mv (.t 1)⟩,
  ⟨some 4, none, .mv (.t 20)⟩]) [4]
 (.ret)))) }
/- laws.heldStringS -/
def f80l0 : ACode := (.seq (.seq (.reg false [⟨some 6, none, .mv (.t 5)⟩,
  ⟨some 7, none, .mv (.t 0)⟩,
  ⟨some 8, none, .len false (.t 7)⟩,
  ⟨some 9, none, .bin .lss .val (.t 6) (.t 8)⟩]) [0, 1, 5, 9]
 (.cond (.t 9) (.skip) (.exit 0))) [0, 1, 5]
 (.seq (.block 1 (.seq (.seq (.reg true [⟨some 12, none, .mv (.t 0)⟩,
  ⟨some 13, none, .mv (.t 5)⟩,
  ⟨some 14, none, .iaddr 1 (.t 12) (.t 13)⟩,
  ⟨some 15, none, .load false 1 (.t 14)⟩,
  ⟨some 16, none, .mv (.t 1)⟩,
  ⟨some 17, none, .pcall (.f 84) [.t 16]⟩,
  ⟨some 18, none, .bin .neq .val (.t 15) (.t 17)⟩]) [0, 1, 5, 18]
 (.cond (.t 18) (.seq (.reg false [⟨some 4, none, .mv (.c (.int .i64 (-1)))⟩]) [4]
 (.ret)) (.skip))) [0, 1, 5]
 (.reg false [⟨some 19, none, .mv (.t 1)⟩,
  ⟨some 20, none, .bin .add .val (.t 19) (.c (.int .i64 (1)))⟩,
  ⟨some 1, none, .mv (.t 20)⟩]))) [0, 1, 5]
 (.reg false [⟨some 10, none, .mv (.t 5)⟩,
  ⟨some 11, none, .bin .add .val (.t 10) (.c (.int .i64 (1)))⟩,
  ⟨some 5, none, .mv (.t 11)⟩])))
def f80 : AFunc := { np := 2, nt := 22, res := [.tmp 4], own := false, body := (.seq (.reg false [⟨some 4, none, .mv (.c (.int .i64 (0)))⟩]) [0, 1]
 (.seq (.seq (.reg false [⟨some 5, none, .mv (.c (.int .i64 (0)))⟩]) [0, 1, 5]
 (.block 0 (.loop [0, 1, 5] f80l0))) [1]
 (.seq (.reg false [⟨some 21, none, .mv (.t 1)⟩,
  ⟨some 4, none, .mv (.t 21)⟩]) [4]
 (.ret)))) }
/- spec.l1Bulk -/
def f81 : AFunc := { np := 1, nt := 11, res := [.tmp 2], own := false, body := (.seq (.reg false [⟨some 2, none, .mv (.c (.str []))⟩]) [0]
 (.seq (.reg false [⟨some 3, none, .mv (.t 0)⟩,
  ⟨some 4, none, .len true (.t 3)⟩,
  ⟨some 5, none, .pcall (.f 67) [.t 4]⟩,
  ⟨some 6, none, .bin .add .val (.c (.str [36])) (.t 5)⟩,
  ⟨some 7, none, .bin .add .val (.t 6) (.c (.str [13, 10]))⟩,
  ⟨some 8, none, .mv (.t 0)⟩,
  ⟨some 9, none, .bin .add .val (.t 7) (.t 8)⟩,
  ⟨some 10, none, .bin .add .val (.t 9) (.c (.str [13, 10]))⟩,
  ⟨some 2, none, .mv (.t 10)⟩]) [2]
 (.ret))) }
/- laws.eqEntry -/
def f82 : AFunc := { np := 2, nt := 43, res := [.tmp 4], own := false, body := (.seq (.reg false [⟨some 2, none, .box (.t 0)⟩,
  ⟨some 3, none, .box (.t 1)⟩,
  ⟨some 4, none, .mv (.c (.bool false))⟩]) [2, 3]
 (.seq (.seq (.reg false [⟨some 5, none, .faddr 0 (.t 2)⟩,
  ⟨some 6, none, .load false 1 (.t 5)⟩,
  ⟨some 7, none, .faddr 0 (.t 3)⟩,
  ⟨some 8, none, .load false 1 (.t 7)⟩,
  ⟨some 9, none, .bin .neq .val (.t 6) (.t 8)⟩]) [2, 3, 9]
 (.cond (.t 9) (.seq (.reg false [⟨some 4, none, .mv (.c (.bool false))⟩]) [4]
 (.ret)) (.skip))) [2, 3]
 (.seq (.seq (.reg false [⟨some 10, none, .faddr 1 (.t 2)⟩,
  ⟨some 11, none, .load false 1 (.t 10)⟩,
  ⟨some 12, none, .faddr 1 (.t 3)⟩,
  ⟨some 13, none, .load false 1 (.t 12)⟩,
  ⟨some 14, none, .bin .neq .val (.t 11) (.t 13)⟩]) [2, 3, 14]
 (.cond (.t 14) (.seq (.reg false [⟨some 4, none, .mv (.c (.bool false))⟩]) [4]
 (.ret)) (.skip))) [2, 3]
 (.seq (.seq (.reg false [⟨some 15, none, .faddr 2 (.t 2)⟩,
  ⟨some 16, none, .load false 1 (.t 15)⟩,
  ⟨some 17, none, .faddr 2 (.t 3)⟩,
  ⟨some 18, none, .load false 1 (.t 17)⟩,
  ⟨some 19, none, .bin .neq .val (.t 16) (.t 18)⟩]) [2, 3, 19]
 (.cond (.t 19) (.seq (.reg false [⟨some 4, none, .mv (.c (.bool false))⟩]) [4]
 (.ret)) (.skip))) [2, 3]
 (.seq (.seq (.reg false [⟨some 20, none, .faddr 3 (.t 2)⟩,
  ⟨some 21, none, .load false 1 (.t 20)⟩,
  ⟨some 22, none, .faddr 3 (.t 3)⟩,
  ⟨some 23, none, .load false 1 (.t 22)⟩,
  ⟨some 24, none, .bin .neq .val (.t 21) (.t 23)⟩]) [2, 3, 24]
 (.cond (.t 24) (.seq (.reg false [⟨some 4, none, .mv (.c (.bool false))⟩]) [4]
 (.ret)) (.skip))) [2, 3]
 (.seq (.seq (.reg false [⟨some 25, none, .faddr 4 (.t 2)⟩,
  ⟨some 26, none, .load false 1 (.t 25)⟩,
  ⟨some 27, none, .faddr 4 (.t 3)⟩,
  ⟨some 28, none, .load false 1 (.t 27)⟩,
  ⟨some 29, none, .pcall (.f 19) [.t 26, .t 28]⟩,
  ⟨some 30, none, .un .not (.t 29)⟩]) [2, 3, 30]
 (.cond (.t 30) (.seq (.reg false [⟨some 4, none, .mv (.c (.bool false))⟩]) [4]
 (.ret)) (.skip))) [2, 3]
 (.seq (.seq (.reg false [⟨some 31, none, .faddr 5 (.t 2)⟩,
  ⟨some 32, none, .load false 1 (.t 31)⟩,
  ⟨some 33, none, .faddr 5 (.t 3)⟩,
  ⟨some 34, none, .load false 1 (.t 33)⟩,
  ⟨some 35, none, .pcall (.f 89) [.t 32, .t 34]⟩,
  ⟨some 36, none, .un .not (.t 35)⟩]) [2, 3, 36]
 (.cond (.t 36) (.seq (.reg false [⟨some 4, none, .mv (.c (.bool false))⟩]) [4]
 (.ret)) (.skip))) [2, 3]
 (.seq (.seq (.reg false [⟨some 37, none, .faddr 6 (.t 2)⟩,
  ⟨some 38, none, .load false 1 (.t 37)⟩,
  ⟨some 39, none, .faddr 6 (.t 3)⟩,
  ⟨some 40, none, .load false 1 (.t 39)⟩,
  ⟨some 41, none, .pcall (.f 90) [.t 38, .t 40]⟩,
  ⟨some 42, none, .un .not (.t 41)⟩]) [42]
 (.cond (.t 42) (.seq (.reg false [⟨some 4, none, .mv (.c (.bool false))⟩]) [4]
 (.ret)) (.skip))) []
 (.seq (.reg false [⟨some 4, none, .mv (.c (.bool true))⟩]) [4]
 (.ret)))))))))) }
/- laws.eqStringSS -/
def f83l0 : ACode := (.seq (.seq (.reg false [⟨some 11, none, .mv (.t 5)⟩,
  ⟨some 12, none, .mv (.t 0)⟩,
  ⟨some 13, none, .len false (.t 12)⟩,
  ⟨some 14, none, .bin .lss .val (.t 11) (.t 13)⟩]) [0, 1, 5, 14]
 (.cond (.t 14) (.skip) (.exit 0))) [0, 1, 5]
 (.seq (.block 1 (.seq (.reg true [⟨some 17, none, .mv (.t 0)⟩,
  ⟨some 18, none, .mv (.t 5)⟩,
  ⟨some 19, none, .iaddr 1 (.t 17) (.t 18)⟩,
  ⟨some 20, none, .load false 1 (.t 19)⟩,
  ⟨some 21, none, .mv (.t 1)⟩,
  ⟨some 22, none, .mv (.t 5)⟩,
  ⟨some 23, none, .iaddr 1 (.t 21) (.t 22)⟩,
  ⟨some 24, none, .load false 1 (.t 23)⟩,
  ⟨some 25, none, .pcall (.f 19) [.t 20, .t 24]⟩,
  ⟨some 26, none, .un .not (.t 25)⟩]) [0, 1, 5, 26]
 (.cond (.t 26) (.seq (.reg false [⟨some 4, none, .mv (.c (.bool false))⟩]) [4]
 (.ret)) (.skip)))) [0, 1, 5]
 (.reg false [⟨some 15, none, .mv (.t 5)⟩,
  ⟨some 16, none, .bin .add .val (.t 15) (.c (.int .i64 (1)))⟩,
  ⟨some 5, none, .mv (.t 16)⟩])))
def f83 : AFunc := { np := 2, nt := 27, res := [.tmp 4], own := false, body := (.seq (.reg false [⟨some 4, none, .mv (.c (.bool false))⟩]) [0, 1]
 (.seq (.seq (.reg false [⟨some 6, none, .mv (.t 0)⟩,
  ⟨some 7, none, .len false (.t 6)⟩,
  ⟨some 8, none, .mv (.t 1)⟩,
  ⟨some 9, none, .len false (.t 8)⟩,
  ⟨some 10, none, .bin .neq .val (.t 7) (.t 9)⟩]) [0, 1, 10]
 (.cond (.t 10) (.seq (.reg false [⟨some 4, none, .mv (.c (.bool false))⟩]) [4]
 (.ret)) (.skip))) [0, 1]
 (.seq (.seq (.reg false [⟨some 5, none, .mv (.c (.int .i64 (0)))⟩]) [0, 1, 5]
 (.block 0 (.loop [0, 1, 5] f83l0))) []
 (.seq (.reg false [⟨some 4, none, .mv (.c (.bool true))⟩]) [4]
 (.ret))))) }
/- laws.markText -/
def f84l0 : ACode := (.seq (.seq (.reg false [⟨some 6, none, .mv (.t 0)⟩,
  ⟨some 7, none, .bin .gtr .val (.t 6) (.c (.int .i64 (0)))⟩]) [0, 3, 7]
 (.cond (.t 7) (.skip) (.exit 0))) [0, 3]
 (.block 1 (.seq (.reg false [⟨some 8, none, .mv (.t 0)⟩,
  ⟨some 9, none, .bin .rem .val (.t 8) (.c (.int .i64 (10)))⟩,
  ⟨some 10, none, .bin .add .val (.c (.int .i64 (48))) (.t 9)⟩,
  ⟨some 11, none, .cvInt .u8 (.t 10)⟩,
  ⟨some 12, none, .lit false 1 [.t 11]⟩,
  ⟨some 13, none, .cvStr (.t 12)⟩,
  ⟨some 14, none, .mv (.t 3)⟩,
  ⟨some 15, none, .bin .add .val (.t 13) (.t 14)⟩,
  ⟨some 3, none, .mv (.t 15)⟩]) [0, 3]
 (.reg false [⟨some 16, none, .mv (.t 0)⟩,
  ⟨some 17, none, .bin .quo .val (.t 16) (.c (.int .i64 (10)))⟩,
  ⟨some 0, none, .mv (.t 17)⟩]))))
def f84 : AFunc := { np := 1, nt := 20, res := [.tmp 2], own := false, body := (.seq (.reg false [⟨some 2, none, .mv (.c (.str []))⟩]) [0]
 (.seq (.seq (.reg false [⟨some 4, none, .mv (.t 0)⟩,
  ⟨some 5, none, .bin .leq .val (.t 4) (.c (.int .i64 (0)))⟩]) [0, 5]
 (.cond (.t 5) (.seq (.reg false [⟨some 2, none, .mv (.c (.str [109, 48]))⟩]) [2]
 (.ret)) (.skip))) [0]
 (.seq (.reg false [⟨some 3, none, .mv (.c (.str []))⟩]) [0, 3]
 (.seq (.block 0 (.loop [0, 3] f84l0)) [3]
 (.seq (.reg false [⟨some 18, none, .mv (.t 3)⟩,
  ⟨some 19, none, .bin .add .val (.c (.str [109])) (.t 18)⟩,
  ⟨some 2, none, .mv (.t 19)⟩]) [2]
 (.ret)))))) }
/- laws.markScoreS -/
def f85l0 : ACode := (.seq (.seq (.reg false [⟨some 6, none, .mv (.t 5)⟩,
  ⟨some 7, none, .mv (.t 0)⟩,
  ⟨some 8, none, .len false (.t 7)⟩,
  ⟨some 9, none, .bin .lss .val (.t 6) (.t 8)⟩]) [0, 1, 5, 9]
 (.cond (.t 9) (.skip) (.exit 0))) [0, 1, 5]
 (.seq (.block 1 (.seq (.reg false [⟨some 12, none, .mv (.t 0)⟩,
  ⟨some 13, none, .mv (.t 5)⟩,
  ⟨some 14, none, .mv (.t 1)⟩,
  ⟨some 15, none, .pcall (.f 84) [.t 14]⟩,
  ⟨some 16, none, .iaddr 2 (.t 12) (.t 13)⟩,
  ⟨some 17, none, .faddr 0 (.t 16)⟩,
  ⟨none, none, .store 1 (.t 17) (.t 15)⟩]) [0, 1, 5]
 (.seq (.reg false [⟨some 18, none, .mv (.t 1)⟩,
  ⟨some 19, none, .bin .add .val (.t 18) (.c (.int .i64 (1)))⟩,
  ⟨some 1, none, .mv (.t 19)⟩]) [0, 1, 5]
 (.seq (.reg false [⟨some 20, none, .mv (.t 0)⟩,
  ⟨some 21, none, .mv (.t 5)⟩,
  ⟨some 22, none, .mv (.t 1)⟩,
  ⟨some 23, none, .iaddr 2 (.t 20) (.t 21)⟩,
  ⟨some 24, none, .faddr 1 (.t 23)⟩,
  ⟨none, none, .store 1 (.t 24) (.t 22)⟩]) [0, 1, 5]
 (.reg false [⟨some 25, none, .mv (.t 1)⟩,
  ⟨some 26, none, .bin .add .val (.t 25) (.c (.int .i64 (1)))⟩,
  ⟨some 1, none, .mv (.t 26)⟩]))))) [0, 1, 5]
 (.reg false [⟨some 10, none, .mv (.t 5)⟩,
  ⟨some 11, none, .bin .add .val (.t 10) (.c (.int .i64 (1)))⟩,
  ⟨some 5, none, .mv (.t 11)⟩])))
def f85 : AFunc := { np := 2, nt := 28, res := [.tmp 4], own := false, body := (.seq (.reg false [⟨some 4, none, .mv (.c (.int .i64 (0)))⟩]) [0, 1]
 (.seq (.seq (.reg false [⟨some 5, none, .mv (.c (.int .i64 (0)))⟩]) [0, 1, 5]
 (.block 0 (.loop [0, 1, 5] f85l0))) [1]
 (.seq (.reg false [⟨some 27, none, .mv (.t 1)⟩,
  ⟨some 4, none, .mv (.t 27)⟩]) [4]
 (.ret)))) }
/- laws.markPairS -/
def f86l0 : ACode := (.seq (.seq (.reg false [⟨some 6, none, .mv (.t 5)⟩,
  ⟨some 7, none, .mv (.t 0)⟩,
  ⟨some 8, none, .len false (.t 7)⟩,
  ⟨some 9, none, .bin .lss .val (.t 6) (.t 8)⟩]) [0, 1, 5, 9]
 (.cond (.t 9) (.skip) (.exit 0))) [0, 1, 5]
 (.seq (.block 1 (.seq (.reg false [⟨some 12, none, .mv (.t 0)⟩,
  ⟨some 13, none, .mv (.t 5)⟩,
  ⟨some 14, none, .mv (.t 1)⟩,
  ⟨some 15, none, .pcall (.f 84) [.t 14]⟩,
  ⟨some 16, none, .iaddr 2 (.t 12) (.t 13)⟩,
  ⟨some 17, none, .faddr 0 (.t 16)⟩,
  ⟨none, none, .store 1 (.t 17) (.t 15)⟩]) [0, 1, 5]
 (.seq (.reg false [⟨some 18, none, .mv (.t 1)⟩,
  ⟨some 19, none, .bin .add .val (.t 18) (.c (.int .i64 (1)))⟩,
  ⟨some 1, none, .mv (.t 19)⟩]) [0, 1, 5]
 (.seq (.reg false [⟨some 20, none, .mv (.t 0)⟩,
  ⟨some 21, none, .mv (.t 5)⟩,
  ⟨some 22, none, .mv (.t 1)⟩,
  ⟨some 23, none, .pcall (.f 84) [.t 22]⟩,
  ⟨some 24, none, .iaddr 2 (.t 20) (.t 21)⟩,
  ⟨some 25, none, .faddr 1 (.t 24)⟩,
  ⟨none, none, .store 1 (.t 25) (.t 23)⟩]) [0, 1, 5]
 (.reg false [⟨some 26, none, .mv (.t 1)⟩,
  ⟨some 27, none, .bin .add .val (.t 26) (.c (.int .i64 (1)))⟩,
  ⟨some 1, none, .mv (.t 27)⟩]))))) [0, 1, 5]
 (.reg false [⟨some 10, none, .mv (.t 5)⟩,
  ⟨some 11, none, .bin .add .val (.t 10) (.c (.int .i64 (1)))⟩,
  ⟨some 5, none, .mv (.t 11)⟩])))
def f86 : AFunc := { np := 2, nt := 29, res := [.tmp 4], own := false, body := (.seq (.reg false [⟨some 4, none, .mv (.c (.int .i64 (0)))⟩]) [0, 1]
 (.seq (.seq (.reg false [⟨some 5, none, .mv (.c (.int .i64 (0)))⟩]) [0, 1, 5]
 (.block 0 (.loop [0, 1, 5] f86l0))) [1]
 (.seq (.reg false [⟨some 28, none, .mv (.t 1)⟩,
  ⟨some 4, none, .mv (.t 28)⟩]) [4]
 (.ret)))) }
/- laws.heldScoreS -/
def f87l0 : ACode := (.seq (.seq (.reg false [⟨some 6, none, .mv (.t 5)⟩,
  ⟨some 7, none, .mv (.t 0)⟩,
  ⟨some 8, none, .len false (.t 7)⟩,
  ⟨some 9, none, .bin .lss .val (.t 6) (.t 8)⟩]) [0, 1, 5, 9]
 (.cond (.t 9) (.skip) (.exit 0))) [0, 1, 5]
 (.seq (.block 1 (.seq (.seq (.reg true [⟨some 12, none, .mv (.t 0)⟩,
  ⟨some 13, none, .mv (.t 5)⟩,
  ⟨some 14, none, .iaddr 2 (.t 12) (.t 13)⟩,
  ⟨some 15, none, .faddr 0 (.t 14)⟩,
  ⟨some 16, none, .load false 1 (.t 15)⟩,
  ⟨some 17, none, .mv (.t 1)⟩,
  ⟨some 18, none, .pcall (.f 84) [.t 17]⟩,
  ⟨some 19, none, .bin .neq .val (.t 16) (.t 18)⟩]) [0, 1, 5, 19]
 (.cond (.t 19) (.seq (.reg false [⟨some 4, none, .mv (.c (.int .i64 (-1)))⟩]) [4]
 (.ret)) (.skip))) [0, 1, 5]
 (.seq (.reg false [⟨some 20, none, .mv (.t 1)⟩,
  ⟨some 21, none, .bin .add .val (.t 20) (.c (.int .i64 (1)))⟩,
  ⟨some 1, none, .mv (.t 21)⟩]) [0, 1, 5]
 (.seq (.seq (.reg false [⟨some 22, none, .mv (.t 0)⟩,
  ⟨some 23, none, .mv (.t 5)⟩,
  ⟨some 24, none, .iaddr 2 (.t 22) (.t 23)⟩,
  ⟨some 25, none, .faddr 1 (.t 24)⟩,
  ⟨some 26, none, .load false 1 (.t 25)⟩,
  ⟨some 27, none, .mv (.t 1)⟩,
  ⟨some 28, none, .bin .neq .val (.t 26) (.t 27)⟩]) [0, 1, 5, 28]
 (.cond (.t 28) (.seq (.reg false [⟨some 4, none, .mv (.c (.int .i64 (-1)))⟩]) [4]
 (.ret)) (.skip))) [0, 1, 5]
 (.reg false [⟨some 29, none, .mv (.t 1)⟩,
  ⟨some 30, none, .bin .add .val (.t 29) (.c (.int .i64 (1)))⟩,
  ⟨some 1, none, .mv (.t 30)⟩]))))) [0, 1, 5]
 (.reg false [⟨some 10, none, .mv (.t 5)⟩,
  ⟨some 11, none, .bin .add .val (.t 10) (.c (.int .i64 (1)))⟩,
  ⟨some 5, none, .mv (.t 11)⟩])))
def f87 : AFunc := { np := 2, nt := 32, res := [.tmp 4], own := false, body := (.seq (.reg false [⟨some 4, none, .mv (.c (.int .i64 (0)))⟩]) [0, 1]
 (.seq (.seq (.reg false [⟨some 5, none, .mv (.c (.int .i64 (0)))⟩]) [0, 1, 5]
 (.block 0 (.loop [0, 1, 5] f87l0))) [1]
 (.seq (.reg false [⟨some 31, none, .mv (.t 1)⟩,
  ⟨some 4, none, .mv (.t 31)⟩]) [4]
 (.ret)))) }
/- laws.heldPairS -/
def f88l0 : ACode := (.seq (.seq (.reg false [⟨some 6, none, .mv (.t 5)⟩,
  ⟨some 7, none, .mv (.t 0)⟩,
  ⟨some 8, none, .len false (.t 7)⟩,
  ⟨some 9, none, .bin .lss .val (.t 6) (.t 8)⟩]) [0, 1, 5, 9]
 (.cond (.t 9) (.skip) (.exit 0))) [0, 1, 5]
 (.seq (.block 1 (.seq (.seq (.reg true [⟨some 12, none, .mv (.t 0)⟩,
  ⟨some 13, none, .mv (.t 5)⟩,
  ⟨some 14, none, .iaddr 2 (.t 12) (.t 13)⟩,
  ⟨some 15, none, .faddr 0 (.t 14)⟩,
  ⟨some 16, none, .load false 1 (.t 15)⟩,
  ⟨some 17, none, .mv (.t 1)⟩,
  ⟨some 18, none, .pcall (.f 84) [.t 17]⟩,
  ⟨some 19, none, .bin .neq .val (.t 16) (.t 18)⟩]) [0, 1, 5, 19]
 (.cond (.t 19) (.seq (.reg false [⟨some 4, none, .mv (.c (.int .i64 (-1)))⟩]) [4]
 (.ret)) (.skip))) [0, 1, 5]
 (.seq (.reg false [⟨some 20, none, .mv (.t 1)⟩,
  ⟨some 21, none, .bin .add .val (.t 20) (.c (.int .i64 (1)))⟩,
  ⟨some 1, none, .mv (.t 21)⟩]) [0, 1, 5]
 (.seq (.seq (.reg true [⟨some 22, none, .mv (.t 0)⟩,
  ⟨some 23, none, .mv (.t 5)⟩,
  ⟨some 24, none, .iaddr 2 (.t 22) (.t 23)⟩,
  ⟨some 25, none, .faddr 1 (.t 24)⟩,
  ⟨some 26, none, .load false 1 (.t 25)⟩,
  ⟨some 27, none, .mv (.t 1)⟩,
  ⟨some 28, none, .pcall (.f 84) [.t 27]⟩,
  ⟨some 29, none, .bin .neq .val (.t 26) (.t 28)⟩]) [0, 1, 5, 29]
 (.cond (.t 29) (.seq (.reg false [⟨some 4, none, .mv (.c (.int .i64 (-1)))⟩]) [4]
 (.ret)) (.skip))) [0, 1, 5]
 (.reg false [⟨some 30, none, .mv (.t 1)⟩,
  ⟨some 31, none, .bin .add .val (.t 30) (.c (.int .i64 (1)))⟩,
  ⟨some 1, none, .mv (.t 31)⟩]))))) [0, 1, 5]
 (.reg false [⟨some 10, none, .mv (.t 5)⟩,
  ⟨some 11, none, .bin .add .val (.t 10) (.c (.int .i64 (1)))⟩,
  ⟨some 5, none, .mv (.t 11)⟩])))
def f88 : AFunc := { np := 2, nt := 33, res := [.tmp 4], own := false, body := (.seq (.reg false [⟨some 4, none, .mv (.c (.int .i64 (0)))⟩]) [0, 1]
 (.seq (.seq (.reg false [⟨some 5, none, .mv (.c (.int .i64 (0)))⟩]) [0, 1, 5]
 (.block 0 (.loop [0, 1, 5] f88l0))) [1]
 (.seq (.reg false [⟨some 32, none, .mv (.t 1)⟩,
  ⟨some 4, none, .mv (.t 32)⟩]) [4]
 (.ret)))) }
/- laws.eqScoreS -/
def f89l0 : ACode := (.seq (.seq (.reg false [⟨some 11, none, .mv (.t 5)⟩,
  ⟨some 12, none, .mv (.t 0)⟩,
  ⟨some 13, none, .len false (.t 12)⟩,
  ⟨some 14, none, .bin .lss .val (.t 11) (.t 13)⟩]) [0, 1, 5, 14]
 (.cond (.t 14) (.skip) (.exit 0))) [0, 1, 5]
 (.seq (.block 1 (.seq (.reg true [⟨some 17, none, .mv (.t 0)⟩,
  ⟨some 18, none, .mv (.t 5)⟩,
  ⟨some 19, none, .iaddr 2 (.t 17) (.t 18)⟩,
  ⟨some 20, none, .load true 2 (.t 19)⟩,
  ⟨some 21, none, .mv (.t 1)⟩,
  ⟨some 22, none, .mv (.t 5)⟩,
  ⟨some 23, none, .iaddr 2 (.t 21) (.t 22)⟩,
  ⟨some 24, none, .load true 2 (.t 23)⟩,
  ⟨some 25, none, .pcall (.f 91) [.t 20, .t 24]⟩,
  ⟨some 26, none, .un .not (.t 25)⟩]) [0, 1, 5, 26]
 (.cond (.t 26) (.seq (.reg false [⟨some 4, none, .mv (.c (.bool false))⟩]) [4]
 (.ret)) (.skip)))) [0, 1, 5]
 (.reg false [⟨some 15, none, .mv (.t 5)⟩,
  ⟨some 16, none, .bin .add .val (.t 15) (.c (.int .i64 (1)))⟩,
  ⟨some 5, none, .mv (.t 16)⟩])))
def f89 : AFunc := { np := 2, nt := 27, res := [.tmp 4], own := false, body := (.seq (.reg false [⟨some 4, none, .mv (.c (.bool false))⟩]) [0, 1]
 (.seq (.seq (.reg false [⟨some 6, none, .mv (.t 0)⟩,
  ⟨some 7, none, .len false (.t 6)⟩,
  ⟨some 8, none, .mv (.t 1)⟩,
  ⟨some 9, none, .len false (.t 8)⟩,
  ⟨some 10, none, .bin .neq .val (.t 7) (.t 9)⟩]) [0, 1, 10]
 (.cond (.t 10) (.seq (.reg false [⟨some 4, none, .mv (.c (.bool false))⟩]) [4]
 (.ret)) (.skip))) [0, 1]
 (.seq (.seq (.reg false [⟨some 5, none, .mv (.c (.int .i64 (0)))⟩]) [0, 1, 5]
 (.block 0 (.loop [0, 1, 5] f89l0))) []
 (.seq (.reg false [⟨some 4, none, .mv (.c (.bool true))⟩]) [4]
 (.ret))))) }
/- laws.eqPairS -/
def f90l0 : ACode := (.seq (.seq (.reg false [⟨some 11, none, .mv (.t 5)⟩,
  ⟨some 12, none, .mv (.t 0)⟩,
  ⟨some 13, none, .len false (.t 12)⟩,
  ⟨some 14, none, .bin .lss .val (.t 11) (.t 13)⟩]) [0, 1, 5, 14]
 (.cond (.t 14) (.skip) (.exit 0))) [0, 1, 5]
 (.seq (.block 1 (.seq (.reg true [⟨some 17, none, .mv (.t 0)⟩,
  ⟨some 18, none, .mv (.t 5)⟩,
  ⟨some 19, none, .iaddr 2 (.t 17) (.t 18)⟩,
  ⟨some 20, none, .load true 2 (.t 19)⟩,
  ⟨some 21, none, .mv (.t 1)⟩,
  ⟨some 22, none, .mv (.t 5)⟩,
  ⟨some 23, none, .iaddr 2 (.t 21) (.t 22)⟩,
  ⟨some 24, none, .load true 2 (.t 23)⟩,
  ⟨some 25, none, .pcall (.f 92) [.t 20, .t 24]⟩,
  ⟨some 26, none, .un .not (.t 25)⟩]) [0, 1, 5, 26]
 (.cond (.t 26) (.seq (.reg false [⟨some 4, none, .mv (.c (.bool false))⟩]) [4]
 (.ret)) (.skip)))) [0, 1, 5]
 (.reg false [⟨some 15, none, .mv (.t 5)⟩,
  ⟨some 16, none, .bin .add .val (.t 15) (.c (.int .i64 (1)))⟩,
  ⟨some 5, none, .mv (.t 16)⟩])))
def f90 : AFunc := { np := 2, nt := 27, res := [.tmp 4], own := false, body := (.seq (.reg false [⟨some 4, none, .mv (.c (.bool false))⟩]) [0, 1]
 (.seq (.seq (.reg false [⟨some 6, none, .mv (.t 0)⟩,
  ⟨some 7, none, .len false (.t 6)⟩,
  ⟨some 8, none, .mv (.t 1)⟩,
  ⟨some 9, none, .len false (.t 8)⟩,
  ⟨some 10, none, .bin .neq .val (.t 7) (.t 9)⟩]) [0, 1, 10]
 (.cond (.t 10) (.seq (.reg false [⟨some 4, none, .mv (.c (.bool false))⟩]) [4]
 (.ret)) (.skip))) [0, 1]
 (.seq (.seq (.reg false [⟨some 5, none, .mv (.c (.int .i64 (0)))⟩]) [0, 1, 5]
 (.block 0 (.loop [0, 1, 5] f90l0))) []
 (.seq (.reg false [⟨some 4, none, .mv (.c (.bool true))⟩]) [4]
 (.ret))))) }
/- laws.eqScore -/
def f91 : AFunc := { np := 2, nt := 15, res := [.tmp 4], own := false, body := (.seq (.reg false [⟨some 2, none, .box (.t 0)⟩,
  ⟨some 3, none, .box (.t 1)⟩,
  ⟨some 4, none, .mv (.c (.bool false))⟩]) [2, 3]
 (.seq (.seq (.reg false [⟨some 5, none, .faddr 0 (.t 2)⟩,
  ⟨some 6, none, .load false 1 (.t 5)⟩,
  ⟨some 7, none, .faddr 0 (.t 3)⟩,
  ⟨some 8, none, .load false 1 (.t 7)⟩,
  ⟨some 9, none, .bin .neq .val (.t 6) (.t 8)⟩]) [2, 3, 9]
 (.cond (.t 9) (.seq (.reg false [⟨some 4, none, .mv (.c (.bool false))⟩]) [4]
 (.ret)) (.skip))) [2, 3]
 (.seq (.seq (.reg false [⟨some 10, none, .faddr 1 (.t 2)⟩,
  ⟨some 11, none, .load false 1 (.t 10)⟩,
  ⟨some 12, none, .faddr 1 (.t 3)⟩,
  ⟨some 13, none, .load false 1 (.t 12)⟩,
  ⟨some 14, none, .bin .neq .val (.t 11) (.t 13)⟩]) [14]
 (.cond (.t 14) (.seq (.reg false [⟨some 4, none, .mv (.c (.bool false))⟩]) [4]
 (.ret)) (.skip))) []
 (.seq (.reg false [⟨some 4, none, .mv (.c (.bool true))⟩]) [4]
 (.ret))))) }
/- laws.eqPair -/
def f92 : AFunc := { np := 2, nt := 15, res := [.tmp 4], own := false, body := (.seq (.reg false [⟨some 2, none, .box (.t 0)⟩,
  ⟨some 3, none, .box (.t 1)⟩,
  ⟨some 4, none, .mv (.c (.bool false))⟩]) [2, 3]
 (.seq (.seq (.reg false [⟨some 5, none, .faddr 0 (.t 2)⟩,
  ⟨some 6, none, .load false 1 (.t 5)⟩,
  ⟨some 7, none, .faddr 0 (.t 3)⟩,
  ⟨some 8, none, .load false 1 (.t 7)⟩,
  ⟨some 9, none, .bin .neq .val (.t 6) (.t 8)⟩]) [2, 3, 9]
 (.cond (.t 9) (.seq (.reg false [⟨some 4, none, .mv (.c (.bool false))⟩]) [4]
 (.ret)) (.skip))) [2, 3]
 (.seq (.seq (.reg false [⟨some 10, none, .faddr 1 (.t 2)⟩,
  ⟨some 11, none, .load false 1 (.t 10)⟩,
  ⟨some 12, none, .faddr 1 (.t 3)⟩,
  ⟨some 13, none, .load false 1 (.t 12)⟩,
  ⟨some 14, none, .bin .neq .val (.t 11) (.t 13)⟩]) [14]
 (.cond (.t 14) (.seq (.reg false [⟨some 4, none, .mv (.c (.bool false))⟩]) [4]
 (.ret)) (.skip))) []
 (.seq (.reg false [⟨some 4, none, .mv (.c (.bool true))⟩]) [4]
 (.ret))))) }
def tab : List (Nat × AFunc) := [(3, f3), (4, f4), (5, f5), (6, f6), (7, f7), (8, f8), (9, f9), (10, f10), (11, f11), (12, f12), (13, f13), (14, f14), (15, f15), (16, f16), (17, f17), (18, f18), (19, f19), (20, f20), (21, f21), (22, f22), (23, f23), (24, f24), (25, f25), (26, f26), (27, f27), (28, f28), (29, f29), (30, f30), (31, f31), (32, f32), (33, f33), (34, f34), (35, f35), (36, f36), (37, f37), (38, f38), (39, f39), (40, f40), (41, f41), (42, f42), (43, f43), (44, f44), (45, f45), (46, f46), (47, f47), (48, f48), (49, f49), (50, f50), (51, f51), (52, f52), (53, f53), (54, f54), (55, f55), (56, f56), (57, f57), (58, f58), (59, f59), (60, f60), (61, f61), (62, f62), (63, f63), (64, f64), (65, f65), (66, f66), (67, f67), (68, f68), (69, f69), (70, f70), (71, f71), (72, f72), (73, f73), (74, f74), (75, f75), (76, f76), (77, f77), (78, f78), (79, f79), (80, f80), (81, f81), (82, f82), (83, f83), (84, f84), (85, f85), (86, f86), (87, f87), (88, f88), (89, f89), (90, f90), (91, f91), (92, f92)]
theorem ok3 : chkFunc Try.prog Try.f3 f3 = true := by kernel_rfl
theorem ok4 : chkFunc Try.prog Try.f4 f4 = true := by kernel_rfl
theorem ok5 : chkFunc Try.prog Try.f5 f5 = true := by kernel_rfl
theorem ok6 : chkFunc Try.prog Try.f6 f6 = true := by kernel_rfl
theorem ok7 : chkFunc Try.prog Try.f7 f7 = true := by kernel_rfl
theorem ok8 : chkFunc Try.prog Try.f8 f8 = true := by kernel_rfl
theorem ok9 : chkFunc Try.prog Try.f9 f9 = true := by kernel_rfl
theorem ok10 : chkFunc Try.prog Try.f10 f10 = true := by kernel_rfl
theorem ok11 : chkFunc Try.prog Try.f11 f11 = true := by kernel_rfl
theorem ok12 : chkFunc Try.prog Try.f12 f12 = true := by kernel_rfl
theorem ok13 : chkFunc Try.prog Try.f13 f13 = true := by kernel_rfl
theorem ok14 : chkFunc Try.prog Try.f14 f14 = true := by kernel_rfl
theorem ok15 : chkFunc Try.prog Try.f15 f15 = true := by kernel_rfl
theorem ok16 : chkFunc Try.prog Try.f16 f16 = true := by kernel_rfl
theorem ok17 : chkFunc Try.prog Try.f17 f17 = true := by kernel_rfl
theorem ok18 : chkFunc Try.prog Try.f18 f18 = true := by kernel_rfl
theorem ok19 : chkFunc Try.prog Try.f19 f19 = true := by kernel_rfl
theorem ok20 : chkFunc Try.prog Try.f20 f20 = true := by kernel_rfl
theorem ok21 : chkFunc Try.prog Try.f21 f21 = true := by kernel_rfl
theorem ok22 : chkFunc Try.prog Try.f22 f22 = true := by kernel_rfl
theorem ok23 : chkFunc Try.prog Try.f23 f23 = true := by kernel_rfl
theorem ok24 : chkFunc Try.prog Try.f24 f24 = true := by kernel_rfl
theorem ok25 : chkFunc Try.prog Try.f25 f25 = true := by kernel_rfl
theorem ok26 : chkFunc Try.prog Try.f26 f26 = true := by kernel_rfl
theorem ok27 : chkFunc Try.prog Try.f27 f27 = true := by kernel_rfl
theorem ok28 : chkFunc Try.prog Try.f28 f28 = true := by kernel_rfl
theorem ok29 : chkFunc Try.prog Try.f29 f29 = true := by kernel_rfl
theorem ok30 : chkFunc Try.prog Try.f30 f30 = true := by kernel_rfl
theorem ok31 : chkFunc Try.prog Try.f31 f31 = true := by kernel_rfl
theorem ok32 : chkFunc Try.prog Try.f32 f32 = true := by kernel_rfl
theorem ok33 : chkFunc Try.prog Try.f33 f33 = true := by kernel_rfl
theorem ok34 : chkFunc Try.prog Try.f34 f34 = true := by kernel_rfl
theorem ok35 : chkFunc Try.prog Try.f35 f35 = true := by kernel_rfl
theorem ok36 : chkFunc Try.prog Try.f36 f36 = true := by kernel_rfl
theorem ok37 : chkFunc Try.prog Try.f37 f37 = true := by kernel_rfl
theorem ok38 : chkFunc Try.prog Try.f38 f38 = true := by kernel_rfl
theorem ok39 : chkFunc Try.prog Try.f39 f39 = true := by kernel_rfl
theorem ok40 : chkFunc Try.prog Try.f40 f40 = true := by kernel_rfl
theorem ok41 : chkFunc Try.prog Try.f41 f41 = true := by kernel_rfl
theorem ok42 : chkFunc Try.prog Try.f42 f42 = true := by kernel_rfl
theorem ok43 : chkFunc Try.prog Try.f43 f43 = true := by kernel_rfl
theorem ok44 : chkFunc Try.prog Try.f44 f44 = true := by kernel_rfl
theorem ok45 : chkFunc Try.prog Try.f45 f45 = true := by kernel_rfl
theorem ok46 : chkFunc Try.prog Try.f46 f46 = true := by kernel_rfl
theorem ok47 : chkFunc Try.prog Try.f47 f47 = true := by kernel_rfl
theorem ok48 : chkFunc Try.prog Try.f48 f48 = true := by kernel_rfl
theorem ok49 : chkFunc Try.prog Try.f49 f49 = true := by kernel_rfl
theorem ok50 : chkFunc Try.prog Try.f50 f50 = true := by kernel_rfl
theorem ok51 : chkFunc Try.prog Try.f51 f51 = true := by kernel_rfl
theorem ok52 : chkFunc Try.prog Try.f52 f52 = true := by kernel_rfl
theorem ok53 : chkFunc Try.prog Try.f53 f53 = true := by kernel_rfl
theorem ok54 : chkFunc Try.prog Try.f54 f54 = true := by kernel_rfl
theorem ok55 : chkFunc Try.prog Try.f55 f55 = true := by kernel_rfl
theorem ok56 : chkFunc Try.prog Try.f56 f56 = true := by kernel_rfl
theorem ok57 : chkFunc Try.prog Try.f57 f57 = true := by kernel_rfl
theorem ok58 : chkFunc Try.prog Try.f58 f58 = true := by kernel_rfl
theorem ok59 : chkFunc Try.prog Try.f59 f59 = true := by kernel_rfl
theorem ok60 : chkFunc Try.prog Try.f60 f60 = true := by kernel_rfl
theorem ok61 : chkFunc Try.prog Try.f61 f61 = true := by kernel_rfl
theorem ok62 : chkFunc Try.prog Try.f62 f62 = true := by kernel_rfl
theorem ok63 : chkFunc Try.prog Try.f63 f63 = true := by kernel_rfl
theorem ok64 : chkFunc Try.prog Try.f64 f64 = true := by kernel_rfl
theorem ok65 : chkFunc Try.prog Try.f65 f65 = true := by kernel_rfl
theorem ok66 : chkFunc Try.prog Try.f66 f66 = true := by kernel_rfl
theorem ok67 : chkFunc Try.prog Try.f67 f67 = true := by kernel_rfl
theorem ok68 : chkFunc Try.prog Try.f68 f68 = true := by kernel_rfl
theorem ok69 : chkFunc Try.prog Try.f69 f69 = true := by kernel_rfl
theorem ok70 : chkFunc Try.prog Try.f70 f70 = true := by kernel_rfl
theorem ok71 : chkFunc Try.prog Try.f71 f71 = true := by kernel_rfl
theorem ok72 : chkFunc Try.prog Try.f72 f72 = true := by kernel_rfl
theorem ok73 : chkFunc Try.prog Try.f73 f73 = true := by kernel_rfl
theorem ok74 : chkFunc Try.prog Try.f74 f74 = true := by kernel_rfl
theorem ok75 : chkFunc Try.prog Try.f75 f75 = true := by kernel_rfl
theorem ok76 : chkFunc Try.prog Try.f76 f76 = true := by kernel_rfl
theorem ok77 : chkFunc Try.prog Try.f77 f77 = true := by kernel_rfl
theorem ok78 : chkFunc Try.prog Try.f78 f78 = true := by kernel_rfl
theorem ok79 : chkFunc Try.prog Try.f79 f79 = true := by kernel_rfl
theorem ok80 : chkFunc Try.prog Try.f80 f80 = true := by kernel_rfl
theorem ok81 : chkFunc Try.prog Try.f81 f81 = true := by kernel_rfl
theorem ok82 : chkFunc Try.prog Try.f82 f82 = true := by kernel_rfl
theorem ok83 : chkFunc Try.prog Try.f83 f83 = true := by kernel_rfl
theorem ok84 : chkFunc Try.prog Try.f84 f84 = true := by kernel_rfl
theorem ok85 : chkFunc Try.prog Try.f85 f85 = true := by kernel_rfl
theorem ok86 : chkFunc Try.prog Try.f86 f86 = true := by kernel_rfl
theorem ok87 : chkFunc Try.prog Try.f87 f87 = true := by kernel_rfl
theorem ok88 : chkFunc Try.prog Try.f88 f88 = true := by kernel_rfl
theorem ok89 : chkFunc Try.prog Try.f89 f89 = true := by kernel_rfl
theorem ok90 : chkFunc Try.prog Try.f90 f90 = true := by kernel_rfl
theorem ok91 : chkFunc Try.prog Try.f91 f91 = true := by kernel_rfl
theorem ok92 : chkFunc Try.prog Try.f92 f92 = true := by kernel_rfl
theorem all_ok : ∀ p ∈ tab, ∃ fn, Try.prog.funcs[p.1]? = some fn ∧ chkFunc Try.prog fn p.2 = true := by
  intro p hp
  simp only [tab, List.mem_cons, List.not_mem_nil, or_false] at hp
  rcases hp with rfl | rfl | rfl | rfl | rfl | rfl | rfl | rfl | rfl | rfl | rfl | rfl | rfl | rfl | rfl | rfl | rfl | rfl | rfl | rfl | rfl | rfl | rfl | rfl | rfl | rfl | rfl | rfl | rfl | rfl | rfl | rfl | rfl | rfl | rfl | rfl | rfl | rfl | rfl | rfl | rfl | rfl | rfl | rfl | rfl | rfl | rfl | rfl | rfl | rfl | rfl | rfl | rfl | rfl | rfl | rfl | rfl | rfl | rfl | rfl | rfl | rfl | rfl | rfl | rfl | rfl | rfl | rfl | rfl | rfl | rfl | rfl | rfl | rfl | rfl | rfl | rfl | rfl | rfl | rfl | rfl | rfl | rfl | rfl | rfl | rfl | rfl | rfl | rfl | rfl
  · exact ⟨_, Try.func3, ok3⟩
  · exact ⟨_, Try.func4, ok4⟩
  · exact ⟨_, Try.func5, ok5⟩
  · exact ⟨_, Try.func6, ok6⟩
  · exact ⟨_, Try.func7, ok7⟩
  · exact ⟨_, Try.func8, ok8⟩
  · exact ⟨_, Try.func9, ok9⟩
  · exact ⟨_, Try.func10, ok10⟩
  · exact ⟨_, Try.func11, ok11⟩
  · exact ⟨_, Try.func12, ok12⟩
  · exact ⟨_, Try.func13, ok13⟩
  · exact ⟨_, Try.func14, ok14⟩
  · exact ⟨_, Try.func15, ok15⟩
  · exact ⟨_, Try.func16, ok16⟩
  · exact ⟨_, Try.func17, ok17⟩
  · exact ⟨_, Try.func18, ok18⟩
  · exact ⟨_, Try.func19, ok19⟩
  · exact ⟨_, Try.func20, ok20⟩
  · exact ⟨_, Try.func21, ok21⟩
  · exact ⟨_, Try.func22, ok22⟩
  · exact ⟨_, Try.func23, ok23⟩
  · exact ⟨_, Try.func24, ok24⟩
  · exact ⟨_, Try.func25, ok25⟩
  · exact ⟨_, Try.func26, ok26⟩
  · exact ⟨_, Try.func27, ok27⟩
  · exact ⟨_, Try.func28, ok28⟩
  · exact ⟨_, Try.func29, ok29⟩
  · exact ⟨_, Try.func30, ok30⟩
  · exact ⟨_, Try.func31, ok31⟩
  · exact ⟨_, Try.func32, ok32⟩
  · exact ⟨_, Try.func33, ok33⟩
  · exact ⟨_, Try.func34, ok34⟩
  · exact ⟨_, Try.func35, ok35⟩
  · exact ⟨_, Try.func36, ok36⟩
  · exact ⟨_, Try.func37, ok37⟩
  · exact ⟨_, Try.func38, ok38⟩
  · exact ⟨_, Try.func39, ok39⟩
  · exact ⟨_, Try.func40, ok40⟩
  · exact ⟨_, Try.func41, ok41⟩
  · exact ⟨_, Try.func42, ok42⟩
  · exact ⟨_, Try.func43, ok43⟩
  · exact ⟨_, Try.func44, ok44⟩
  · exact ⟨_, Try.func45, ok45⟩
  · exact ⟨_, Try.func46, ok46⟩
  · exact ⟨_, Try.func47, ok47⟩
  · exact ⟨_, Try.func48, ok48⟩
  · exact ⟨_, Try.func49, ok49⟩
  · exact ⟨_, Try.func50, ok50⟩
  · exact ⟨_, Try.func51, ok51⟩
  · exact ⟨_, Try.func52, ok52⟩
  · exact ⟨_, Try.func53, ok53⟩
  · exact ⟨_, Try.func54, ok54⟩
  · exact ⟨_, Try.func55, ok55⟩
  · exact ⟨_, Try.func56, ok56⟩
  · exact ⟨_, Try.func57, ok57⟩
  · exact ⟨_, Try.func58, ok58⟩
  · exact ⟨_, Try.func59, ok59⟩
  · exact ⟨_, Try.func60, ok60⟩
  · exact ⟨_, Try.func61, ok61⟩
  · exact ⟨_, Try.func62, ok62⟩
  · exact ⟨_, Try.func63, ok63⟩
  · exact ⟨_, Try.func64, ok64⟩
  · exact ⟨_, Try.func65, ok65⟩
  · exact ⟨_, Try.func66, ok66⟩
  · exact ⟨_, Try.func67, ok67⟩
  · exact ⟨_, Try.func68, ok68⟩
  · exact ⟨_, Try.func69, ok69⟩
  · exact ⟨_, Try.func70, ok70⟩
  · exact ⟨_, Try.func71, ok71⟩
  · exact ⟨_, Try.func72, ok72⟩
  · exact ⟨_, Try.func73, ok73⟩
  · exact ⟨_, Try.func74, ok74⟩
  · exact ⟨_, Try.func75, ok75⟩
  · exact ⟨_, Try.func76, ok76⟩
  · exact ⟨_, Try.func77, ok77⟩
  · exact ⟨_, Try.func78, ok78⟩
  · exact ⟨_, Try.func79, ok79⟩
  · exact ⟨_, Try.func80, ok80⟩
  · exact ⟨_, Try.func81, ok81⟩
  · exact ⟨_, Try.func82, ok82⟩
  · exact ⟨_, Try.func83, ok83⟩
  · exact ⟨_, Try.func84, ok84⟩
  · exact ⟨_, Try.func85, ok85⟩
  · exact ⟨_, Try.func86, ok86⟩
  · exact ⟨_, Try.func87, ok87⟩
  · exact ⟨_, Try.func88, ok88⟩
  · exact ⟨_, Try.func89, ok89⟩
  · exact ⟨_, Try.func90, ok90⟩
  · exact ⟨_, Try.func91, ok91⟩
  · exact ⟨_, Try.func92, ok92⟩
theorem prg_ok : PrgOk Try.prog (ofTab tab) := ofTab_ok (by kernel_rfl) all_ok
noncomputable abbrev R : Prg := ofTab tab
end Go.Proofs.Ytpmphmpaeooeeaa.Code
