/- Lemmas (several texts in one). -/
import Derived.Test.YtpmphmpaeooeeaaDoorM2
import Derived.Test.YtpmphmpaeooeeaaDoorChecked
import Derived.KernelRfl
/- The functions of these laws as compact code, and that it is the given code. -/
namespace Go.Proofs.YtpmphmpaeooeeaaDoorO.Code
open Go Go.Ev Go.Proofs
/- laws.FnExactOrders -/
def f6 : AFunc := { np := 1, nt := 69, res := [.tmp 2], own := false, body := (.seq (.reg false [⟨some 1, none, .box (.t 0)⟩,
  ⟨some 2, none, .mv (.c (.bool false))⟩]) [1]
 (.seq (.reg false [⟨some 3, none, .mv (.c (.int .i64 (1048576)))⟩]) [1, 3]
 (.seq (.reg false [⟨some 11, none, .load true 7 (.t 1)⟩,
  ⟨some 12, none, .mv (.t 3)⟩,
  ⟨some 13, none, .pcall (.f 23) [.t 11, .t 12]⟩,
  ⟨some 3, none, .mv (.t 13)⟩]) [1, 3]
 (.seq (.seq (.reg false [⟨some 14, none, .mv (.t 3)⟩,
  ⟨some 15, none, .bin .lss .val (.t 14) (.c (.int .i64 (0)))⟩]) [1, 15]
 (.cond (.t 15) (.seq (.reg false [⟨some 2, none, .mv (.c (.bool true))⟩]) [2]
 (.ret)) (.skip))) [1]
 (.seq (.reg false [⟨some 16, none, .load true 7 (.t 1)⟩,
  ⟨some 17, none, .pcall (.f 25) [.t 16]⟩,
  ⟨some 18, none, .pcall (.f 24) [.t 17]⟩,
  ⟨some 4, none, .mv (.t 18)⟩]) [1, 4]
 (.seq (.reg false [⟨some 19, none, .load true 7 (.t 1)⟩,
  ⟨some 20, none, .call (.f 25) [(false, .t 19)] false⟩,
  ⟨some 5, none, .alloc (.agg [.d (.str []), .d (.int .i64 (0)), .d (.int .i64 (0)), .d (.str []), .nils 1, .nils 2, .nils 2])⟩,
  ⟨none, none, .store 7 (.t 5) (.t 20)⟩]) [1, 4, 5]
 (.seq (.reg false [⟨some 21, none, .load true 7 (.t 5)⟩,
  ⟨some 22, none, .call (.f 26) [(false, .t 21)] false⟩,
  ⟨some 6, none, .mv (.t 22)⟩]) [1, 4, 5, 6]
 (.seq (.seq (.reg false [⟨some 23, none, .mv (.t 6)⟩,
  ⟨some 24, none, .mv (.t 4)⟩,
  ⟨some 25, none, .pcall (.f 11) [.t 23, .t 24]⟩,
  ⟨some 26, none, .un .not (.t 25)⟩]) [1, 4, 5, 6, 26]
 (.cond (.t 26) (.seq (.reg false [⟨some 2, none, .mv (.c (.bool false))⟩]) [2]
 (.ret)) (.skip))) [1, 4, 5, 6]
 (.seq (.seq (.reg true [⟨some 27, none, .load true 7 (.t 5)⟩,
  ⟨some 28, none, .load true 7 (.t 1)⟩,
  ⟨some 29, none, .pcall (.f 25) [.t 28]⟩,
  ⟨some 30, none, .pcall (.f 27) [.t 27, .t 29]⟩,
  ⟨some 31, none, .un .not (.t 30)⟩]) [1, 4, 5, 6, 31]
 (.cond (.t 31) (.seq (.reg false [⟨some 2, none, .mv (.c (.bool false))⟩]) [2]
 (.ret)) (.skip))) [1, 4, 5, 6]
 (.seq (.reg false [⟨some 7, none, .mv (.c (.int .i64 (1)))⟩]) [1, 4, 5, 6, 7]
 (.seq (.reg false [⟨some 32, none, .load true 7 (.t 5)⟩,
  ⟨some 33, none, .mv (.t 7)⟩,
  ⟨some 34, none, .call (.f 28) [(false, .t 32), (false, .t 33)] false⟩,
  ⟨some 7, none, .mv (.t 34)⟩]) [1, 4, 6, 7]
 (.seq (.seq (.reg false [⟨some 35, none, .mv (.t 7)⟩,
  ⟨some 36, none, .bin .lss .val (.t 35) (.c (.int .i64 (0)))⟩,
  ⟨some 37, none, .mv (.t 36)⟩,
  ⟨some 38, some (37, false), .mv (.t 6)⟩,
  ⟨some 39, some (37, false), .mv (.t 4)⟩,
  ⟨some 40, some (37, false), .pcall (.f 11) [.t 38, .t 39]⟩,
  ⟨some 41, some (37, false), .un .not (.t 40)⟩,
  ⟨some 42, none, .pick (.t 37) (.c (.bool true)) (.t 41)⟩]) [1, 4, 6, 42]
 (.cond (.t 42) (.seq (.reg false [⟨some 2, none, .mv (.c (.bool false))⟩]) [2]
 (.ret)) (.skip))) [1, 4, 6]
 (.seq (.reg false [⟨some 8, none, .mv (.c (.int .i64 (1)))⟩]) [1, 4, 6, 8]
 (.seq (.reg false [⟨some 43, none, .mv (.t 6)⟩,
  ⟨some 44, none, .mv (.t 8)⟩,
  ⟨some 45, none, .call (.f 21) [(false, .t 43), (false, .t 44)] false⟩,
  ⟨some 8, none, .mv (.t 45)⟩]) [1, 4, 6, 8]
 (.seq (.reg false [⟨some 9, none, .mv (.c (.int .i64 (1)))⟩]) [1, 4, 6, 8, 9]
 (.seq (.reg false [⟨some 46, none, .mv (.t 6)⟩,
  ⟨some 47, none, .mv (.t 9)⟩,
  ⟨some 48, none, .pcall (.f 22) [.t 46, .t 47]⟩,
  ⟨some 9, none, .mv (.t 48)⟩]) [1, 4, 6, 8, 9]
 (.seq (.seq (.reg false [⟨some 49, none, .mv (.t 9)⟩,
  ⟨some 50, none, .bin .lss .val (.t 49) (.c (.int .i64 (0)))⟩]) [1, 4, 6, 8, 9, 50]
 (.cond (.t 50) (.seq (.reg false [⟨some 2, none, .mv (.c (.bool false))⟩]) [2]
 (.ret)) (.skip))) [1, 4, 6, 8, 9]
 (.seq (.seq (.reg false [⟨some 51, none, .mv (.t 9)⟩,
  ⟨some 52, none, .mv (.t 8)⟩,
  ⟨some 53, none, .bin .neq .val (.t 51) (.t 52)⟩]) [1, 4, 6, 8, 53]
 (.cond (.t 53) (.seq (.reg false [⟨some 2, none, .mv (.c (.bool false))⟩]) [2]
 (.ret)) (.skip))) [1, 4, 6, 8]
 (.seq (.reg false [⟨some 54, none, .load true 7 (.t 1)⟩,
  ⟨some 55, none, .call (.f 25) [(false, .t 54)] false⟩,
  ⟨some 56, none, .call (.f 26) [(false, .t 55)] false⟩,
  ⟨some 10, none, .mv (.t 56)⟩]) [4, 6, 8, 10]
 (.seq (.seq (.reg false [⟨some 57, none, .mv (.t 10)⟩,
  ⟨some 58, none, .mv (.t 4)⟩,
  ⟨some 59, none, .pcall (.f 11) [.t 57, .t 58]⟩,
  ⟨some 60, none, .un .not (.t 59)⟩]) [6, 8, 60]
 (.cond (.t 60) (.seq (.reg false [⟨some 2, none, .mv (.c (.bool false))⟩]) [2]
 (.ret)) (.skip))) [6, 8]
 (.seq (.reg false [⟨some 9, none, .mv (.c (.int .i64 (1)))⟩]) [6, 8, 9]
 (.seq (.reg false [⟨some 61, none, .mv (.t 6)⟩,
  ⟨some 62, none, .mv (.t 9)⟩,
  ⟨some 63, none, .pcall (.f 22) [.t 61, .t 62]⟩,
  ⟨some 9, none, .mv (.t 63)⟩]) [8, 9]
 (.seq (.seq (.reg false [⟨some 64, none, .mv (.t 9)⟩,
  ⟨some 65, none, .bin .lss .val (.t 64) (.c (.int .i64 (0)))⟩]) [8, 9, 65]
 (.cond (.t 65) (.seq (.reg false [⟨some 2, none, .mv (.c (.bool false))⟩]) [2]
 (.ret)) (.skip))) [8, 9]
 (.seq (.seq (.reg false [⟨some 66, none, .mv (.t 9)⟩,
  ⟨some 67, none, .mv (.t 8)⟩,
  ⟨some 68, none, .bin .neq .val (.t 66) (.t 67)⟩]) [68]
 (.cond (.t 68) (.seq (.reg false [⟨some 2, none, .mv (.c (.bool false))⟩]) [2]
 (.ret)) (.skip))) []
 (.seq (.reg false [⟨some 2, none, .mv (.c (.bool true))⟩]) [2]
 (.ret)))))))))))))))))))))))))) }
/- laws.eqStringSS -/
def f11l0 : ACode := (.seq (.seq (.reg false [⟨some 11, none, .mv (.t 5)⟩,
  ⟨some 12, none, .mv (.t 0)⟩,
  ⟨some 13, none, .len false (.t 12)⟩,
  ⟨some 14, none, .bin .lss .val (.t 11) (.t 13)⟩]) [0, 1, 5, 14]
 (.cond (.t 14) (.skip) (.exit 0))) [0, 1, 5]
 (.seq (.block 1 (.seq (.reg true [⟨some 17, none, .mv (.t 0)⟩,
  ⟨some 18, none, .mv (.t 5)⟩,
  ⟨some 19, none, .iaddr 1 (.t 17) (.t 18)⟩,
  ⟨some 20, none, .load false 1 (.t 19)⟩,
  ⟨some 21, none, .mv (.t 1)⟩,
  ⟨some 22, none, .mv (.t 5)⟩,
  ⟨some 23, none, .iaddr 1 (.t 21) (.t 22)⟩,
  ⟨some 24, none, .load false 1 (.t 23)⟩,
  ⟨some 25, none, .pcall (.f 37) [.t 20, .t 24]⟩,
  ⟨some 26, none, .un .not (.t 25)⟩]) [0, 1, 5, 26]
 (.cond (.t 26) (.seq (.reg false [⟨some 4, none, .mv (.c (.bool false))⟩]) [4]
 (.ret)) (.skip)))) [0, 1, 5]
 (.reg false [⟨some 15, none, .mv (.t 5)⟩,
  ⟨some 16, none, .bin .add .val (.t 15) (.c (.int .i64 (1)))⟩,
  ⟨some 5, none, .mv (.t 16)⟩])))
def f11 : AFunc := { np := 2, nt := 27, res := [.tmp 4], own := false, body := (.seq (.reg false [⟨some 4, none, .mv (.c (.bool false))⟩]) [0, 1]
 (.seq (.seq (.reg false [⟨some 6, none, .mv (.t 0)⟩,
  ⟨some 7, none, .len false (.t 6)⟩,
  ⟨some 8, none, .mv (.t 1)⟩,
  ⟨some 9, none, .len false (.t 8)⟩,
  ⟨some 10, none, .bin .neq .val (.t 7) (.t 9)⟩]) [0, 1, 10]
 (.cond (.t 10) (.seq (.reg false [⟨some 4, none, .mv (.c (.bool false))⟩]) [4]
 (.ret)) (.skip))) [0, 1]
 (.seq (.seq (.reg false [⟨some 5, none, .mv (.c (.int .i64 (0)))⟩]) [0, 1, 5]
 (.block 0 (.loop [0, 1, 5] f11l0))) []
 (.seq (.reg false [⟨some 4, none, .mv (.c (.bool true))⟩]) [4]
 (.ret))))) }
/- laws.markStringSS -/
def f21l0 : ACode := (.seq (.seq (.reg false [⟨some 6, none, .mv (.t 5)⟩,
  ⟨some 7, none, .mv (.t 0)⟩,
  ⟨some 8, none, .len false (.t 7)⟩,
  ⟨some 9, none, .bin .lss .val (.t 6) (.t 8)⟩]) [0, 1, 5, 9]
 (.cond (.t 9) (.skip) (.exit 0))) [0, 1, 5]
 (.seq (.block 1 (.reg false [⟨some 12, none, .mv (.t 0)⟩,
  ⟨some 13, none, .mv (.t 5)⟩,
  ⟨some 14, none, .iaddr 1 (.t 12) (.t 13)⟩,
  ⟨some 15, none, .load false 1 (.t 14)⟩,
  ⟨some 16, none, .mv (.t 1)⟩,
  ⟨some 17, none, .call (.f 52) [(false, .t 15), (false, .t 16)] false⟩,
  ⟨some 1, none, .mv (.t 17)⟩])) [0, 1, 5]
 (.reg false [⟨some 10, none, .mv (.t 5)⟩,
  ⟨some 11, none, .bin .add .val (.t 10) (.c (.int .i64 (1)))⟩,
  ⟨some 5, none, .mv (.t 11)⟩])))
def f21 : AFunc := { np := 2, nt := 19, res := [.tmp 4], own := false, body := (.seq (.reg false [⟨some 4, none, .mv (.c (.int .i64 (0)))⟩]) [0, 1]
 (.seq (.seq (.reg false [⟨some 5, none, .mv (.c (.int .i64 (0)))⟩]) [0, 1, 5]
 (.block 0 (.loop [0, 1, 5] f21l0))) [1]
 (.seq (.reg false [⟨some 18, none, .mv (.t 1)⟩,
  ⟨some 4, none, .mv (.t 18)⟩]) [4]
 (.ret)))) }
/- laws.heldStringSS -/
def f22l0 : ACode := (.seq (.seq (.reg false [⟨some 6, none, .mv (.t 5)⟩,
  ⟨some 7, none, .mv (.t 0)⟩,
  ⟨some 8, none, .len false (.t 7)⟩,
  ⟨some 9, none, .bin .lss .val (.t 6) (.t 8)⟩]) [0, 1, 5, 9]
 (.cond (.t 9) (.skip) (.exit 0))) [0, 1, 5]
 (.seq (.block 1 (.seq (.reg false [⟨some 12, none, .mv (.t 0)⟩,
  ⟨some 13, none, .mv (.t 5)⟩,
  ⟨some 14, none, .iaddr 1 (.t 12) (.t 13)⟩,
  ⟨some 15, none, .load false 1 (.t 14)⟩,
  ⟨some 16, none, .mv (.t 1)⟩,
  ⟨some 17, none, .pcall (.f 53) [.t 15, .t 16]⟩,
  ⟨some 1, none, .mv (.t 17)⟩]) [0, 1, 5]
 (.seq (.reg false [⟨some 18, none, .mv (.t 1)⟩,
  ⟨some 19, none, .bin .lss .val (.t 18) (.c (.int .i64 (0)))⟩]) [0, 1, 5, 19]
 (.cond (.t 19) (.seq (.reg false [⟨some 4, none, .mv (.c (.int .i64 (-1)))⟩]) [4]
 (.ret)) (.skip))))) [0, 1, 5]
 (.reg false [⟨some 10, none, .mv (.t 5)⟩,
  ⟨some 11, none, .bin .add .val (.t 10) (.c (.int .i64 (1)))⟩,
  ⟨some 5, none, .mv (.t 11)⟩])))
def f22 : AFunc := { np := 2, nt := 21, res := [.tmp 4], own := false, body := (.seq (.reg false [⟨some 4, none, .mv (.c (.int .i64 (0)))⟩]) [0, 1]
 (.seq (.seq (.reg false [⟨some 5, none, .mv (.c (.int .i64 (0)))⟩]) [0, 1, 5]
 (.block 0 (.loop [0, 1, 5] f22l0))) [1]
 (.seq (.reg false [⟨some 20, none, .mv (.t 1)⟩,
  ⟨some 4, none, .mv (.t 20)⟩]) [4]
 (.ret)))) }
/- laws.szEntry -/
def f23 : AFunc := { np := 2, nt := 38, res := [.tmp 4], own := false, body := (.seq (.reg false [⟨some 2, none, .box (.t 0)⟩,
  ⟨some 4, none, .mv (.c (.int .i64 (0)))⟩]) [1, 2]
 (.seq (.reg false [⟨some 5, none, .mv (.t 1)⟩,
  ⟨some 6, none, .faddr 0 (.t 2)⟩,
  ⟨some 7, none, .load false 1 (.t 6)⟩,
  ⟨some 8, none, .len true (.t 7)⟩,
  ⟨some 9, none, .bin .sub .val (.t 5) (.t 8)⟩,
  ⟨some 1, none, .mv (.t 9)⟩]) [1, 2]
 (.seq (.seq (.reg false [⟨some 10, none, .mv (.t 1)⟩,
  ⟨some 11, none, .bin .lss .val (.t 10) (.c (.int .i64 (0)))⟩]) [1, 2, 11]
 (.cond (.t 11) (.seq (.reg false [⟨some 4, none, .mv (.c (.int .i64 (-1)))⟩]) [4]
 (.ret)) (.skip))) [1, 2]
 (.seq (.reg false [⟨some 12, none, .mv (.t 1)⟩,
  ⟨some 13, none, .faddr 3 (.t 2)⟩,
  ⟨some 14, none, .load false 1 (.t 13)⟩,
  ⟨some 15, none, .len true (.t 14)⟩,
  ⟨some 16, none, .bin .sub .val (.t 12) (.t 15)⟩,
  ⟨some 1, none, .mv (.t 16)⟩]) [1, 2]
 (.seq (.seq (.reg false [⟨some 17, none, .mv (.t 1)⟩,
  ⟨some 18, none, .bin .lss .val (.t 17) (.c (.int .i64 (0)))⟩]) [1, 2, 18]
 (.cond (.t 18) (.seq (.reg false [⟨some 4, none, .mv (.c (.int .i64 (-1)))⟩]) [4]
 (.ret)) (.skip))) [1, 2]
 (.seq (.reg false [⟨some 19, none, .faddr 4 (.t 2)⟩,
  ⟨some 20, none, .load false 1 (.t 19)⟩,
  ⟨some 21, none, .mv (.t 1)⟩,
  ⟨some 22, none, .pcall (.f 29) [.t 20, .t 21]⟩,
  ⟨some 1, none, .mv (.t 22)⟩]) [1, 2]
 (.seq (.seq (.reg false [⟨some 23, none, .mv (.t 1)⟩,
  ⟨some 24, none, .bin .lss .val (.t 23) (.c (.int .i64 (0)))⟩]) [1, 2, 24]
 (.cond (.t 24) (.seq (.reg false [⟨some 4, none, .mv (.c (.int .i64 (-1)))⟩]) [4]
 (.ret)) (.skip))) [1, 2]
 (.seq (.reg false [⟨some 25, none, .faddr 5 (.t 2)⟩,
  ⟨some 26, none, .load false 1 (.t 25)⟩,
  ⟨some 27, none, .mv (.t 1)⟩,
  ⟨some 28, none, .pcall (.f 54) [.t 26, .t 27]⟩,
  ⟨some 1, none, .mv (.t 28)⟩]) [1, 2]
 (.seq (.seq (.reg false [⟨some 29, none, .mv (.t 1)⟩,
  ⟨some 30, none, .bin .lss .val (.t 29) (.c (.int .i64 (0)))⟩]) [1, 2, 30]
 (.cond (.t 30) (.seq (.reg false [⟨some 4, none, .mv (.c (.int .i64 (-1)))⟩]) [4]
 (.ret)) (.skip))) [1, 2]
 (.seq (.reg false [⟨some 31, none, .faddr 6 (.t 2)⟩,
  ⟨some 32, none, .load false 1 (.t 31)⟩,
  ⟨some 33, none, .mv (.t 1)⟩,
  ⟨some 34, none, .pcall (.f 55) [.t 32, .t 33]⟩,
  ⟨some 1, none, .mv (.t 34)⟩]) [1]
 (.seq (.seq (.reg false [⟨some 35, none, .mv (.t 1)⟩,
  ⟨some 36, none, .bin .lss .val (.t 35) (.c (.int .i64 (0)))⟩]) [1, 36]
 (.cond (.t 36) (.seq (.reg false [⟨some 4, none, .mv (.c (.int .i64 (-1)))⟩]) [4]
 (.ret)) (.skip))) [1]
 (.seq (.reg false [⟨some 37, none, .mv (.t 1)⟩,
  ⟨some 4, none, .mv (.t 37)⟩]) [4]
 (.ret))))))))))))) }
/- spec.Orders -/
def f24 : AFunc := { np := 1, nt := 9, res := [.tmp 2], own := false, body := (.seq (.reg false [⟨some 1, none, .box (.t 0)⟩,
  ⟨some 2, none, .mv (.nil 1)⟩]) [1]
 (.seq (.seq (.reg false [⟨some 3, none, .load true 7 (.t 1)⟩,
  ⟨some 4, none, .pcall (.f 56) [.t 3]⟩,
  ⟨some 5, none, .un .not (.t 4)⟩]) [1, 5]
 (.cond (.t 5) (.seq (.reg false [⟨some 6, none, .lit false 1 []⟩,
  ⟨some 2, none, .mv (.t 6)⟩]) [2]
 (.ret)) (.skip))) [1]
 (.seq (.reg false [⟨some 7, none, .load true 7 (.t 1)⟩,
  ⟨some 8, none, .pcall (.f 57) [.t 7]⟩,
  ⟨some 2, none, .mv (.t 8)⟩]) [2]
 (.ret)))) }
/- laws.toEntry -/
def f25 : AFunc := { np := 1, nt := 29, res := [.cell 2 true 7], own := true, body := (.seq (.reg false [⟨some 1, none, .box (.t 0)⟩,
  ⟨some 2, none, .alloc (.agg [.d (.str []), .d (.int .i64 (0)), .d (.int .i64 (0)), .d (.str []), .nils 1, .nils 2, .nils 2])⟩]) [1, 2]
 (.seq (.reg false [⟨some 3, none, .alloc (.agg [.d (.str []), .d (.int .i64 (0)), .d (.int .i64 (0)), .d (.str []), .nils 1, .nils 2, .nils 2])⟩]) [1, 2, 3]
 (.seq (.reg false [⟨some 4, none, .faddr 0 (.t 1)⟩,
  ⟨some 5, none, .load false 1 (.t 4)⟩,
  ⟨some 6, none, .faddr 0 (.t 3)⟩,
  ⟨none, none, .store 1 (.t 6) (.t 5)⟩]) [1, 2, 3]
 (.seq (.reg false [⟨some 7, none, .faddr 1 (.t 1)⟩,
  ⟨some 8, none, .load false 1 (.t 7)⟩,
  ⟨some 9, none, .faddr 1 (.t 3)⟩,
  ⟨none, none, .store 1 (.t 9) (.t 8)⟩]) [1, 2, 3]
 (.seq (.reg false [⟨some 10, none, .faddr 2 (.t 1)⟩,
  ⟨some 11, none, .load false 1 (.t 10)⟩,
  ⟨some 12, none, .faddr 2 (.t 3)⟩,
  ⟨none, none, .store 1 (.t 12) (.t 11)⟩]) [1, 2, 3]
 (.seq (.reg false [⟨some 13, none, .faddr 3 (.t 1)⟩,
  ⟨some 14, none, .load false 1 (.t 13)⟩,
  ⟨some 15, none, .faddr 3 (.t 3)⟩,
  ⟨none, none, .store 1 (.t 15) (.t 14)⟩]) [1, 2, 3]
 (.seq (.reg false [⟨some 16, none, .faddr 4 (.t 1)⟩,
  ⟨some 17, none, .load false 1 (.t 16)⟩,
  ⟨some 18, none, .call (.f 33) [(false, .t 17)] false⟩,
  ⟨some 19, none, .faddr 4 (.t 3)⟩,
  ⟨none, none, .store 1 (.t 19) (.t 18)⟩]) [1, 2, 3]
 (.seq (.reg false [⟨some 20, none, .faddr 5 (.t 1)⟩,
  ⟨some 21, none, .load false 1 (.t 20)⟩,
  ⟨some 22, none, .call (.f 58) [(false, .t 21)] false⟩,
  ⟨some 23, none, .faddr 5 (.t 3)⟩,
  ⟨none, none, .store 1 (.t 23) (.t 22)⟩]) [1, 2, 3]
 (.seq (.reg false [⟨some 24, none, .faddr 6 (.t 1)⟩,
  ⟨some 25, none, .load false 1 (.t 24)⟩,
  ⟨some 26, none, .call (.f 59) [(false, .t 25)] false⟩,
  ⟨some 27, none, .faddr 6 (.t 3)⟩,
  ⟨none, none, .store 1 (.t 27) (.t 26)⟩]) [2, 3]
 (.seq (.reg false [⟨some 28, none, .load true 7 (.t 3)⟩,
  ⟨none, none, .store 7 (.t 2) (.t 28)⟩]) [2]
 (.ret))))))))))) }
/- impl.Orders -/
def f26l0 : ACode := (.seq (.seq (.reg false [⟨some 34, none, .mv (.t 5)⟩,
  ⟨some 35, none, .faddr 4 (.t 1)⟩,
  ⟨some 36, none, .load false 1 (.t 35)⟩,
  ⟨some 37, none, .len false (.t 36)⟩,
  ⟨some 38, none, .bin .lss .val (.t 34) (.t 37)⟩]) [1, 3, 4, 5, 38]
 (.cond (.t 38) (.skip) (.exit 1))) [1, 3, 4, 5]
 (.seq (.block 2 (.seq (.reg false [⟨some 41, none, .mv (.t 5)⟩,
  ⟨some 42, none, .bin .add .val (.t 41) (.c (.int .i64 (8)))⟩,
  ⟨some 43, none, .bin .sub .val (.t 42) (.c (.int .i64 (2)))⟩,
  ⟨some 44, none, .faddr 4 (.t 1)⟩,
  ⟨some 45, none, .load false 1 (.t 44)⟩,
  ⟨some 46, none, .len false (.t 45)⟩,
  ⟨some 47, none, .mnmx false [.t 43, .t 46]⟩,
  ⟨some 6, none, .mv (.t 47)⟩]) [1, 3, 4, 5, 6]
 (.reg true [⟨some 48, none, .mv (.t 3)⟩,
  ⟨some 49, none, .mv (.t 4)⟩,
  ⟨some 50, none, .faddr 0 (.t 1)⟩,
  ⟨some 51, none, .load false 1 (.t 50)⟩,
  ⟨some 53, none, .faddr 4 (.t 1)⟩,
  ⟨some 54, none, .load false 1 (.t 53)⟩,
  ⟨some 55, none, .mv (.t 5)⟩,
  ⟨some 56, none, .mv (.t 6)⟩,
  ⟨some 57, none, .slice (some 1) (.t 54) (some (.t 55)) (some (.t 56))⟩,
  ⟨some 52, none, .lit true 1 [.t 49, .t 51]⟩,
  ⟨some 58, none, .append 1 16 (.t 52) (.t 57)⟩,
  ⟨some 59, none, .lit true 1 [.t 58]⟩,
  ⟨some 60, none, .append 1 24 (.t 48) (.t 59)⟩,
  ⟨some 3, none, .mv (.t 60)⟩]))) [1, 3, 4, 5]
 (.reg false [⟨some 39, none, .mv (.t 5)⟩,
  ⟨some 40, none, .bin .add .val (.t 39) (.c (.int .i64 (6)))⟩,
  ⟨some 5, none, .mv (.t 40)⟩])))
def f26l1 : ACode := (.seq (.reg false [⟨some 67, none, .bin .lss .val (.t 66) (.t 65)⟩]) [1, 3, 64, 65, 66, 67]
 (.seq (.cond (.t 67) (.skip) (.exit 3)) [1, 3, 64, 65, 66]
 (.seq (.block 4 (.seq (.reg false [⟨some 68, none, .iaddr 2 (.t 64) (.t 66)⟩,
  ⟨some 69, none, .load true 2 (.t 68)⟩,
  ⟨some 8, none, .alloc (.d (.agg [(.str []), (.int .i64 (0))]))⟩,
  ⟨none, none, .store 2 (.t 8) (.t 69)⟩]) [1, 3, 8, 64, 65, 66]
 (.reg true [⟨some 70, none, .mv (.t 3)⟩,
  ⟨some 71, none, .faddr 0 (.t 1)⟩,
  ⟨some 72, none, .load false 1 (.t 71)⟩,
  ⟨some 73, none, .faddr 1 (.t 8)⟩,
  ⟨some 74, none, .load false 1 (.t 73)⟩,
  ⟨some 75, none, .pcall (.f 35) [.t 74]⟩,
  ⟨some 76, none, .faddr 0 (.t 8)⟩,
  ⟨some 77, none, .load false 1 (.t 76)⟩,
  ⟨some 78, none, .lit true 1 [.c (.str [90, 65, 68, 68]), .t 72, .t 75, .t 77]⟩,
  ⟨some 79, none, .lit true 1 [.t 78]⟩,
  ⟨some 80, none, .append 1 24 (.t 70) (.t 79)⟩,
  ⟨some 3, none, .mv (.t 80)⟩]))) [1, 3, 64, 65, 66]
 (.reg false [⟨some 81, none, .bin .add .val (.t 66) (.c (.int .i64 (1)))⟩,
  ⟨some 66, none, .mv (.t 81)⟩]))))
def f26l2 : ACode := (.seq (.reg false [⟨some 88, none, .bin .lss .val (.t 87) (.t 86)⟩]) [1, 3, 85, 86, 87, 88]
 (.seq (.cond (.t 88) (.skip) (.exit 5)) [1, 3, 85, 86, 87]
 (.seq (.block 6 (.seq (.reg false [⟨some 89, none, .iaddr 2 (.t 85) (.t 87)⟩,
  ⟨some 90, none, .load true 2 (.t 89)⟩,
  ⟨some 10, none, .alloc (.d (.agg [(.str []), (.str [])]))⟩,
  ⟨none, none, .store 2 (.t 10) (.t 90)⟩]) [1, 3, 10, 85, 86, 87]
 (.reg false [⟨some 91, none, .mv (.t 3)⟩,
  ⟨some 92, none, .faddr 0 (.t 1)⟩,
  ⟨some 93, none, .load false 1 (.t 92)⟩,
  ⟨some 94, none, .faddr 0 (.t 10)⟩,
  ⟨some 95, none, .load false 1 (.t 94)⟩,
  ⟨some 96, none, .faddr 1 (.t 10)⟩,
  ⟨some 97, none, .load false 1 (.t 96)⟩,
  ⟨some 98, none, .lit true 1 [.c (.str [72, 83, 69, 84]), .t 93, .t 95, .t 97]⟩,
  ⟨some 99, none, .lit true 1 [.t 98]⟩,
  ⟨some 100, none, .append 1 24 (.t 91) (.t 99)⟩,
  ⟨some 3, none, .mv (.t 100)⟩]))) [1, 3, 85, 86, 87]
 (.reg false [⟨some 101, none, .bin .add .val (.t 87) (.c (.int .i64 (1)))⟩,
  ⟨some 87, none, .mv (.t 101)⟩]))))
def f26 : AFunc := { np := 1, nt := 115, res := [.tmp 2], own := true, body := (.seq (.reg false [⟨some 1, none, .box (.t 0)⟩,
  ⟨some 2, none, .mv (.nil 1)⟩]) [1]
 (.seq (.reg false [⟨some 11, none, .lit true 1 []⟩,
  ⟨some 3, none, .mv (.t 11)⟩]) [1, 3]
 (.seq (.seq (.reg false [⟨some 12, none, .load true 7 (.t 1)⟩,
  ⟨some 13, none, .pcall (.f 60) [.t 12]⟩,
  ⟨some 14, none, .un .not (.t 13)⟩]) [1, 3, 14]
 (.cond (.t 14) (.seq (.reg false [⟨some 15, none, .mv (.t 3)⟩,
  ⟨some 2, none, .mv (.t 15)⟩]) [2]
 (.ret)) (.skip))) [1, 3]
 (.seq (.seq (.reg false [⟨some 16, none, .faddr 2 (.t 1)⟩,
  ⟨some 17, none, .load false 1 (.t 16)⟩]) [1, 3, 17]
 (.block 0 (.seq (.reg false [⟨some 19, none, .bin .eql .val (.t 17) (.c (.int .i64 (1)))⟩,
  ⟨some 18, none, .mv (.t 19)⟩]) [1, 3, 17, 18]
 (.cond (.t 18) (.reg false [⟨some 20, none, .mv (.t 3)⟩,
  ⟨some 21, none, .faddr 0 (.t 1)⟩,
  ⟨some 22, none, .load false 1 (.t 21)⟩,
  ⟨some 23, none, .faddr 3 (.t 1)⟩,
  ⟨some 24, none, .load false 1 (.t 23)⟩,
  ⟨some 25, none, .lit true 1 [.c (.str [83, 69, 84]), .t 22, .t 24]⟩,
  ⟨some 26, none, .lit true 1 [.t 25]⟩,
  ⟨some 27, none, .append 1 24 (.t 20) (.t 26)⟩,
  ⟨some 3, none, .mv (.t 27)⟩]) (.seq (.seq (.reg false [⟨some 29, none, .bin .eql .val (.t 17) (.c (.int .i64 (2)))⟩,
  ⟨some 28, none, .mv (.t 29)⟩]) [1, 3, 17, 28]
 (.cond (.t 28) (.skip) (.reg false [⟨some 30, none, .bin .eql .val (.t 17) (.c (.int .i64 (3)))⟩,
  ⟨some 28, none, .mv (.t 30)⟩]))) [1, 3, 17, 28]
 (.cond (.t 28) (.seq (.reg false [⟨some 4, none, .mv (.c (.str [82, 80, 85, 83, 72]))⟩]) [1, 3, 4]
 (.seq (.seq (.reg false [⟨some 31, none, .faddr 2 (.t 1)⟩,
  ⟨some 32, none, .load false 1 (.t 31)⟩,
  ⟨some 33, none, .bin .eql .val (.t 32) (.c (.int .i64 (3)))⟩]) [1, 3, 4, 33]
 (.cond (.t 33) (.reg false [⟨some 4, none, .mv (.c (.str [83, 65, 68, 68]))⟩]) (.skip))) [1, 3, 4]
 (.seq (.reg false [⟨some 5, none, .mv (.c (.int .i64 (0)))⟩]) [1, 3, 4, 5]
 (.block 1 (.loop [1, 3, 4, 5] f26l0))))) (.seq (.reg false [⟨some 62, none, .bin .eql .val (.t 17) (.c (.int .i64 (4)))⟩,
  ⟨some 61, none, .mv (.t 62)⟩]) [1, 3, 17, 61]
 (.cond (.t 61) (.seq (.reg false [⟨some 63, none, .faddr 5 (.t 1)⟩,
  ⟨some 64, none, .load false 1 (.t 63)⟩,
  ⟨some 65, none, .len false (.t 64)⟩,
  ⟨some 66, none, .mv (.c (.int .i64 (0)))⟩]) [1, 3, 64, 65, 66]
 (.block 3 (.loop [1, 3, 64, 65, 66] f26l1))) (.seq (.reg false [⟨some 83, none, .bin .eql .val (.t 17) (.c (.int .i64 (5)))⟩,
  ⟨some 82, none, .mv (.t 83)⟩]) [1, 3, 82]
 (.cond (.t 82) (.seq (.reg false [⟨some 84, none, .faddr 6 (.t 1)⟩,
  ⟨some 85, none, .load false 1 (.t 84)⟩,
  ⟨some 86, none, .len false (.t 85)⟩,
  ⟨some 87, none, .mv (.c (.int .i64 (0)))⟩]) [1, 3, 85, 86, 87]
 (.block 5 (.loop [1, 3, 85, 86, 87] f26l2))) (.skip))))))))))) [1, 3]
 (.seq (.seq (.reg false [⟨some 102, none, .faddr 1 (.t 1)⟩,
  ⟨some 103, none, .load false 1 (.t 102)⟩,
  ⟨some 104, none, .bin .neq .val (.t 103) (.c (.int .i64 (0)))⟩]) [1, 3, 104]
 (.cond (.t 104) (.reg true [⟨some 105, none, .mv (.t 3)⟩,
  ⟨some 106, none, .faddr 0 (.t 1)⟩,
  ⟨some 107, none, .load false 1 (.t 106)⟩,
  ⟨some 108, none, .faddr 1 (.t 1)⟩,
  ⟨some 109, none, .load false 1 (.t 108)⟩,
  ⟨some 110, none, .pcall (.f 35) [.t 109]⟩,
  ⟨some 111, none, .lit true 1 [.c (.str [69, 88, 80, 73, 82, 69, 65, 84]), .t 107, .t 110]⟩,
  ⟨some 112, none, .lit true 1 [.t 111]⟩,
  ⟨some 113, none, .append 1 24 (.t 105) (.t 112)⟩,
  ⟨some 3, none, .mv (.t 113)⟩]) (.skip))) [3]
 (.seq (.reg false [⟨some 114, none, .mv (.t 3)⟩,
  ⟨some 2, none, .mv (.t 114)⟩]) [2]
 (.ret))))))) }
/- laws.eqEntry -/
def f27 : AFunc := { np := 2, nt := 43, res := [.tmp 4], own := false, body := (.seq (.reg false [⟨some 2, none, .box (.t 0)⟩,
  ⟨some 3, none, .box (.t 1)⟩,
  ⟨some 4, none, .mv (.c (.bool false))⟩]) [2, 3]
 (.seq (.seq (.reg false [⟨some 5, none, .faddr 0 (.t 2)⟩,
  ⟨some 6, none, .load false 1 (.t 5)⟩,
  ⟨some 7, none, .faddr 0 (.t 3)⟩,
  ⟨some 8, none, .load false 1 (.t 7)⟩,
  ⟨some 9, none, .bin .neq .val (.t 6) (.t 8)⟩]) [2, 3, 9]
 (.cond (.t 9) (.seq (.reg false [⟨some 4, none, .mv (.c (.bool false))⟩]) [4]
 (.ret)) (.skip))) [2, 3]
 (.seq (.seq (.reg false [⟨some 10, none, .faddr 1 (.t 2)⟩,
  ⟨some 11, none, .load false 1 (.t 10)⟩,
  ⟨some 12, none, .faddr 1 (.t 3)⟩,
  ⟨some 13, none, .load false 1 (.t 12)⟩,
  ⟨some 14, none, .bin .neq .val (.t 11) (.t 13)⟩]) [2, 3, 14]
 (.cond (.t 14) (.seq (.reg false [⟨some 4, none, .mv (.c (.bool false))⟩]) [4]
 (.ret)) (.skip))) [2, 3]
 (.seq (.seq (.reg false [⟨some 15, none, .faddr 2 (.t 2)⟩,
  ⟨some 16, none, .load false 1 (.t 15)⟩,
  ⟨some 17, none, .faddr 2 (.t 3)⟩,
  ⟨some 18, none, .load false 1 (.t 17)⟩,
  ⟨some 19, none, .bin .neq .val (.t 16) (.t 18)⟩]) [2, 3, 19]
 (.cond (.t 19) (.seq (.reg false [⟨some 4, none, .mv (.c (.bool false))⟩]) [4]
 (.ret)) (.skip))) [2, 3]
 (.seq (.seq (.reg false [⟨some 20, none, .faddr 3 (.t 2)⟩,
  ⟨some 21, none, .load false 1 (.t 20)⟩,
  ⟨some 22, none, .faddr 3 (.t 3)⟩,
  ⟨some 23, none, .load false 1 (.t 22)⟩,
  ⟨some 24, none, .bin .neq .val (.t 21) (.t 23)⟩]) [2, 3, 24]
 (.cond (.t 24) (.seq (.reg false [⟨some 4, none, .mv (.c (.bool false))⟩]) [4]
 (.ret)) (.skip))) [2, 3]
 (.seq (.seq (.reg false [⟨some 25, none, .faddr 4 (.t 2)⟩,
  ⟨some 26, none, .load false 1 (.t 25)⟩,
  ⟨some 27, none, .faddr 4 (.t 3)⟩,
  ⟨some 28, none, .load false 1 (.t 27)⟩,
  ⟨some 29, none, .pcall (.f 37) [.t 26, .t 28]⟩,
  ⟨some 30, none, .un .not (.t 29)⟩]) [2, 3, 30]
 (.cond (.t 30) (.seq (.reg false [⟨some 4, none, .mv (.c (.bool false))⟩]) [4]
 (.ret)) (.skip))) [2, 3]
 (.seq (.seq (.reg false [⟨some 31, none, .faddr 5 (.t 2)⟩,
  ⟨some 32, none, .load false 1 (.t 31)⟩,
  ⟨some 33, none, .faddr 5 (.t 3)⟩,
  ⟨some 34, none, .load false 1 (.t 33)⟩,
  ⟨some 35, none, .pcall (.f 61) [.t 32, .t 34]⟩,
  ⟨some 36, none, .un .not (.t 35)⟩]) [2, 3, 36]
 (.cond (.t 36) (.seq (.reg false [⟨some 4, none, .mv (.c (.bool false))⟩]) [4]
 (.ret)) (.skip))) [2, 3]
 (.seq (.seq (.reg false [⟨some 37, none, .faddr 6 (.t 2)⟩,
  ⟨some 38, none, .load false 1 (.t 37)⟩,
  ⟨some 39, none, .faddr 6 (.t 3)⟩,
  ⟨some 40, none, .load false 1 (.t 39)⟩,
  ⟨some 41, none, .pcall (.f 62) [.t 38, .t 40]⟩,
  ⟨some 42, none, .un .not (.t 41)⟩]) [42]
 (.cond (.t 42) (.seq (.reg false [⟨some 4, none, .mv (.c (.bool false))⟩]) [4]
 (.ret)) (.skip))) []
 (.seq (.reg false [⟨some 4, none, .mv (.c (.bool true))⟩]) [4]
 (.ret)))))))))) }
/- laws.markEntry -/
def f28 : AFunc := { np := 2, nt := 18, res := [.tmp 4], own := false, body := (.seq (.reg false [⟨some 2, none, .box (.t 0)⟩,
  ⟨some 4, none, .mv (.c (.int .i64 (0)))⟩]) [1, 2]
 (.seq (.reg false [⟨some 5, none, .faddr 4 (.t 2)⟩,
  ⟨some 6, none, .load false 1 (.t 5)⟩,
  ⟨some 7, none, .mv (.t 1)⟩,
  ⟨some 8, none, .call (.f 52) [(false, .t 6), (false, .t 7)] false⟩,
  ⟨some 1, none, .mv (.t 8)⟩]) [1, 2]
 (.seq (.reg false [⟨some 9, none, .faddr 5 (.t 2)⟩,
  ⟨some 10, none, .load false 1 (.t 9)⟩,
  ⟨some 11, none, .mv (.t 1)⟩,
  ⟨some 12, none, .call (.f 63) [(false, .t 10), (false, .t 11)] false⟩,
  ⟨some 1, none, .mv (.t 12)⟩]) [1, 2]
 (.seq (.reg false [⟨some 13, none, .faddr 6 (.t 2)⟩,
  ⟨some 14, none, .load false 1 (.t 13)⟩,
  ⟨some 15, none, .mv (.t 1)⟩,
  ⟨some 16, none, .call (.f 64) [(false, .t 14), (false, .t 15)] false⟩,
  ⟨some 1, none, .mv (.t 16)⟩]) [1]
 (.seq (.reg false [⟨some 17, none, .mv (.t 1)⟩,
  ⟨some 4, none, .mv (.t 17)⟩]) [4]
 (.ret)))))) }
/- laws.szStringS -/
def f29l0 : ACode := (.seq (.seq (.reg false [⟨some 12, none, .mv (.t 5)⟩,
  ⟨some 13, none, .mv (.t 0)⟩,
  ⟨some 14, none, .len false (.t 13)⟩,
  ⟨some 15, none, .bin .lss .val (.t 12) (.t 14)⟩]) [0, 1, 5, 15]
 (.cond (.t 15) (.skip) (.exit 0))) [0, 1, 5]
 (.seq (.block 1 (.seq (.reg false [⟨some 18, none, .mv (.t 1)⟩,
  ⟨some 19, none, .mv (.t 0)⟩,
  ⟨some 20, none, .mv (.t 5)⟩,
  ⟨some 21, none, .iaddr 1 (.t 19) (.t 20)⟩,
  ⟨some 22, none, .load false 1 (.t 21)⟩,
  ⟨some 23, none, .len true (.t 22)⟩,
  ⟨some 24, none, .bin .sub .val (.t 18) (.t 23)⟩,
  ⟨some 1, none, .mv (.t 24)⟩]) [0, 1, 5]
 (.seq (.reg false [⟨some 25, none, .mv (.t 1)⟩,
  ⟨some 26, none, .bin .lss .val (.t 25) (.c (.int .i64 (0)))⟩]) [0, 1, 5, 26]
 (.cond (.t 26) (.seq (.reg false [⟨some 4, none, .mv (.c (.int .i64 (-1)))⟩]) [4]
 (.ret)) (.skip))))) [0, 1, 5]
 (.reg false [⟨some 16, none, .mv (.t 5)⟩,
  ⟨some 17, none, .bin .add .val (.t 16) (.c (.int .i64 (1)))⟩,
  ⟨some 5, none, .mv (.t 17)⟩])))
def f29 : AFunc := { np := 2, nt := 28, res := [.tmp 4], own := false, body := (.seq (.reg false [⟨some 4, none, .mv (.c (.int .i64 (0)))⟩]) [0, 1]
 (.seq (.reg false [⟨some 6, none, .mv (.t 1)⟩,
  ⟨some 7, none, .mv (.t 0)⟩,
  ⟨some 8, none, .len false (.t 7)⟩,
  ⟨some 9, none, .bin .sub .val (.t 6) (.t 8)⟩,
  ⟨some 1, none, .mv (.t 9)⟩]) [0, 1]
 (.seq (.seq (.reg false [⟨some 10, none, .mv (.t 1)⟩,
  ⟨some 11, none, .bin .lss .val (.t 10) (.c (.int .i64 (0)))⟩]) [0, 1, 11]
 (.cond (.t 11) (.seq (.reg false [⟨some 4, none, .mv (.c (.int .i64 (-1)))⟩]) [4]
 (.ret)) (.skip))) [0, 1]
 (.seq (.seq (.reg false [⟨some 5, none, .mv (.c (.int .i64 (0)))⟩]) [0, 1, 5]
 (.block 0 (.loop [0, 1, 5] f29l0))) [1]
 (.seq (.reg false [⟨some 27, none, .mv (.t 1)⟩,
  ⟨some 4, none, .mv (.t 27)⟩]) [4]
 (.ret)))))) }
/- spec.l1In -/
def f30 : AFunc := { np := 3, nt := 15, res := [.tmp 6], own := false, body := (.seq (.reg false [⟨some 6, none, .mv (.c (.bool false))⟩]) [0, 1, 2]
 (.seq (.reg false [⟨some 7, none, .mv (.t 0)⟩,
  ⟨some 8, none, .mv (.t 1)⟩,
  ⟨some 9, none, .bin .geq .val (.t 7) (.t 8)⟩,
  ⟨some 10, none, .mv (.t 9)⟩,
  ⟨some 11, some (10, true), .mv (.t 0)⟩,
  ⟨some 12, some (10, true), .mv (.t 2)⟩,
  ⟨some 13, some (10, true), .bin .leq .val (.t 11) (.t 12)⟩,
  ⟨some 14, none, .pick (.t 10) (.t 13) (.c (.bool false))⟩,
  ⟨some 6, none, .mv (.t 14)⟩]) [6]
 (.ret))) }
/- laws.toStringS -/
def f33l0 : ACode := (.seq (.seq (.reg false [⟨some 8, none, .mv (.t 4)⟩,
  ⟨some 9, none, .mv (.t 0)⟩,
  ⟨some 10, none, .len false (.t 9)⟩,
  ⟨some 11, none, .bin .lss .val (.t 8) (.t 10)⟩]) [0, 3, 4, 11]
 (.cond (.t 11) (.skip) (.exit 0))) [0, 3, 4]
 (.seq (.block 1 (.reg false [⟨some 14, none, .mv (.t 3)⟩,
  ⟨some 15, none, .mv (.t 4)⟩,
  ⟨some 16, none, .mv (.t 0)⟩,
  ⟨some 17, none, .mv (.t 4)⟩,
  ⟨some 18, none, .iaddr 1 (.t 16) (.t 17)⟩,
  ⟨some 19, none, .load false 1 (.t 18)⟩,
  ⟨some 20, none, .iaddr 1 (.t 14) (.t 15)⟩,
  ⟨none, none, .store 1 (.t 20) (.t 19)⟩])) [0, 3, 4]
 (.reg false [⟨some 12, none, .mv (.t 4)⟩,
  ⟨some 13, none, .bin .add .val (.t 12) (.c (.int .i64 (1)))⟩,
  ⟨some 4, none, .mv (.t 13)⟩])))
def f33 : AFunc := { np := 1, nt := 22, res := [.tmp 2], own := true, body := (.seq (.reg false [⟨some 2, none, .mv (.nil 1)⟩]) [0]
 (.seq (.reg false [⟨some 5, none, .mv (.t 0)⟩,
  ⟨some 6, none, .len false (.t 5)⟩,
  ⟨some 7, none, .mkslice 1 16 (.d (.str [])) (.t 6) (.t 6)⟩,
  ⟨some 3, none, .mv (.t 7)⟩]) [0, 3]
 (.seq (.seq (.reg false [⟨some 4, none, .mv (.c (.int .i64 (0)))⟩]) [0, 3, 4]
 (.block 0 (.loop [0, 3, 4] f33l0))) [3]
 (.seq (.reg false [⟨some 21, none, .mv (.t 3)⟩,
  ⟨some 2, none, .mv (.t 21)⟩]) [2]
 (.ret))))) }
/- impl.within -/
def f34 : AFunc := { np := 3, nt := 15, res := [.tmp 6], own := false, body := (.seq (.reg false [⟨some 6, none, .mv (.c (.bool false))⟩]) [0, 1, 2]
 (.seq (.reg false [⟨some 7, none, .mv (.t 0)⟩,
  ⟨some 8, none, .mv (.t 1)⟩,
  ⟨some 9, none, .bin .geq .val (.t 7) (.t 8)⟩,
  ⟨some 10, none, .mv (.t 9)⟩,
  ⟨some 11, some (10, true), .mv (.t 0)⟩,
  ⟨some 12, some (10, true), .mv (.t 2)⟩,
  ⟨some 13, some (10, true), .bin .leq .val (.t 11) (.t 12)⟩,
  ⟨some 14, none, .pick (.t 10) (.t 13) (.c (.bool false))⟩,
  ⟨some 6, none, .mv (.t 14)⟩]) [6]
 (.ret))) }
/- impl.numberText -/
def f35 : AFunc := { np := 1, nt := 5, res := [.tmp 2], own := false, body := (.seq (.reg false [⟨some 2, none, .mv (.c (.str []))⟩]) [0]
 (.seq (.reg false [⟨some 3, none, .mv (.t 0)⟩,
  ⟨some 4, none, .pcall (.f 40) [.t 3]⟩,
  ⟨some 2, none, .mv (.t 4)⟩]) [2]
 (.ret))) }
/- laws.eqStringS -/
def f37l0 : ACode := (.seq (.seq (.reg false [⟨some 11, none, .mv (.t 5)⟩,
  ⟨some 12, none, .mv (.t 0)⟩,
  ⟨some 13, none, .len false (.t 12)⟩,
  ⟨some 14, none, .bin .lss .val (.t 11) (.t 13)⟩]) [0, 1, 5, 14]
 (.cond (.t 14) (.skip) (.exit 0))) [0, 1, 5]
 (.seq (.block 1 (.seq (.reg true [⟨some 17, none, .mv (.t 0)⟩,
  ⟨some 18, none, .mv (.t 5)⟩,
  ⟨some 19, none, .iaddr 1 (.t 17) (.t 18)⟩,
  ⟨some 20, none, .load false 1 (.t 19)⟩,
  ⟨some 21, none, .mv (.t 1)⟩,
  ⟨some 22, none, .mv (.t 5)⟩,
  ⟨some 23, none, .iaddr 1 (.t 21) (.t 22)⟩,
  ⟨some 24, none, .load false 1 (.t 23)⟩,
  ⟨some 25, none, .bin .neq .val (.t 20) (.t 24)⟩]) [0, 1, 5, 25]
 (.cond (.t 25) (.seq (.reg false [⟨some 4, none, .mv (.c (.bool false))⟩]) [4]
 (.ret)) (.skip)))) [0, 1, 5]
 (.reg false [⟨some 15, none, .mv (.t 5)⟩,
  ⟨some 16, none, .bin .add .val (.t 15) (.c (.int .i64 (1)))⟩,
  ⟨some 5, none, .mv (.t 16)⟩])))
def f37 : AFunc := { np := 2, nt := 26, res := [.tmp 4], own := false, body := (.seq (.reg false [⟨some 4, none, .mv (.c (.bool false))⟩]) [0, 1]
 (.seq (.seq (.reg false [⟨some 6, none, .mv (.t 0)⟩,
  ⟨some 7, none, .len false (.t 6)⟩,
  ⟨some 8, none, .mv (.t 1)⟩,
  ⟨some 9, none, .len false (.t 8)⟩,
  ⟨some 10, none, .bin .neq .val (.t 7) (.t 9)⟩]) [0, 1, 10]
 (.cond (.t 10) (.seq (.reg false [⟨some 4, none, .mv (.c (.bool false))⟩]) [4]
 (.ret)) (.skip))) [0, 1]
 (.seq (.seq (.reg false [⟨some 5, none, .mv (.c (.int .i64 (0)))⟩]) [0, 1, 5]
 (.block 0 (.loop [0, 1, 5] f37l0))) []
 (.seq (.reg false [⟨some 4, none, .mv (.c (.bool true))⟩]) [4]
 (.ret))))) }
/- laws.markStringS -/
def f52l0 : ACode := (.seq (.seq (.reg false [⟨some 6, none, .mv (.t 5)⟩,
  ⟨some 7, none, .mv (.t 0)⟩,
  ⟨some 8, none, .len false (.t 7)⟩,
  ⟨some 9, none, .bin .lss .val (.t 6) (.t 8)⟩]) [0, 1, 5, 9]
 (.cond (.t 9) (.skip) (.exit 0))) [0, 1, 5]
 (.seq (.block 1 (.seq (.reg false [⟨some 12, none, .mv (.t 0)⟩,
  ⟨some 13, none, .mv (.t 5)⟩,
  ⟨some 14, none, .mv (.t 1)⟩,
  ⟨some 15, none, .pcall (.f 76) [.t 14]⟩,
  ⟨some 16, none, .iaddr 1 (.t 12) (.t 13)⟩,
  ⟨none, none, .store 1 (.t 16) (.t 15)⟩]) [0, 1, 5]
 (.reg false [⟨some 17, none, .mv (.t 1)⟩,
  ⟨some 18, none, .bin .add .val (.t 17) (.c (.int .i64 (1)))⟩,
  ⟨some 1, none, .mv (.t 18)⟩]))) [0, 1, 5]
 (.reg false [⟨some 10, none, .mv (.t 5)⟩,
  ⟨some 11, none, .bin .add .val (.t 10) (.c (.int .i64 (1)))⟩,
  ⟨some 5, none, .mv (.t 11)⟩])))
def f52 : AFunc := { np := 2, nt := 20, res := [.tmp 4], own := false, body := (.seq (.reg false [⟨some 4, none, .mv (.c (.int .i64 (0)))⟩]) [0, 1]
 (.seq (.seq (.reg false [⟨some 5, none, .mv (.c (.int .i64 (0)))⟩]) [0, 1, 5]
 (.block 0 (.loop [0, 1, 5] f52l0))) [1]
 (.seq (.reg false [⟨some 19, none, .mv (.t 1)⟩,
  ⟨some 4, none, .mv (.t 19)⟩]) [4]
 (.ret)))) }
/- laws.heldStringS -/
def f53l0 : ACode := (.seq (.seq (.reg false [⟨some 6, none, .mv (.t 5)⟩,
  ⟨some 7, none, .mv (.t 0)⟩,
  ⟨some 8, none, .len false (.t 7)⟩,
  ⟨some 9, none, .bin .lss .val (.t 6) (.t 8)⟩]) [0, 1, 5, 9]
 (.cond (.t 9) (.skip) (.exit 0))) [0, 1, 5]
 (.seq (.block 1 (.seq (.seq (.reg true [⟨some 12, none, .mv (.t 0)⟩,
  ⟨some 13, none, .mv (.t 5)⟩,
  ⟨some 14, none, .iaddr 1 (.t 12) (.t 13)⟩,
  ⟨some 15, none, .load false 1 (.t 14)⟩,
  ⟨some 16, none, .mv (.t 1)⟩,
  ⟨some 17, none, .pcall (.f 76) [.t 16]⟩,
  ⟨some 18, none, .bin .neq .val (.t 15) (.t 17)⟩]) [0, 1, 5, 18]
 (.cond (.t 18) (.seq (.reg false [⟨some 4, none, .mv (.c (.int .i64 (-1)))⟩]) [4]
 (.ret)) (.skip))) [0, 1, 5]
 (.reg false [⟨some 19, none, .mv (.t 1)⟩,
  ⟨some 20, none, .bin .add .val (.t 19) (.c (.int .i64 (1)))⟩,
  ⟨some 1, none, .mv (.t 20)⟩]))) [0, 1, 5]
 (.reg false [⟨some 10, none, .mv (.t 5)⟩,
  ⟨some 11, none, .bin .add .val (.t 10) (.c (.int .i64 (1)))⟩,
  ⟨some 5, none, .mv (.t 11)⟩])))
def f53 : AFunc := { np := 2, nt := 22, res := [.tmp 4], own := false, body := (.seq (.reg false [⟨some 4, none, .mv (.c (.int .i64 (0)))⟩]) [0, 1]
 (.seq (.seq (.reg false [⟨some 5, none, .mv (.c (.int .i64 (0)))⟩]) [0, 1, 5]
 (.block 0 (.loop [0, 1, 5] f53l0))) [1]
 (.seq (.reg false [⟨some 21, none, .mv (.t 1)⟩,
  ⟨some 4, none, .mv (.t 21)⟩]) [4]
 (.ret)))) }
/- laws.szScoreS -/
def f54l0 : ACode := (.seq (.seq (.reg false [⟨some 12, none, .mv (.t 5)⟩,
  ⟨some 13, none, .mv (.t 0)⟩,
  ⟨some 14, none, .len false (.t 13)⟩,
  ⟨some 15, none, .bin .lss .val (.t 12) (.t 14)⟩]) [0, 1, 5, 15]
 (.cond (.t 15) (.skip) (.exit 0))) [0, 1, 5]
 (.seq (.block 1 (.seq (.reg false [⟨some 18, none, .mv (.t 0)⟩,
  ⟨some 19, none, .mv (.t 5)⟩,
  ⟨some 20, none, .iaddr 2 (.t 18) (.t 19)⟩,
  ⟨some 21, none, .load true 2 (.t 20)⟩,
  ⟨some 22, none, .mv (.t 1)⟩,
  ⟨some 23, none, .pcall (.f 77) [.t 21, .t 22]⟩,
  ⟨some 1, none, .mv (.t 23)⟩]) [0, 1, 5]
 (.seq (.reg false [⟨some 24, none, .mv (.t 1)⟩,
  ⟨some 25, none, .bin .lss .val (.t 24) (.c (.int .i64 (0)))⟩]) [0, 1, 5, 25]
 (.cond (.t 25) (.seq (.reg false [⟨some 4, none, .mv (.c (.int .i64 (-1)))⟩]) [4]
 (.ret)) (.skip))))) [0, 1, 5]
 (.reg false [⟨some 16, none, .mv (.t 5)⟩,
  ⟨some 17, none, .bin .add .val (.t 16) (.c (.int .i64 (1)))⟩,
  ⟨some 5, none, .mv (.t 17)⟩])))
def f54 : AFunc := { np := 2, nt := 27, res := [.tmp 4], own := false, body := (.seq (.reg false [⟨some 4, none, .mv (.c (.int .i64 (0)))⟩]) [0, 1]
 (.seq (.reg false [⟨some 6, none, .mv (.t 1)⟩,
  ⟨some 7, none, .mv (.t 0)⟩,
  ⟨some 8, none, .len false (.t 7)⟩,
  ⟨some 9, none, .bin .sub .val (.t 6) (.t 8)⟩,
  ⟨some 1, none, .mv (.t 9)⟩]) [0, 1]
 (.seq (.seq (.reg false [⟨some 10, none, .mv (.t 1)⟩,
  ⟨some 11, none, .bin .lss .val (.t 10) (.c (.int .i64 (0)))⟩]) [0, 1, 11]
 (.cond (.t 11) (.seq (.reg false [⟨some 4, none, .mv (.c (.int .i64 (-1)))⟩]) [4]
 (.ret)) (.skip))) [0, 1]
 (.seq (.seq (.reg false [⟨some 5, none, .mv (.c (.int .i64 (0)))⟩]) [0, 1, 5]
 (.block 0 (.loop [0, 1, 5] f54l0))) [1]
 (.seq (.reg false [⟨some 26, none, .mv (.t 1)⟩,
  ⟨some 4, none, .mv (.t 26)⟩]) [4]
 (.ret)))))) }
/- laws.szPairS -/
def f55l0 : ACode := (.seq (.seq (.reg false [⟨some 12, none, .mv (.t 5)⟩,
  ⟨some 13, none, .mv (.t 0)⟩,
  ⟨some 14, none, .len false (.t 13)⟩,
  ⟨some 15, none, .bin .lss .val (.t 12) (.t 14)⟩]) [0, 1, 5, 15]
 (.cond (.t 15) (.skip) (.exit 0))) [0, 1, 5]
 (.seq (.block 1 (.seq (.reg false [⟨some 18, none, .mv (.t 0)⟩,
  ⟨some 19, none, .mv (.t 5)⟩,
  ⟨some 20, none, .iaddr 2 (.t 18) (.t 19)⟩,
  ⟨some 21, none, .load true 2 (.t 20)⟩,
  ⟨some 22, none, .mv (.t 1)⟩,
  ⟨some 23, none, .pcall (.f 78) [.t 21, .t 22]⟩,
  ⟨some 1, none, .mv (.t 23)⟩]) [0, 1, 5]
 (.seq (.reg false [⟨some 24, none, .mv (.t 1)⟩,
  ⟨some 25, none, .bin .lss .val (.t 24) (.c (.int .i64 (0)))⟩]) [0, 1, 5, 25]
 (.cond (.t 25) (.seq (.reg false [⟨some 4, none, .mv (.c (.int .i64 (-1)))⟩]) [4]
 (.ret)) (.skip))))) [0, 1, 5]
 (.reg false [⟨some 16, none, .mv (.t 5)⟩,
  ⟨some 17, none, .bin .add .val (.t 16) (.c (.int .i64 (1)))⟩,
  ⟨some 5, none, .mv (.t 17)⟩])))
def f55 : AFunc := { np := 2, nt := 27, res := [.tmp 4], own := false, body := (.seq (.reg false [⟨some 4, none, .mv (.c (.int .i64 (0)))⟩]) [0, 1]
 (.seq (.reg false [⟨some 6, none, .mv (.t 1)⟩,
  ⟨some 7, none, .mv (.t 0)⟩,
  ⟨some 8, none, .len false (.t 7)⟩,
  ⟨some 9, none, .bin .sub .val (.t 6) (.t 8)⟩,
  ⟨some 1, none, .mv (.t 9)⟩]) [0, 1]
 (.seq (.seq (.reg false [⟨some 10, none, .mv (.t 1)⟩,
  ⟨some 11, none, .bin .lss .val (.t 10) (.c (.int .i64 (0)))⟩]) [0, 1, 11]
 (.cond (.t 11) (.seq (.reg false [⟨some 4, none, .mv (.c (.int .i64 (-1)))⟩]) [4]
 (.ret)) (.skip))) [0, 1]
 (.seq (.seq (.reg false [⟨some 5, none, .mv (.c (.int .i64 (0)))⟩]) [0, 1, 5]
 (.block 0 (.loop [0, 1, 5] f55l0))) [1]
 (.seq (.reg false [⟨some 26, none, .mv (.t 1)⟩,
  ⟨some 4, none, .mv (.t 26)⟩]) [4]
 (.ret)))))) }
/- spec.EntryOk -/
def f56 : AFunc := { np := 1, nt := 121, res := [.tmp 2], own := false, body := (.seq (.reg false [⟨some 1, none, .box (.t 0)⟩,
  ⟨some 2, none, .mv (.c (.bool false))⟩]) [1]
 (.seq (.seq (.reg false [⟨some 7, none, .faddr 0 (.t 1)⟩,
  ⟨some 8, none, .load false 1 (.t 7)⟩,
  ⟨some 9, none, .pcall (.f 79) [.t 8]⟩,
  ⟨some 10, none, .un .not (.t 9)⟩,
  ⟨some 11, none, .mv (.t 10)⟩,
  ⟨some 12, some (11, false), .faddr 1 (.t 1)⟩,
  ⟨some 13, some (11, false), .load false 1 (.t 12)⟩,
  ⟨some 14, some (11, false), .pcall (.f 30) [.t 13, .c (.int .i64 (0)), .c (.int .i64 (2000000))]⟩,
  ⟨some 15, some (11, false), .un .not (.t 14)⟩,
  ⟨some 16, none, .pick (.t 11) (.c (.bool true)) (.t 15)⟩]) [1, 16]
 (.cond (.t 16) (.seq (.reg false [⟨some 2, none, .mv (.c (.bool false))⟩]) [2]
 (.ret)) (.skip))) [1]
 (.seq (.reg false [⟨some 17, none, .faddr 3 (.t 1)⟩,
  ⟨some 18, none, .load false 1 (.t 17)⟩,
  ⟨some 19, none, .bin .eql .val (.t 18) (.c (.str []))⟩,
  ⟨some 3, none, .mv (.t 19)⟩]) [1, 3]
 (.seq (.reg false [⟨some 20, none, .faddr 4 (.t 1)⟩,
  ⟨some 21, none, .load false 1 (.t 20)⟩,
  ⟨some 22, none, .len false (.t 21)⟩,
  ⟨some 23, none, .bin .eql .val (.t 22) (.c (.int .i64 (0)))⟩,
  ⟨some 4, none, .mv (.t 23)⟩]) [1, 3, 4]
 (.seq (.reg false [⟨some 24, none, .faddr 5 (.t 1)⟩,
  ⟨some 25, none, .load false 1 (.t 24)⟩,
  ⟨some 26, none, .len false (.t 25)⟩,
  ⟨some 27, none, .bin .eql .val (.t 26) (.c (.int .i64 (0)))⟩,
  ⟨some 5, none, .mv (.t 27)⟩]) [1, 3, 4, 5]
 (.seq (.reg false [⟨some 28, none, .faddr 6 (.t 1)⟩,
  ⟨some 29, none, .load false 1 (.t 28)⟩,
  ⟨some 30, none, .len false (.t 29)⟩,
  ⟨some 31, none, .bin .eql .val (.t 30) (.c (.int .i64 (0)))⟩,
  ⟨some 6, none, .mv (.t 31)⟩]) [1, 3, 4, 5, 6]
 (.seq (.seq (.reg false [⟨some 32, none, .faddr 2 (.t 1)⟩,
  ⟨some 33, none, .load false 1 (.t 32)⟩]) [1, 3, 4, 5, 6, 33]
 (.block 0 (.seq (.reg false [⟨some 35, none, .bin .eql .val (.t 33) (.c (.int .i64 (1)))⟩,
  ⟨some 34, none, .mv (.t 35)⟩]) [1, 3, 4, 5, 6, 33, 34]
 (.cond (.t 34) (.seq (.reg false [⟨some 36, none, .faddr 3 (.t 1)⟩,
  ⟨some 37, none, .load false 1 (.t 36)⟩,
  ⟨some 38, none, .len true (.t 37)⟩,
  ⟨some 39, none, .bin .leq .val (.t 38) (.c (.int .i64 (40)))⟩,
  ⟨some 40, none, .mv (.t 39)⟩,
  ⟨some 41, some (40, true), .mv (.t 4)⟩,
  ⟨some 42, none, .pick (.t 40) (.t 41) (.c (.bool false))⟩,
  ⟨some 43, none, .mv (.t 42)⟩,
  ⟨some 44, some (43, true), .mv (.t 5)⟩,
  ⟨some 45, none, .pick (.t 43) (.t 44) (.c (.bool false))⟩,
  ⟨some 46, none, .mv (.t 45)⟩,
  ⟨some 47, some (46, true), .mv (.t 6)⟩,
  ⟨some 48, none, .pick (.t 46) (.t 47) (.c (.bool false))⟩,
  ⟨some 2, none, .mv (.t 48)⟩]) [2]
 (.ret)) (.seq (.reg false [⟨some 50, none, .bin .eql .val (.t 33) (.c (.int .i64 (2)))⟩,
  ⟨some 49, none, .mv (.t 50)⟩]) [1, 3, 4, 5, 6, 33, 49]
 (.cond (.t 49) (.seq (.reg false [⟨some 51, none, .mv (.t 3)⟩,
  ⟨some 52, none, .mv (.t 51)⟩,
  ⟨some 53, some (52, true), .mv (.t 4)⟩,
  ⟨some 54, some (52, true), .un .not (.t 53)⟩,
  ⟨some 55, none, .pick (.t 52) (.t 54) (.c (.bool false))⟩,
  ⟨some 56, none, .mv (.t 55)⟩,
  ⟨some 57, some (56, true), .faddr 4 (.t 1)⟩,
  ⟨some 58, some (56, true), .load false 1 (.t 57)⟩,
  ⟨some 59, some (56, true), .pcall (.f 80) [.t 58]⟩,
  ⟨some 60, none, .pick (.t 56) (.t 59) (.c (.bool false))⟩,
  ⟨some 61, none, .mv (.t 60)⟩,
  ⟨some 62, some (61, true), .mv (.t 5)⟩,
  ⟨some 63, none, .pick (.t 61) (.t 62) (.c (.bool false))⟩,
  ⟨some 64, none, .mv (.t 63)⟩,
  ⟨some 65, some (64, true), .mv (.t 6)⟩,
  ⟨some 66, none, .pick (.t 64) (.t 65) (.c (.bool false))⟩,
  ⟨some 2, none, .mv (.t 66)⟩]) [2]
 (.ret)) (.seq (.reg false [⟨some 68, none, .bin .eql .val (.t 33) (.c (.int .i64 (3)))⟩,
  ⟨some 67, none, .mv (.t 68)⟩]) [1, 3, 4, 5, 6, 33, 67]
 (.cond (.t 67) (.seq (.reg false [⟨some 69, none, .mv (.t 3)⟩,
  ⟨some 70, none, .mv (.t 69)⟩,
  ⟨some 71, some (70, true), .mv (.t 4)⟩,
  ⟨some 72, some (70, true), .un .not (.t 71)⟩,
  ⟨some 73, none, .pick (.t 70) (.t 72) (.c (.bool false))⟩,
  ⟨some 74, none, .mv (.t 73)⟩,
  ⟨some 75, some (74, true), .faddr 4 (.t 1)⟩,
  ⟨some 76, some (74, true), .load false 1 (.t 75)⟩,
  ⟨some 77, some (74, true), .pcall (.f 81) [.t 76]⟩,
  ⟨some 78, none, .pick (.t 74) (.t 77) (.c (.bool false))⟩,
  ⟨some 79, none, .mv (.t 78)⟩,
  ⟨some 80, some (79, true), .mv (.t 5)⟩,
  ⟨some 81, none, .pick (.t 79) (.t 80) (.c (.bool false))⟩,
  ⟨some 82, none, .mv (.t 81)⟩,
  ⟨some 83, some (82, true), .mv (.t 6)⟩,
  ⟨some 84, none, .pick (.t 82) (.t 83) (.c (.bool false))⟩,
  ⟨some 2, none, .mv (.t 84)⟩]) [2]
 (.ret)) (.seq (.reg false [⟨some 86, none, .bin .eql .val (.t 33) (.c (.int .i64 (4)))⟩,
  ⟨some 85, none, .mv (.t 86)⟩]) [1, 3, 4, 5, 6, 33, 85]
 (.cond (.t 85) (.seq (.reg false [⟨some 87, none, .mv (.t 3)⟩,
  ⟨some 88, none, .mv (.t 87)⟩,
  ⟨some 89, some (88, true), .mv (.t 4)⟩,
  ⟨some 90, none, .pick (.t 88) (.t 89) (.c (.bool false))⟩,
  ⟨some 91, none, .mv (.t 90)⟩,
  ⟨some 92, some (91, true), .mv (.t 5)⟩,
  ⟨some 93, some (91, true), .un .not (.t 92)⟩,
  ⟨some 94, none, .pick (.t 91) (.t 93) (.c (.bool false))⟩,
  ⟨some 95, none, .mv (.t 94)⟩,
  ⟨some 96, some (95, true), .faddr 5 (.t 1)⟩,
  ⟨some 97, some (95, true), .load false 1 (.t 96)⟩,
  ⟨some 98, some (95, true), .pcall (.f 82) [.t 97]⟩,
  ⟨some 99, none, .pick (.t 95) (.t 98) (.c (.bool false))⟩,
  ⟨some 100, none, .mv (.t 99)⟩,
  ⟨some 101, some (100, true), .mv (.t 6)⟩,
  ⟨some 102, none, .pick (.t 100) (.t 101) (.c (.bool false))⟩,
  ⟨some 2, none, .mv (.t 102)⟩]) [2]
 (.ret)) (.seq (.reg false [⟨some 104, none, .bin .eql .val (.t 33) (.c (.int .i64 (5)))⟩,
  ⟨some 103, none, .mv (.t 104)⟩]) [1, 3, 4, 5, 6, 103]
 (.cond (.t 103) (.seq (.reg false [⟨some 105, none, .mv (.t 3)⟩,
  ⟨some 106, none, .mv (.t 105)⟩,
  ⟨some 107, some (106, true), .mv (.t 4)⟩,
  ⟨some 108, none, .pick (.t 106) (.t 107) (.c (.bool false))⟩,
  ⟨some 109, none, .mv (.t 108)⟩,
  ⟨some 110, some (109, true), .mv (.t 5)⟩,
  ⟨some 111, none, .pick (.t 109) (.t 110) (.c (.bool false))⟩,
  ⟨some 112, none, .mv (.t 111)⟩,
  ⟨some 113, some (112, true), .mv (.t 6)⟩,
  ⟨some 114, some (112, true), .un .not (.t 113)⟩,
  ⟨some 115, none, .pick (.t 112) (.t 114) (.c (.bool false))⟩,
  ⟨some 116, none, .mv (.t 115)⟩,
  ⟨some 117, some (116, true), .faddr 6 (.t 1)⟩,
  ⟨some 118, some (116, true), .load false 1 (.t 117)⟩,
  ⟨some 119, some (116, true), .pcall (.f 83) [.t 118]⟩,
  ⟨some 120, none, .pick (.t 116) (.t 119) (.c (.bool false))⟩,
  ⟨some 2, none, .mv (.t 120)⟩]) [2]
 (.ret)) (.skip))))))))))))) []
 (.seq (.reg false [⟨some 2, none, .mv (.c (.bool false))⟩]) [2]
 (.ret))))))))) }
/- spec.l6Make -/
def f57l0 : ACode := (.seq (.seq (.reg false [⟨some 35, none, .mv (.t 4)⟩,
  ⟨some 36, none, .faddr 5 (.t 1)⟩,
  ⟨some 37, none, .load false 1 (.t 36)⟩,
  ⟨some 38, none, .len false (.t 37)⟩,
  ⟨some 39, none, .bin .lss .val (.t 35) (.t 38)⟩]) [1, 3, 4, 39]
 (.cond (.t 39) (.skip) (.exit 1))) [1, 3, 4]
 (.seq (.block 2 (.reg true [⟨some 42, none, .mv (.t 3)⟩,
  ⟨some 43, none, .faddr 0 (.t 1)⟩,
  ⟨some 44, none, .load false 1 (.t 43)⟩,
  ⟨some 45, none, .faddr 5 (.t 1)⟩,
  ⟨some 46, none, .load false 1 (.t 45)⟩,
  ⟨some 47, none, .mv (.t 4)⟩,
  ⟨some 48, none, .iaddr 2 (.t 46) (.t 47)⟩,
  ⟨some 49, none, .faddr 1 (.t 48)⟩,
  ⟨some 50, none, .load false 1 (.t 49)⟩,
  ⟨some 51, none, .pcall (.f 65) [.t 50]⟩,
  ⟨some 52, none, .faddr 5 (.t 1)⟩,
  ⟨some 53, none, .load false 1 (.t 52)⟩,
  ⟨some 54, none, .mv (.t 4)⟩,
  ⟨some 55, none, .iaddr 2 (.t 53) (.t 54)⟩,
  ⟨some 56, none, .faddr 0 (.t 55)⟩,
  ⟨some 57, none, .load false 1 (.t 56)⟩,
  ⟨some 58, none, .lit false 1 [.c (.str [90, 65, 68, 68]), .t 44, .t 51, .t 57]⟩,
  ⟨some 59, none, .lit false 1 [.t 58]⟩,
  ⟨some 60, none, .append 1 24 (.t 42) (.t 59)⟩,
  ⟨some 3, none, .mv (.t 60)⟩])) [1, 3, 4]
 (.reg false [⟨some 40, none, .mv (.t 4)⟩,
  ⟨some 41, none, .bin .add .val (.t 40) (.c (.int .i64 (1)))⟩,
  ⟨some 4, none, .mv (.t 41)⟩])))
def f57l1 : ACode := (.seq (.seq (.reg false [⟨some 63, none, .mv (.t 5)⟩,
  ⟨some 64, none, .faddr 6 (.t 1)⟩,
  ⟨some 65, none, .load false 1 (.t 64)⟩,
  ⟨some 66, none, .len false (.t 65)⟩,
  ⟨some 67, none, .bin .lss .val (.t 63) (.t 66)⟩]) [1, 3, 5, 67]
 (.cond (.t 67) (.skip) (.exit 3))) [1, 3, 5]
 (.seq (.block 4 (.reg true [⟨some 70, none, .mv (.t 3)⟩,
  ⟨some 71, none, .faddr 0 (.t 1)⟩,
  ⟨some 72, none, .load false 1 (.t 71)⟩,
  ⟨some 73, none, .faddr 6 (.t 1)⟩,
  ⟨some 74, none, .load false 1 (.t 73)⟩,
  ⟨some 75, none, .mv (.t 5)⟩,
  ⟨some 76, none, .iaddr 2 (.t 74) (.t 75)⟩,
  ⟨some 77, none, .faddr 0 (.t 76)⟩,
  ⟨some 78, none, .load false 1 (.t 77)⟩,
  ⟨some 79, none, .faddr 6 (.t 1)⟩,
  ⟨some 80, none, .load false 1 (.t 79)⟩,
  ⟨some 81, none, .mv (.t 5)⟩,
  ⟨some 82, none, .iaddr 2 (.t 80) (.t 81)⟩,
  ⟨some 83, none, .faddr 1 (.t 82)⟩,
  ⟨some 84, none, .load false 1 (.t 83)⟩,
  ⟨some 85, none, .lit false 1 [.c (.str [72, 83, 69, 84]), .t 72, .t 78, .t 84]⟩,
  ⟨some 86, none, .lit false 1 [.t 85]⟩,
  ⟨some 87, none, .append 1 24 (.t 70) (.t 86)⟩,
  ⟨some 3, none, .mv (.t 87)⟩])) [1, 3, 5]
 (.reg false [⟨some 68, none, .mv (.t 5)⟩,
  ⟨some 69, none, .bin .add .val (.t 68) (.c (.int .i64 (1)))⟩,
  ⟨some 5, none, .mv (.t 69)⟩])))
def f57 : AFunc := { np := 1, nt := 101, res := [.tmp 2], own := false, body := (.seq (.reg false [⟨some 1, none, .box (.t 0)⟩,
  ⟨some 2, none, .mv (.nil 1)⟩]) [1]
 (.seq (.reg false [⟨some 6, none, .lit true 1 []⟩,
  ⟨some 3, none, .mv (.t 6)⟩]) [1, 3]
 (.seq (.seq (.reg false [⟨some 7, none, .faddr 2 (.t 1)⟩,
  ⟨some 8, none, .load false 1 (.t 7)⟩]) [1, 3, 8]
 (.block 0 (.seq (.reg false [⟨some 10, none, .bin .eql .val (.t 8) (.c (.int .i64 (1)))⟩,
  ⟨some 9, none, .mv (.t 10)⟩]) [1, 3, 8, 9]
 (.cond (.t 9) (.reg false [⟨some 11, none, .mv (.t 3)⟩,
  ⟨some 12, none, .faddr 0 (.t 1)⟩,
  ⟨some 13, none, .load false 1 (.t 12)⟩,
  ⟨some 14, none, .faddr 3 (.t 1)⟩,
  ⟨some 15, none, .load false 1 (.t 14)⟩,
  ⟨some 16, none, .lit false 1 [.c (.str [83, 69, 84]), .t 13, .t 15]⟩,
  ⟨some 17, none, .lit false 1 [.t 16]⟩,
  ⟨some 18, none, .append 1 24 (.t 11) (.t 17)⟩,
  ⟨some 3, none, .mv (.t 18)⟩]) (.seq (.reg false [⟨some 20, none, .bin .eql .val (.t 8) (.c (.int .i64 (2)))⟩,
  ⟨some 19, none, .mv (.t 20)⟩]) [1, 3, 8, 19]
 (.cond (.t 19) (.reg false [⟨some 21, none, .faddr 0 (.t 1)⟩,
  ⟨some 22, none, .load false 1 (.t 21)⟩,
  ⟨some 23, none, .faddr 4 (.t 1)⟩,
  ⟨some 24, none, .load false 1 (.t 23)⟩,
  ⟨some 25, none, .call (.f 84) [(false, .c (.str [82, 80, 85, 83, 72])), (false, .t 22), (false, .t 24)] false⟩,
  ⟨some 3, none, .mv (.t 25)⟩]) (.seq (.reg false [⟨some 27, none, .bin .eql .val (.t 8) (.c (.int .i64 (3)))⟩,
  ⟨some 26, none, .mv (.t 27)⟩]) [1, 3, 8, 26]
 (.cond (.t 26) (.reg false [⟨some 28, none, .faddr 0 (.t 1)⟩,
  ⟨some 29, none, .load false 1 (.t 28)⟩,
  ⟨some 30, none, .faddr 4 (.t 1)⟩,
  ⟨some 31, none, .load false 1 (.t 30)⟩,
  ⟨some 32, none, .call (.f 84) [(false, .c (.str [83, 65, 68, 68])), (false, .t 29), (false, .t 31)] false⟩,
  ⟨some 3, none, .mv (.t 32)⟩]) (.seq (.reg false [⟨some 34, none, .bin .eql .val (.t 8) (.c (.int .i64 (4)))⟩,
  ⟨some 33, none, .mv (.t 34)⟩]) [1, 3, 8, 33]
 (.cond (.t 33) (.seq (.reg false [⟨some 4, none, .mv (.c (.int .i64 (0)))⟩]) [1, 3, 4]
 (.block 1 (.loop [1, 3, 4] f57l0))) (.seq (.reg false [⟨some 62, none, .bin .eql .val (.t 8) (.c (.int .i64 (5)))⟩,
  ⟨some 61, none, .mv (.t 62)⟩]) [1, 3, 61]
 (.cond (.t 61) (.seq (.reg false [⟨some 5, none, .mv (.c (.int .i64 (0)))⟩]) [1, 3, 5]
 (.block 3 (.loop [1, 3, 5] f57l1))) (.skip))))))))))))) [1, 3]
 (.seq (.seq (.reg false [⟨some 88, none, .faddr 1 (.t 1)⟩,
  ⟨some 89, none, .load false 1 (.t 88)⟩,
  ⟨some 90, none, .bin .neq .val (.t 89) (.c (.int .i64 (0)))⟩]) [1, 3, 90]
 (.cond (.t 90) (.reg true [⟨some 91, none, .mv (.t 3)⟩,
  ⟨some 92, none, .faddr 0 (.t 1)⟩,
  ⟨some 93, none, .load false 1 (.t 92)⟩,
  ⟨some 94, none, .faddr 1 (.t 1)⟩,
  ⟨some 95, none, .load false 1 (.t 94)⟩,
  ⟨some 96, none, .pcall (.f 65) [.t 95]⟩,
  ⟨some 97, none, .lit false 1 [.c (.str [69, 88, 80, 73, 82, 69, 65, 84]), .t 93, .t 96]⟩,
  ⟨some 98, none, .lit false 1 [.t 97]⟩,
  ⟨some 99, none, .append 1 24 (.t 91) (.t 98)⟩,
  ⟨some 3, none, .mv (.t 99)⟩]) (.skip))) [3]
 (.seq (.reg false [⟨some 100, none, .mv (.t 3)⟩,
  ⟨some 2, none, .mv (.t 100)⟩]) [2]
 (.ret)))))) }
/- laws.toScoreS -/
def f58l0 : ACode := (.seq (.seq (.reg false [⟨some 8, none, .mv (.t 4)⟩,
  ⟨some 9, none, .mv (.t 0)⟩,
  ⟨some 10, none, .len false (.t 9)⟩,
  ⟨some 11, none, .bin .lss .val (.t 8) (.t 10)⟩]) [0, 3, 4, 11]
 (.cond (.t 11) (.skip) (.exit 0))) [0, 3, 4]
 (.seq (.block 1 (.reg false [⟨some 14, none, .mv (.t 3)⟩,
  ⟨some 15, none, .mv (.t 4)⟩,
  ⟨some 16, none, .mv (.t 0)⟩,
  ⟨some 17, none, .mv (.t 4)⟩,
  ⟨some 18, none, .iaddr 2 (.t 16) (.t 17)⟩,
  ⟨some 19, none, .load true 2 (.t 18)⟩,
  ⟨some 20, none, .pcall (.f 85) [.t 19]⟩,
  ⟨some 21, none, .iaddr 2 (.t 14) (.t 15)⟩,
  ⟨none, none, .store 2 (.t 21) (.t 20)⟩])) [0, 3, 4]
 (.reg false [⟨some 12, none, .mv (.t 4)⟩,
  ⟨some 13, none, .bin .add .val (.t 12) (.c (.int .i64 (1)))⟩,
  ⟨some 4, none, .mv (.t 13)⟩])))
def f58 : AFunc := { np := 1, nt := 23, res := [.tmp 2], own := true, body := (.seq (.reg false [⟨some 2, none, .mv (.nil 2)⟩]) [0]
 (.seq (.reg false [⟨some 5, none, .mv (.t 0)⟩,
  ⟨some 6, none, .len false (.t 5)⟩,
  ⟨some 7, none, .mkslice 2 24 (.d (.agg [(.str []), (.int .i64 (0))])) (.t 6) (.t 6)⟩,
  ⟨some 3, none, .mv (.t 7)⟩]) [0, 3]
 (.seq (.seq (.reg false [⟨some 4, none, .mv (.c (.int .i64 (0)))⟩]) [0, 3, 4]
 (.block 0 (.loop [0, 3, 4] f58l0))) [3]
 (.seq (.reg false [⟨some 22, none, .mv (.t 3)⟩,
  ⟨some 2, none, .mv (.t 22)⟩]) [2]
 (.ret))))) }
/- laws.toPairS -/
def f59l0 : ACode := (.seq (.seq (.reg false [⟨some 8, none, .mv (.t 4)⟩,
  ⟨some 9, none, .mv (.t 0)⟩,
  ⟨some 10, none, .len false (.t 9)⟩,
  ⟨some 11, none, .bin .lss .val (.t 8) (.t 10)⟩]) [0, 3, 4, 11]
 (.cond (.t 11) (.skip) (.exit 0))) [0, 3, 4]
 (.seq (.block 1 (.reg false [⟨some 14, none, .mv (.t 3)⟩,
  ⟨some 15, none, .mv (.t 4)⟩,
  ⟨some 16, none, .mv (.t 0)⟩,
  ⟨some 17, none, .mv (.t 4)⟩,
  ⟨some 18, none, .iaddr 2 (.t 16) (.t 17)⟩,
  ⟨some 19, none, .load true 2 (.t 18)⟩,
  ⟨some 20, none, .pcall (.f 86) [.t 19]⟩,
  ⟨some 21, none, .iaddr 2 (.t 14) (.t 15)⟩,
  ⟨none, none, .store 2 (.t 21) (.t 20)⟩])) [0, 3, 4]
 (.reg false [⟨some 12, none, .mv (.t 4)⟩,
  ⟨some 13, none, .bin .add .val (.t 12) (.c (.int .i64 (1)))⟩,
  ⟨some 4, none, .mv (.t 13)⟩])))
def f59 : AFunc := { np := 1, nt := 23, res := [.tmp 2], own := true, body := (.seq (.reg false [⟨some 2, none, .mv (.nil 2)⟩]) [0]
 (.seq (.reg false [⟨some 5, none, .mv (.t 0)⟩,
  ⟨some 6, none, .len false (.t 5)⟩,
  ⟨some 7, none, .mkslice 2 32 (.d (.agg [(.str []), (.str [])])) (.t 6) (.t 6)⟩,
  ⟨some 3, none, .mv (.t 7)⟩]) [0, 3]
 (.seq (.seq (.reg false [⟨some 4, none, .mv (.c (.int .i64 (0)))⟩]) [0, 3, 4]
 (.block 0 (.loop [0, 3, 4] f59l0))) [3]
 (.seq (.reg false [⟨some 22, none, .mv (.t 3)⟩,
  ⟨some 2, none, .mv (.t 22)⟩]) [2]
 (.ret))))) }
/- impl.EntryOk -/
def f60 : AFunc := { np := 1, nt := 132, res := [.tmp 2], own := false, body := (.seq (.reg false [⟨some 1, none, .box (.t 0)⟩,
  ⟨some 2, none, .mv (.c (.bool false))⟩]) [1]
 (.seq (.seq (.reg false [⟨some 7, none, .faddr 0 (.t 1)⟩,
  ⟨some 8, none, .load false 1 (.t 7)⟩,
  ⟨some 9, none, .pcall (.f 87) [.t 8]⟩,
  ⟨some 10, none, .un .not (.t 9)⟩,
  ⟨some 11, none, .mv (.t 10)⟩,
  ⟨some 12, some (11, false), .faddr 1 (.t 1)⟩,
  ⟨some 13, some (11, false), .load false 1 (.t 12)⟩,
  ⟨some 14, some (11, false), .pcall (.f 34) [.t 13, .c (.int .i64 (0)), .c (.int .i64 (2000000))]⟩,
  ⟨some 15, some (11, false), .un .not (.t 14)⟩,
  ⟨some 16, none, .pick (.t 11) (.c (.bool true)) (.t 15)⟩]) [1, 16]
 (.cond (.t 16) (.seq (.reg false [⟨some 2, none, .mv (.c (.bool false))⟩]) [2]
 (.ret)) (.skip))) [1]
 (.seq (.reg true [⟨some 17, none, .faddr 3 (.t 1)⟩,
  ⟨some 18, none, .load false 1 (.t 17)⟩,
  ⟨some 19, none, .bin .neq .val (.t 18) (.c (.str []))⟩,
  ⟨some 20, none, .faddr 4 (.t 1)⟩,
  ⟨some 21, none, .load false 1 (.t 20)⟩,
  ⟨some 22, none, .len false (.t 21)⟩,
  ⟨some 23, none, .bin .gtr .val (.t 22) (.c (.int .i64 (0)))⟩,
  ⟨some 24, none, .faddr 5 (.t 1)⟩,
  ⟨some 25, none, .load false 1 (.t 24)⟩,
  ⟨some 26, none, .len false (.t 25)⟩,
  ⟨some 27, none, .bin .gtr .val (.t 26) (.c (.int .i64 (0)))⟩,
  ⟨some 28, none, .faddr 6 (.t 1)⟩,
  ⟨some 29, none, .load false 1 (.t 28)⟩,
  ⟨some 30, none, .len false (.t 29)⟩,
  ⟨some 31, none, .bin .gtr .val (.t 30) (.c (.int .i64 (0)))⟩,
  ⟨some 3, none, .mv (.t 19)⟩,
  ⟨some 4, none, .mv (.t 23)⟩,
  ⟨some 5, none, .mv (.t 27)⟩,
  ⟨some 6, none, .mv (.t 31)⟩]) [1, 3, 4, 5, 6]
 (.seq (.seq (.reg false [⟨some 32, none, .faddr 2 (.t 1)⟩,
  ⟨some 33, none, .load false 1 (.t 32)⟩]) [1, 3, 4, 5, 6, 33]
 (.block 0 (.seq (.reg false [⟨some 35, none, .bin .eql .val (.t 33) (.c (.int .i64 (1)))⟩,
  ⟨some 34, none, .mv (.t 35)⟩]) [1, 3, 4, 5, 6, 33, 34]
 (.cond (.t 34) (.seq (.reg false [⟨some 36, none, .faddr 3 (.t 1)⟩,
  ⟨some 37, none, .load false 1 (.t 36)⟩,
  ⟨some 38, none, .len true (.t 37)⟩,
  ⟨some 39, none, .bin .leq .val (.t 38) (.c (.int .i64 (40)))⟩,
  ⟨some 40, none, .mv (.t 39)⟩,
  ⟨some 41, some (40, true), .mv (.t 4)⟩,
  ⟨some 42, some (40, true), .un .not (.t 41)⟩,
  ⟨some 43, none, .pick (.t 40) (.t 42) (.c (.bool false))⟩,
  ⟨some 44, none, .mv (.t 43)⟩,
  ⟨some 45, some (44, true), .mv (.t 5)⟩,
  ⟨some 46, some (44, true), .un .not (.t 45)⟩,
  ⟨some 47, none, .pick (.t 44) (.t 46) (.c (.bool false))⟩,
  ⟨some 48, none, .mv (.t 47)⟩,
  ⟨some 49, some (48, true), .mv (.t 6)⟩,
  ⟨some 50, some (48, true), .un .not (.t 49)⟩,
  ⟨some 51, none, .pick (.t 48) (.t 50) (.c (.bool false))⟩,
  ⟨some 2, none, .mv (.t 51)⟩]) [2]
 (.ret)) (.seq (.reg false [⟨some 53, none, .bin .eql .val (.t 33) (.c (.int .i64 (2)))⟩,
  ⟨some 52, none, .mv (.t 53)⟩]) [1, 3, 4, 5, 6, 33, 52]
 (.cond (.t 52) (.seq (.reg false [⟨some 54, none, .mv (.t 4)⟩,
  ⟨some 55, none, .mv (.t 54)⟩,
  ⟨some 56, some (55, true), .faddr 4 (.t 1)⟩,
  ⟨some 57, some (55, true), .load false 1 (.t 56)⟩,
  ⟨some 58, some (55, true), .pcall (.f 88) [.t 57]⟩,
  ⟨some 59, none, .pick (.t 55) (.t 58) (.c (.bool false))⟩,
  ⟨some 60, none, .mv (.t 59)⟩,
  ⟨some 61, some (60, true), .mv (.t 3)⟩,
  ⟨some 62, some (60, true), .un .not (.t 61)⟩,
  ⟨some 63, none, .pick (.t 60) (.t 62) (.c (.bool false))⟩,
  ⟨some 64, none, .mv (.t 63)⟩,
  ⟨some 65, some (64, true), .mv (.t 5)⟩,
  ⟨some 66, some (64, true), .un .not (.t 65)⟩,
  ⟨some 67, none, .pick (.t 64) (.t 66) (.c (.bool false))⟩,
  ⟨some 68, none, .mv (.t 67)⟩,
  ⟨some 69, some (68, true), .mv (.t 6)⟩,
  ⟨some 70, some (68, true), .un .not (.t 69)⟩,
  ⟨some 71, none, .pick (.t 68) (.t 70) (.c (.bool false))⟩,
  ⟨some 2, none, .mv (.t 71)⟩]) [2]
 (.ret)) (.seq (.reg false [⟨some 73, none, .bin .eql .val (.t 33) (.c (.int .i64 (3)))⟩,
  ⟨some 72, none, .mv (.t 73)⟩]) [1, 3, 4, 5, 6, 33, 72]
 (.cond (.t 72) (.seq (.reg false [⟨some 74, none, .mv (.t 4)⟩,
  ⟨some 75, none, .mv (.t 74)⟩,
  ⟨some 76, some (75, true), .faddr 4 (.t 1)⟩,
  ⟨some 77, some (75, true), .load false 1 (.t 76)⟩,
  ⟨some 78, some (75, true), .pcall (.f 89) [.t 77]⟩,
  ⟨some 79, none, .pick (.t 75) (.t 78) (.c (.bool false))⟩,
  ⟨some 80, none, .mv (.t 79)⟩,
  ⟨some 81, some (80, true), .mv (.t 3)⟩,
  ⟨some 82, some (80, true), .un .not (.t 81)⟩,
  ⟨some 83, none, .pick (.t 80) (.t 82) (.c (.bool false))⟩,
  ⟨some 84, none, .mv (.t 83)⟩,
  ⟨some 85, some (84, true), .mv (.t 5)⟩,
  ⟨some 86, some (84, true), .un .not (.t 85)⟩,
  ⟨some 87, none, .pick (.t 84) (.t 86) (.c (.bool false))⟩,
  ⟨some 88, none, .mv (.t 87)⟩,
  ⟨some 89, some (88, true), .mv (.t 6)⟩,
  ⟨some 90, some (88, true), .un .not (.t 89)⟩,
  ⟨some 91, none, .pick (.t 88) (.t 90) (.c (.bool false))⟩,
  ⟨some 2, none, .mv (.t 91)⟩]) [2]
 (.ret)) (.seq (.reg false [⟨some 93, none, .bin .eql .val (.t 33) (.c (.int .i64 (4)))⟩,
  ⟨some 92, none, .mv (.t 93)⟩]) [1, 3, 4, 5, 6, 33, 92]
 (.cond (.t 92) (.seq (.reg false [⟨some 94, none, .mv (.t 5)⟩,
  ⟨some 95, none, .mv (.t 94)⟩,
  ⟨some 96, some (95, true), .faddr 5 (.t 1)⟩,
  ⟨some 97, some (95, true), .load false 1 (.t 96)⟩,
  ⟨some 98, some (95, true), .pcall (.f 90) [.t 97]⟩,
  ⟨some 99, none, .pick (.t 95) (.t 98) (.c (.bool false))⟩,
  ⟨some 100, none, .mv (.t 99)⟩,
  ⟨some 101, some (100, true), .mv (.t 3)⟩,
  ⟨some 102, some (100, true), .un .not (.t 101)⟩,
  ⟨some 103, none, .pick (.t 100) (.t 102) (.c (.bool false))⟩,
  ⟨some 104, none, .mv (.t 103)⟩,
  ⟨some 105, some (104, true), .mv (.t 4)⟩,
  ⟨some 106, some (104, true), .un .not (.t 105)⟩,
  ⟨some 107, none, .pick (.t 104) (.t 106) (.c (.bool false))⟩,
  ⟨some 108, none, .mv (.t 107)⟩,
  ⟨some 109, some (108, true), .mv (.t 6)⟩,
  ⟨some 110, some (108, true), .un .not (.t 109)⟩,
  ⟨some 111, none, .pick (.t 108) (.t 110) (.c (.bool false))⟩,
  ⟨some 2, none, .mv (.t 111)⟩]) [2]
 (.ret)) (.seq (.reg false [⟨some 113, none, .bin .eql .val (.t 33) (.c (.int .i64 (5)))⟩,
  ⟨some 112, none, .mv (.t 113)⟩]) [1, 3, 4, 5, 6, 112]
 (.cond (.t 112) (.seq (.reg false [⟨some 114, none, .mv (.t 6)⟩,
  ⟨some 115, none, .mv (.t 114)⟩,
  ⟨some 116, some (115, true), .faddr 6 (.t 1)⟩,
  ⟨some 117, some (115, true), .load false 1 (.t 116)⟩,
  ⟨some 118, some (115, true), .pcall (.f 91) [.t 117]⟩,
  ⟨some 119, none, .pick (.t 115) (.t 118) (.c (.bool false))⟩,
  ⟨some 120, none, .mv (.t 119)⟩,
  ⟨some 121, some (120, true), .mv (.t 3)⟩,
  ⟨some 122, some (120, true), .un .not (.t 121)⟩,
  ⟨some 123, none, .pick (.t 120) (.t 122) (.c (.bool false))⟩,
  ⟨some 124, none, .mv (.t 123)⟩,
  ⟨some 125, some (124, true), .mv (.t 4)⟩,
  ⟨some 126, some (124, true), .un .not (.t 125)⟩,
  ⟨some 127, none, .pick (.t 124) (.t 126) (.c (.bool false))⟩,
  ⟨some 128, none, .mv (.t 127)⟩,
  ⟨some 129, some (128, true), .mv (.t 5)⟩,
  ⟨some 130, some (128, true), .un .not (.t 129)⟩,
  ⟨some 131, none, .pick (.t 128) (.t 130) (.c (.bool false))⟩,
  ⟨some 2, none, .mv (.t 131)⟩]) [2]
 (.ret)) (.skip))))))))))))) []
 (.seq (.reg false [⟨some 2, none, .mv (.c (.bool false))⟩]) [2]
 (.ret)))))) }
/- laws.eqScoreS -/
def f61l0 : ACode := (.seq (.seq (.reg false [⟨some 11, none, .mv (.t 5)⟩,
  ⟨some 12, none, .mv (.t 0)⟩,
  ⟨some 13, none, .len false (.t 12)⟩,
  ⟨some 14, none, .bin .lss .val (.t 11) (.t 13)⟩]) [0, 1, 5, 14]
 (.cond (.t 14) (.skip) (.exit 0))) [0, 1, 5]
 (.seq (.block 1 (.seq (.reg true [⟨some 17, none, .mv (.t 0)⟩,
  ⟨some 18, none, .mv (.t 5)⟩,
  ⟨some 19, none, .iaddr 2 (.t 17) (.t 18)⟩,
  ⟨some 20, none, .load true 2 (.t 19)⟩,
  ⟨some 21, none, .mv (.t 1)⟩,
  ⟨some 22, none, .mv (.t 5)⟩,
  ⟨some 23, none, .iaddr 2 (.t 21) (.t 22)⟩,
  ⟨some 24, none, .load true 2 (.t 23)⟩,
  ⟨some 25, none, .pcall (.f 92) [.t 20, .t 24]⟩,
  ⟨some 26, none, .un .not (.t 25)⟩]) [0, 1, 5, 26]
 (.cond (.t 26) (.seq (.reg false [⟨some 4, none, .mv (.c (.bool false))⟩]) [4]
 (.ret)) (.skip)))) [0, 1, 5]
 (.reg false [⟨some 15, none, .mv (.t 5)⟩,
  ⟨some 16, none, .bin .add .val (.t 15) (.c (.int .i64 (1)))⟩,
  ⟨some 5, none, .mv (.t 16)⟩])))
def f61 : AFunc := { np := 2, nt := 27, res := [.tmp 4], own := false, body := (.seq (.reg false [⟨some 4, none, .mv (.c (.bool false))⟩]) [0, 1]
 (.seq (.seq (.reg false [⟨some 6, none, .mv (.t 0)⟩,
  ⟨some 7, none, .len false (.t 6)⟩,
  ⟨some 8, none, .mv (.t 1)⟩,
  ⟨some 9, none, .len false (.t 8)⟩,
  ⟨some 10, none, .bin .neq .val (.t 7) (.t 9)⟩]) [0, 1, 10]
 (.cond (.t 10) (.seq (.reg false [⟨some 4, none, .mv (.c (.bool false))⟩]) [4]
 (.ret)) (.skip))) [0, 1]
 (.seq (.seq (.reg false [⟨some 5, none, .mv (.c (.int .i64 (0)))⟩]) [0, 1, 5]
 (.block 0 (.loop [0, 1, 5] f61l0))) []
 (.seq (.reg false [⟨some 4, none, .mv (.c (.bool true))⟩]) [4]
 (.ret))))) }
/- laws.eqPairS -/
def f62l0 : ACode := (.seq (.seq (.reg false [⟨some 11, none, .mv (.t 5)⟩,
  ⟨some 12, none, .mv (.t 0)⟩,
  ⟨some 13, none, .len false (.t 12)⟩,
  ⟨some 14, none, .bin .lss .val (.t 11) (.t 13)⟩]) [0, 1, 5, 14]
 (.cond (.t 14) (.skip) (.exit 0))) [0, 1, 5]
 (.seq (.block 1 (.seq (.reg true [⟨some 17, none, .mv (.t 0)⟩,
  ⟨some 18, none, .mv (.t 5)⟩,
  ⟨some 19, none, .iaddr 2 (.t 17) (.t 18)⟩,
  ⟨some 20, none, .load true 2 (.t 19)⟩,
  ⟨some 21, none, .mv (.t 1)⟩,
  ⟨some 22, none, .mv (.t 5)⟩,
  ⟨some 23, none, .iaddr 2 (.t 21) (.t 22)⟩,
  ⟨some 24, none, .load true 2 (.t 23)⟩,
  ⟨some 25, none, .pcall (.f 93) [.t 20, .t 24]⟩,
  ⟨some 26, none, .un .not (.t 25)⟩]) [0, 1, 5, 26]
 (.cond (.t 26) (.seq (.reg false [⟨some 4, none, .mv (.c (.bool false))⟩]) [4]
 (.ret)) (.skip)))) [0, 1, 5]
 (.reg false [⟨some 15, none, .mv (.t 5)⟩,
  ⟨some 16, none, .bin .add .val (.t 15) (.c (.int .i64 (1)))⟩,
  ⟨some 5, none, .mv (.t 16)⟩])))
def f62 : AFunc := { np := 2, nt := 27, res := [.tmp 4], own := false, body := (.seq (.reg false [⟨some 4, none, .mv (.c (.bool false))⟩]) [0, 1]
 (.seq (.seq (.reg false [⟨some 6, none, .mv (.t 0)⟩,
  ⟨some 7, none, .len false (.t 6)⟩,
  ⟨some 8, none, .mv (.t 1)⟩,
  ⟨some 9, none, .len false (.t 8)⟩,
  ⟨some 10, none, .bin .neq .val (.t 7) (.t 9)⟩]) [0, 1, 10]
 (.cond (.t 10) (.seq (.reg false [⟨some 4, none, .mv (.c (.bool false))⟩]) [4]
 (.ret)) (.skip))) [0, 1]
 (.seq (.seq (.reg false [⟨some 5, none, .mv (.c (.int .i64 (0)))⟩]) [0, 1, 5]
 (.block 0 (.loop [0, 1, 5] f62l0))) []
 (.seq (.reg false [⟨some 4, none, .mv (.c (.bool true))⟩]) [4]
 (.ret))))) }
/- laws.markScoreS -/
def f63l0 : ACode := (.seq (.seq (.reg false [⟨some 6, none, .mv (.t 5)⟩,
  ⟨some 7, none, .mv (.t 0)⟩,
  ⟨some 8, none, .len false (.t 7)⟩,
  ⟨some 9, none, .bin .lss .val (.t 6) (.t 8)⟩]) [0, 1, 5, 9]
 (.cond (.t 9) (.skip) (.exit 0))) [0, 1, 5]
 (.seq (.block 1 (.seq (.reg false [⟨some 12, none, .mv (.t 0)⟩,
  ⟨some 13, none, .mv (.t 5)⟩,
  ⟨some 14, none, .mv (.t 1)⟩,
  ⟨some 15, none, .pcall (.f 76) [.t 14]⟩,
  ⟨some 16, none, .iaddr 2 (.t 12) (.t 13)⟩,
  ⟨some 17, none, .faddr 0 (.t 16)⟩,
  ⟨none, none, .store 1 (.t 17) (.t 15)⟩]) [0, 1, 5]
 (.seq (.reg false [⟨some 18, none, .mv (.t 1)⟩,
  ⟨some 19, none, .bin .add .val (.t 18) (.c (.int .i64 (1)))⟩,
  ⟨some 1, none, .mv (.t 19)⟩]) [0, 1, 5]
 (.seq (.reg false [⟨some 20, none, .mv (.t 0)⟩,
  ⟨some 21, none, .mv (.t 5)⟩,
  ⟨some 22, none, .mv (.t 1)⟩,
  ⟨some 23, none, .iaddr 2 (.t 20) (.t 21)⟩,
  ⟨some 24, none, .faddr 1 (.t 23)⟩,
  ⟨none, none, .store 1 (.t 24) (.t 22)⟩]) [0, 1, 5]
 (.reg false [⟨some 25, none, .mv (.t 1)⟩,
  ⟨some 26, none, .bin .add .val (.t 25) (.c (.int .i64 (1)))⟩,
  ⟨some 1, none, .mv (.t 26)⟩]))))) [0, 1, 5]
 (.reg false [⟨some 10, none, .mv (.t 5)⟩,
  ⟨some 11, none, .bin .add .val (.t 10) (.c (.int .i64 (1)))⟩,
  ⟨some 5, none, .mv (.t 11)⟩])))
def f63 : AFunc := { np := 2, nt := 28, res := [.tmp 4], own := false, body := (.seq (.reg false [⟨some 4, none, .mv (.c (.int .i64 (0)))⟩]) [0, 1]
 (.seq (.seq (.reg false [⟨some 5, none, .mv (.c (.int .i64 (0)))⟩]) [0, 1, 5]
 (.block 0 (.loop [0, 1, 5] f63l0))) [1]
 (.seq (.reg false [⟨some 27, none, .mv (.t 1)⟩,
  ⟨some 4, none, .mv (.t 27)⟩]) [4]
 (.ret)))) }
/- laws.markPairS -/
def f64l0 : ACode := (.seq (.seq (.reg false [⟨some 6, none, .mv (.t 5)⟩,
  ⟨some 7, none, .mv (.t 0)⟩,
  ⟨some 8, none, .len false (.t 7)⟩,
  ⟨some 9, none, .bin .lss .val (.t 6) (.t 8)⟩]) [0, 1, 5, 9]
 (.cond (.t 9) (.skip) (.exit 0))) [0, 1, 5]
 (.seq (.block 1 (.seq (.reg false [⟨some 12, none, .mv (.t 0)⟩,
  ⟨some 13, none, .mv (.t 5)⟩,
  ⟨some 14, none, .mv (.t 1)⟩,
  ⟨some 15, none, .pcall (.f 76) [.t 14]⟩,
  ⟨some 16, none, .iaddr 2 (.t 12) (.t 13)⟩,
  ⟨some 17, none, .faddr 0 (.t 16)⟩,
  ⟨none, none, .store 1 (.t 17) (.t 15)⟩]) [0, 1, 5]
 (.seq (.reg false [⟨some 18, none, .mv (.t 1)⟩,
  ⟨some 19, none, .bin .add .val (.t 18) (.c (.int .i64 (1)))⟩,
  ⟨some 1, none, .mv (.t 19)⟩]) [0, 1, 5]
 (.seq (.reg false [⟨some 20, none, .mv (.t 0)⟩,
  ⟨some 21, none, .mv (.t 5)⟩,
  ⟨some 22, none, .mv (.t 1)⟩,
  ⟨some 23, none, .pcall (.f 76) [.t 22]⟩,
  ⟨some 24, none, .iaddr 2 (.t 20) (.t 21)⟩,
  ⟨some 25, none, .faddr 1 (.t 24)⟩,
  ⟨none, none, .store 1 (.t 25) (.t 23)⟩]) [0, 1, 5]
 (.reg false [⟨some 26, none, .mv (.t 1)⟩,
  ⟨some 27, none, .bin .add .val (.t 26) (.c (.int .i64 (1)))⟩,
  ⟨some 1, none, .mv (.t 27)⟩]))))) [0, 1, 5]
 (.reg false [⟨some 10, none, .mv (.t 5)⟩,
  ⟨some 11, none, .bin .add .val (.t 10) (.c (.int .i64 (1)))⟩,
  ⟨some 5, none, .mv (.t 11)⟩])))
def f64 : AFunc := { np := 2, nt := 29, res := [.tmp 4], own := false, body := (.seq (.reg false [⟨some 4, none, .mv (.c (.int .i64 (0)))⟩]) [0, 1]
 (.seq (.seq (.reg false [⟨some 5, none, .mv (.c (.int .i64 (0)))⟩]) [0, 1, 5]
 (.block 0 (.loop [0, 1, 5] f64l0))) [1]
 (.seq (.reg false [⟨some 28, none, .mv (.t 1)⟩,
  ⟨some 4, none, .mv (.t 28)⟩]) [4]
 (.ret)))) }
/- spec.l1Dec -/
def f65 : AFunc := { np := 1, nt := 28, res := [.tmp 2], own := false, body := (.seq (.reg false [⟨some 2, none, .mv (.c (.str []))⟩]) [0]
 (.seq (.seq (.reg false [⟨some 3, none, .mv (.t 0)⟩,
  ⟨some 4, none, .bin .lss .val (.t 3) (.c (.int .i64 (-9223372036854775807)))⟩]) [0, 4]
 (.cond (.t 4) (.seq (.reg false [⟨some 2, none, .mv (.c (.str [45, 57, 50, 50, 51, 51, 55, 50, 48, 51, 54, 56, 53, 52, 55, 55, 53, 56, 48, 56]))⟩]) [2]
 (.ret)) (.skip))) [0]
 (.seq (.seq (.reg false [⟨some 5, none, .mv (.t 0)⟩,
  ⟨some 6, none, .bin .lss .val (.t 5) (.c (.int .i64 (0)))⟩]) [0, 6]
 (.cond (.t 6) (.seq (.reg false [⟨some 7, none, .mv (.t 0)⟩,
  ⟨some 8, none, .un .neg (.t 7)⟩,
  ⟨some 9, none, .pcall (.f 65) [.t 8]⟩,
  ⟨some 10, none, .bin .add .val (.c (.str [45])) (.t 9)⟩,
  ⟨some 2, none, .mv (.t 10)⟩]) [2]
 (.ret)) (.skip))) [0]
 (.seq (.seq (.reg false [⟨some 11, none, .mv (.t 0)⟩,
  ⟨some 12, none, .bin .lss .val (.t 11) (.c (.int .i64 (10)))⟩]) [0, 12]
 (.cond (.t 12) (.seq (.reg false [⟨some 13, none, .mv (.t 0)⟩,
  ⟨some 14, none, .bin .add .val (.c (.int .i64 (48))) (.t 13)⟩,
  ⟨some 15, none, .cvInt .u8 (.t 14)⟩,
  ⟨some 16, none, .lit false 1 [.t 15]⟩,
  ⟨some 17, none, .cvStr (.t 16)⟩,
  ⟨some 2, none, .mv (.t 17)⟩]) [2]
 (.ret)) (.skip))) [0]
 (.seq (.reg true [⟨some 18, none, .mv (.t 0)⟩,
  ⟨some 19, none, .bin .quo .val (.t 18) (.c (.int .i64 (10)))⟩,
  ⟨some 20, none, .pcall (.f 65) [.t 19]⟩,
  ⟨some 21, none, .mv (.t 0)⟩,
  ⟨some 22, none, .bin .rem .val (.t 21) (.c (.int .i64 (10)))⟩,
  ⟨some 23, none, .bin .add .val (.c (.int .i64 (48))) (.t 22)⟩,
  ⟨some 24, none, .cvInt .u8 (.t 23)⟩,
  ⟨some 25, none, .lit false 1 [.t 24]⟩,
  ⟨some 26, none, .cvStr (.t 25)⟩,
  ⟨some 27, none, .bin .add .val (.t 20) (.t 26)⟩,
  ⟨some 2, none, .mv (.t 27)⟩]) [2]
 (.ret)))))) }
/- impl.textsOk -/
def f66l0 : ACode := (.seq (.reg false [⟨some 10, none, .bin .lss .val (.t 9) (.t 8)⟩]) [0, 1, 7, 8, 9, 10]
 (.seq (.cond (.t 10) (.skip) (.exit 0)) [0, 1, 7, 8, 9]
 (.seq (.block 1 (.seq (.reg false [⟨some 11, none, .iaddr 1 (.t 7) (.t 9)⟩,
  ⟨some 12, none, .load false 1 (.t 11)⟩,
  ⟨some 6, none, .mv (.t 12)⟩]) [0, 1, 6, 7, 8, 9]
 (.seq (.reg false [⟨some 13, none, .mv (.t 6)⟩,
  ⟨some 14, none, .len true (.t 13)⟩,
  ⟨some 15, none, .bin .gtr .val (.t 14) (.c (.int .i64 (40)))⟩]) [0, 1, 7, 8, 9, 15]
 (.cond (.t 15) (.seq (.reg false [⟨some 4, none, .mv (.c (.bool false))⟩]) [4]
 (.ret)) (.skip))))) [0, 1, 7, 8, 9]
 (.reg false [⟨some 16, none, .bin .add .val (.t 9) (.c (.int .i64 (1)))⟩,
  ⟨some 9, none, .mv (.t 16)⟩]))))
def f66 : AFunc := { np := 2, nt := 21, res := [.tmp 4], own := false, body := (.seq (.reg false [⟨some 4, none, .mv (.c (.bool false))⟩]) [0, 1]
 (.seq (.seq (.reg false [⟨some 7, none, .mv (.t 0)⟩,
  ⟨some 8, none, .len false (.t 7)⟩,
  ⟨some 9, none, .mv (.c (.int .i64 (0)))⟩]) [0, 1, 7, 8, 9]
 (.block 0 (.loop [0, 1, 7, 8, 9] f66l0))) [0, 1]
 (.seq (.reg false [⟨some 17, none, .mv (.t 0)⟩,
  ⟨some 18, none, .len false (.t 17)⟩,
  ⟨some 19, none, .mv (.t 1)⟩,
  ⟨some 20, none, .bin .leq .val (.t 18) (.t 19)⟩,
  ⟨some 4, none, .mv (.t 20)⟩]) [4]
 (.ret)))) }
/- laws.markText -/
def f76l0 : ACode := (.seq (.seq (.reg false [⟨some 6, none, .mv (.t 0)⟩,
  ⟨some 7, none, .bin .gtr .val (.t 6) (.c (.int .i64 (0)))⟩]) [0, 3, 7]
 (.cond (.t 7) (.skip) (.exit 0))) [0, 3]
 (.block 1 (.seq (.reg false [⟨some 8, none, .mv (.t 0)⟩,
  ⟨some 9, none, .bin .rem .val (.t 8) (.c (.int .i64 (10)))⟩,
  ⟨some 10, none, .bin .add .val (.c (.int .i64 (48))) (.t 9)⟩,
  ⟨some 11, none, .cvInt .u8 (.t 10)⟩,
  ⟨some 12, none, .lit false 1 [.t 11]⟩,
  ⟨some 13, none, .cvStr (.t 12)⟩,
  ⟨some 14, none, .mv (.t 3)⟩,
  ⟨some 15, none, .bin .add .val (.t 13) (.t 14)⟩,
  ⟨some 3, none, .mv (.t 15)⟩]) [0, 3]
 (.reg false [⟨some 16, none, .mv (.t 0)⟩,
  ⟨some 17, none, .bin .quo .val (.t 16) (.c (.int .i64 (10)))⟩,
  ⟨some 0, none, .mv (.t 17)⟩]))))
def f76 : AFunc := { np := 1, nt := 20, res := [.tmp 2], own := false, body := (.seq (.reg false [⟨some 2, none, .mv (.c (.str []))⟩]) [0]
 (.seq (.seq (.reg false [⟨some 4, none, .mv (.t 0)⟩,
  ⟨some 5, none, .bin .leq .val (.t 4) (.c (.int .i64 (0)))⟩]) [0, 5]
 (.cond (.t 5) (.seq (.reg false [⟨some 2, none, .mv (.c (.str [109, 48]))⟩]) [2]
 (.ret)) (.skip))) [0]
 (.seq (.reg false [⟨some 3, none, .mv (.c (.str []))⟩]) [0, 3]
 (.seq (.block 0 (.loop [0, 3] f76l0)) [3]
 (.seq (.reg false [⟨some 18, none, .mv (.t 3)⟩,
  ⟨some 19, none, .bin .add .val (.c (.str [109])) (.t 18)⟩,
  ⟨some 2, none, .mv (.t 19)⟩]) [2]
 (.ret)))))) }
/- laws.szScore -/
def f77 : AFunc := { np := 2, nt := 13, res := [.tmp 4], own := false, body := (.seq (.reg false [⟨some 2, none, .box (.t 0)⟩,
  ⟨some 4, none, .mv (.c (.int .i64 (0)))⟩]) [1, 2]
 (.seq (.reg false [⟨some 5, none, .mv (.t 1)⟩,
  ⟨some 6, none, .faddr 0 (.t 2)⟩,
  ⟨some 7, none, .load false 1 (.t 6)⟩,
  ⟨some 8, none, .len true (.t 7)⟩,
  ⟨some 9, none, .bin .sub .val (.t 5) (.t 8)⟩,
  ⟨some 1, none, .mv (.t 9)⟩]) [1]
 (.seq (.seq (.reg false [⟨some 10, none, .mv (.t 1)⟩,
  ⟨some 11, none, .bin .lss .val (.t 10) (.c (.int .i64 (0)))⟩]) [1, 11]
 (.cond (.t 11) (.seq (.reg false [⟨some 4, none, .mv (.c (.int .i64 (-1)))⟩]) [4]
 (.ret)) (.skip))) [1]
 (.seq (.reg false [⟨some 12, none, .mv (.t 1)⟩,
  ⟨some 4, none, .mv (.t 12)⟩]) [4]
 (.ret))))) }
/- laws.szPair -/
def f78 : AFunc := { np := 2, nt := 20, res := [.tmp 4], own := false, body := (.seq (.reg false [⟨some 2, none, .box (.t 0)⟩,
  ⟨some 4, none, .mv (.c (.int .i64 (0)))⟩]) [1, 2]
 (.seq (.reg false [⟨some 5, none, .mv (.t 1)⟩,
  ⟨some 6, none, .faddr 0 (.t 2)⟩,
  ⟨some 7, none, .load false 1 (.t 6)⟩,
  ⟨some 8, none, .len true (.t 7)⟩,
  ⟨some 9, none, .bin .sub .val (.t 5) (.t 8)⟩,
  ⟨some 1, none, .mv (.t 9)⟩]) [1, 2]
 (.seq (.seq (.reg false [⟨some 10, none, .mv (.t 1)⟩,
  ⟨some 11, none, .bin .lss .val (.t 10) (.c (.int .i64 (0)))⟩]) [1, 2, 11]
 (.cond (.t 11) (.seq (.reg false [⟨some 4, none, .mv (.c (.int .i64 (-1)))⟩]) [4]
 (.ret)) (.skip))) [1, 2]
 (.seq (.reg false [⟨some 12, none, .mv (.t 1)⟩,
  ⟨some 13, none, .faddr 1 (.t 2)⟩,
  ⟨some 14, none, .load false 1 (.t 13)⟩,
  ⟨some 15, none, .len true (.t 14)⟩,
  ⟨some 16, none, .bin .sub .val (.t 12) (.t 15)⟩,
  ⟨some 1, none, .mv (.t 16)⟩]) [1]
 (.seq (.seq (.reg false [⟨some 17, none, .mv (.t 1)⟩,
  ⟨some 18, none, .bin .lss .val (.t 17) (.c (.int .i64 (0)))⟩]) [1, 18]
 (.cond (.t 18) (.seq (.reg false [⟨some 4, none, .mv (.c (.int .i64 (-1)))⟩]) [4]
 (.ret)) (.skip))) [1]
 (.seq (.reg false [⟨some 19, none, .mv (.t 1)⟩,
  ⟨some 4, none, .mv (.t 19)⟩]) [4]
 (.ret))))))) }
/- spec.l4Key -/
def f79 : AFunc := { np := 1, nt := 6, res := [.tmp 2], own := false, body := (.seq (.reg false [⟨some 2, none, .mv (.c (.bool false))⟩]) [0]
 (.seq (.reg false [⟨some 3, none, .mv (.t 0)⟩,
  ⟨some 4, none, .len true (.t 3)⟩,
  ⟨some 5, none, .pcall (.f 30) [.t 4, .c (.int .i64 (1)), .c (.int .i64 (12))]⟩,
  ⟨some 2, none, .mv (.t 5)⟩]) [2]
 (.ret))) }
/- spec.l2Texts -/
def f80l0 : ACode := (.seq (.seq (.reg false [⟨some 4, none, .mv (.t 3)⟩,
  ⟨some 5, none, .mv (.t 0)⟩,
  ⟨some 6, none, .len false (.t 5)⟩,
  ⟨some 7, none, .bin .lss .val (.t 4) (.t 6)⟩]) [0, 3, 7]
 (.cond (.t 7) (.skip) (.exit 0))) [0, 3]
 (.seq (.block 1 (.seq (.reg false [⟨some 10, none, .mv (.t 0)⟩,
  ⟨some 11, none, .mv (.t 3)⟩,
  ⟨some 12, none, .iaddr 1 (.t 10) (.t 11)⟩,
  ⟨some 13, none, .load false 1 (.t 12)⟩,
  ⟨some 14, none, .len true (.t 13)⟩,
  ⟨some 15, none, .bin .gtr .val (.t 14) (.c (.int .i64 (40)))⟩]) [0, 3, 15]
 (.cond (.t 15) (.seq (.reg false [⟨some 2, none, .mv (.c (.bool false))⟩]) [2]
 (.ret)) (.skip)))) [0, 3]
 (.reg false [⟨some 8, none, .mv (.t 3)⟩,
  ⟨some 9, none, .bin .add .val (.t 8) (.c (.int .i64 (1)))⟩,
  ⟨some 3, none, .mv (.t 9)⟩])))
def f80 : AFunc := { np := 1, nt := 19, res := [.tmp 2], own := false, body := (.seq (.reg false [⟨some 2, none, .mv (.c (.bool false))⟩]) [0]
 (.seq (.seq (.reg false [⟨some 3, none, .mv (.c (.int .i64 (0)))⟩]) [0, 3]
 (.block 0 (.loop [0, 3] f80l0))) [0]
 (.seq (.reg false [⟨some 16, none, .mv (.t 0)⟩,
  ⟨some 17, none, .len false (.t 16)⟩,
  ⟨some 18, none, .bin .leq .val (.t 17) (.c (.int .i64 (16)))⟩,
  ⟨some 2, none, .mv (.t 18)⟩]) [2]
 (.ret)))) }
/- spec.SetOk -/
def f81l0 : ACode := (.seq (.seq (.reg false [⟨some 4, none, .mv (.t 3)⟩,
  ⟨some 5, none, .mv (.t 0)⟩,
  ⟨some 6, none, .len false (.t 5)⟩,
  ⟨some 7, none, .bin .lss .val (.t 4) (.t 6)⟩]) [0, 3, 7]
 (.cond (.t 7) (.skip) (.exit 0))) [0, 3]
 (.seq (.block 1 (.seq (.reg true [⟨some 10, none, .mv (.t 0)⟩,
  ⟨some 11, none, .mv (.t 3)⟩,
  ⟨some 12, none, .bin .sub .val (.t 11) (.c (.int .i64 (1)))⟩,
  ⟨some 13, none, .iaddr 1 (.t 10) (.t 12)⟩,
  ⟨some 14, none, .load false 1 (.t 13)⟩,
  ⟨some 15, none, .mv (.t 0)⟩,
  ⟨some 16, none, .mv (.t 3)⟩,
  ⟨some 17, none, .iaddr 1 (.t 15) (.t 16)⟩,
  ⟨some 18, none, .load false 1 (.t 17)⟩,
  ⟨some 19, none, .bin .geq .val (.t 14) (.t 18)⟩]) [0, 3, 19]
 (.cond (.t 19) (.seq (.reg false [⟨some 2, none, .mv (.c (.bool false))⟩]) [2]
 (.ret)) (.skip)))) [0, 3]
 (.reg false [⟨some 8, none, .mv (.t 3)⟩,
  ⟨some 9, none, .bin .add .val (.t 8) (.c (.int .i64 (1)))⟩,
  ⟨some 3, none, .mv (.t 9)⟩])))
def f81 : AFunc := { np := 1, nt := 22, res := [.tmp 2], own := false, body := (.seq (.reg false [⟨some 2, none, .mv (.c (.bool false))⟩]) [0]
 (.seq (.seq (.reg false [⟨some 3, none, .mv (.c (.int .i64 (1)))⟩]) [0, 3]
 (.block 0 (.loop [0, 3] f81l0))) [0]
 (.seq (.reg false [⟨some 20, none, .mv (.t 0)⟩,
  ⟨some 21, none, .pcall (.f 80) [.t 20]⟩,
  ⟨some 2, none, .mv (.t 21)⟩]) [2]
 (.ret)))) }
/- spec.ScoresOk -/
def f82l0 : ACode := (.seq (.seq (.reg false [⟨some 44, none, .mv (.t 4)⟩,
  ⟨some 45, none, .mv (.t 3)⟩,
  ⟨some 46, none, .bin .lss .val (.t 44) (.t 45)⟩]) [0, 3, 4, 46]
 (.cond (.t 46) (.skip) (.exit 2))) [0, 3, 4]
 (.seq (.block 3 (.seq (.reg true [⟨some 49, none, .mv (.t 0)⟩,
  ⟨some 50, none, .mv (.t 4)⟩,
  ⟨some 51, none, .iaddr 2 (.t 49) (.t 50)⟩,
  ⟨some 52, none, .faddr 0 (.t 51)⟩,
  ⟨some 53, none, .load false 1 (.t 52)⟩,
  ⟨some 54, none, .mv (.t 0)⟩,
  ⟨some 55, none, .mv (.t 3)⟩,
  ⟨some 56, none, .iaddr 2 (.t 54) (.t 55)⟩,
  ⟨some 57, none, .faddr 0 (.t 56)⟩,
  ⟨some 58, none, .load false 1 (.t 57)⟩,
  ⟨some 59, none, .bin .eql .val (.t 53) (.t 58)⟩]) [0, 3, 4, 59]
 (.cond (.t 59) (.seq (.reg false [⟨some 2, none, .mv (.c (.bool false))⟩]) [2]
 (.ret)) (.skip)))) [0, 3, 4]
 (.reg false [⟨some 47, none, .mv (.t 4)⟩,
  ⟨some 48, none, .bin .add .val (.t 47) (.c (.int .i64 (1)))⟩,
  ⟨some 4, none, .mv (.t 48)⟩])))
def f82l1 : ACode := (.seq (.seq (.reg false [⟨some 5, none, .mv (.t 3)⟩,
  ⟨some 6, none, .mv (.t 0)⟩,
  ⟨some 7, none, .len false (.t 6)⟩,
  ⟨some 8, none, .bin .lss .val (.t 5) (.t 7)⟩]) [0, 3, 8]
 (.cond (.t 8) (.skip) (.exit 0))) [0, 3]
 (.seq (.block 1 (.seq (.seq (.reg true [⟨some 11, none, .mv (.t 0)⟩,
  ⟨some 12, none, .mv (.t 3)⟩,
  ⟨some 13, none, .iaddr 2 (.t 11) (.t 12)⟩,
  ⟨some 14, none, .faddr 0 (.t 13)⟩,
  ⟨some 15, none, .load false 1 (.t 14)⟩,
  ⟨some 16, none, .len true (.t 15)⟩,
  ⟨some 17, none, .bin .gtr .val (.t 16) (.c (.int .i64 (40)))⟩,
  ⟨some 18, none, .mv (.t 17)⟩,
  ⟨some 19, some (18, false), .mv (.t 0)⟩,
  ⟨some 20, some (18, false), .mv (.t 3)⟩,
  ⟨some 21, some (18, false), .iaddr 2 (.t 19) (.t 20)⟩,
  ⟨some 22, some (18, false), .faddr 1 (.t 21)⟩,
  ⟨some 23, some (18, false), .load false 1 (.t 22)⟩,
  ⟨some 24, some (18, false), .pcall (.f 30) [.t 23, .c (.int .i64 (-1000000000)), .c (.int .i64 (1000000000))]⟩,
  ⟨some 25, some (18, false), .un .not (.t 24)⟩,
  ⟨some 26, none, .pick (.t 18) (.c (.bool true)) (.t 25)⟩,
  ⟨some 27, none, .mv (.t 26)⟩,
  ⟨some 28, some (27, false), .mv (.t 3)⟩,
  ⟨some 29, some (27, false), .bin .gtr .val (.t 28) (.c (.int .i64 (0)))⟩,
  ⟨some 30, some (27, false), .mv (.t 29)⟩,
  ⟨some 31, some (30, true), .mv (.t 0)⟩,
  ⟨some 32, some (30, true), .mv (.t 3)⟩,
  ⟨some 33, some (30, true), .bin .sub .val (.t 32) (.c (.int .i64 (1)))⟩,
  ⟨some 34, some (30, true), .iaddr 2 (.t 31) (.t 33)⟩,
  ⟨some 35, some (30, true), .load true 2 (.t 34)⟩,
  ⟨some 36, some (30, true), .mv (.t 0)⟩,
  ⟨some 37, some (30, true), .mv (.t 3)⟩,
  ⟨some 38, some (30, true), .iaddr 2 (.t 36) (.t 37)⟩,
  ⟨some 39, some (30, true), .load true 2 (.t 38)⟩,
  ⟨some 40, some (30, true), .pcall (.f 98) [.t 35, .t 39]⟩,
  ⟨some 41, some (30, true), .un .not (.t 40)⟩,
  ⟨some 42, some (27, false), .pick (.t 30) (.t 41) (.c (.bool false))⟩,
  ⟨some 43, none, .pick (.t 27) (.c (.bool true)) (.t 42)⟩]) [0, 3, 43]
 (.cond (.t 43) (.seq (.reg false [⟨some 2, none, .mv (.c (.bool false))⟩]) [2]
 (.ret)) (.skip))) [0, 3]
 (.seq (.reg false [⟨some 4, none, .mv (.c (.int .i64 (0)))⟩]) [0, 3, 4]
 (.block 2 (.loop [0, 3, 4] f82l0))))) [0, 3]
 (.reg false [⟨some 9, none, .mv (.t 3)⟩,
  ⟨some 10, none, .bin .add .val (.t 9) (.c (.int .i64 (1)))⟩,
  ⟨some 3, none, .mv (.t 10)⟩])))
def f82 : AFunc := { np := 1, nt := 63, res := [.tmp 2], own := false, body := (.seq (.reg false [⟨some 2, none, .mv (.c (.bool false))⟩]) [0]
 (.seq (.seq (.reg false [⟨some 3, none, .mv (.c (.int .i64 (0)))⟩]) [0, 3]
 (.block 0 (.loop [0, 3] f82l1))) [0]
 (.seq (.reg false [⟨some 60, none, .mv (.t 0)⟩,
  ⟨some 61, none, .len false (.t 60)⟩,
  ⟨some 62, none, .bin .leq .val (.t 61) (.c (.int .i64 (16)))⟩,
  ⟨some 2, none, .mv (.t 62)⟩]) [2]
 (.ret)))) }
/- spec.FieldsOk -/
def f83l0 : ACode := (.seq (.seq (.reg false [⟨some 4, none, .mv (.t 3)⟩,
  ⟨some 5, none, .mv (.t 0)⟩,
  ⟨some 6, none, .len false (.t 5)⟩,
  ⟨some 7, none, .bin .lss .val (.t 4) (.t 6)⟩]) [0, 3, 7]
 (.cond (.t 7) (.skip) (.exit 0))) [0, 3]
 (.seq (.block 1 (.seq (.reg true [⟨some 10, none, .mv (.t 0)⟩,
  ⟨some 11, none, .mv (.t 3)⟩,
  ⟨some 12, none, .iaddr 2 (.t 10) (.t 11)⟩,
  ⟨some 13, none, .faddr 0 (.t 12)⟩,
  ⟨some 14, none, .load false 1 (.t 13)⟩,
  ⟨some 15, none, .len true (.t 14)⟩,
  ⟨some 16, none, .bin .gtr .val (.t 15) (.c (.int .i64 (40)))⟩,
  ⟨some 17, none, .mv (.t 16)⟩,
  ⟨some 18, some (17, false), .mv (.t 0)⟩,
  ⟨some 19, some (17, false), .mv (.t 3)⟩,
  ⟨some 20, some (17, false), .iaddr 2 (.t 18) (.t 19)⟩,
  ⟨some 21, some (17, false), .faddr 1 (.t 20)⟩,
  ⟨some 22, some (17, false), .load false 1 (.t 21)⟩,
  ⟨some 23, some (17, false), .len true (.t 22)⟩,
  ⟨some 24, some (17, false), .bin .gtr .val (.t 23) (.c (.int .i64 (40)))⟩,
  ⟨some 25, none, .pick (.t 17) (.c (.bool true)) (.t 24)⟩,
  ⟨some 26, none, .mv (.t 25)⟩,
  ⟨some 27, some (26, false), .mv (.t 3)⟩,
  ⟨some 28, some (26, false), .bin .gtr .val (.t 27) (.c (.int .i64 (0)))⟩,
  ⟨some 29, some (26, false), .mv (.t 28)⟩,
  ⟨some 30, some (29, true), .mv (.t 0)⟩,
  ⟨some 31, some (29, true), .mv (.t 3)⟩,
  ⟨some 32, some (29, true), .bin .sub .val (.t 31) (.c (.int .i64 (1)))⟩,
  ⟨some 33, some (29, true), .iaddr 2 (.t 30) (.t 32)⟩,
  ⟨some 34, some (29, true), .faddr 0 (.t 33)⟩,
  ⟨some 35, some (29, true), .load false 1 (.t 34)⟩,
  ⟨some 36, some (29, true), .mv (.t 0)⟩,
  ⟨some 37, some (29, true), .mv (.t 3)⟩,
  ⟨some 38, some (29, true), .iaddr 2 (.t 36) (.t 37)⟩,
  ⟨some 39, some (29, true), .faddr 0 (.t 38)⟩,
  ⟨some 40, some (29, true), .load false 1 (.t 39)⟩,
  ⟨some 41, some (29, true), .bin .geq .val (.t 35) (.t 40)⟩,
  ⟨some 42, some (26, false), .pick (.t 29) (.t 41) (.c (.bool false))⟩,
  ⟨some 43, none, .pick (.t 26) (.c (.bool true)) (.t 42)⟩]) [0, 3, 43]
 (.cond (.t 43) (.seq (.reg false [⟨some 2, none, .mv (.c (.bool false))⟩]) [2]
 (.ret)) (.skip)))) [0, 3]
 (.reg false [⟨some 8, none, .mv (.t 3)⟩,
  ⟨some 9, none, .bin .add .val (.t 8) (.c (.int .i64 (1)))⟩,
  ⟨some 3, none, .mv (.t 9)⟩])))
def f83 : AFunc := { np := 1, nt := 47, res := [.tmp 2], own := false, body := (.seq (.reg false [⟨some 2, none, .mv (.c (.bool false))⟩]) [0]
 (.seq (.seq (.reg false [⟨some 3, none, .mv (.c (.int .i64 (0)))⟩]) [0, 3]
 (.block 0 (.loop [0, 3] f83l0))) [0]
 (.seq (.reg false [⟨some 44, none, .mv (.t 0)⟩,
  ⟨some 45, none, .len false (.t 44)⟩,
  ⟨some 46, none, .bin .leq .val (.t 45) (.c (.int .i64 (16)))⟩,
  ⟨some 2, none, .mv (.t 46)⟩]) [2]
 (.ret)))) }
/- spec.l6Many -/
def f84l0 : ACode := (.seq (.seq (.reg false [⟨some 11, none, .mv (.t 8)⟩,
  ⟨some 12, none, .mv (.t 2)⟩,
  ⟨some 13, none, .len false (.t 12)⟩,
  ⟨some 14, none, .bin .lss .val (.t 11) (.t 13)⟩]) [0, 1, 2, 7, 8, 14]
 (.cond (.t 14) (.skip) (.exit 0))) [0, 1, 2, 7, 8]
 (.seq (.block 1 (.seq (.reg false [⟨some 18, none, .mv (.t 8)⟩,
  ⟨some 19, none, .bin .add .val (.t 18) (.c (.int .i64 (8)))⟩,
  ⟨some 20, none, .bin .sub .val (.t 19) (.c (.int .i64 (2)))⟩,
  ⟨some 9, none, .mv (.t 20)⟩]) [0, 1, 2, 7, 8, 9]
 (.seq (.seq (.reg false [⟨some 21, none, .mv (.t 9)⟩,
  ⟨some 22, none, .mv (.t 2)⟩,
  ⟨some 23, none, .len false (.t 22)⟩,
  ⟨some 24, none, .bin .gtr .val (.t 21) (.t 23)⟩]) [0, 1, 2, 7, 8, 9, 24]
 (.cond (.t 24) (.reg false [⟨some 25, none, .mv (.t 2)⟩,
  ⟨some 26, none, .len false (.t 25)⟩,
  ⟨some 9, none, .mv (.t 26)⟩]) (.skip))) [0, 1, 2, 7, 8, 9]
 (.reg false [⟨some 27, none, .mv (.t 7)⟩,
  ⟨some 28, none, .mv (.t 0)⟩,
  ⟨some 29, none, .mv (.t 1)⟩,
  ⟨some 30, none, .lit true 1 [.t 28, .t 29]⟩,
  ⟨some 31, none, .mv (.t 2)⟩,
  ⟨some 32, none, .mv (.t 8)⟩,
  ⟨some 33, none, .mv (.t 9)⟩,
  ⟨some 34, none, .slice (some 1) (.t 31) (some (.t 32)) (some (.t 33))⟩,
  ⟨some 35, none, .append 1 16 (.t 30) (.t 34)⟩,
  ⟨some 36, none, .lit true 1 [.t 35]⟩,
  ⟨some 37, none, .append 1 24 (.t 27) (.t 36)⟩,
  ⟨some 7, none, .mv (.t 37)⟩])))) [0, 1, 2, 7, 8]
 (.reg false [⟨some 15, none, .mv (.t 8)⟩,
  ⟨some 16, none, .bin .add .val (.t 15) (.c (.int .i64 (8)))⟩,
  ⟨some 17, none, .bin .sub .val (.t 16) (.c (.int .i64 (2)))⟩,
  ⟨some 8, none, .mv (.t 17)⟩])))
def f84 : AFunc := { np := 3, nt := 39, res := [.tmp 6], own := true, body := (.seq (.reg false [⟨some 6, none, .mv (.nil 1)⟩]) [0, 1, 2]
 (.seq (.reg false [⟨some 10, none, .lit true 1 []⟩,
  ⟨some 7, none, .mv (.t 10)⟩]) [0, 1, 2, 7]
 (.seq (.seq (.reg false [⟨some 8, none, .mv (.c (.int .i64 (0)))⟩]) [0, 1, 2, 7, 8]
 (.block 0 (.loop [0, 1, 2, 7, 8] f84l0))) [7]
 (.seq (.reg false [⟨some 38, none, .mv (.t 7)⟩,
  ⟨some 6, none, .mv (.t 38)⟩]) [6]
 (.ret))))) }
/- laws.toScore -/
def f85 : AFunc := { np := 1, nt := 11, res := [.cell 2 true 2], own := false, body := (.seq (.reg false [⟨some 1, none, .box (.t 0)⟩,
  ⟨some 2, none, .alloc (.d (.agg [(.str []), (.int .i64 (0))]))⟩]) [1, 2]
 (.seq (.reg false [⟨some 3, none, .alloc (.d (.agg [(.str []), (.int .i64 (0))]))⟩]) [1, 2, 3]
 (.seq (.reg false [⟨some 4, none, .faddr 0 (.t 1)⟩,
  ⟨some 5, none, .load false 1 (.t 4)⟩,
  ⟨some 6, none, .faddr 0 (.t 3)⟩,
  ⟨none, none, .store 1 (.t 6) (.t 5)⟩]) [1, 2, 3]
 (.seq (.reg false [⟨some 7, none, .faddr 1 (.t 1)⟩,
  ⟨some 8, none, .load false 1 (.t 7)⟩,
  ⟨some 9, none, .faddr 1 (.t 3)⟩,
  ⟨none, none, .store 1 (.t 9) (.t 8)⟩]) [2, 3]
 (.seq (.reg false [⟨some 10, none, .load true 2 (.t 3)⟩,
  ⟨none, none, .store 2 (.t 2) (.t 10)⟩]) [2]
 (.ret)))))) }
/- laws.toPair -/
def f86 : AFunc := { np := 1, nt := 11, res := [.cell 2 true 2], own := false, body := (.seq (.reg false [⟨some 1, none, .box (.t 0)⟩,
  ⟨some 2, none, .alloc (.d (.agg [(.str []), (.str [])]))⟩]) [1, 2]
 (.seq (.reg false [⟨some 3, none, .alloc (.d (.agg [(.str []), (.str [])]))⟩]) [1, 2, 3]
 (.seq (.reg false [⟨some 4, none, .faddr 0 (.t 1)⟩,
  ⟨some 5, none, .load false 1 (.t 4)⟩,
  ⟨some 6, none, .faddr 0 (.t 3)⟩,
  ⟨none, none, .store 1 (.t 6) (.t 5)⟩]) [1, 2, 3]
 (.seq (.reg false [⟨some 7, none, .faddr 1 (.t 1)⟩,
  ⟨some 8, none, .load false 1 (.t 7)⟩,
  ⟨some 9, none, .faddr 1 (.t 3)⟩,
  ⟨none, none, .store 1 (.t 9) (.t 8)⟩]) [2, 3]
 (.seq (.reg false [⟨some 10, none, .load true 2 (.t 3)⟩,
  ⟨none, none, .store 2 (.t 2) (.t 10)⟩]) [2]
 (.ret)))))) }
/- impl.keyOk -/
def f87 : AFunc := { np := 1, nt := 6, res := [.tmp 2], own := false, body := (.seq (.reg false [⟨some 2, none, .mv (.c (.bool false))⟩]) [0]
 (.seq (.reg false [⟨some 3, none, .mv (.t 0)⟩,
  ⟨some 4, none, .len true (.t 3)⟩,
  ⟨some 5, none, .pcall (.f 34) [.t 4, .c (.int .i64 (1)), .c (.int .i64 (12))]⟩,
  ⟨some 2, none, .mv (.t 5)⟩]) [2]
 (.ret))) }
/- impl.listOk -/
def f88 : AFunc := { np := 1, nt := 5, res := [.tmp 2], own := false, body := (.seq (.reg false [⟨some 2, none, .mv (.c (.bool false))⟩]) [0]
 (.seq (.reg false [⟨some 3, none, .mv (.t 0)⟩,
  ⟨some 4, none, .pcall (.f 66) [.t 3, .c (.int .i64 (16))]⟩,
  ⟨some 2, none, .mv (.t 4)⟩]) [2]
 (.ret))) }
/- impl.SetOk -/
def f89l0 : ACode := (.seq (.seq (.reg false [⟨some 4, none, .mv (.t 3)⟩,
  ⟨some 5, none, .mv (.t 0)⟩,
  ⟨some 6, none, .len false (.t 5)⟩,
  ⟨some 7, none, .bin .lss .val (.t 4) (.t 6)⟩]) [0, 3, 7]
 (.cond (.t 7) (.skip) (.exit 0))) [0, 3]
 (.seq (.block 1 (.seq (.reg true [⟨some 10, none, .mv (.t 0)⟩,
  ⟨some 11, none, .mv (.t 3)⟩,
  ⟨some 12, none, .bin .sub .val (.t 11) (.c (.int .i64 (1)))⟩,
  ⟨some 13, none, .iaddr 1 (.t 10) (.t 12)⟩,
  ⟨some 14, none, .load false 1 (.t 13)⟩,
  ⟨some 15, none, .mv (.t 0)⟩,
  ⟨some 16, none, .mv (.t 3)⟩,
  ⟨some 17, none, .iaddr 1 (.t 15) (.t 16)⟩,
  ⟨some 18, none, .load false 1 (.t 17)⟩,
  ⟨some 19, none, .bin .geq .val (.t 14) (.t 18)⟩]) [0, 3, 19]
 (.cond (.t 19) (.seq (.reg false [⟨some 2, none, .mv (.c (.bool false))⟩]) [2]
 (.ret)) (.skip)))) [0, 3]
 (.reg false [⟨some 8, none, .mv (.t 3)⟩,
  ⟨some 9, none, .bin .add .val (.t 8) (.c (.int .i64 (1)))⟩,
  ⟨some 3, none, .mv (.t 9)⟩])))
def f89 : AFunc := { np := 1, nt := 22, res := [.tmp 2], own := false, body := (.seq (.reg false [⟨some 2, none, .mv (.c (.bool false))⟩]) [0]
 (.seq (.seq (.reg false [⟨some 3, none, .mv (.c (.int .i64 (1)))⟩]) [0, 3]
 (.block 0 (.loop [0, 3] f89l0))) [0]
 (.seq (.reg false [⟨some 20, none, .mv (.t 0)⟩,
  ⟨some 21, none, .pcall (.f 88) [.t 20]⟩,
  ⟨some 2, none, .mv (.t 21)⟩]) [2]
 (.ret)))) }
/- impl.ScoresOk -/
def f90l0 : ACode := (.seq (.reg false [⟨some 8, none, .bin .lss .val (.t 7) (.t 6)⟩]) [0, 5, 6, 7, 8]
 (.seq (.cond (.t 8) (.skip) (.exit 0)) [0, 5, 6, 7]
 (.seq (.block 1 (.seq (.reg false [⟨some 9, none, .mv (.t 7)⟩,
  ⟨some 10, none, .iaddr 2 (.t 5) (.t 7)⟩,
  ⟨some 11, none, .load true 2 (.t 10)⟩,
  ⟨some 4, none, .alloc (.d (.agg [(.str []), (.int .i64 (0))]))⟩,
  ⟨some 3, none, .mv (.t 9)⟩,
  ⟨none, none, .store 2 (.t 4) (.t 11)⟩]) [0, 3, 4, 5, 6, 7]
 (.seq (.reg true [⟨some 12, none, .faddr 0 (.t 4)⟩,
  ⟨some 13, none, .load false 1 (.t 12)⟩,
  ⟨some 14, none, .len true (.t 13)⟩,
  ⟨some 15, none, .bin .gtr .val (.t 14) (.c (.int .i64 (40)))⟩,
  ⟨some 16, none, .mv (.t 15)⟩,
  ⟨some 17, some (16, false), .faddr 1 (.t 4)⟩,
  ⟨some 18, some (16, false), .load false 1 (.t 17)⟩,
  ⟨some 19, some (16, false), .pcall (.f 99) [.t 18]⟩,
  ⟨some 20, some (16, false), .un .not (.t 19)⟩,
  ⟨some 21, none, .pick (.t 16) (.c (.bool true)) (.t 20)⟩,
  ⟨some 22, none, .mv (.t 21)⟩,
  ⟨some 23, some (22, false), .mv (.t 3)⟩,
  ⟨some 24, some (22, false), .bin .gtr .val (.t 23) (.c (.int .i64 (0)))⟩,
  ⟨some 25, some (22, false), .mv (.t 24)⟩,
  ⟨some 26, some (25, true), .mv (.t 0)⟩,
  ⟨some 27, some (25, true), .mv (.t 3)⟩,
  ⟨some 28, some (25, true), .bin .sub .val (.t 27) (.c (.int .i64 (1)))⟩,
  ⟨some 29, some (25, true), .iaddr 2 (.t 26) (.t 28)⟩,
  ⟨some 30, some (25, true), .load true 2 (.t 29)⟩,
  ⟨some 31, some (25, true), .load true 2 (.t 4)⟩,
  ⟨some 32, some (25, true), .pcall (.f 100) [.t 30, .t 31]⟩,
  ⟨some 33, some (25, true), .bin .geq .val (.t 32) (.c (.int .i64 (0)))⟩,
  ⟨some 34, some (22, false), .pick (.t 25) (.t 33) (.c (.bool false))⟩,
  ⟨some 35, none, .pick (.t 22) (.c (.bool true)) (.t 34)⟩,
  ⟨some 36, none, .mv (.t 35)⟩,
  ⟨some 37, some (36, false), .mv (.t 0)⟩,
  ⟨some 38, some (36, false), .faddr 0 (.t 4)⟩,
  ⟨some 39, some (36, false), .load false 1 (.t 38)⟩,
  ⟨some 40, some (36, false), .pcall (.f 101) [.t 37, .t 39]⟩,
  ⟨some 41, some (36, false), .mv (.t 3)⟩,
  ⟨some 42, some (36, false), .bin .neq .val (.t 40) (.t 41)⟩,
  ⟨some 43, none, .pick (.t 36) (.c (.bool true)) (.t 42)⟩]) [0, 5, 6, 7, 43]
 (.cond (.t 43) (.seq (.reg false [⟨some 2, none, .mv (.c (.bool false))⟩]) [2]
 (.ret)) (.skip))))) [0, 5, 6, 7]
 (.reg false [⟨some 44, none, .bin .add .val (.t 7) (.c (.int .i64 (1)))⟩,
  ⟨some 7, none, .mv (.t 44)⟩]))))
def f90 : AFunc := { np := 1, nt := 48, res := [.tmp 2], own := false, body := (.seq (.reg false [⟨some 2, none, .mv (.c (.bool false))⟩]) [0]
 (.seq (.seq (.reg false [⟨some 5, none, .mv (.t 0)⟩,
  ⟨some 6, none, .len false (.t 5)⟩,
  ⟨some 7, none, .mv (.c (.int .i64 (0)))⟩]) [0, 5, 6, 7]
 (.block 0 (.loop [0, 5, 6, 7] f90l0))) [0]
 (.seq (.reg false [⟨some 45, none, .mv (.t 0)⟩,
  ⟨some 46, none, .len false (.t 45)⟩,
  ⟨some 47, none, .bin .leq .val (.t 46) (.c (.int .i64 (16)))⟩,
  ⟨some 2, none, .mv (.t 47)⟩]) [2]
 (.ret)))) }
/- impl.FieldsOk -/
def f91l0 : ACode := (.seq (.reg false [⟨some 8, none, .bin .lss .val (.t 7) (.t 6)⟩]) [0, 5, 6, 7, 8]
 (.seq (.cond (.t 8) (.skip) (.exit 0)) [0, 5, 6, 7]
 (.seq (.block 1 (.seq (.reg false [⟨some 9, none, .mv (.t 7)⟩,
  ⟨some 10, none, .iaddr 2 (.t 5) (.t 7)⟩,
  ⟨some 11, none, .load true 2 (.t 10)⟩,
  ⟨some 4, none, .alloc (.d (.agg [(.str []), (.str [])]))⟩,
  ⟨some 3, none, .mv (.t 9)⟩,
  ⟨none, none, .store 2 (.t 4) (.t 11)⟩]) [0, 3, 4, 5, 6, 7]
 (.seq (.reg true [⟨some 12, none, .faddr 0 (.t 4)⟩,
  ⟨some 13, none, .load false 1 (.t 12)⟩,
  ⟨some 14, none, .len true (.t 13)⟩,
  ⟨some 15, none, .bin .gtr .val (.t 14) (.c (.int .i64 (40)))⟩,
  ⟨some 16, none, .mv (.t 15)⟩,
  ⟨some 17, some (16, false), .faddr 1 (.t 4)⟩,
  ⟨some 18, some (16, false), .load false 1 (.t 17)⟩,
  ⟨some 19, some (16, false), .len true (.t 18)⟩,
  ⟨some 20, some (16, false), .bin .gtr .val (.t 19) (.c (.int .i64 (40)))⟩,
  ⟨some 21, none, .pick (.t 16) (.c (.bool true)) (.t 20)⟩,
  ⟨some 22, none, .mv (.t 21)⟩,
  ⟨some 23, some (22, false), .mv (.t 3)⟩,
  ⟨some 24, some (22, false), .bin .gtr .val (.t 23) (.c (.int .i64 (0)))⟩,
  ⟨some 25, some (22, false), .mv (.t 24)⟩,
  ⟨some 26, some (25, true), .mv (.t 0)⟩,
  ⟨some 27, some (25, true), .mv (.t 3)⟩,
  ⟨some 28, some (25, true), .bin .sub .val (.t 27) (.c (.int .i64 (1)))⟩,
  ⟨some 29, some (25, true), .iaddr 2 (.t 26) (.t 28)⟩,
  ⟨some 30, some (25, true), .faddr 0 (.t 29)⟩,
  ⟨some 31, some (25, true), .load false 1 (.t 30)⟩,
  ⟨some 32, some (25, true), .faddr 0 (.t 4)⟩,
  ⟨some 33, some (25, true), .load false 1 (.t 32)⟩,
  ⟨some 34, some (25, true), .bin .geq .val (.t 31) (.t 33)⟩,
  ⟨some 35, some (22, false), .pick (.t 25) (.t 34) (.c (.bool false))⟩,
  ⟨some 36, none, .pick (.t 22) (.c (.bool true)) (.t 35)⟩]) [0, 5, 6, 7, 36]
 (.cond (.t 36) (.seq (.reg false [⟨some 2, none, .mv (.c (.bool false))⟩]) [2]
 (.ret)) (.skip))))) [0, 5, 6, 7]
 (.reg false [⟨some 37, none, .bin .add .val (.t 7) (.c (.int .i64 (1)))⟩,
  ⟨some 7, none, .mv (.t 37)⟩]))))
def f91 : AFunc := { np := 1, nt := 41, res := [.tmp 2], own := false, body := (.seq (.reg false [⟨some 2, none, .mv (.c (.bool false))⟩]) [0]
 (.seq (.seq (.reg false [⟨some 5, none, .mv (.t 0)⟩,
  ⟨some 6, none, .len false (.t 5)⟩,
  ⟨some 7, none, .mv (.c (.int .i64 (0)))⟩]) [0, 5, 6, 7]
 (.block 0 (.loop [0, 5, 6, 7] f91l0))) [0]
 (.seq (.reg false [⟨some 38, none, .mv (.t 0)⟩,
  ⟨some 39, none, .len false (.t 38)⟩,
  ⟨some 40, none, .bin .leq .val (.t 39) (.c (.int .i64 (16)))⟩,
  ⟨some 2, none, .mv (.t 40)⟩]) [2]
 (.ret)))) }
/- laws.eqScore -/
def f92 : AFunc := { np := 2, nt := 15, res := [.tmp 4], own := false, body := (.seq (.reg false [⟨some 2, none, .box (.t 0)⟩,
  ⟨some 3, none, .box (.t 1)⟩,
  ⟨some 4, none, .mv (.c (.bool false))⟩]) [2, 3]
 (.seq (.seq (.reg false [⟨some 5, none, .faddr 0 (.t 2)⟩,
  ⟨some 6, none, .load false 1 (.t 5)⟩,
  ⟨some 7, none, .faddr 0 (.t 3)⟩,
  ⟨some 8, none, .load false 1 (.t 7)⟩,
  ⟨some 9, none, .bin .neq .val (.t 6) (.t 8)⟩]) [2, 3, 9]
 (.cond (.t 9) (.seq (.reg false [⟨some 4, none, .mv (.c (.bool false))⟩]) [4]
 (.ret)) (.skip))) [2, 3]
 (.seq (.seq (.reg false [⟨some 10, none, .faddr 1 (.t 2)⟩,
  ⟨some 11, none, .load false 1 (.t 10)⟩,
  ⟨some 12, none, .faddr 1 (.t 3)⟩,
  ⟨some 13, none, .load false 1 (.t 12)⟩,
  ⟨some 14, none, .bin .neq .val (.t 11) (.t 13)⟩]) [14]
 (.cond (.t 14) (.seq (.reg false [⟨some 4, none, .mv (.c (.bool false))⟩]) [4]
 (.ret)) (.skip))) []
 (.seq (.reg false [⟨some 4, none, .mv (.c (.bool true))⟩]) [4]
 (.ret))))) }
/- laws.eqPair -/
def f93 : AFunc := { np := 2, nt := 15, res := [.tmp 4], own := false, body := (.seq (.reg false [⟨some 2, none, .box (.t 0)⟩,
  ⟨some 3, none, .box (.t 1)⟩,
  ⟨some 4, none, .mv (.c (.bool false))⟩]) [2, 3]
 (.seq (.seq (.reg false [⟨some 5, none, .faddr 0 (.t 2)⟩,
  ⟨some 6, none, .load false 1 (.t 5)⟩,
  ⟨some 7, none, .faddr 0 (.t 3)⟩,
  ⟨some 8, none, .load false 1 (.t 7)⟩,
  ⟨some 9, none, .bin .neq .val (.t 6) (.t 8)⟩]) [2, 3, 9]
 (.cond (.t 9) (.seq (.reg false [⟨some 4, none, .mv (.c (.bool false))⟩]) [4]
 (.ret)) (.skip))) [2, 3]
 (.seq (.seq (.reg false [⟨some 10, none, .faddr 1 (.t 2)⟩,
  ⟨some 11, none, .load false 1 (.t 10)⟩,
  ⟨some 12, none, .faddr 1 (.t 3)⟩,
  ⟨some 13, none, .load false 1 (.t 12)⟩,
  ⟨some 14, none, .bin .neq .val (.t 11) (.t 13)⟩]) [14]
 (.cond (.t 14) (.seq (.reg false [⟨some 4, none, .mv (.c (.bool false))⟩]) [4]
 (.ret)) (.skip))) []
 (.seq (.reg false [⟨some 4, none, .mv (.c (.bool true))⟩]) [4]
 (.ret))))) }
/- spec.l3Ahead -/
def f98 : AFunc := { np := 2, nt := 24, res := [.tmp 4], own := false, body := (.seq (.reg false [⟨some 2, none, .box (.t 0)⟩,
  ⟨some 3, none, .box (.t 1)⟩,
  ⟨some 4, none, .mv (.c (.bool false))⟩]) [2, 3]
 (.seq (.reg false [⟨some 5, none, .faddr 1 (.t 2)⟩,
  ⟨some 6, none, .load false 1 (.t 5)⟩,
  ⟨some 7, none, .faddr 1 (.t 3)⟩,
  ⟨some 8, none, .load false 1 (.t 7)⟩,
  ⟨some 9, none, .bin .lss .val (.t 6) (.t 8)⟩,
  ⟨some 10, none, .mv (.t 9)⟩,
  ⟨some 11, some (10, false), .faddr 1 (.t 2)⟩,
  ⟨some 12, some (10, false), .load false 1 (.t 11)⟩,
  ⟨some 13, some (10, false), .faddr 1 (.t 3)⟩,
  ⟨some 14, some (10, false), .load false 1 (.t 13)⟩,
  ⟨some 15, some (10, false), .bin .eql .val (.t 12) (.t 14)⟩,
  ⟨some 16, some (10, false), .mv (.t 15)⟩,
  ⟨some 17, some (16, true), .faddr 0 (.t 2)⟩,
  ⟨some 18, some (16, true), .load false 1 (.t 17)⟩,
  ⟨some 19, some (16, true), .faddr 0 (.t 3)⟩,
  ⟨some 20, some (16, true), .load false 1 (.t 19)⟩,
  ⟨some 21, some (16, true), .bin .lss .val (.t 18) (.t 20)⟩,
  ⟨some 22, some (10, false), .pick (.t 16) (.t 21) (.c (.bool false))⟩,
  ⟨some 23, none, .pick (.t 10) (.c (.bool true)) (.t 22)⟩,
  ⟨some 4, none, .mv (.t 23)⟩]) [4]
 (.ret))) }
/- impl.position -/
def f99 : AFunc := { np := 1, nt := 5, res := [.tmp 2], own := false, body := (.seq (.reg false [⟨some 2, none, .mv (.c (.bool false))⟩]) [0]
 (.seq (.reg false [⟨some 3, none, .mv (.t 0)⟩,
  ⟨some 4, none, .pcall (.f 34) [.t 3, .c (.int .i64 (-1000000000)), .c (.int .i64 (1000000000))]⟩,
  ⟨some 2, none, .mv (.t 4)⟩]) [2]
 (.ret))) }
/- impl.scoreOrder -/
def f100 : AFunc := { np := 2, nt := 17, res := [.tmp 4], own := false, body := (.seq (.reg false [⟨some 2, none, .box (.t 0)⟩,
  ⟨some 3, none, .box (.t 1)⟩,
  ⟨some 4, none, .mv (.c (.int .i64 (0)))⟩]) [2, 3]
 (.seq (.reg true [⟨some 5, none, .faddr 1 (.t 2)⟩,
  ⟨some 6, none, .load false 1 (.t 5)⟩,
  ⟨some 7, none, .faddr 1 (.t 3)⟩,
  ⟨some 8, none, .load false 1 (.t 7)⟩,
  ⟨some 9, none, .pcall (.f 112) [.t 6, .t 8]⟩,
  ⟨some 10, none, .faddr 0 (.t 2)⟩,
  ⟨some 11, none, .load false 1 (.t 10)⟩,
  ⟨some 12, none, .faddr 0 (.t 3)⟩,
  ⟨some 13, none, .load false 1 (.t 12)⟩,
  ⟨some 14, none, .pcall (.f 113) [.t 11, .t 13]⟩,
  ⟨some 15, none, .lit false 1 [.t 9, .t 14]⟩,
  ⟨some 16, none, .pcall (.f 111) [.t 15]⟩,
  ⟨some 4, none, .mv (.t 16)⟩]) [4]
 (.ret))) }
/- impl.scoreAt -/
def f101 : AFunc := { np := 2, nt := 8, res := [.tmp 4], own := false, body := (.seq (.reg false [⟨some 3, none, .box (.t 1)⟩,
  ⟨some 4, none, .mv (.c (.int .i64 (0)))⟩]) [0, 3]
 (.seq (.reg false [⟨some 5, none, .mv (.t 0)⟩,
  ⟨some 6, none, .mkfn (.func 115) [.t 3]⟩,
  ⟨some 7, none, .pcall (.f 114) [.t 5, .t 6]⟩,
  ⟨some 4, none, .mv (.t 7)⟩]) [4]
 (.ret))) }
/- cmp.Or[int] -/
def f111l0 : ACode := (.seq (.reg false [⟨some 9, none, .bin .lss .val (.t 8) (.t 7)⟩]) [3, 6, 7, 8, 9]
 (.seq (.cond (.t 9) (.skip) (.exit 0)) [3, 6, 7, 8]
 (.seq (.block 1 (.seq (.reg false [⟨some 10, none, .iaddr 1 (.t 6) (.t 8)⟩,
  ⟨some 11, none, .load false 1 (.t 10)⟩,
  ⟨some 5, none, .mv (.t 11)⟩]) [3, 5, 6, 7, 8]
 (.seq (.reg false [⟨some 12, none, .mv (.t 5)⟩,
  ⟨some 13, none, .mv (.t 3)⟩,
  ⟨some 14, none, .bin .neq .val (.t 12) (.t 13)⟩]) [3, 5, 6, 7, 8, 14]
 (.cond (.t 14) (.seq (.reg false [⟨some 15, none, .mv (.t 5)⟩,
  ⟨some 2, none, .mv (.t 15)⟩]) [2]
 (.ret)) (.skip))))) [3, 6, 7, 8]
 (.reg false [⟨some 16, none, .bin .add .val (.t 8) (.c (.int .i64 (1)))⟩,
  ⟨some 8, none, .mv (.t 16)⟩]))))
def f111 : AFunc := { np := 1, nt := 18, res := [.tmp 2], own := false, body := (.seq (.reg false [⟨some 2, none, .mv (.c (.int .i64 (0)))⟩]) [0]
 (.seq (.reg false [⟨some 3, none, .mv (.c (.int .i64 (0)))⟩]) [0, 3]
 (.seq (.seq (.reg false [⟨some 6, none, .mv (.t 0)⟩,
  ⟨some 7, none, .len false (.t 6)⟩,
  ⟨some 8, none, .mv (.c (.int .i64 (0)))⟩]) [3, 6, 7, 8]
 (.block 0 (.loop [3, 6, 7, 8] f111l0))) [3]
 (.seq (.reg false [⟨some 17, none, .mv (.t 3)⟩,
  ⟨some 2, none, .mv (.t 17)⟩]) [2]
 (.ret))))) }
/- cmp.Compare[int] -/
def f112 : AFunc := { np := 2, nt := 20, res := [.tmp 4], own := false, body := (.seq (.reg false [⟨some 4, none, .mv (.c (.int .i64 (0)))⟩]) [0, 1]
 (.seq (.reg false [⟨some 7, none, .mv (.t 0)⟩,
  ⟨some 8, none, .pcall (.f 124) [.t 7]⟩,
  ⟨some 5, none, .mv (.t 8)⟩]) [0, 1, 5]
 (.seq (.reg false [⟨some 9, none, .mv (.t 1)⟩,
  ⟨some 10, none, .pcall (.f 124) [.t 9]⟩,
  ⟨some 6, none, .mv (.t 10)⟩]) [0, 1, 5, 6]
 (.seq (.seq (.reg false [⟨some 11, none, .mv (.t 5)⟩]) [0, 1, 6, 11]
 (.cond (.t 11) (.seq (.seq (.reg false [⟨some 12, none, .mv (.t 6)⟩]) [12]
 (.cond (.t 12) (.seq (.reg false [⟨some 4, none, .mv (.c (.int .i64 (0)))⟩]) [4]
 (.ret)) (.skip))) []
 (.seq (.reg false [⟨some 4, none, .mv (.c (.int .i64 (-1)))⟩]) [4]
 (.ret))) (.skip))) [0, 1, 6]
 (.seq (.seq (.reg false [⟨some 13, none, .mv (.t 6)⟩]) [0, 1, 13]
 (.cond (.t 13) (.seq (.reg false [⟨some 4, none, .mv (.c (.int .i64 (1)))⟩]) [4]
 (.ret)) (.skip))) [0, 1]
 (.seq (.seq (.reg false [⟨some 14, none, .mv (.t 0)⟩,
  ⟨some 15, none, .mv (.t 1)⟩,
  ⟨some 16, none, .bin .lss .val (.t 14) (.t 15)⟩]) [0, 1, 16]
 (.cond (.t 16) (.seq (.reg false [⟨some 4, none, .mv (.c (.int .i64 (-1)))⟩]) [4]
 (.ret)) (.skip))) [0, 1]
 (.seq (.seq (.reg false [⟨some 17, none, .mv (.t 0)⟩,
  ⟨some 18, none, .mv (.t 1)⟩,
  ⟨some 19, none, .bin .gtr .val (.t 17) (.t 18)⟩]) [19]
 (.cond (.t 19) (.seq (.reg false [⟨some 4, none, .mv (.c (.int .i64 (1)))⟩]) [4]
 (.ret)) (.skip))) []
 (.seq (.reg false [⟨some 4, none, .mv (.c (.int .i64 (0)))⟩]) [4]
 (.ret))))))))) }
/- cmp.Compare[string] -/
def f113 : AFunc := { np := 2, nt := 20, res := [.tmp 4], own := false, body := (.seq (.reg false [⟨some 4, none, .mv (.c (.int .i64 (0)))⟩]) [0, 1]
 (.seq (.reg false [⟨some 7, none, .mv (.t 0)⟩,
  ⟨some 8, none, .pcall (.f 125) [.t 7]⟩,
  ⟨some 5, none, .mv (.t 8)⟩]) [0, 1, 5]
 (.seq (.reg false [⟨some 9, none, .mv (.t 1)⟩,
  ⟨some 10, none, .pcall (.f 125) [.t 9]⟩,
  ⟨some 6, none, .mv (.t 10)⟩]) [0, 1, 5, 6]
 (.seq (.seq (.reg false [⟨some 11, none, .mv (.t 5)⟩]) [0, 1, 6, 11]
 (.cond (.t 11) (.seq (.seq (.reg false [⟨some 12, none, .mv (.t 6)⟩]) [12]
 (.cond (.t 12) (.seq (.reg false [⟨some 4, none, .mv (.c (.int .i64 (0)))⟩]) [4]
 (.ret)) (.skip))) []
 (.seq (.reg false [⟨some 4, none, .mv (.c (.int .i64 (-1)))⟩]) [4]
 (.ret))) (.skip))) [0, 1, 6]
 (.seq (.seq (.reg false [⟨some 13, none, .mv (.t 6)⟩]) [0, 1, 13]
 (.cond (.t 13) (.seq (.reg false [⟨some 4, none, .mv (.c (.int .i64 (1)))⟩]) [4]
 (.ret)) (.skip))) [0, 1]
 (.seq (.seq (.reg false [⟨some 14, none, .mv (.t 0)⟩,
  ⟨some 15, none, .mv (.t 1)⟩,
  ⟨some 16, none, .bin .lss .val (.t 14) (.t 15)⟩]) [0, 1, 16]
 (.cond (.t 16) (.seq (.reg false [⟨some 4, none, .mv (.c (.int .i64 (-1)))⟩]) [4]
 (.ret)) (.skip))) [0, 1]
 (.seq (.seq (.reg false [⟨some 17, none, .mv (.t 0)⟩,
  ⟨some 18, none, .mv (.t 1)⟩,
  ⟨some 19, none, .bin .gtr .val (.t 17) (.t 18)⟩]) [19]
 (.cond (.t 19) (.seq (.reg false [⟨some 4, none, .mv (.c (.int .i64 (1)))⟩]) [4]
 (.ret)) (.skip))) []
 (.seq (.reg false [⟨some 4, none, .mv (.c (.int .i64 (0)))⟩]) [4]
 (.ret))))))))) }
/- impl.Score] -/
def f114l0 : ACode := (.seq (.reg false [⟨some 9, none, .bin .lss .val (.t 8) (.t 7)⟩]) [0, 1, 7, 8, 9]
 (.seq (.cond (.t 9) (.skip) (.exit 0)) [0, 1, 7, 8]
 (.seq (.block 1 (.seq (.reg false [⟨some 10, none, .mv (.t 8)⟩,
  ⟨some 5, none, .mv (.t 10)⟩]) [0, 1, 5, 7, 8]
 (.seq (.reg false [⟨some 11, none, .mv (.t 1)⟩,
  ⟨some 12, none, .mv (.t 0)⟩,
  ⟨some 13, none, .mv (.t 5)⟩,
  ⟨some 14, none, .iaddr 2 (.t 12) (.t 13)⟩,
  ⟨some 15, none, .load true 2 (.t 14)⟩,
  ⟨some 16, none, .pcall (.t 11) [.t 15]⟩]) [0, 1, 5, 7, 8, 16]
 (.cond (.t 16) (.seq (.reg false [⟨some 17, none, .mv (.t 5)⟩,
  ⟨some 4, none, .mv (.t 17)⟩]) [4]
 (.ret)) (.skip))))) [0, 1, 7, 8]
 (.reg false [⟨some 18, none, .bin .add .val (.t 8) (.c (.int .i64 (1)))⟩,
  ⟨some 8, none, .mv (.t 18)⟩]))))
def f114 : AFunc := { np := 2, nt := 19, res := [.tmp 4], own := false, body := (.seq (.reg false [⟨some 4, none, .mv (.c (.int .i64 (0)))⟩]) [0, 1]
 (.seq (.seq (.reg false [⟨some 6, none, .mv (.t 0)⟩,
  ⟨some 7, none, .len false (.t 6)⟩,
  ⟨some 8, none, .mv (.c (.int .i64 (0)))⟩]) [0, 1, 7, 8]
 (.block 0 (.loop [0, 1, 7, 8] f114l0))) []
 (.seq (.reg false [⟨some 4, none, .mv (.c (.int .i64 (-1)))⟩]) [4]
 (.ret)))) }
/- impl.scoreAt$1 -/
def f115 : AFunc := { np := 2, nt := 8, res := [.tmp 3], own := false, body := (.seq (.reg false [⟨some 2, none, .box (.t 0)⟩,
  ⟨some 3, none, .mv (.c (.bool false))⟩]) [1, 2]
 (.seq (.reg false [⟨some 4, none, .faddr 0 (.t 2)⟩,
  ⟨some 5, none, .load false 1 (.t 4)⟩,
  ⟨some 6, none, .load false 1 (.t 1)⟩,
  ⟨some 7, none, .bin .eql .val (.t 5) (.t 6)⟩,
  ⟨some 3, none, .mv (.t 7)⟩]) [3]
 (.ret))) }
/- cmp.isNaN[int] -/
def f124 : AFunc := { np := 1, nt := 6, res := [.tmp 2], own := false, body := (.seq (.reg false [⟨some 2, none, .mv (.c (.bool false))⟩]) [0]
 (.seq (.reg false [⟨some 3, none, .mv (.t 0)⟩,
  ⟨some 4, none, .mv (.t 0)⟩,
  ⟨some 5, none, .bin .neq .val (.t 3) (.t 4)⟩,
  ⟨some 2, none, .mv (.t 5)⟩]) [2]
 (.ret))) }
/- cmp.isNaN[string] -/
def f125 : AFunc := { np := 1, nt := 6, res := [.tmp 2], own := false, body := (.seq (.reg false [⟨some 2, none, .mv (.c (.bool false))⟩]) [0]
 (.seq (.reg false [⟨some 3, none, .mv (.t 0)⟩,
  ⟨some 4, none, .mv (.t 0)⟩,
  ⟨some 5, none, .bin .neq .val (.t 3) (.t 4)⟩,
  ⟨some 2, none, .mv (.t 5)⟩]) [2]
 (.ret))) }
def tab : List (Nat × AFunc) := [(6, f6), (11, f11), (21, f21), (22, f22), (23, f23), (24, f24), (25, f25), (26, f26), (27, f27), (28, f28), (29, f29), (30, f30), (33, f33), (34, f34), (35, f35), (37, f37), (52, f52), (53, f53), (54, f54), (55, f55), (56, f56), (57, f57), (58, f58), (59, f59), (60, f60), (61, f61), (62, f62), (63, f63), (64, f64), (65, f65), (66, f66), (76, f76), (77, f77), (78, f78), (79, f79), (80, f80), (81, f81), (82, f82), (83, f83), (84, f84), (85, f85), (86, f86), (87, f87), (88, f88), (89, f89), (90, f90), (91, f91), (92, f92), (93, f93), (98, f98), (99, f99), (100, f100), (101, f101), (111, f111), (112, f112), (113, f113), (114, f114), (115, f115), (124, f124), (125, f125)]
theorem ok6 : chkFunc Tryd.prog Tryd.f6 f6 = true := by kernel_rfl
theorem ok11 : chkFunc Tryd.prog Tryd.f11 f11 = true := by kernel_rfl
theorem ok21 : chkFunc Tryd.prog Tryd.f21 f21 = true := by kernel_rfl
theorem ok22 : chkFunc Tryd.prog Tryd.f22 f22 = true := by kernel_rfl
theorem ok23 : chkFunc Tryd.prog Tryd.f23 f23 = true := by kernel_rfl
theorem ok24 : chkFunc Tryd.prog Tryd.f24 f24 = true := by kernel_rfl
theorem ok25 : chkFunc Tryd.prog Tryd.f25 f25 = true := by kernel_rfl
theorem ok26 : chkFunc Tryd.prog Tryd.f26 f26 = true := by kernel_rfl
theorem ok27 : chkFunc Tryd.prog Tryd.f27 f27 = true := by kernel_rfl
theorem ok28 : chkFunc Tryd.prog Tryd.f28 f28 = true := by kernel_rfl
theorem ok29 : chkFunc Tryd.prog Tryd.f29 f29 = true := by kernel_rfl
theorem ok30 : chkFunc Tryd.prog Tryd.f30 f30 = true := by kernel_rfl
theorem ok33 : chkFunc Tryd.prog Tryd.f33 f33 = true := by kernel_rfl
theorem ok34 : chkFunc Tryd.prog Tryd.f34 f34 = true := by kernel_rfl
theorem ok35 : chkFunc Tryd.prog Tryd.f35 f35 = true := by kernel_rfl
theorem ok37 : chkFunc Tryd.prog Tryd.f37 f37 = true := by kernel_rfl
theorem ok52 : chkFunc Tryd.prog Tryd.f52 f52 = true := by kernel_rfl
theorem ok53 : chkFunc Tryd.prog Tryd.f53 f53 = true := by kernel_rfl
theorem ok54 : chkFunc Tryd.prog Tryd.f54 f54 = true := by kernel_rfl
theorem ok55 : chkFunc Tryd.prog Tryd.f55 f55 = true := by kernel_rfl
theorem ok56 : chkFunc Tryd.prog Tryd.f56 f56 = true := by kernel_rfl
theorem ok57 : chkFunc Tryd.prog Tryd.f57 f57 = true := by kernel_rfl
theorem ok58 : chkFunc Tryd.prog Tryd.f58 f58 = true := by kernel_rfl
theorem ok59 : chkFunc Tryd.prog Tryd.f59 f59 = true := by kernel_rfl
theorem ok60 : chkFunc Tryd.prog Tryd.f60 f60 = true := by kernel_rfl
theorem ok61 : chkFunc Tryd.prog Tryd.f61 f61 = true := by kernel_rfl
theorem ok62 : chkFunc Tryd.prog Tryd.f62 f62 = true := by kernel_rfl
theorem ok63 : chkFunc Tryd.prog Tryd.f63 f63 = true := by kernel_rfl
theorem ok64 : chkFunc Tryd.prog Tryd.f64 f64 = true := by kernel_rfl
theorem ok65 : chkFunc Tryd.prog Tryd.f65 f65 = true := by kernel_rfl
theorem ok66 : chkFunc Tryd.prog Tryd.f66 f66 = true := by kernel_rfl
theorem ok76 : chkFunc Tryd.prog Tryd.f76 f76 = true := by kernel_rfl
theorem ok77 : chkFunc Tryd.prog Tryd.f77 f77 = true := by kernel_rfl
theorem ok78 : chkFunc Tryd.prog Tryd.f78 f78 = true := by kernel_rfl
theorem ok79 : chkFunc Tryd.prog Tryd.f79 f79 = true := by kernel_rfl
theorem ok80 : chkFunc Tryd.prog Tryd.f80 f80 = true := by kernel_rfl
theorem ok81 : chkFunc Tryd.prog Tryd.f81 f81 = true := by kernel_rfl
theorem ok82 : chkFunc Tryd.prog Tryd.f82 f82 = true := by kernel_rfl
theorem ok83 : chkFunc Tryd.prog Tryd.f83 f83 = true := by kernel_rfl
theorem ok84 : chkFunc Tryd.prog Tryd.f84 f84 = true := by kernel_rfl
theorem ok85 : chkFunc Tryd.prog Tryd.f85 f85 = true := by kernel_rfl
theorem ok86 : chkFunc Tryd.prog Tryd.f86 f86 = true := by kernel_rfl
theorem ok87 : chkFunc Tryd.prog Tryd.f87 f87 = true := by kernel_rfl
theorem ok88 : chkFunc Tryd.prog Tryd.f88 f88 = true := by kernel_rfl
theorem ok89 : chkFunc Tryd.prog Tryd.f89 f89 = true := by kernel_rfl
theorem ok90 : chkFunc Tryd.prog Tryd.f90 f90 = true := by kernel_rfl
theorem ok91 : chkFunc Tryd.prog Tryd.f91 f91 = true := by kernel_rfl
theorem ok92 : chkFunc Tryd.prog Tryd.f92 f92 = true := by kernel_rfl
theorem ok93 : chkFunc Tryd.prog Tryd.f93 f93 = true := by kernel_rfl
theorem ok98 : chkFunc Tryd.prog Tryd.f98 f98 = true := by kernel_rfl
theorem ok99 : chkFunc Tryd.prog Tryd.f99 f99 = true := by kernel_rfl
theorem ok100 : chkFunc Tryd.prog Tryd.f100 f100 = true := by kernel_rfl
theorem ok101 : chkFunc Tryd.prog Tryd.f101 f101 = true := by kernel_rfl
theorem ok111 : chkFunc Tryd.prog Tryd.f111 f111 = true := by kernel_rfl
theorem ok112 : chkFunc Tryd.prog Tryd.f112 f112 = true := by kernel_rfl
theorem ok113 : chkFunc Tryd.prog Tryd.f113 f113 = true := by kernel_rfl
theorem ok114 : chkFunc Tryd.prog Tryd.f114 f114 = true := by kernel_rfl
theorem ok115 : chkFunc Tryd.prog Tryd.f115 f115 = true := by kernel_rfl
theorem ok124 : chkFunc Tryd.prog Tryd.f124 f124 = true := by kernel_rfl
theorem ok125 : chkFunc Tryd.prog Tryd.f125 f125 = true := by kernel_rfl
theorem all_ok : ∀ p ∈ tab, ∃ fn, Tryd.prog.funcs[p.1]? = some fn ∧ chkFunc Tryd.prog fn p.2 = true := by
  intro p hp
  simp only [tab, List.mem_cons, List.not_mem_nil, or_false] at hp
  rcases hp with rfl | rfl | rfl | rfl | rfl | rfl | rfl | rfl | rfl | rfl | rfl | rfl | rfl | rfl | rfl | rfl | rfl | rfl | rfl | rfl | rfl | rfl | rfl | rfl | rfl | rfl | rfl | rfl | rfl | rfl | rfl | rfl | rfl | rfl | rfl | rfl | rfl | rfl | rfl | rfl | rfl | rfl | rfl | rfl | rfl | rfl | rfl | rfl | rfl | rfl | rfl | rfl | rfl | rfl | rfl | rfl | rfl | rfl | rfl | rfl
  · exact ⟨_, Tryd.func6, ok6⟩
  · exact ⟨_, Tryd.func11, ok11⟩
  · exact ⟨_, Tryd.func21, ok21⟩
  · exact ⟨_, Tryd.func22, ok22⟩
  · exact ⟨_, Tryd.func23, ok23⟩
  · exact ⟨_, Tryd.func24, ok24⟩
  · exact ⟨_, Tryd.func25, ok25⟩
  · exact ⟨_, Tryd.func26, ok26⟩
  · exact ⟨_, Tryd.func27, ok27⟩
  · exact ⟨_, Tryd.func28, ok28⟩
  · exact ⟨_, Tryd.func29, ok29⟩
  · exact ⟨_, Tryd.func30, ok30⟩
  · exact ⟨_, Tryd.func33, ok33⟩
  · exact ⟨_, Tryd.func34, ok34⟩
  · exact ⟨_, Tryd.func35, ok35⟩
  · exact ⟨_, Tryd.func37, ok37⟩
  · exact ⟨_, Tryd.func52, ok52⟩
  · exact ⟨_, Tryd.func53, ok53⟩
  · exact ⟨_, Tryd.func54, ok54⟩
  · exact ⟨_, Tryd.func55, ok55⟩
  · exact ⟨_, Tryd.func56, ok56⟩
  · exact ⟨_, Tryd.func57, ok57⟩
  · exact ⟨_, Tryd.func58, ok58⟩
  · exact ⟨_, Tryd.func59, ok59⟩
  · exact ⟨_, Tryd.func60, ok60⟩
  · exact ⟨_, Tryd.func61, ok61⟩
  · exact ⟨_, Tryd.func62, ok62⟩
  · exact ⟨_, Tryd.func63, ok63⟩
  · exact ⟨_, Tryd.func64, ok64⟩
  · exact ⟨_, Tryd.func65, ok65⟩
  · exact ⟨_, Tryd.func66, ok66⟩
  · exact ⟨_, Tryd.func76, ok76⟩
  · exact ⟨_, Tryd.func77, ok77⟩
  · exact ⟨_, Tryd.func78, ok78⟩
  · exact ⟨_, Tryd.func79, ok79⟩
  · exact ⟨_, Tryd.func80, ok80⟩
  · exact ⟨_, Tryd.func81, ok81⟩
  · exact ⟨_, Tryd.func82, ok82⟩
  · exact ⟨_, Tryd.func83, ok83⟩
  · exact ⟨_, Tryd.func84, ok84⟩
  · exact ⟨_, Tryd.func85, ok85⟩
  · exact ⟨_, Tryd.func86, ok86⟩
  · exact ⟨_, Tryd.func87, ok87⟩
  · exact ⟨_, Tryd.func88, ok88⟩
  · exact ⟨_, Tryd.func89, ok89⟩
  · exact ⟨_, Tryd.func90, ok90⟩
  · exact ⟨_, Tryd.func91, ok91⟩
  · exact ⟨_, Tryd.func92, ok92⟩
  · exact ⟨_, Tryd.func93, ok93⟩
  · exact ⟨_, Tryd.func98, ok98⟩
  · exact ⟨_, Tryd.func99, ok99⟩
  · exact ⟨_, Tryd.func100, ok100⟩
  · exact ⟨_, Tryd.func101, ok101⟩
  · exact ⟨_, Tryd.func111, ok111⟩
  · exact ⟨_, Tryd.func112, ok112⟩
  · exact ⟨_, Tryd.func113, ok113⟩
  · exact ⟨_, Tryd.func114, ok114⟩
  · exact ⟨_, Tryd.func115, ok115⟩
  · exact ⟨_, Tryd.func124, ok124⟩
  · exact ⟨_, Tryd.func125, ok125⟩
set_option maxRecDepth 100000
/-- What the variables hold that are read. -/
def globD : Glob := fun n => match n with
  | 0 => some (intsD .u64 Lib.pow10Tab)
  | _ => none
/-- strconv.Itoa: a number's decimals. -/
def itoaP : List V → Hp → Option (V × Hp)
  | [.d (.int .i64 n)], H => if -9223372036854775808 ≤ n ∧ n ≤ 9223372036854775807 then some (.d (.str (Lib.itoa n)), H) else none
  | _, _ => none
def primD : Nat → Option (List V → Hp → Option (V × Hp)) := fun k => match k with
  | 40 => some itoaP
  | _ => none
theorem fnOk40 : FnOk Tryd.prog 40 := ⟨_, Tryd.func40, by kernel_rfl, by kernel_rfl⟩
theorem one_int {w : World} {O : Own} {pl : Pl} {m : Nat} {n : Int} {us : Array Value} (h : RVs w O pl m [.d (.int .i64 n)] us) : us = #[.int .i64 n] := by
  obtain ⟨hl, hu⟩ := h
  have h0 := hu 0 (by simp)
  simp only [List.getD_cons_zero] at h0
  generalize hq : us.getD 0 undef = q at h0
  have h1 := h0.dd
  cases h1
  apply Array.ext
  · simpa using hl
  · intro i h1 h2
    have : i = 0 := by simpa using h2
    subst this
    rw [Array.getD_eq_getD_getElem?, Array.getElem?_eq_getElem h1] at hq
    simpa using hq
theorem prims_ok : ∀ k p, primD k = some p → ∀ args H r, p args H = some r → SoundAt Tryd.prog globD k args H r := by
  intro k p hk args H r hr
  unfold primD at hk
  split at hk
  · simp only [Option.some.injEq] at hk
    subst hk
    unfold itoaP at hr
    split at hr
    · rename_i H' n
      split at hr
      · rename_i hn
        simp only [Option.some.injEq] at hr
        subst hr
        refine prim_sound fnOk40 fun w pl us hG hR => ?_
        rw [one_int hR]
        refine (Tryd.strconv_Itoa n hn.1 hn.2 w (tab_of_gr (g := 0) hG (by kernel_rfl) rfl)).mono fun e w' ⟨he, m, os, hw⟩ => ⟨_, he, .str _ _ (by simp), m, os, hw⟩
      · simp at hr
    · simp at hr
  · simp at hk
theorem prg_ok : PrgOk Tryd.prog (ofTabG tab globD primD) := ofTabG_ok (by kernel_rfl) all_ok prims_ok
noncomputable abbrev R : Prg := ofTabG tab globD primD
theorem e40 (H : Hp) (n : Int) (h : -9223372036854775808 ≤ n ∧ n ≤ 9223372036854775807) : ev R 40 [.d (.int .i64 n)] H = some (.d (.str (Lib.itoa n)), H) :=
  ev_prim (p := itoaP) rfl (by simp only [itoaP]; rw [if_pos h])

end Go.Proofs.YtpmphmpaeooeeaaDoorO.Code
/- Lists of texts: their copies, their likeness, where a text stands. -/
namespace Go.Proofs.YtpmphmpaeooeeaaDoorO.Code
open Go Go.Ev Go.Proofs
set_option maxRecDepth 100000
set_option linter.unusedSimpArgs false
set_option linter.unusedVariables false
/-- Few enough, each short enough. -/
def long (xs : List Txt) (i : Nat) : Bool := decide (40 < (xs.getD i []).length)
def okTexts (xs : List Txt) : Bool := (seek (long xs) xs.length 0).isNone && decide (xs.length ≤ 16)
theorem l80 (n0 : Nat) (xs : List Txt) (hx : xs.length ≤ 9223372036854775807)  (H : Hp) : ∀ (n i : Nat) (e : Env), i + n = xs.length → e.get 0 = .d (txts xs) → e.get 3 = .d (.int .i64 i) →
    ∃ e', evLoop (evCode (ev R) R.glob n0 evLoop f80l0) [0, 3] ⟨e, H⟩ = some ((match seek (long xs) n i with | some _ => .ret | none => .exit 0), ⟨e', H⟩) ∧
      (∀ j, seek (long xs) n i = some j → e'.get 2 = .d (.bool false)) ∧ (seek (long xs) n i = none → e'.get 0 = .d (txts xs))
  | 0, i, e, hn, h0, h3 => by
    have c : ¬ (i : Int) < (xs.length : Int) := by omega
    have c' : ¬ i < xs.length := by omega
    rw [evLoop_eq]
    refine ⟨?_, ?_, ?_, ?_⟩
    rotate_left
    · simp [-List.getD_eq_getElem?_getD, -List.map_map, evBody, evCode, evOps, evOper, evOp, opd, Env.get, Env.put, Env.keep, zipEnv, V.ok, V.sto, V.cells, D.cells, V.isAgg, binD, binInt, binStr, shInt, unD, eqOf, asI, leave, resOf, mapO, fzV, tupOf, view, view1, isData, hand, flatV, flatD, allD, mkAgg, mkVal, beq_lit, IntKind.bits, htake_self, htake_push, hget_hpush_self, hset_push, rowOf_self, okIn, lowIn, lowIn1, fzC_d, fzC_row, f80l0, h0, h3, txts, c, c', seek]
      rfl
    · intro j hj; simp [seek] at hj
    · intro _
      try refine ⟨?_, ?_⟩
      all_goals (first | trivial | simp [-List.getD_eq_getElem?_getD, -List.map_map, evBody, evCode, evOps, evOper, evOp, opd, Env.get, Env.put, Env.keep, zipEnv, V.ok, V.sto, V.cells, D.cells, V.isAgg, binD, binInt, binStr, shInt, unD, eqOf, asI, leave, resOf, mapO, fzV, tupOf, view, view1, isData, hand, flatV, flatD, allD, mkAgg, mkVal, beq_lit, IntKind.bits, htake_self, htake_push, hget_hpush_self, hset_push, rowOf_self, okIn, lowIn, lowIn1, fzC_d, fzC_row, h0, h3, txts])
  | n + 1, i, e, hn, h0, h3 => by
    have c : (i : Int) < (xs.length : Int) := by omega
    have c' : i < xs.length := by omega
    have g := txts_get xs i c'
    have w1 : IntKind.i64.wrap ((i : Int) + 1) = ((i + 1 : Nat) : Int) := by rw [IntWalk.i64_in _ (by omega)]; rfl
    have ih := l80 n0 xs hx  H n (i + 1)
    rw [evLoop_eq]
    generalize evLoop (evCode (ev R) R.glob n0 evLoop f80l0) [0, 3] = F at ih ⊢
    by_cases hb : 40 < (xs.getD i []).length
    · have hb' : (40 : Int) < ((xs.getD i []).length : Int) := by omega
      refine ⟨?_, ?_, ?_, ?_⟩
      rotate_left
      · simp [-List.getD_eq_getElem?_getD, -List.map_map, evBody, evCode, evOps, evOper, evOp, opd, Env.get, Env.put, Env.keep, zipEnv, V.ok, V.sto, V.cells, D.cells, V.isAgg, binD, binInt, binStr, shInt, unD, eqOf, asI, leave, resOf, mapO, fzV, tupOf, view, view1, isData, hand, flatV, flatD, allD, mkAgg, mkVal, beq_lit, IntKind.bits, htake_self, htake_push, hget_hpush_self, hset_push, rowOf_self, okIn, lowIn, lowIn1, fzC_d, fzC_row, f80l0, h0, h3, txts, c, c', g, hb, hb', seek, long]
        rfl
      · intro j hj
        simp [seek, long, hb, -List.getD_eq_getElem?_getD] at hj
        try subst hj
        simp [-List.getD_eq_getElem?_getD, -List.map_map, evBody, evCode, evOps, evOper, evOp, opd, Env.get, Env.put, Env.keep, zipEnv, V.ok, V.sto, V.cells, D.cells, V.isAgg, binD, binInt, binStr, shInt, unD, eqOf, asI, leave, resOf, mapO, fzV, tupOf, view, view1, isData, hand, flatV, flatD, allD, mkAgg, mkVal, beq_lit, IntKind.bits, htake_self, htake_push, hget_hpush_self, hset_push, rowOf_self, okIn, lowIn, lowIn1, fzC_d, fzC_row]
      · intro hj; simp [seek, long, hb, -List.getD_eq_getElem?_getD] at hj
    · have hb' : ¬ (40 : Int) < ((xs.getD i []).length : Int) := by omega
      have hs : seek (long xs) (n + 1) i = seek (long xs) n (i + 1) := by simp [seek, long, hb, -List.getD_eq_getElem?_getD]
      rw [hs]
      simp [-List.getD_eq_getElem?_getD, -List.map_map, evBody, evCode, evOps, evOper, evOp, opd, Env.get, Env.put, Env.keep, zipEnv, V.ok, V.sto, V.cells, D.cells, V.isAgg, binD, binInt, binStr, shInt, unD, eqOf, asI, leave, resOf, mapO, fzV, tupOf, view, view1, isData, hand, flatV, flatD, allD, mkAgg, mkVal, beq_lit, IntKind.bits, htake_self, htake_push, hget_hpush_self, hset_push, rowOf_self, okIn, lowIn, lowIn1, fzC_d, fzC_row, f80l0, h0, h3, txts, c, c', g, hb, hb', w1]
      refine ih _ (by omega) ?_ ?_ <;> rfl
theorem l66 (n0 : Nat) (xs : List Txt) (hx : xs.length ≤ 9223372036854775807) (m : Int) (H : Hp) : ∀ (n i : Nat) (e : Env), i + n = xs.length → e.get 0 = .d (txts xs) → e.get 1 = .d (.int .i64 m) → e.get 7 = .d (txts xs) → e.get 8 = .d (.int .i64 xs.length) → e.get 9 = .d (.int .i64 i) →
    ∃ e', evLoop (evCode (ev R) R.glob n0 evLoop f66l0) [0, 1, 7, 8, 9] ⟨e, H⟩ = some ((match seek (long xs) n i with | some _ => .ret | none => .exit 0), ⟨e', H⟩) ∧
      (∀ j, seek (long xs) n i = some j → e'.get 4 = .d (.bool false)) ∧ (seek (long xs) n i = none → e'.get 0 = .d (txts xs) ∧ e'.get 1 = .d (.int .i64 m))
  | 0, i, e, hn, h0, h1, h7, h8, h9 => by
    have c : ¬ (i : Int) < (xs.length : Int) := by omega
    have c' : ¬ i < xs.length := by omega
    rw [evLoop_eq]
    refine ⟨?_, ?_, ?_, ?_⟩
    rotate_left
    · simp [-List.getD_eq_getElem?_getD, -List.map_map, evBody, evCode, evOps, evOper, evOp, opd, Env.get, Env.put, Env.keep, zipEnv, V.ok, V.sto, V.cells, D.cells, V.isAgg, binD, binInt, binStr, shInt, unD, eqOf, asI, leave, resOf, mapO, fzV, tupOf, view, view1, isData, hand, flatV, flatD, allD, mkAgg, mkVal, beq_lit, IntKind.bits, htake_self, htake_push, hget_hpush_self, hset_push, rowOf_self, okIn, lowIn, lowIn1, fzC_d, fzC_row, f66l0, h0, h1, h7, h8, h9, txts, c, c', seek]
      rfl
    · intro j hj; simp [seek] at hj
    · intro _
      try refine ⟨?_, ?_⟩
      all_goals (first | trivial | simp [-List.getD_eq_getElem?_getD, -List.map_map, evBody, evCode, evOps, evOper, evOp, opd, Env.get, Env.put, Env.keep, zipEnv, V.ok, V.sto, V.cells, D.cells, V.isAgg, binD, binInt, binStr, shInt, unD, eqOf, asI, leave, resOf, mapO, fzV, tupOf, view, view1, isData, hand, flatV, flatD, allD, mkAgg, mkVal, beq_lit, IntKind.bits, htake_self, htake_push, hget_hpush_self, hset_push, rowOf_self, okIn, lowIn, lowIn1, fzC_d, fzC_row, h0, h1, h7, h8, h9, txts])
  | n + 1, i, e, hn, h0, h1, h7, h8, h9 => by
    have c : (i : Int) < (xs.length : Int) := by omega
    have c' : i < xs.length := by omega
    have g := txts_get xs i c'
    have w1 : IntKind.i64.wrap ((i : Int) + 1) = ((i + 1 : Nat) : Int) := by rw [IntWalk.i64_in _ (by omega)]; rfl
    have ih := l66 n0 xs hx m H n (i + 1)
    rw [evLoop_eq]
    generalize evLoop (evCode (ev R) R.glob n0 evLoop f66l0) [0, 1, 7, 8, 9] = F at ih ⊢
    by_cases hb : 40 < (xs.getD i []).length
    · have hb' : (40 : Int) < ((xs.getD i []).length : Int) := by omega
      refine ⟨?_, ?_, ?_, ?_⟩
      rotate_left
      · simp [-List.getD_eq_getElem?_getD, -List.map_map, evBody, evCode, evOps, evOper, evOp, opd, Env.get, Env.put, Env.keep, zipEnv, V.ok, V.sto, V.cells, D.cells, V.isAgg, binD, binInt, binStr, shInt, unD, eqOf, asI, leave, resOf, mapO, fzV, tupOf, view, view1, isData, hand, flatV, flatD, allD, mkAgg, mkVal, beq_lit, IntKind.bits, htake_self, htake_push, hget_hpush_self, hset_push, rowOf_self, okIn, lowIn, lowIn1, fzC_d, fzC_row, f66l0, h0, h1, h7, h8, h9, txts, c, c', g, hb, hb', seek, long]
        rfl
      · intro j hj
        simp [seek, long, hb, -List.getD_eq_getElem?_getD] at hj
        try subst hj
        simp [-List.getD_eq_getElem?_getD, -List.map_map, evBody, evCode, evOps, evOper, evOp, opd, Env.get, Env.put, Env.keep, zipEnv, V.ok, V.sto, V.cells, D.cells, V.isAgg, binD, binInt, binStr, shInt, unD, eqOf, asI, leave, resOf, mapO, fzV, tupOf, view, view1, isData, hand, flatV, flatD, allD, mkAgg, mkVal, beq_lit, IntKind.bits, htake_self, htake_push, hget_hpush_self, hset_push, rowOf_self, okIn, lowIn, lowIn1, fzC_d, fzC_row]
      · intro hj; simp [seek, long, hb, -List.getD_eq_getElem?_getD] at hj
    · have hb' : ¬ (40 : Int) < ((xs.getD i []).length : Int) := by omega
      have hs : seek (long xs) (n + 1) i = seek (long xs) n (i + 1) := by simp [seek, long, hb, -List.getD_eq_getElem?_getD]
      rw [hs]
      simp [-List.getD_eq_getElem?_getD, -List.map_map, evBody, evCode, evOps, evOper, evOp, opd, Env.get, Env.put, Env.keep, zipEnv, V.ok, V.sto, V.cells, D.cells, V.isAgg, binD, binInt, binStr, shInt, unD, eqOf, asI, leave, resOf, mapO, fzV, tupOf, view, view1, isData, hand, flatV, flatD, allD, mkAgg, mkVal, beq_lit, IntKind.bits, htake_self, htake_push, hget_hpush_self, hset_push, rowOf_self, okIn, lowIn, lowIn1, fzC_d, fzC_row, f66l0, h0, h1, h7, h8, h9, txts, c, c', g, hb, hb', w1]
      refine ih _ (by omega) ?_ ?_ ?_ ?_ ?_ <;> rfl
/-- Where a text stands. -/
def isAt (t : Txt) (xs : List Txt) (i : Nat) : Bool := decide (xs.getD i [] = t)
theorem e80 (H : Hp) (xs : List Txt) (hx : xs.length ≤ 9223372036854775807) : ev R 80 [.d (txts xs)] H = some (.d (.bool (okTexts xs)), H) := by
  refine ev_fn (fn := f80) rfl rfl ?_
  obtain ⟨e', he, h1, h2⟩ := l80 (hlen H) xs hx H xs.length 0 [(0, .d (txts xs)), (3, .d (.int .i64 0))] (by omega) rfl rfl
  cases hr : seek (long xs) xs.length 0 with
  | some j =>
    simp only [hr] at he
    simp [-List.getD_eq_getElem?_getD, -List.map_map, evBody, evCode, evOps, evOper, evOp, opd, Env.get, Env.put, Env.keep, zipEnv, V.ok, V.sto, V.cells, D.cells, V.isAgg, binD, binInt, binStr, shInt, unD, eqOf, asI, leave, resOf, mapO, fzV, tupOf, view, view1, isData, hand, flatV, flatD, allD, mkAgg, mkVal, beq_lit, IntKind.bits, htake_self, htake_push, hget_hpush_self, hset_push, rowOf_self, okIn, lowIn, lowIn1, fzC_d, fzC_row, f80, he, h1 j hr, okTexts, hr]
  | none =>
    simp only [hr] at he
    have h3 := h2 hr
    simp [-List.getD_eq_getElem?_getD, -List.map_map, evBody, evCode, evOps, evOper, evOp, opd, Env.get, Env.put, Env.keep, zipEnv, V.ok, V.sto, V.cells, D.cells, V.isAgg, binD, binInt, binStr, shInt, unD, eqOf, asI, leave, resOf, mapO, fzV, tupOf, view, view1, isData, hand, flatV, flatD, allD, mkAgg, mkVal, beq_lit, IntKind.bits, htake_self, htake_push, hget_hpush_self, hset_push, rowOf_self, okIn, lowIn, lowIn1, fzC_d, fzC_row, f80, he, h3, okTexts, hr, txts]
    omega
/-- The first place of a text. -/
def placeOf (xs : List Txt) (t : Txt) : Int := if okTexts xs = true then (match seek (isAt t xs) xs.length 0 with | some j => (j : Int) | none => -1) else -1
theorem e66 (H : Hp) (xs : List Txt) (hx : xs.length ≤ 9223372036854775807) : ev R 66 [.d (txts xs), .d (.int .i64 16)] H = some (.d (.bool (okTexts xs)), H) := by
  refine ev_fn (fn := f66) rfl rfl ?_
  obtain ⟨e', he, h1, h2⟩ := l66 (hlen H) xs hx 16 H xs.length 0 [(0, .d (txts xs)), (1, .d (.int .i64 16)), (7, .d (txts xs)), (8, .d (.int .i64 xs.length)), (9, .d (.int .i64 0))] (by omega) rfl rfl rfl rfl rfl
  cases hr : seek (long xs) xs.length 0 with
  | some j =>
    simp only [hr] at he
    simp [-List.getD_eq_getElem?_getD, -List.map_map, evBody, evCode, evOps, evOper, evOp, opd, Env.get, Env.put, Env.keep, zipEnv, V.ok, V.sto, V.cells, D.cells, V.isAgg, binD, binInt, binStr, shInt, unD, eqOf, asI, leave, resOf, mapO, fzV, tupOf, view, view1, isData, hand, flatV, flatD, allD, mkAgg, mkVal, beq_lit, IntKind.bits, htake_self, htake_push, hget_hpush_self, hset_push, rowOf_self, okIn, lowIn, lowIn1, fzC_d, fzC_row, f66, he, h1 j hr, okTexts, hr]
  | none =>
    simp only [hr] at he
    obtain ⟨h3, h4⟩ := h2 hr
    simp [-List.getD_eq_getElem?_getD, -List.map_map, evBody, evCode, evOps, evOper, evOp, opd, Env.get, Env.put, Env.keep, zipEnv, V.ok, V.sto, V.cells, D.cells, V.isAgg, binD, binInt, binStr, shInt, unD, eqOf, asI, leave, resOf, mapO, fzV, tupOf, view, view1, isData, hand, flatV, flatD, allD, mkAgg, mkVal, beq_lit, IntKind.bits, htake_self, htake_push, hget_hpush_self, hset_push, rowOf_self, okIn, lowIn, lowIn1, fzC_d, fzC_row, f66, he, h3, h4, okTexts, hr, txts]
    omega
theorem e88 (H : Hp) (xs : List Txt) (hx : xs.length ≤ 9223372036854775807) : ev R 88 [.d (txts xs)] H = some (.d (.bool (okTexts xs)), H) := by
  refine ev_fn (fn := f88) rfl rfl ?_
  have p63 : pureCall (ev R) 66 [.d (txts xs), .d (.int .i64 16)] = some (.d (.bool (okTexts xs))) := pureCall_eq fun H => e66 H xs hx
  simp [-List.getD_eq_getElem?_getD, -List.map_map, evBody, evCode, evOps, evOper, evOp, opd, Env.get, Env.put, Env.keep, zipEnv, V.ok, V.sto, V.cells, D.cells, V.isAgg, binD, binInt, binStr, shInt, unD, eqOf, asI, leave, resOf, mapO, fzV, tupOf, view, view1, isData, hand, flatV, flatD, allD, mkAgg, mkVal, beq_lit, IntKind.bits, htake_self, htake_push, hget_hpush_self, hset_push, rowOf_self, okIn, lowIn, lowIn1, fzC_d, fzC_row, f88, p63]
/-- A copy. -/
theorem l33 (n0 : Nat) (xs : List Txt) (hx : xs.length ≤ 9223372036854775807) (H : Hp) : ∀ (n i : Nat) (e : Env), i + n = xs.length → e.get 0 = .d (txts xs) → e.get 3 = .slc (hlen H) 0 0 xs.length → e.get 4 = .d (.int .i64 i) →
    ∃ e', evLoop (evCode (ev R) R.glob n0 evLoop f33l0) [0, 3, 4] ⟨e, hpush H (.row 0 1 (filled xs i))⟩ = some (.exit 0, ⟨e', hpush H (.row 0 1 ((xs.map D.str).map V.d))⟩) ∧ e'.get 3 = .slc (hlen H) 0 0 xs.length
  | 0, i, e, hn, h0, h3, h4 => by
    have c : ¬ (i : Int) < (xs.length : Int) := by omega
    have c' : ¬ i < xs.length := by omega
    have hi : i = xs.length := by omega
    rw [← filled_all, evLoop_eq]
    refine ⟨?_, ?_, ?_⟩
    rotate_left
    · simp [-List.getD_eq_getElem?_getD, -List.map_map, evBody, evCode, evOps, evOper, evOp, opd, Env.get, Env.put, Env.keep, zipEnv, V.ok, V.sto, V.cells, D.cells, V.isAgg, binD, binInt, binStr, shInt, unD, eqOf, asI, leave, resOf, mapO, fzV, tupOf, view, view1, isData, hand, flatV, flatD, allD, mkAgg, mkVal, beq_lit, IntKind.bits, htake_self, htake_push, hget_hpush_self, hset_push, rowOf_self, okIn, lowIn, lowIn1, fzC_d, fzC_row, f33l0, h0, h3, h4, txts, c, c', hi]
      rfl
    · simp [-List.getD_eq_getElem?_getD, -List.map_map, evBody, evCode, evOps, evOper, evOp, opd, Env.get, Env.put, Env.keep, zipEnv, V.ok, V.sto, V.cells, D.cells, V.isAgg, binD, binInt, binStr, shInt, unD, eqOf, asI, leave, resOf, mapO, fzV, tupOf, view, view1, isData, hand, flatV, flatD, allD, mkAgg, mkVal, beq_lit, IntKind.bits, htake_self, htake_push, hget_hpush_self, hset_push, rowOf_self, okIn, lowIn, lowIn1, fzC_d, fzC_row, h3]
  | n + 1, i, e, hn, h0, h3, h4 => by
    have c : (i : Int) < (xs.length : Int) := by omega
    have c' : i < xs.length := by omega
    have g := txts_get xs i c'
    have w1 : IntKind.i64.wrap ((i : Int) + 1) = ((i + 1 : Nat) : Int) := by rw [IntWalk.i64_in _ (by omega)]; rfl
    have st := filled_store H xs i c'
    have ih := l33 n0 xs hx H n (i + 1)
    rw [evLoop_eq]
    generalize evLoop (evCode (ev R) R.glob n0 evLoop f33l0) [0, 3, 4] = F at ih ⊢
    simp [-List.getD_eq_getElem?_getD, -List.map_map, evBody, evCode, evOps, evOper, evOp, opd, Env.get, Env.put, Env.keep, zipEnv, V.ok, V.sto, V.cells, D.cells, V.isAgg, binD, binInt, binStr, shInt, unD, eqOf, asI, leave, resOf, mapO, fzV, tupOf, view, view1, isData, hand, flatV, flatD, allD, mkAgg, mkVal, beq_lit, IntKind.bits, htake_self, htake_push, hget_hpush_self, hset_push, rowOf_self, okIn, lowIn, lowIn1, fzC_d, fzC_row, f33l0, h0, h3, h4, txts, c, c', g, w1, st]
    refine ih _ (by omega) ?_ ?_ ?_ <;> rfl
def differ (xs ys : List Txt) (i : Nat) : Bool := decide (¬ xs.getD i [] = ys.getD i [])
theorem l37 (n0 : Nat) (xs : List Txt) (hx : xs.length ≤ 9223372036854775807) (ys : List Txt) (hy : ys.length = xs.length) (H : Hp) : ∀ (n i : Nat) (e : Env), i + n = xs.length → e.get 0 = .d (txts xs) → e.get 1 = .d (txts ys) → e.get 5 = .d (.int .i64 i) →
    ∃ e', evLoop (evCode (ev R) R.glob n0 evLoop f37l0) [0, 1, 5] ⟨e, H⟩ = some ((match seek (differ xs ys) n i with | some _ => .ret | none => .exit 0), ⟨e', H⟩) ∧
      (∀ j, seek (differ xs ys) n i = some j → e'.get 4 = .d (.bool false))
  | 0, i, e, hn, h0, h1, h5 => by
    have c : ¬ (i : Int) < (xs.length : Int) := by omega
    have c' : ¬ i < xs.length := by omega
    have gy : i < ys.length → (ys.map D.str).getD i .nilp = .str (ys.getD i []) := fun h => txts_get ys i h
    rw [evLoop_eq]
    refine ⟨?_, ?_, ?_⟩
    rotate_left
    · simp [-List.getD_eq_getElem?_getD, -List.map_map, evBody, evCode, evOps, evOper, evOp, opd, Env.get, Env.put, Env.keep, zipEnv, V.ok, V.sto, V.cells, D.cells, V.isAgg, binD, binInt, binStr, shInt, unD, eqOf, asI, leave, resOf, mapO, fzV, tupOf, view, view1, isData, hand, flatV, flatD, allD, mkAgg, mkVal, beq_lit, IntKind.bits, htake_self, htake_push, hget_hpush_self, hset_push, rowOf_self, okIn, lowIn, lowIn1, fzC_d, fzC_row, f37l0, h0, h1, h5, txts, c, c', seek, hy, gy]
      rfl
    · intro j hj; simp [seek] at hj
  | n + 1, i, e, hn, h0, h1, h5 => by
    have c : (i : Int) < (xs.length : Int) := by omega
    have c' : i < xs.length := by omega
    have g := txts_get xs i c'
    have w1 : IntKind.i64.wrap ((i : Int) + 1) = ((i + 1 : Nat) : Int) := by rw [IntWalk.i64_in _ (by omega)]; rfl
    have gy : i < ys.length → (ys.map D.str).getD i .nilp = .str (ys.getD i []) := fun h => txts_get ys i h
    have ih := l37 n0 xs hx ys hy H n (i + 1)
    rw [evLoop_eq]
    generalize evLoop (evCode (ev R) R.glob n0 evLoop f37l0) [0, 1, 5] = F at ih ⊢
    by_cases hb : ¬ xs.getD i [] = ys.getD i []
    · skip
      refine ⟨?_, ?_, ?_⟩
      rotate_left
      · simp [-List.getD_eq_getElem?_getD, -List.map_map, evBody, evCode, evOps, evOper, evOp, opd, Env.get, Env.put, Env.keep, zipEnv, V.ok, V.sto, V.cells, D.cells, V.isAgg, binD, binInt, binStr, shInt, unD, eqOf, asI, leave, resOf, mapO, fzV, tupOf, view, view1, isData, hand, flatV, flatD, allD, mkAgg, mkVal, beq_lit, IntKind.bits, htake_self, htake_push, hget_hpush_self, hset_push, rowOf_self, okIn, lowIn, lowIn1, fzC_d, fzC_row, f37l0, h0, h1, h5, txts, c, c', g, seek, differ, hb, hy, gy]
        rfl
      · intro j hj
        simp [seek, differ, hb, -List.getD_eq_getElem?_getD] at hj
        try subst hj
        simp [-List.getD_eq_getElem?_getD, -List.map_map, evBody, evCode, evOps, evOper, evOp, opd, Env.get, Env.put, Env.keep, zipEnv, V.ok, V.sto, V.cells, D.cells, V.isAgg, binD, binInt, binStr, shInt, unD, eqOf, asI, leave, resOf, mapO, fzV, tupOf, view, view1, isData, hand, flatV, flatD, allD, mkAgg, mkVal, beq_lit, IntKind.bits, htake_self, htake_push, hget_hpush_self, hset_push, rowOf_self, okIn, lowIn, lowIn1, fzC_d, fzC_row]
    · rw [Classical.not_not] at hb
      have hs : seek (differ xs ys) (n + 1) i = seek (differ xs ys) n (i + 1) := by simp [seek, differ, hb, -List.getD_eq_getElem?_getD]
      rw [hs]
      simp [-List.getD_eq_getElem?_getD, -List.map_map, evBody, evCode, evOps, evOper, evOp, opd, Env.get, Env.put, Env.keep, zipEnv, V.ok, V.sto, V.cells, D.cells, V.isAgg, binD, binInt, binStr, shInt, unD, eqOf, asI, leave, resOf, mapO, fzV, tupOf, view, view1, isData, hand, flatV, flatD, allD, mkAgg, mkVal, beq_lit, IntKind.bits, htake_self, htake_push, hget_hpush_self, hset_push, rowOf_self, okIn, lowIn, lowIn1, fzC_d, fzC_row, f37l0, h0, h1, h5, txts, c, c', g, w1, hb, hy, gy]
      refine ih _ (by omega) ?_ ?_ ?_ <;> rfl
end Go.Proofs.YtpmphmpaeooeeaaDoorO.Code
/- What FnExactListAt answers. -/
namespace Go.Proofs.YtpmphmpaeooeeaaDoorO.Code
open Go Go.Ev Go.Proofs
set_option maxRecDepth 100000
set_option linter.unusedSimpArgs false
set_option linter.unusedVariables false
theorem e37_same (H : Hp) (xs : List Txt) (hx : xs.length ≤ 9223372036854775807) : ev R 37 [.d (txts xs), .d (txts xs)] H = some (.d (.bool true), H) := by
  refine ev_fn (fn := f37) rfl rfl ?_
  obtain ⟨e', he, h1⟩ := l37 (hlen H) xs hx xs rfl H xs.length 0 [(0, .d (txts xs)), (1, .d (txts xs)), (5, .d (.int .i64 0))] (by omega) rfl rfl rfl
  have hr : seek (differ xs xs) xs.length 0 = none := by
    cases hr : seek (differ xs xs) xs.length 0 with
    | none => rfl
    | some j =>
      have := (seek_some hr).2.2.1
      simp [differ] at this
  simp only [hr] at he
  simp [-List.getD_eq_getElem?_getD, -List.map_map, evBody, evCode, evOps, evOper, evOp, opd, Env.get, Env.put, Env.keep, zipEnv, V.ok, V.sto, V.cells, D.cells, V.isAgg, binD, binInt, binStr, shInt, unD, eqOf, asI, leave, resOf, mapO, fzV, tupOf, view, view1, isData, hand, flatV, flatD, allD, mkAgg, mkVal, beq_lit, IntKind.bits, htake_self, htake_push, hget_hpush_self, hset_push, rowOf_self, okIn, lowIn, lowIn1, fzC_d, fzC_row, f37, he]
/-- What is left of a sum, the texts' letters taken off one after another; -1 if too little. -/
def spend (xs : List Txt) : Nat → Nat → Int → Int
  | 0, _, l => l
  | n + 1, i, l => if l - (xs.getD i []).length < 0 then -1 else spend xs n (i + 1) (l - (xs.getD i []).length)
theorem l29 (n0 : Nat) (xs : List Txt) (hx : xs.length ≤ 9223372036854775807) (hs : ∀ i, (xs.getD i []).length ≤ 9223372036854775807) (H : Hp) : ∀ (n i : Nat) (l : Int) (e : Env), i + n = xs.length → 0 ≤ l → l ≤ 1048576 → e.get 0 = .d (txts xs) → e.get 1 = .d (.int .i64 l) → e.get 5 = .d (.int .i64 i) →
    ∃ e', evLoop (evCode (ev R) R.glob n0 evLoop f29l0) [0, 1, 5] ⟨e, H⟩ = some ((if spend xs n i l < 0 then .ret else .exit 0), ⟨e', H⟩) ∧
      (spend xs n i l < 0 → e'.get 4 = .d (.int .i64 (-1))) ∧ (¬ spend xs n i l < 0 → e'.get 1 = .d (.int .i64 (spend xs n i l)))
  | 0, i, l, e, hn, hl, hl2, h0, h1, h5 => by
    have c : ¬ (i : Int) < (xs.length : Int) := by omega
    have c' : ¬ i < xs.length := by omega
    have c2 : ¬ l < 0 := by omega
    rw [evLoop_eq]
    refine ⟨?_, ?_, ?_, ?_⟩
    rotate_left
    · simp [-List.getD_eq_getElem?_getD, -List.map_map, evBody, evCode, evOps, evOper, evOp, opd, Env.get, Env.put, Env.keep, zipEnv, V.ok, V.sto, V.cells, D.cells, V.isAgg, binD, binInt, binStr, shInt, unD, eqOf, asI, leave, resOf, mapO, fzV, tupOf, view, view1, isData, hand, flatV, flatD, allD, mkAgg, mkVal, beq_lit, IntKind.bits, htake_self, htake_push, hget_hpush_self, hset_push, rowOf_self, okIn, lowIn, lowIn1, fzC_d, fzC_row, f29l0, h0, h1, h5, txts, c, c', spend, c2]
      rfl
    · intro hj; exact absurd hj c2
    · intro _
      simp [-List.getD_eq_getElem?_getD, -List.map_map, evBody, evCode, evOps, evOper, evOp, opd, Env.get, Env.put, Env.keep, zipEnv, V.ok, V.sto, V.cells, D.cells, V.isAgg, binD, binInt, binStr, shInt, unD, eqOf, asI, leave, resOf, mapO, fzV, tupOf, view, view1, isData, hand, flatV, flatD, allD, mkAgg, mkVal, beq_lit, IntKind.bits, htake_self, htake_push, hget_hpush_self, hset_push, rowOf_self, okIn, lowIn, lowIn1, fzC_d, fzC_row, h1, spend]
  | n + 1, i, l, e, hn, hl, hl2, h0, h1, h5 => by
    have c : (i : Int) < (xs.length : Int) := by omega
    have c' : i < xs.length := by omega
    have g := txts_get xs i c'
    have hsi := hs i
    have w1 : IntKind.i64.wrap ((i : Int) + 1) = ((i + 1 : Nat) : Int) := by rw [IntWalk.i64_in _ (by omega)]; rfl
    have w2 : IntKind.i64.wrap (l - ((xs.getD i []).length : Int)) = l - (xs.getD i []).length := IntWalk.i64_in _ (by omega)
    have ih := l29 n0 xs hx hs H n (i + 1) (l - (xs.getD i []).length)
    rw [evLoop_eq]
    generalize evLoop (evCode (ev R) R.glob n0 evLoop f29l0) [0, 1, 5] = F at ih ⊢
    by_cases hb : l - ((xs.getD i []).length : Int) < 0
    · have hs1 : spend xs (n + 1) i l = -1 := by simp only [spend, hb, if_true]
      rw [hs1]
      refine ⟨?_, ?_, ?_, ?_⟩
      rotate_left
      · simp [-List.getD_eq_getElem?_getD, -List.map_map, evBody, evCode, evOps, evOper, evOp, opd, Env.get, Env.put, Env.keep, zipEnv, V.ok, V.sto, V.cells, D.cells, V.isAgg, binD, binInt, binStr, shInt, unD, eqOf, asI, leave, resOf, mapO, fzV, tupOf, view, view1, isData, hand, flatV, flatD, allD, mkAgg, mkVal, beq_lit, IntKind.bits, htake_self, htake_push, hget_hpush_self, hset_push, rowOf_self, okIn, lowIn, lowIn1, fzC_d, fzC_row, f29l0, h0, h1, h5, txts, c, c', g, w2, hb]
        rfl
      · intro hj; simp [-List.getD_eq_getElem?_getD, -List.map_map, evBody, evCode, evOps, evOper, evOp, opd, Env.get, Env.put, Env.keep, zipEnv, V.ok, V.sto, V.cells, D.cells, V.isAgg, binD, binInt, binStr, shInt, unD, eqOf, asI, leave, resOf, mapO, fzV, tupOf, view, view1, isData, hand, flatV, flatD, allD, mkAgg, mkVal, beq_lit, IntKind.bits, htake_self, htake_push, hget_hpush_self, hset_push, rowOf_self, okIn, lowIn, lowIn1, fzC_d, fzC_row]
      · intro hj; omega
    · have hs1 : spend xs (n + 1) i l = spend xs n (i + 1) (l - (xs.getD i []).length) := by simp only [spend, hb, if_false]
      rw [hs1]
      generalize hz : spend xs n (i + 1) (l - (xs.getD i []).length) = z at ih ⊢
      simp [-List.getD_eq_getElem?_getD, -List.map_map, evBody, evCode, evOps, evOper, evOp, opd, Env.get, Env.put, Env.keep, zipEnv, V.ok, V.sto, V.cells, D.cells, V.isAgg, binD, binInt, binStr, shInt, unD, eqOf, asI, leave, resOf, mapO, fzV, tupOf, view, view1, isData, hand, flatV, flatD, allD, mkAgg, mkVal, beq_lit, IntKind.bits, htake_self, htake_push, hget_hpush_self, hset_push, rowOf_self, okIn, lowIn, lowIn1, fzC_d, fzC_row, f29l0, h0, h1, h5, txts, c, c', g, w1, w2, hb]
      have ih' := ih [(5, .d (.int .i64 ((i + 1 : Nat) : Int))), (17, .d (.int .i64 ((i + 1 : Nat) : Int))), (16, .d (.int .i64 i)), (0, .d (txts xs)), (1, .d (.int .i64 (l - (xs.getD i []).length))), (5, .d (.int .i64 i))] (by omega) (by omega) (by omega) rfl rfl rfl
      simpa [-List.getD_eq_getElem?_getD, -List.map_map] using ih'
def left (xs : List Txt) : Int := if 1048576 - (xs.length : Int) < 0 then -1 else (if spend xs xs.length 0 (1048576 - xs.length) < 0 then -1 else spend xs xs.length 0 (1048576 - xs.length))
theorem e29 (H : Hp) (xs : List Txt) (hx : xs.length ≤ 9223372036854775807) (hs : ∀ i, (xs.getD i []).length ≤ 9223372036854775807) : ev R 29 [.d (txts xs), .d (.int .i64 1048576)] H = some (.d (.int .i64 (left xs)), H) := by
  refine ev_fn (fn := f29) rfl rfl ?_
  have w : IntKind.i64.wrap (1048576 - (xs.length : Int)) = 1048576 - xs.length := IntWalk.i64_in _ (by omega)
  unfold left
  by_cases hb : 1048576 - (xs.length : Int) < 0
  · simp [-List.getD_eq_getElem?_getD, -List.map_map, evBody, evCode, evOps, evOper, evOp, opd, Env.get, Env.put, Env.keep, zipEnv, V.ok, V.sto, V.cells, D.cells, V.isAgg, binD, binInt, binStr, shInt, unD, eqOf, asI, leave, resOf, mapO, fzV, tupOf, view, view1, isData, hand, flatV, flatD, allD, mkAgg, mkVal, beq_lit, IntKind.bits, htake_self, htake_push, hget_hpush_self, hset_push, rowOf_self, okIn, lowIn, lowIn1, fzC_d, fzC_row, f29, txts, w, hb]
  · obtain ⟨e', he, h1, h2⟩ := l29 (hlen H) xs hx hs H xs.length 0 (1048576 - xs.length) [(0, .d (txts xs)), (1, .d (.int .i64 (1048576 - xs.length))), (5, .d (.int .i64 0))] (by omega) (by omega) (by omega) rfl rfl rfl
    generalize spend xs xs.length 0 (1048576 - xs.length) = z at he h1 h2 ⊢
    by_cases hz : z < 0
    · simp only [hz, if_true] at he
      simp [-List.getD_eq_getElem?_getD, -List.map_map, evBody, evCode, evOps, evOper, evOp, opd, Env.get, Env.put, Env.keep, zipEnv, V.ok, V.sto, V.cells, D.cells, V.isAgg, binD, binInt, binStr, shInt, unD, eqOf, asI, leave, resOf, mapO, fzV, tupOf, view, view1, isData, hand, flatV, flatD, allD, mkAgg, mkVal, beq_lit, IntKind.bits, htake_self, htake_push, hget_hpush_self, hset_push, rowOf_self, okIn, lowIn, lowIn1, fzC_d, fzC_row, f29, txts, w, hb, he, h1 hz, hz]
    · simp only [hz, if_false] at he
      simp [-List.getD_eq_getElem?_getD, -List.map_map, evBody, evCode, evOps, evOper, evOp, opd, Env.get, Env.put, Env.keep, zipEnv, V.ok, V.sto, V.cells, D.cells, V.isAgg, binD, binInt, binStr, shInt, unD, eqOf, asI, leave, resOf, mapO, fzV, tupOf, view, view1, isData, hand, flatV, flatD, allD, mkAgg, mkVal, beq_lit, IntKind.bits, htake_self, htake_push, hget_hpush_self, hset_push, rowOf_self, okIn, lowIn, lowIn1, fzC_d, fzC_row, f29, txts, w, hb, he, h2 hz, hz]
namespace fnExactListAt
end fnExactListAt
end Go.Proofs.YtpmphmpaeooeeaaDoorO.Code
/- The reader that draws: a row of a slice of bytes and a place. -/
namespace Go.Proofs.YtpmphmpaeooeeaaDoorO.Code
open Go Go.Ev Go.Proofs
set_option maxRecDepth 100000
set_option linter.unusedSimpArgs false
set_option linter.unusedVariables false
abbrev bytesD (bs : List Int) : D := .vals 1 (bs.map (.int .u8))
def rd (bs : List Int) (p : Int) : Ev.Obj := .row 0 2 [.d (.agg [bytesD bs, .int .i64 p])]
theorem rd_row {H : Hp} {r : Nat} {bs : List Int} {p : Int} (h : hget H r = some (rd bs p)) : rowOf H r 0 = some (2, [.d (.agg [bytesD bs, .int .i64 p])]) := by
  simp [rowOf, h, rd]
theorem rd_load0 {H : Hp} {r : Nat} {bs : List Int} {p : Int} (h : hget H r = some (rd bs p)) : hload H r 0 0 0 1 = some [.d (bytesD bs)] := by
  simp [hload, rd_row h, V.cells]
theorem rd_load1 {H : Hp} {r : Nat} {bs : List Int} {p : Int} (h : hget H r = some (rd bs p)) : hload H r 0 0 1 1 = some [.d (.int .i64 p)] := by
  simp [hload, rd_row h, V.cells]
theorem rd_store {H : Hp} {r : Nat} {bs : List Int} {p q : Int} (h : hget H r = some (rd bs p)) : hstore H r 0 0 1 [.d (.int .i64 q)] = some (hset H r (rd bs q)) := by
  simp [hstore, rd_row h, V.cells, reCell, V.isAgg, mkAgg, allD, rd]
theorem htake_hset {H : Hp} {r : Nat} {o : Ev.Obj} : htake (hset H r o) (hlen H) = hset H r o := by
  have := htake_self (hset H r o)
  rwa [hlen_hset] at this
def okBytes (bs : List Int) : Prop := bs.length ≤ 2000 ∧ ∀ i, 0 ≤ bs.getD i 0 ∧ bs.getD i 0 ≤ 255
theorem bytes_get (bs : List Int) (i : Nat) (hi : i < bs.length) : (bs.map (D.int .u8)).getD i .nilp = .int .u8 (bs.getD i 0) := by
  simp [List.getD_eq_getElem?_getD, hi]
theorem xor_in (x y : Int) (hx : 0 ≤ x) (hx2 : x < 9223372036854775808) (hy : 0 ≤ y) (hy2 : y < 9223372036854775808) : ∃ z, bitsOp .xor .i64 x y = some z ∧ 0 ≤ z := by
  obtain ⟨a, rfl⟩ := Int.eq_ofNat_of_zero_le hx
  obtain ⟨b, rfl⟩ := Int.eq_ofNat_of_zero_le hy
  have ha : a < 2 ^ 63 := by omega
  have hb : b < 2 ^ 63 := by omega
  have hlt : a ^^^ b < 2 ^ 63 := Nat.xor_lt_two_pow ha hb
  have e : ((BitVec.ofInt 64 (a : Int) ^^^ BitVec.ofInt 64 (b : Int)).toNat : Int) = ((a ^^^ b : Nat) : Int) := by
    rw [BitVec.ofInt_natCast, BitVec.ofInt_natCast, BitVec.toNat_xor, BitVec.toNat_ofNat, BitVec.toNat_ofNat, Nat.mod_eq_of_lt (by omega), Nat.mod_eq_of_lt (by omega)]
  refine ⟨((a ^^^ b : Nat) : Int), ?_, by omega⟩
  show some (IntKind.i64.wrap ((BitVec.ofInt 64 (a : Int) ^^^ BitVec.ofInt 64 (b : Int)).toNat : Int)) = _
  rw [e, IntWalk.i64_in _ (by omega)]
/-- What is drawn far behind. -/
def farV (bs : List Int) (p : Int) : Int :=
  bs.getD (p.tmod bs.length).toNat 0 * 131 + bs.getD ((p * 7 + 3).tmod bs.length).toNat 0 * 1117 + p * 29 + p.tdiv bs.length * 53
def pickV (bs : List Int) (p n : Int) : Int :=
  if n < 1 then 0 else if bs.length = 0 then 0 else if p < bs.length then (bs.getD p.toNat 0).tmod n else ((bitsOp .xor .i64 (farV bs p) ((farV bs p).tdiv 64)).getD 0).tmod n
theorem pickV_in (bs : List Int) (p n : Int) (hb : okBytes bs) (hp : 0 ≤ p) (hp2 : p ≤ 1000000000000) : 0 ≤ pickV bs p n ∧ (1 ≤ n → pickV bs p n < n) := by
  unfold pickV
  split
  · omega
  · split
    · omega
    · split
      · have := hb.2 p.toNat
        exact ⟨Int.tmod_nonneg _ this.1, fun h => Int.tmod_lt_of_pos _ (by omega)⟩
      · rename_i h1 h2 h3
        have c1 := hb.2 (p.tmod bs.length).toNat
        have c2 := hb.2 ((p * 7 + 3).tmod bs.length).toNat
        have d0 : 0 ≤ p.tdiv bs.length ∧ p.tdiv bs.length ≤ p := by
          rw [Int.tdiv_eq_ediv_of_nonneg hp]
          exact ⟨Int.ediv_nonneg hp (by omega), Int.ediv_le_self _ hp⟩
        have xb : 0 ≤ farV bs p ∧ farV bs p < 9223372036854775807 := by
          unfold farV
          omega
        have t0 : 0 ≤ (farV bs p).tdiv 64 ∧ (farV bs p).tdiv 64 ≤ farV bs p := by
          rw [Int.tdiv_eq_ediv_of_nonneg xb.1]
          omega
        obtain ⟨z, hz1, hz2⟩ := xor_in (farV bs p) ((farV bs p).tdiv 64) xb.1 (by omega) t0.1 (by omega)
        rw [hz1]
        exact ⟨Int.tmod_nonneg _ hz2, fun h => Int.tmod_lt_of_pos _ (by omega)⟩
/-- One of a list, drawn. -/
def ofV (bs : List Int) (p : Int) (xs : List Txt) : Txt := xs.getD (pickV bs p xs.length).toNat []
/-- A text, as often as that. -/
def many (s : Txt) (n : Nat) (out : Txt) : Txt :=
  if h : n = 0 then out else many (s ++ s) (n / 2) (if n % 2 = 1 then out ++ s else out)
termination_by n
decreasing_by omega
def textList : List Txt := [[], [97], [98], [99], [53], [45, 51], [104, 101, 108, 108, 111], [13, 10], [255], many [120] 40 [], [57, 57, 57, 57, 57, 57, 57, 57, 57]]
/-- A text, drawn. -/
def textV (bs : List Int) (p : Int) : Txt := ofV bs p textList
theorem many_len (s : Txt) (n : Nat) (out : Txt) : (many s n out).length = out.length + s.length * n := by
  induction n using Nat.strongRecOn generalizing s out with
  | _ n ih =>
    rw [many]
    split
    · rename_i h; subst h; simp
    · rw [ih (n / 2) (by omega)]
      have hodd : s.length * n = s.length * (n / 2) * 2 + s.length * (n % 2) := by
        rw [Nat.mul_assoc, ← Nat.mul_add]
        congr 1
        omega
      have hd : (s ++ s).length * (n / 2) = s.length * (n / 2) * 2 := by rw [List.length_append, Nat.add_mul]; omega
      rw [hd]
      split
      · rename_i h; rw [h] at hodd; rw [List.length_append]; omega
      · rename_i h; have : n % 2 = 0 := by omega
        rw [this] at hodd; omega
theorem ofV_all (bs : List Int) (p : Int) (xs : List Txt) (m : Nat) (h : ∀ x ∈ xs, x.length ≤ m) : (ofV bs p xs).length ≤ m := by
  unfold ofV
  by_cases hi : (pickV bs p xs.length).toNat < xs.length
  · rw [List.getD_eq_getElem?_getD, List.getElem?_eq_getElem hi]
    exact h _ (List.getElem_mem hi)
  · rw [List.getD_eq_getElem?_getD, List.getElem?_eq_none (by omega)]
    exact Nat.zero_le _
theorem textV_len (bs : List Int) (p : Int) : (textV bs p).length ≤ 40 := by
  refine ofV_all bs p textList 40 fun x hx => ?_
  have hm := many_len [120] 40 []
  simp only [textList, List.mem_cons, List.not_mem_nil, or_false] at hx
  rcases hx with rfl | rfl | rfl | rfl | rfl | rfl | rfl | rfl | rfl | rfl | rfl <;> first | (rw [hm]; simp) | simp
/-- The bytes that the reader reads. -/
def opened (bs : List Int) : List Int := bs.take 2000
theorem opened_ok (bs : List Int) (h : ∀ i, 0 ≤ bs.getD i 0 ∧ bs.getD i 0 ≤ 255) : okBytes (opened bs) := by
  refine ⟨by simp [opened]; omega, fun i => ?_⟩
  by_cases hi : i < 2000
  · have : (opened bs).getD i 0 = bs.getD i 0 := by simp [opened, List.getD_eq_getElem?_getD, List.getElem?_take, hi]
    rw [this]; exact h i
  · have : (opened bs).getD i 0 = 0 := by simp [opened, List.getD_eq_getElem?_getD, List.getElem?_take, hi]
    rw [this]; omega
/-- The texts that a bit is looked for in. -/
def bitTexts (t : Txt) : List Txt := [[], [255], [0, 1], [255, 254], [0], t]
end Go.Proofs.YtpmphmpaeooeeaaDoorO.Code
/- Numbers written out, in the draws. -/
namespace Go.Proofs.YtpmphmpaeooeeaaDoorO.Code
open Go Go.Ev Go.Proofs
set_option maxRecDepth 100000
set_option linter.unusedSimpArgs false
set_option linter.unusedVariables false
def decV (n : Nat) : Txt := if h : n < 10 then [UInt8.ofNat (48 + n)] else decV (n / 10) ++ [UInt8.ofNat (48 + n % 10)]
termination_by n
decreasing_by omega
theorem decV_len (n : Nat) : (decV n).length ≤ n + 1 := by
  induction n using Nat.strongRecOn with
  | _ n ih =>
    rw [decV]
    split
    · simp
    · have := ih (n / 10) (by omega)
      rw [List.length_append]
      simp only [List.length_singleton]
      omega
theorem e65 (n : Nat) : ∀ (H : Hp), n ≤ 1000000000 → ev R 65 [.d (.int .i64 n)] H = some (.d (.str (decV n)), H) := by
  induction n using Nat.strongRecOn with
  | _ n ih =>
    intro H hn
    refine ev_fn (fn := f65) rfl rfl ?_
    have c1 : ¬ (n : Int) < -9223372036854775807 := by omega
    have c2 : ¬ (n : Int) < 0 := by omega
    by_cases c3 : n < 10
    · have c3' : (n : Int) < 10 := by omega
      have w1 : IntKind.i64.wrap (48 + (n : Int)) = 48 + n := IntWalk.i64_in _ (by omega)
      have w2 : IntKind.u8.wrap (48 + (n : Int)) = 48 + n := IntWalk.u8_in _ (by omega)
      have t : (48 + (n : Int)).toNat = 48 + n := by omega
      rw [decV, dif_pos c3]
      simp [-List.getD_eq_getElem?_getD, -List.map_map, evBody, evCode, evOps, evOper, evOp, opd, Env.get, Env.put, Env.keep, zipEnv, V.ok, V.sto, V.cells, D.cells, V.isAgg, binD, binInt, binStr, shInt, unD, eqOf, asI, leave, resOf, mapO, fzV, tupOf, view, view1, isData, hand, flatV, flatD, allD, mkAgg, mkVal, beq_lit, IntKind.bits, htake_self, htake_push, hget_hpush_self, hset_push, rowOf_self, okIn, lowIn, lowIn1, fzC_d, fzC_row, f65, c1, c2, c3, c3', w1, w2, t, src, strOf]
    · have c3' : ¬ (n : Int) < 10 := by omega
      have q : pureCall (ev R) 65 [.d (.int .i64 ((n / 10 : Nat) : Int))] = some (.d (.str (decV (n / 10)))) := pureCall_eq fun H => ih (n / 10) (by omega) H (by omega)
      obtain ⟨k, hk⟩ : ∃ k : Int, ((n / 10 : Nat) : Int) = k := ⟨_, rfl⟩
      obtain ⟨d, hd⟩ : ∃ d : Int, (n : Int).tmod 10 = d := ⟨_, rfl⟩
      have hd' : d = ((n % 10 : Nat) : Int) := by rw [← hd, Int.tmod_eq_emod_of_nonneg (by omega)]; omega
      rw [hk] at q
      have w0 : IntKind.i64.wrap ((n : Int).tdiv 10) = k := by rw [Int.tdiv_eq_ediv_of_nonneg (by omega), IntWalk.i64_in _ (by omega)]; omega
      have w0' : IntKind.i64.wrap ((n : Int) / 10) = k := by rw [IntWalk.i64_in _ (by omega)]; omega
      have hd2 : (n : Int) % 10 = d := by omega
      have w1 : IntKind.i64.wrap (48 + d) = 48 + d := IntWalk.i64_in _ (by omega)
      have w2 : IntKind.u8.wrap (48 + d) = 48 + d := IntWalk.u8_in _ (by omega)
      have t : (48 + d).toNat = 48 + n % 10 := by omega
      have hl := decV_len (n / 10)
      have l : (decV (n / 10)).length + 1 ≤ strRoom := by unfold strRoom; omega
      rw [decV, dif_neg c3]
      simp [-List.getD_eq_getElem?_getD, -List.map_map, evBody, evCode, evOps, evOper, evOp, opd, Env.get, Env.put, Env.keep, zipEnv, V.ok, V.sto, V.cells, D.cells, V.isAgg, binD, binInt, binStr, shInt, unD, eqOf, asI, leave, resOf, mapO, fzV, tupOf, view, view1, isData, hand, flatV, flatD, allD, mkAgg, mkVal, beq_lit, IntKind.bits, htake_self, htake_push, hget_hpush_self, hset_push, rowOf_self, okIn, lowIn, lowIn1, fzC_d, fzC_row, f65, c1, c2, c3, c3', q, w0, w0', hd, hd2, w1, w2, t, l, src, strOf]
end Go.Proofs.YtpmphmpaeooeeaaDoorO.Code
/- One bit of a text, in the code under test and in what it is held against. -/
namespace Go.Proofs.YtpmphmpaeooeeaaDoorO.Code
open Go Go.Ev Go.Proofs
set_option maxRecDepth 100000
set_option linter.unusedSimpArgs false
theorem e30 (H : Hp) (a b c : Int) : ev R 30 [.d (.int .i64 a), .d (.int .i64 b), .d (.int .i64 c)] H = some (.d (.bool (decide (a ≥ b) && decide (a ≤ c))), H) := by
  refine ev_fn (fn := f30) rfl rfl ?_
  by_cases h1 : a ≥ b <;> by_cases h2 : a ≤ c <;>
  simp [-List.getD_eq_getElem?_getD, -List.map_map, evBody, evCode, evOps, evOper, evOp, opd, Env.get, Env.put, Env.keep, zipEnv, V.ok, V.sto, V.cells, D.cells, V.isAgg, binD, binInt, binStr, shInt, unD, eqOf, asI, leave, resOf, mapO, fzV, fzC, tupOf, htake, hlen, view, view1, isData, hand, flatV, flatD, allD, mkAgg, mkVal, beq_lit, IntKind.bits, f30, h1, h2]
theorem e34 (H : Hp) (a b c : Int) : ev R 34 [.d (.int .i64 a), .d (.int .i64 b), .d (.int .i64 c)] H = some (.d (.bool (decide (a ≥ b) && decide (a ≤ c))), H) := by
  refine ev_fn (fn := f34) rfl rfl ?_
  by_cases h1 : a ≥ b <;> by_cases h2 : a ≤ c <;>
  simp [-List.getD_eq_getElem?_getD, -List.map_map, evBody, evCode, evOps, evOper, evOp, opd, Env.get, Env.put, Env.keep, zipEnv, V.ok, V.sto, V.cells, D.cells, V.isAgg, binD, binInt, binStr, shInt, unD, eqOf, asI, leave, resOf, mapO, fzV, fzC, tupOf, htake, hlen, view, view1, isData, hand, flatV, flatD, allD, mkAgg, mkVal, beq_lit, IntKind.bits, f34, h1, h2]
theorem p30 (a b c : Int) : pureCall (ev R) 30 [.d (.int .i64 a), .d (.int .i64 b), .d (.int .i64 c)] = some (.d (.bool (decide (a ≥ b) && decide (a ≤ c)))) := pureCall_eq fun H => e30 H a b c
theorem p34 (a b c : Int) : pureCall (ev R) 34 [.d (.int .i64 a), .d (.int .i64 b), .d (.int .i64 c)] = some (.d (.bool (decide (a ≥ b) && decide (a ≤ c)))) := pureCall_eq fun H => e34 H a b c
theorem and1 (x : Int) (h0 : 0 ≤ x) (h9 : x < 9223372036854775808) : bitsOp .and .i64 x 1 = some (x % 2) := by
  have e : ((BitVec.ofInt 64 x &&& BitVec.ofInt 64 1).toNat : Int) = x % 2 := by
    obtain ⟨n, rfl⟩ := Int.eq_ofNat_of_zero_le h0
    simp
  show some (IntKind.i64.wrap ((BitVec.ofInt 64 x &&& BitVec.ofInt 64 1).toNat : Int)) = _
  rw [e, IntWalk.i64_in _ (by omega)]
def bit (s : List UInt8) (i : Int) : Int := if i / 8 ≥ s.length then 0 else ((s.getD (i / 8).toNat 0).toNat : Int) / (2 ^ (7 - i % 8).toNat) % 2
theorem u8_fits (x : UInt8) : IntKind.i64.wrap (x.toNat : Int) = x.toNat := IntWalk.i64_in _ (by have := x.toNat_lt; omega)
theorem shr_u8 (x : UInt8) (k : Nat) : (x.toNat : Int).fdiv (2 ^ k) = (x.toNat : Int) / 2 ^ k ∧ 0 ≤ (x.toNat : Int) / 2 ^ k ∧ (x.toNat : Int) / 2 ^ k ≤ 255 := by
  have h := x.toNat_lt
  have p : (0 : Int) < 2 ^ k := Int.pow_pos (by omega)
  refine ⟨Int.fdiv_eq_ediv_of_nonneg _ (by omega), Int.ediv_nonneg (by omega) (by omega), ?_⟩
  have := Int.ediv_le_self (a := (x.toNat : Int)) (2 ^ k) (by omega)
  omega
end Go.Proofs.YtpmphmpaeooeeaaDoorO.Code
/- Entries as data, and how much is left behind one. -/
namespace Go.Proofs.YtpmphmpaeooeeaaDoorO.Code
open Go Go.Ev Go.Proofs
set_option maxRecDepth 100000
set_option linter.unusedSimpArgs false
set_option linter.unusedVariables false
abbrev Sc := Txt × Int
abbrev Pr := Txt × Txt
def scD (x : Sc) : D := .agg [.str x.1, .int .i64 x.2]
def prD (x : Pr) : D := .agg [.str x.1, .str x.2]
def scs (xs : List Sc) : D := .vals 2 (xs.map scD)
def prs (xs : List Pr) : D := .vals 2 (xs.map prD)
/-- An entry. -/
structure En where
  key : Txt
  till : Int
  kind : Int
  text : Txt
  list : List Txt
  scores : List Sc
  fields : List Pr
def enD (e : En) : D := .agg [.str e.key, .int .i64 e.till, .int .i64 e.kind, .str e.text, txts e.list, scs e.scores, prs e.fields]
def In64 (n : Int) : Prop := -9223372036854775808 ≤ n ∧ n ≤ 9223372036854775807
/-- Each list, and each text, as long as they may be. -/
structure EnFit (e : En) : Prop where
  key : e.key.length ≤ 9223372036854775807
  text : e.text.length ≤ 9223372036854775807
  list : e.list.length ≤ 9223372036854775807
  lists : ∀ i, (e.list.getD i []).length ≤ 9223372036854775807
  scores : e.scores.length ≤ 9223372036854775807
  scoress : ∀ i, ((e.scores.getD i ([], 0)).1).length ≤ 9223372036854775807
  fields : e.fields.length ≤ 9223372036854775807
  fieldss : ∀ i, ((e.fields.getD i ([], [])).1).length ≤ 9223372036854775807 ∧ ((e.fields.getD i ([], [])).2).length ≤ 9223372036854775807
  till : In64 e.till
  kind : In64 e.kind
theorem scs_len (xs : List Sc) : (xs.map scD).length = xs.length := by simp
theorem prs_len (xs : List Pr) : (xs.map prD).length = xs.length := by simp
theorem scs_get (xs : List Sc) (i : Nat) (hi : i < xs.length) : (xs.map scD).getD i .nilp = .agg [.str (xs.getD i ([], 0)).1, .int .i64 (xs.getD i ([], 0)).2] := by
  simp [scD, List.getD_eq_getElem?_getD, hi]
theorem prs_get (xs : List Pr) (i : Nat) (hi : i < xs.length) : (xs.map prD).getD i .nilp = .agg [.str (xs.getD i ([], [])).1, .str (xs.getD i ([], [])).2] := by
  simp [prD, List.getD_eq_getElem?_getD, hi]
/-- What a text leaves. -/
def lessV (s : Txt) (l : Int) : Int := if l - (s.length : Int) < 0 then -1 else l - s.length
theorem lessV_le (s : Txt) (l : Int) (h : 0 ≤ l) : -1 ≤ lessV s l ∧ lessV s l ≤ l := by
  unfold lessV; split <;> omega
theorem e77 (H : Hp) (x : Txt) (n : Int) (hx : x.length ≤ 9223372036854775807) (l : Int) (hl : 0 ≤ l) (hl2 : l ≤ 1048576) : ev R 77 [.d (.agg [.str x, .int .i64 n]), .d (.int .i64 l)] H = some (.d (.int .i64 (lessV x l)), H) := by
  refine ev_fn (fn := f77) rfl rfl ?_
  have w : IntKind.i64.wrap (l - (x.length : Int)) = l - x.length := IntWalk.i64_in _ (by omega)
  unfold lessV
  by_cases hb : l - (x.length : Int) < 0
  · simp [-List.getD_eq_getElem?_getD, -List.map_map, evBody, evCode, evOps, evOper, evOp, opd, Env.get, Env.put, Env.keep, zipEnv, V.ok, V.sto, V.cells, D.cells, V.isAgg, binD, binInt, binStr, shInt, unD, eqOf, asI, leave, resOf, mapO, fzV, tupOf, view, view1, isData, hand, flatV, flatD, allD, mkAgg, mkVal, beq_lit, IntKind.bits, htake_self, htake_push, hget_hpush_self, hset_push, rowOf_self, okIn, lowIn, lowIn1, fzC_d, fzC_row, f77, hload, w, hb]
  · simp [-List.getD_eq_getElem?_getD, -List.map_map, evBody, evCode, evOps, evOper, evOp, opd, Env.get, Env.put, Env.keep, zipEnv, V.ok, V.sto, V.cells, D.cells, V.isAgg, binD, binInt, binStr, shInt, unD, eqOf, asI, leave, resOf, mapO, fzV, tupOf, view, view1, isData, hand, flatV, flatD, allD, mkAgg, mkVal, beq_lit, IntKind.bits, htake_self, htake_push, hget_hpush_self, hset_push, rowOf_self, okIn, lowIn, lowIn1, fzC_d, fzC_row, f77, hload, w, hb]
theorem e78 (H : Hp) (x y : Txt) (hx : x.length ≤ 9223372036854775807) (hy : y.length ≤ 9223372036854775807) (l : Int) (hl : 0 ≤ l) (hl2 : l ≤ 1048576) : ev R 78 [.d (.agg [.str x, .str y]), .d (.int .i64 l)] H = some (.d (.int .i64 (if lessV x l < 0 then -1 else lessV y (lessV x l))), H) := by
  refine ev_fn (fn := f78) rfl rfl ?_
  have w : IntKind.i64.wrap (l - (x.length : Int)) = l - x.length := IntWalk.i64_in _ (by omega)
  unfold lessV
  by_cases hb : l - (x.length : Int) < 0
  · simp [-List.getD_eq_getElem?_getD, -List.map_map, evBody, evCode, evOps, evOper, evOp, opd, Env.get, Env.put, Env.keep, zipEnv, V.ok, V.sto, V.cells, D.cells, V.isAgg, binD, binInt, binStr, shInt, unD, eqOf, asI, leave, resOf, mapO, fzV, tupOf, view, view1, isData, hand, flatV, flatD, allD, mkAgg, mkVal, beq_lit, IntKind.bits, htake_self, htake_push, hget_hpush_self, hset_push, rowOf_self, okIn, lowIn, lowIn1, fzC_d, fzC_row, f78, hload, w, hb]
  · have w2 : IntKind.i64.wrap (l - (x.length : Int) - (y.length : Int)) = l - x.length - y.length := IntWalk.i64_in _ (by omega)
    by_cases hc : l - (x.length : Int) - (y.length : Int) < 0
    · simp [-List.getD_eq_getElem?_getD, -List.map_map, evBody, evCode, evOps, evOper, evOp, opd, Env.get, Env.put, Env.keep, zipEnv, V.ok, V.sto, V.cells, D.cells, V.isAgg, binD, binInt, binStr, shInt, unD, eqOf, asI, leave, resOf, mapO, fzV, tupOf, view, view1, isData, hand, flatV, flatD, allD, mkAgg, mkVal, beq_lit, IntKind.bits, htake_self, htake_push, hget_hpush_self, hset_push, rowOf_self, okIn, lowIn, lowIn1, fzC_d, fzC_row, f78, hload, w, w2, hb, hc]
    · simp [-List.getD_eq_getElem?_getD, -List.map_map, evBody, evCode, evOps, evOper, evOp, opd, Env.get, Env.put, Env.keep, zipEnv, V.ok, V.sto, V.cells, D.cells, V.isAgg, binD, binInt, binStr, shInt, unD, eqOf, asI, leave, resOf, mapO, fzV, tupOf, view, view1, isData, hand, flatV, flatD, allD, mkAgg, mkVal, beq_lit, IntKind.bits, htake_self, htake_push, hget_hpush_self, hset_push, rowOf_self, okIn, lowIn, lowIn1, fzC_d, fzC_row, f78, hload, w, w2, hb, hc]
/-- What the elements leave, one behind the other. -/
def spendF (f : Nat → Int → Int) : Nat → Nat → Int → Int
  | 0, _, l => l
  | n + 1, i, l => if f i l < 0 then -1 else spendF f n (i + 1) (f i l)
theorem spendF_le (f : Nat → Int → Int) (hf : ∀ i l, 0 ≤ l → f i l ≤ l) : ∀ (n i : Nat) (l : Int), 0 ≤ l → spendF f n i l ≤ l
  | 0, _, l, _ => Int.le_refl _
  | n + 1, i, l, h => by
    simp only [spendF]
    split
    · omega
    · have h1 := hf i l h
      have := spendF_le f hf n (i + 1) (f i l) (by omega)
      omega
def scF (xs : List Sc) (i : Nat) (l : Int) : Int := lessV (xs.getD i ([], 0)).1 l
def prF (xs : List Pr) (i : Nat) (l : Int) : Int := if lessV (xs.getD i ([], [])).1 l < 0 then -1 else lessV (xs.getD i ([], [])).2 (lessV (xs.getD i ([], [])).1 l)
theorem scF_le (xs : List Sc) (i : Nat) (l : Int) (h : 0 ≤ l) : scF xs i l ≤ l := (lessV_le _ l h).2
theorem prF_le (xs : List Pr) (i : Nat) (l : Int) (h : 0 ≤ l) : prF xs i l ≤ l := by
  unfold prF
  have h1 := lessV_le (xs.getD i ([], [])).1 l h
  split
  · omega
  · have := lessV_le (xs.getD i ([], [])).2 _ (show 0 ≤ lessV (xs.getD i ([], [])).1 l by omega)
    omega
/-- What a list leaves. -/
def leftF (f : Nat → Int → Int) (len : Nat) (l : Int) : Int := if l - (len : Int) < 0 then -1 else (if spendF f len 0 (l - len) < 0 then -1 else spendF f len 0 (l - len))
theorem leftF_le (f : Nat → Int → Int) (hf : ∀ i l, 0 ≤ l → f i l ≤ l) (len : Nat) (l : Int) (h : 0 ≤ l) : leftF f len l ≤ l ∧ (0 ≤ leftF f len l → (len : Int) ≤ l) := by
  unfold leftF
  split
  · omega
  · rename_i c
    have := spendF_le f hf len 0 (l - len) (by omega)
    split <;> omega
theorem l54 (n0 : Nat) (xs : List Sc) (hx : xs.length ≤ 9223372036854775807) (hf : ∀ i, ((xs.getD i ([], 0)).1).length ≤ 9223372036854775807) (H : Hp) : ∀ (n i : Nat) (l : Int) (e : Env), i + n = xs.length → 0 ≤ l → l ≤ 1048576 → e.get 0 = .d (.vals 2 (xs.map scD)) → e.get 1 = .d (.int .i64 l) → e.get 5 = .d (.int .i64 i) →
    ∃ e', evLoop (evCode (ev R) R.glob n0 evLoop f54l0) [0, 1, 5] ⟨e, H⟩ = some ((if spendF (scF xs) n i l < 0 then .ret else .exit 0), ⟨e', H⟩) ∧
      (spendF (scF xs) n i l < 0 → e'.get 4 = .d (.int .i64 (-1))) ∧ (¬ spendF (scF xs) n i l < 0 → e'.get 1 = .d (.int .i64 (spendF (scF xs) n i l)))
  | 0, i, l, e, hn, hl, hl2, h0, h1, h5 => by
    have c : ¬ (i : Int) < (xs.length : Int) := by omega
    have c' : ¬ i < xs.length := by omega
    have c2 : ¬ l < 0 := by omega
    rw [evLoop_eq]
    refine ⟨?_, ?_, ?_, ?_⟩
    rotate_left
    · simp [-List.getD_eq_getElem?_getD, -List.map_map, evBody, evCode, evOps, evOper, evOp, opd, Env.get, Env.put, Env.keep, zipEnv, V.ok, V.sto, V.cells, D.cells, V.isAgg, binD, binInt, binStr, shInt, unD, eqOf, asI, leave, resOf, mapO, fzV, tupOf, view, view1, isData, hand, flatV, flatD, allD, mkAgg, mkVal, beq_lit, IntKind.bits, htake_self, htake_push, hget_hpush_self, hset_push, rowOf_self, okIn, lowIn, lowIn1, fzC_d, fzC_row, f54l0, h0, h1, h5, c, c', spendF, c2]
      try rfl
    · intro hj; exact absurd hj c2
    · intro _
      simp [-List.getD_eq_getElem?_getD, -List.map_map, evBody, evCode, evOps, evOper, evOp, opd, Env.get, Env.put, Env.keep, zipEnv, V.ok, V.sto, V.cells, D.cells, V.isAgg, binD, binInt, binStr, shInt, unD, eqOf, asI, leave, resOf, mapO, fzV, tupOf, view, view1, isData, hand, flatV, flatD, allD, mkAgg, mkVal, beq_lit, IntKind.bits, htake_self, htake_push, hget_hpush_self, hset_push, rowOf_self, okIn, lowIn, lowIn1, fzC_d, fzC_row, h1, spendF]
  | n + 1, i, l, e, hn, hl, hl2, h0, h1, h5 => by
    have c' : i < xs.length := by omega
    have c : (i : Int) < (xs.length : Int) := by omega
    have g := scs_get xs i c'
    have hfi := hf i
    have w1 : IntKind.i64.wrap ((i : Int) + 1) = ((i + 1 : Nat) : Int) := by rw [IntWalk.i64_in _ (by omega)]; rfl
    have p := pureCall_eq (cl := ev R) fun H => e77 H (xs.getD i ([], 0)).1 (xs.getD i ([], 0)).2 (hfi) l hl hl2
    have lin := scF_le xs i l hl
    have ih := l54 n0 xs hx hf H n (i + 1) (scF xs i l)
    simp only [spendF]
    have ef : lessV (xs.getD i ([], 0)).1 l = scF xs i l := rfl
    rw [ef] at p
    obtain ⟨L, hL⟩ : ∃ L, scF xs i l = L := ⟨_, rfl⟩
    simp only [hL] at p lin ih ⊢
    generalize (xs.getD i ([], 0)) = X at *
    rw [evLoop_eq]
    generalize evLoop (evCode (ev R) R.glob n0 evLoop f54l0) [0, 1, 5] = F at ih ⊢
    by_cases hb : L < 0
    · simp only [hb, if_true]
      refine ⟨?_, ?_, ?_, ?_⟩
      rotate_left
      · simp [-List.getD_eq_getElem?_getD, -List.map_map, evBody, evCode, evOps, evOper, evOp, opd, Env.get, Env.put, Env.keep, zipEnv, V.ok, V.sto, V.cells, D.cells, V.isAgg, binD, binInt, binStr, shInt, unD, eqOf, asI, leave, resOf, mapO, fzV, tupOf, view, view1, isData, hand, flatV, flatD, allD, mkAgg, mkVal, beq_lit, IntKind.bits, htake_self, htake_push, hget_hpush_self, hset_push, rowOf_self, okIn, lowIn, lowIn1, fzC_d, fzC_row, f54l0, h0, h1, h5, c, c', g, p, hb]
        try rfl
      · intro hj; simp [-List.getD_eq_getElem?_getD, -List.map_map, evBody, evCode, evOps, evOper, evOp, opd, Env.get, Env.put, Env.keep, zipEnv, V.ok, V.sto, V.cells, D.cells, V.isAgg, binD, binInt, binStr, shInt, unD, eqOf, asI, leave, resOf, mapO, fzV, tupOf, view, view1, isData, hand, flatV, flatD, allD, mkAgg, mkVal, beq_lit, IntKind.bits, htake_self, htake_push, hget_hpush_self, hset_push, rowOf_self, okIn, lowIn, lowIn1, fzC_d, fzC_row]
      · intro hj; omega
    · simp only [hb, if_false]
      generalize spendF (scF xs) n (i + 1) L = z at ih ⊢
      have ih : ∀ e : Env, e.get 0 = .d (.vals 2 (xs.map scD)) → e.get 1 = .d (.int .i64 L) → e.get 5 = .d (.int .i64 (i + 1 : Nat)) → _ := fun e => ih e (by omega) (by omega) (by omega)
      by_cases hz : z < 0
      · simp only [hz, if_true, not_true, false_imp_iff, true_imp_iff, and_true] at ih ⊢
        simp [-List.getD_eq_getElem?_getD, -List.map_map, evBody, evCode, evOps, evOper, evOp, opd, Env.get, Env.put, Env.keep, zipEnv, V.ok, V.sto, V.cells, D.cells, V.isAgg, binD, binInt, binStr, shInt, unD, eqOf, asI, leave, resOf, mapO, fzV, tupOf, view, view1, isData, hand, flatV, flatD, allD, mkAgg, mkVal, beq_lit, IntKind.bits, htake_self, htake_push, hget_hpush_self, hset_push, rowOf_self, okIn, lowIn, lowIn1, fzC_d, fzC_row, f54l0, h0, h1, h5, c, c', g, p, w1, hb]
        all_goals (refine ih _ ?_ ?_ ?_ <;> rfl)
      · simp only [hz, if_false, not_false_iff, false_imp_iff, true_imp_iff, true_and] at ih ⊢
        simp [-List.getD_eq_getElem?_getD, -List.map_map, evBody, evCode, evOps, evOper, evOp, opd, Env.get, Env.put, Env.keep, zipEnv, V.ok, V.sto, V.cells, D.cells, V.isAgg, binD, binInt, binStr, shInt, unD, eqOf, asI, leave, resOf, mapO, fzV, tupOf, view, view1, isData, hand, flatV, flatD, allD, mkAgg, mkVal, beq_lit, IntKind.bits, htake_self, htake_push, hget_hpush_self, hset_push, rowOf_self, okIn, lowIn, lowIn1, fzC_d, fzC_row, f54l0, h0, h1, h5, c, c', g, p, w1, hb]
        all_goals (refine ih _ ?_ ?_ ?_ <;> rfl)
theorem e54 (H : Hp) (xs : List Sc) (hx : xs.length ≤ 9223372036854775807) (hf : ∀ i, ((xs.getD i ([], 0)).1).length ≤ 9223372036854775807) (l : Int) (hl : 0 ≤ l) (hl2 : l ≤ 1048576) : ev R 54 [.d (.vals 2 (xs.map scD)), .d (.int .i64 l)] H = some (.d (.int .i64 (leftF (scF xs) xs.length l)), H) := by
  refine ev_fn (fn := f54) rfl rfl ?_
  have w : IntKind.i64.wrap (l - (xs.length : Int)) = l - xs.length := IntWalk.i64_in _ (by omega)
  unfold leftF
  by_cases hb : l - (xs.length : Int) < 0
  · simp [-List.getD_eq_getElem?_getD, -List.map_map, evBody, evCode, evOps, evOper, evOp, opd, Env.get, Env.put, Env.keep, zipEnv, V.ok, V.sto, V.cells, D.cells, V.isAgg, binD, binInt, binStr, shInt, unD, eqOf, asI, leave, resOf, mapO, fzV, tupOf, view, view1, isData, hand, flatV, flatD, allD, mkAgg, mkVal, beq_lit, IntKind.bits, htake_self, htake_push, hget_hpush_self, hset_push, rowOf_self, okIn, lowIn, lowIn1, fzC_d, fzC_row, f54, w, hb]
  · obtain ⟨e', he, h1, h2⟩ := l54 (hlen H) xs hx hf H xs.length 0 (l - xs.length) [(0, .d (.vals 2 (xs.map scD))), (1, .d (.int .i64 (l - xs.length))), (5, .d (.int .i64 0))] (by omega) (by omega) (by omega) rfl rfl rfl
    generalize spendF (scF xs) xs.length 0 (l - xs.length) = z at he h1 h2 ⊢
    by_cases hz : z < 0
    · simp only [hz, if_true] at he
      simp [-List.getD_eq_getElem?_getD, -List.map_map, evBody, evCode, evOps, evOper, evOp, opd, Env.get, Env.put, Env.keep, zipEnv, V.ok, V.sto, V.cells, D.cells, V.isAgg, binD, binInt, binStr, shInt, unD, eqOf, asI, leave, resOf, mapO, fzV, tupOf, view, view1, isData, hand, flatV, flatD, allD, mkAgg, mkVal, beq_lit, IntKind.bits, htake_self, htake_push, hget_hpush_self, hset_push, rowOf_self, okIn, lowIn, lowIn1, fzC_d, fzC_row, f54, w, hb, he, h1 hz, hz]
    · simp only [hz, if_false] at he
      simp [-List.getD_eq_getElem?_getD, -List.map_map, evBody, evCode, evOps, evOper, evOp, opd, Env.get, Env.put, Env.keep, zipEnv, V.ok, V.sto, V.cells, D.cells, V.isAgg, binD, binInt, binStr, shInt, unD, eqOf, asI, leave, resOf, mapO, fzV, tupOf, view, view1, isData, hand, flatV, flatD, allD, mkAgg, mkVal, beq_lit, IntKind.bits, htake_self, htake_push, hget_hpush_self, hset_push, rowOf_self, okIn, lowIn, lowIn1, fzC_d, fzC_row, f54, w, hb, he, h2 hz, hz]
theorem l55 (n0 : Nat) (xs : List Pr) (hx : xs.length ≤ 9223372036854775807) (hf : ∀ i, ((xs.getD i ([], [])).1).length ≤ 9223372036854775807 ∧ ((xs.getD i ([], [])).2).length ≤ 9223372036854775807) (H : Hp) : ∀ (n i : Nat) (l : Int) (e : Env), i + n = xs.length → 0 ≤ l → l ≤ 1048576 → e.get 0 = .d (.vals 2 (xs.map prD)) → e.get 1 = .d (.int .i64 l) → e.get 5 = .d (.int .i64 i) →
    ∃ e', evLoop (evCode (ev R) R.glob n0 evLoop f55l0) [0, 1, 5] ⟨e, H⟩ = some ((if spendF (prF xs) n i l < 0 then .ret else .exit 0), ⟨e', H⟩) ∧
      (spendF (prF xs) n i l < 0 → e'.get 4 = .d (.int .i64 (-1))) ∧ (¬ spendF (prF xs) n i l < 0 → e'.get 1 = .d (.int .i64 (spendF (prF xs) n i l)))
  | 0, i, l, e, hn, hl, hl2, h0, h1, h5 => by
    have c : ¬ (i : Int) < (xs.length : Int) := by omega
    have c' : ¬ i < xs.length := by omega
    have c2 : ¬ l < 0 := by omega
    rw [evLoop_eq]
    refine ⟨?_, ?_, ?_, ?_⟩
    rotate_left
    · simp [-List.getD_eq_getElem?_getD, -List.map_map, evBody, evCode, evOps, evOper, evOp, opd, Env.get, Env.put, Env.keep, zipEnv, V.ok, V.sto, V.cells, D.cells, V.isAgg, binD, binInt, binStr, shInt, unD, eqOf, asI, leave, resOf, mapO, fzV, tupOf, view, view1, isData, hand, flatV, flatD, allD, mkAgg, mkVal, beq_lit, IntKind.bits, htake_self, htake_push, hget_hpush_self, hset_push, rowOf_self, okIn, lowIn, lowIn1, fzC_d, fzC_row, f55l0, h0, h1, h5, c, c', spendF, c2]
      try rfl
    · intro hj; exact absurd hj c2
    · intro _
      simp [-List.getD_eq_getElem?_getD, -List.map_map, evBody, evCode, evOps, evOper, evOp, opd, Env.get, Env.put, Env.keep, zipEnv, V.ok, V.sto, V.cells, D.cells, V.isAgg, binD, binInt, binStr, shInt, unD, eqOf, asI, leave, resOf, mapO, fzV, tupOf, view, view1, isData, hand, flatV, flatD, allD, mkAgg, mkVal, beq_lit, IntKind.bits, htake_self, htake_push, hget_hpush_self, hset_push, rowOf_self, okIn, lowIn, lowIn1, fzC_d, fzC_row, h1, spendF]
  | n + 1, i, l, e, hn, hl, hl2, h0, h1, h5 => by
    have c' : i < xs.length := by omega
    have c : (i : Int) < (xs.length : Int) := by omega
    have g := prs_get xs i c'
    have hfi := hf i
    have w1 : IntKind.i64.wrap ((i : Int) + 1) = ((i + 1 : Nat) : Int) := by rw [IntWalk.i64_in _ (by omega)]; rfl
    have p := pureCall_eq (cl := ev R) fun H => e78 H (xs.getD i ([], [])).1 (xs.getD i ([], [])).2 hfi.1 hfi.2 l hl hl2
    have lin := prF_le xs i l hl
    have ih := l55 n0 xs hx hf H n (i + 1) (prF xs i l)
    simp only [spendF]
    have ef : (if lessV (xs.getD i ([], [])).1 l < 0 then -1 else lessV (xs.getD i ([], [])).2 (lessV (xs.getD i ([], [])).1 l)) = prF xs i l := rfl
    rw [ef] at p
    obtain ⟨L, hL⟩ : ∃ L, prF xs i l = L := ⟨_, rfl⟩
    simp only [hL] at p lin ih ⊢
    generalize (xs.getD i ([], [])) = X at *
    rw [evLoop_eq]
    generalize evLoop (evCode (ev R) R.glob n0 evLoop f55l0) [0, 1, 5] = F at ih ⊢
    by_cases hb : L < 0
    · simp only [hb, if_true]
      refine ⟨?_, ?_, ?_, ?_⟩
      rotate_left
      · simp [-List.getD_eq_getElem?_getD, -List.map_map, evBody, evCode, evOps, evOper, evOp, opd, Env.get, Env.put, Env.keep, zipEnv, V.ok, V.sto, V.cells, D.cells, V.isAgg, binD, binInt, binStr, shInt, unD, eqOf, asI, leave, resOf, mapO, fzV, tupOf, view, view1, isData, hand, flatV, flatD, allD, mkAgg, mkVal, beq_lit, IntKind.bits, htake_self, htake_push, hget_hpush_self, hset_push, rowOf_self, okIn, lowIn, lowIn1, fzC_d, fzC_row, f55l0, h0, h1, h5, c, c', g, p, hb]
        try rfl
      · intro hj; simp [-List.getD_eq_getElem?_getD, -List.map_map, evBody, evCode, evOps, evOper, evOp, opd, Env.get, Env.put, Env.keep, zipEnv, V.ok, V.sto, V.cells, D.cells, V.isAgg, binD, binInt, binStr, shInt, unD, eqOf, asI, leave, resOf, mapO, fzV, tupOf, view, view1, isData, hand, flatV, flatD, allD, mkAgg, mkVal, beq_lit, IntKind.bits, htake_self, htake_push, hget_hpush_self, hset_push, rowOf_self, okIn, lowIn, lowIn1, fzC_d, fzC_row]
      · intro hj; omega
    · simp only [hb, if_false]
      generalize spendF (prF xs) n (i + 1) L = z at ih ⊢
      have ih : ∀ e : Env, e.get 0 = .d (.vals 2 (xs.map prD)) → e.get 1 = .d (.int .i64 L) → e.get 5 = .d (.int .i64 (i + 1 : Nat)) → _ := fun e => ih e (by omega) (by omega) (by omega)
      by_cases hz : z < 0
      · simp only [hz, if_true, not_true, false_imp_iff, true_imp_iff, and_true] at ih ⊢
        simp [-List.getD_eq_getElem?_getD, -List.map_map, evBody, evCode, evOps, evOper, evOp, opd, Env.get, Env.put, Env.keep, zipEnv, V.ok, V.sto, V.cells, D.cells, V.isAgg, binD, binInt, binStr, shInt, unD, eqOf, asI, leave, resOf, mapO, fzV, tupOf, view, view1, isData, hand, flatV, flatD, allD, mkAgg, mkVal, beq_lit, IntKind.bits, htake_self, htake_push, hget_hpush_self, hset_push, rowOf_self, okIn, lowIn, lowIn1, fzC_d, fzC_row, f55l0, h0, h1, h5, c, c', g, p, w1, hb]
        all_goals (refine ih _ ?_ ?_ ?_ <;> rfl)
      · simp only [hz, if_false, not_false_iff, false_imp_iff, true_imp_iff, true_and] at ih ⊢
        simp [-List.getD_eq_getElem?_getD, -List.map_map, evBody, evCode, evOps, evOper, evOp, opd, Env.get, Env.put, Env.keep, zipEnv, V.ok, V.sto, V.cells, D.cells, V.isAgg, binD, binInt, binStr, shInt, unD, eqOf, asI, leave, resOf, mapO, fzV, tupOf, view, view1, isData, hand, flatV, flatD, allD, mkAgg, mkVal, beq_lit, IntKind.bits, htake_self, htake_push, hget_hpush_self, hset_push, rowOf_self, okIn, lowIn, lowIn1, fzC_d, fzC_row, f55l0, h0, h1, h5, c, c', g, p, w1, hb]
        all_goals (refine ih _ ?_ ?_ ?_ <;> rfl)
theorem e55 (H : Hp) (xs : List Pr) (hx : xs.length ≤ 9223372036854775807) (hf : ∀ i, ((xs.getD i ([], [])).1).length ≤ 9223372036854775807 ∧ ((xs.getD i ([], [])).2).length ≤ 9223372036854775807) (l : Int) (hl : 0 ≤ l) (hl2 : l ≤ 1048576) : ev R 55 [.d (.vals 2 (xs.map prD)), .d (.int .i64 l)] H = some (.d (.int .i64 (leftF (prF xs) xs.length l)), H) := by
  refine ev_fn (fn := f55) rfl rfl ?_
  have w : IntKind.i64.wrap (l - (xs.length : Int)) = l - xs.length := IntWalk.i64_in _ (by omega)
  unfold leftF
  by_cases hb : l - (xs.length : Int) < 0
  · simp [-List.getD_eq_getElem?_getD, -List.map_map, evBody, evCode, evOps, evOper, evOp, opd, Env.get, Env.put, Env.keep, zipEnv, V.ok, V.sto, V.cells, D.cells, V.isAgg, binD, binInt, binStr, shInt, unD, eqOf, asI, leave, resOf, mapO, fzV, tupOf, view, view1, isData, hand, flatV, flatD, allD, mkAgg, mkVal, beq_lit, IntKind.bits, htake_self, htake_push, hget_hpush_self, hset_push, rowOf_self, okIn, lowIn, lowIn1, fzC_d, fzC_row, f55, w, hb]
  · obtain ⟨e', he, h1, h2⟩ := l55 (hlen H) xs hx hf H xs.length 0 (l - xs.length) [(0, .d (.vals 2 (xs.map prD))), (1, .d (.int .i64 (l - xs.length))), (5, .d (.int .i64 0))] (by omega) (by omega) (by omega) rfl rfl rfl
    generalize spendF (prF xs) xs.length 0 (l - xs.length) = z at he h1 h2 ⊢
    by_cases hz : z < 0
    · simp only [hz, if_true] at he
      simp [-List.getD_eq_getElem?_getD, -List.map_map, evBody, evCode, evOps, evOper, evOp, opd, Env.get, Env.put, Env.keep, zipEnv, V.ok, V.sto, V.cells, D.cells, V.isAgg, binD, binInt, binStr, shInt, unD, eqOf, asI, leave, resOf, mapO, fzV, tupOf, view, view1, isData, hand, flatV, flatD, allD, mkAgg, mkVal, beq_lit, IntKind.bits, htake_self, htake_push, hget_hpush_self, hset_push, rowOf_self, okIn, lowIn, lowIn1, fzC_d, fzC_row, f55, w, hb, he, h1 hz, hz]
    · simp only [hz, if_false] at he
      simp [-List.getD_eq_getElem?_getD, -List.map_map, evBody, evCode, evOps, evOper, evOp, opd, Env.get, Env.put, Env.keep, zipEnv, V.ok, V.sto, V.cells, D.cells, V.isAgg, binD, binInt, binStr, shInt, unD, eqOf, asI, leave, resOf, mapO, fzV, tupOf, view, view1, isData, hand, flatV, flatD, allD, mkAgg, mkVal, beq_lit, IntKind.bits, htake_self, htake_push, hget_hpush_self, hset_push, rowOf_self, okIn, lowIn, lowIn1, fzC_d, fzC_row, f55, w, hb, he, h2 hz, hz]
def leftG (xs : List Txt) (l : Int) : Int := if l - (xs.length : Int) < 0 then -1 else (if spend xs xs.length 0 (l - xs.length) < 0 then -1 else spend xs xs.length 0 (l - xs.length))
theorem e29g (H : Hp) (xs : List Txt) (hx : xs.length ≤ 9223372036854775807) (hs : ∀ i, (xs.getD i []).length ≤ 9223372036854775807) (l : Int) (hl : 0 ≤ l) (hl2 : l ≤ 1048576) : ev R 29 [.d (txts xs), .d (.int .i64 l)] H = some (.d (.int .i64 (leftG xs l)), H) := by
  refine ev_fn (fn := f29) rfl rfl ?_
  have w : IntKind.i64.wrap (l - (xs.length : Int)) = l - xs.length := IntWalk.i64_in _ (by omega)
  unfold leftG
  by_cases hb : l - (xs.length : Int) < 0
  · simp [-List.getD_eq_getElem?_getD, -List.map_map, evBody, evCode, evOps, evOper, evOp, opd, Env.get, Env.put, Env.keep, zipEnv, V.ok, V.sto, V.cells, D.cells, V.isAgg, binD, binInt, binStr, shInt, unD, eqOf, asI, leave, resOf, mapO, fzV, tupOf, view, view1, isData, hand, flatV, flatD, allD, mkAgg, mkVal, beq_lit, IntKind.bits, htake_self, htake_push, hget_hpush_self, hset_push, rowOf_self, okIn, lowIn, lowIn1, fzC_d, fzC_row, f29, txts, w, hb]
  · obtain ⟨e', he, h1, h2⟩ := l29 (hlen H) xs hx hs H xs.length 0 (l - xs.length) [(0, .d (txts xs)), (1, .d (.int .i64 (l - xs.length))), (5, .d (.int .i64 0))] (by omega) (by omega) (by omega) rfl rfl rfl
    generalize spend xs xs.length 0 (l - xs.length) = z at he h1 h2 ⊢
    by_cases hz : z < 0
    · simp only [hz, if_true] at he
      simp [-List.getD_eq_getElem?_getD, -List.map_map, evBody, evCode, evOps, evOper, evOp, opd, Env.get, Env.put, Env.keep, zipEnv, V.ok, V.sto, V.cells, D.cells, V.isAgg, binD, binInt, binStr, shInt, unD, eqOf, asI, leave, resOf, mapO, fzV, tupOf, view, view1, isData, hand, flatV, flatD, allD, mkAgg, mkVal, beq_lit, IntKind.bits, htake_self, htake_push, hget_hpush_self, hset_push, rowOf_self, okIn, lowIn, lowIn1, fzC_d, fzC_row, f29, txts, w, hb, he, h1 hz, hz]
    · simp only [hz, if_false] at he
      simp [-List.getD_eq_getElem?_getD, -List.map_map, evBody, evCode, evOps, evOper, evOp, opd, Env.get, Env.put, Env.keep, zipEnv, V.ok, V.sto, V.cells, D.cells, V.isAgg, binD, binInt, binStr, shInt, unD, eqOf, asI, leave, resOf, mapO, fzV, tupOf, view, view1, isData, hand, flatV, flatD, allD, mkAgg, mkVal, beq_lit, IntKind.bits, htake_self, htake_push, hget_hpush_self, hset_push, rowOf_self, okIn, lowIn, lowIn1, fzC_d, fzC_row, f29, txts, w, hb, he, h2 hz, hz]
theorem spend_le (xs : List Txt) : ∀ (n i : Nat) (l : Int), 0 ≤ l → spend xs n i l ≤ l
  | 0, _, l, _ => Int.le_refl _
  | n + 1, i, l, h => by
    simp only [spend]
    split
    · omega
    · have := spend_le xs n (i + 1) (l - (xs.getD i []).length) (by omega)
      omega
theorem leftG_in (xs : List Txt) (l : Int) (h : 0 ≤ leftG xs l) : (xs.length : Int) ≤ l ∧ leftG xs l ≤ l := by
  unfold leftG at h ⊢
  by_cases hb : l - (xs.length : Int) < 0
  · rw [if_pos hb] at h; omega
  · rw [if_neg hb] at h ⊢
    have := spend_le xs xs.length 0 (l - xs.length) (by omega)
    split at h
    · omega
    · rename_i c
      rw [if_neg c]; omega
/-- What an entry leaves. -/
def szE (e : En) : Int :=
  if lessV e.key 1048576 < 0 then -1 else
  if lessV e.text (lessV e.key 1048576) < 0 then -1 else
  if leftG e.list (lessV e.text (lessV e.key 1048576)) < 0 then -1 else
  if leftF (scF e.scores) e.scores.length (leftG e.list (lessV e.text (lessV e.key 1048576))) < 0 then -1 else
  if leftF (prF e.fields) e.fields.length (leftF (scF e.scores) e.scores.length (leftG e.list (lessV e.text (lessV e.key 1048576)))) < 0 then -1 else
  leftF (prF e.fields) e.fields.length (leftF (scF e.scores) e.scores.length (leftG e.list (lessV e.text (lessV e.key 1048576))))
theorem e23 (H : Hp) (e : En) (hf : EnFit e) : ev R 23 [.d (enD e), .d (.int .i64 1048576)] H = some (.d (.int .i64 (szE e)), H) := by
  refine ev_fn (fn := f23) rfl rfl ?_
  obtain ⟨f1, f2, f3, f4, f5, f6, f7, f8, _, _⟩ := hf
  have w1 : IntKind.i64.wrap (1048576 - (e.key.length : Int)) = 1048576 - e.key.length := IntWalk.i64_in _ (by omega)
  unfold szE
  have k1 : (lessV e.key 1048576) = if 1048576 - (e.key.length : Int) < 0 then (-1 : Int) else 1048576 - (e.key.length : Int) := rfl
  by_cases c1 : 1048576 - (e.key.length : Int) < 0
  · rw [if_pos c1] at k1
    rw [k1]
    simp [-List.getD_eq_getElem?_getD, -List.map_map, evBody, evCode, evOps, evOper, evOp, opd, Env.get, Env.put, Env.keep, zipEnv, V.ok, V.sto, V.cells, D.cells, V.isAgg, binD, binInt, binStr, shInt, unD, eqOf, asI, leave, resOf, mapO, fzV, tupOf, view, view1, isData, hand, flatV, flatD, allD, mkAgg, mkVal, beq_lit, IntKind.bits, htake_self, htake_push, hget_hpush_self, hset_push, rowOf_self, okIn, lowIn, lowIn1, fzC_d, fzC_row, f23, enD, hload, w1, c1]
  · rw [if_neg c1] at k1
    have c1' : ¬ lessV e.key 1048576 < 0 := by omega
    have l1 : lessV e.key 1048576 ≤ 1048576 := by omega
    rw [if_neg c1']
    generalize lessV e.key 1048576 = L1 at *
    have w1 : IntKind.i64.wrap (1048576 - (e.key.length : Int)) = L1 := by rw [w1]; omega
    have c1 : ¬ L1 < 0 := by omega
    have w2 : IntKind.i64.wrap (L1 - (e.text.length : Int)) = L1 - e.text.length := IntWalk.i64_in _ (by omega)
    have k2 : (lessV e.text L1) = if L1 - (e.text.length : Int) < 0 then (-1 : Int) else L1 - (e.text.length : Int) := rfl
    by_cases c2 : L1 - (e.text.length : Int) < 0
    · rw [if_pos c2] at k2
      rw [k2]
      simp [-List.getD_eq_getElem?_getD, -List.map_map, evBody, evCode, evOps, evOper, evOp, opd, Env.get, Env.put, Env.keep, zipEnv, V.ok, V.sto, V.cells, D.cells, V.isAgg, binD, binInt, binStr, shInt, unD, eqOf, asI, leave, resOf, mapO, fzV, tupOf, view, view1, isData, hand, flatV, flatD, allD, mkAgg, mkVal, beq_lit, IntKind.bits, htake_self, htake_push, hget_hpush_self, hset_push, rowOf_self, okIn, lowIn, lowIn1, fzC_d, fzC_row, f23, enD, hload, w1, c1, w2, c2]
    · rw [if_neg c2] at k2
      have c2' : ¬ lessV e.text L1 < 0 := by omega
      have l2 : lessV e.text L1 ≤ 1048576 := by omega
      rw [if_neg c2']
      generalize lessV e.text L1 = L2 at *
      have w2 : IntKind.i64.wrap (L1 - (e.text.length : Int)) = L2 := by rw [w2]; omega
      have c2 : ¬ L2 < 0 := by omega
      have p3 := pureCall_eq (cl := ev R) fun H => e29g H e.list f3 f4 L2 (by omega) l2
      have b3 := leftG_in e.list L2
      generalize leftG e.list L2 = L3 at *
      simp only [txts] at p3
      by_cases c3 : L3 < 0
      · rw [if_pos c3]
        simp [-List.getD_eq_getElem?_getD, -List.map_map, evBody, evCode, evOps, evOper, evOp, opd, Env.get, Env.put, Env.keep, zipEnv, V.ok, V.sto, V.cells, D.cells, V.isAgg, binD, binInt, binStr, shInt, unD, eqOf, asI, leave, resOf, mapO, fzV, tupOf, view, view1, isData, hand, flatV, flatD, allD, mkAgg, mkVal, beq_lit, IntKind.bits, htake_self, htake_push, hget_hpush_self, hset_push, rowOf_self, okIn, lowIn, lowIn1, fzC_d, fzC_row, f23, enD, txts, scs, prs, hload, w1, c1, w2, c2, p3, c3]
      · rw [if_neg c3]
        have b3 := b3 (by omega)
        have p4 := pureCall_eq (cl := ev R) fun H => e54 H e.scores f5 f6 L3 (by omega) (by omega)
        have b4 := (leftF_le (scF e.scores) (scF_le e.scores) e.scores.length L3 (by omega)).1
        generalize leftF (scF e.scores) e.scores.length L3 = L4 at *
        by_cases c4 : L4 < 0
        · rw [if_pos c4]
          simp [-List.getD_eq_getElem?_getD, -List.map_map, evBody, evCode, evOps, evOper, evOp, opd, Env.get, Env.put, Env.keep, zipEnv, V.ok, V.sto, V.cells, D.cells, V.isAgg, binD, binInt, binStr, shInt, unD, eqOf, asI, leave, resOf, mapO, fzV, tupOf, view, view1, isData, hand, flatV, flatD, allD, mkAgg, mkVal, beq_lit, IntKind.bits, htake_self, htake_push, hget_hpush_self, hset_push, rowOf_self, okIn, lowIn, lowIn1, fzC_d, fzC_row, f23, enD, txts, scs, prs, hload, w1, c1, w2, c2, p3, c3, p4, c4]
        · rw [if_neg c4]
          have p5 := pureCall_eq (cl := ev R) fun H => e55 H e.fields f7 f8 L4 (by omega) (by omega)
          generalize leftF (prF e.fields) e.fields.length L4 = L5 at *
          by_cases c5 : L5 < 0
          · rw [if_pos c5]
            simp [-List.getD_eq_getElem?_getD, -List.map_map, evBody, evCode, evOps, evOper, evOp, opd, Env.get, Env.put, Env.keep, zipEnv, V.ok, V.sto, V.cells, D.cells, V.isAgg, binD, binInt, binStr, shInt, unD, eqOf, asI, leave, resOf, mapO, fzV, tupOf, view, view1, isData, hand, flatV, flatD, allD, mkAgg, mkVal, beq_lit, IntKind.bits, htake_self, htake_push, hget_hpush_self, hset_push, rowOf_self, okIn, lowIn, lowIn1, fzC_d, fzC_row, f23, enD, txts, scs, prs, hload, w1, c1, w2, c2, p3, c3, p4, c4, p5, c5]
          · rw [if_neg c5]
            simp [-List.getD_eq_getElem?_getD, -List.map_map, evBody, evCode, evOps, evOper, evOp, opd, Env.get, Env.put, Env.keep, zipEnv, V.ok, V.sto, V.cells, D.cells, V.isAgg, binD, binInt, binStr, shInt, unD, eqOf, asI, leave, resOf, mapO, fzV, tupOf, view, view1, isData, hand, flatV, flatD, allD, mkAgg, mkVal, beq_lit, IntKind.bits, htake_self, htake_push, hget_hpush_self, hset_push, rowOf_self, okIn, lowIn, lowIn1, fzC_d, fzC_row, f23, enD, txts, scs, prs, hload, w1, c1, w2, c2, p3, c3, p4, c4, p5, c5]
end Go.Proofs.YtpmphmpaeooeeaaDoorO.Code
/- Lists of texts, drawn. -/
namespace Go.Proofs.YtpmphmpaeooeeaaDoorO.Code
open Go Go.Ev Go.Proofs
set_option maxRecDepth 100000
set_option linter.unusedSimpArgs false
set_option linter.unusedVariables false
def textsV (bs : List Int) : Nat → Int → List Txt
  | 0, _ => []
  | n + 1, p => textV bs p :: textsV bs n (p + 1)
theorem textsV_len (bs : List Int) : ∀ (n : Nat) (p : Int), (textsV bs n p).length = n
  | 0, _ => rfl
  | n + 1, p => by simp [textsV, textsV_len bs n (p + 1)]
/-- A row of texts. -/
def rowT (k : Nat) (ts : List Txt) : Ev.Obj := .row k 1 ((ts.map D.str).map V.d)
theorem hget_behind {H : Hp} {r : Nat} {o : Ev.Obj} {bs : List Int} {p : Int} (h : hget H r = some (rd bs p)) (q : Int) : hget (hpush (hset H r (rd bs q)) o) r = some (rd bs q) := by
  have hl := hget_lt h
  rw [hget_hpush_lt _ (by rw [hlen_hset]; exact hl), hget_hset_self _ hl]
theorem rowT_row {H : Hp} {k : Nat} {ts : List Txt} {n : Nat} (hn : n = hlen H) : rowOf (hpush H (rowT k ts)) n k = some (1, (ts.map D.str).map V.d) := by
  subst hn; exact rowOf_self _ _ _ _
theorem rowT_set {H : Hp} {k : Nat} {ts : List Txt} {t : Txt} {n : Nat} (hn : n = hlen H) (o : Ev.Obj) : hset (hpush H o) n (.row k 1 ((ts.map D.str).map V.d ++ [.d (.str t)])) = hpush H (rowT k (ts ++ [t])) := by
  subst hn
  rw [hset_push]
  simp [rowT]
theorem allD_d : ∀ (ds : List D), allD (ds.map V.d) = some ds
  | [] => rfl
  | d :: ds => by simp only [List.map_cons, allD, allD_d ds]
/-- A list that grows to the most there may be, or one more. -/
def growV (bs : List Int) : Nat → Int → List Txt → List Txt × Int
  | 0, p, ts => (ts, p)
  | f + 1, p, ts => if (ts.length : Int) < 16 + pickV bs p 2 then growV bs f (p + 1) (ts ++ [[110] ++ decV ts.length]) else (ts, p + 1)
theorem rowT_fz {H X : Hp} (hl : hlen H = hlen X) (k : Nat) (ts : List Txt) : fzC (hlen H) (hpush X (rowT k ts)) (.slc (hlen H) k 0 ts.length) = some (.d (txts ts)) := by
  rw [hl]
  exact fzC_row X k 1 _ _ (by simp)
theorem rowT_take {H X : Hp} (hl : hlen H = hlen X) (o : Ev.Obj) : htake (hpush X o) (hlen H) = X := by
  rw [hl]; exact htake_push _ _
/-- Any list of texts, drawn. -/
def anyV (bs : List Int) (p : Int) : List Txt × Int :=
  if pickV bs (p + 1 + ((pickV bs p 7).toNat : Int)) 16 = 0 then (textsV bs (pickV bs p 7).toNat (p + 1) ++ [many [121] 41 []], p + 1 + ((pickV bs p 7).toNat : Int) + 1)
  else if pickV bs (p + 1 + ((pickV bs p 7).toNat : Int)) 16 = 1 then growV bs (18 - (pickV bs p 7).toNat) (p + 1 + ((pickV bs p 7).toNat : Int) + 1) (textsV bs (pickV bs p 7).toNat (p + 1))
  else (textsV bs (pickV bs p 7).toNat (p + 1), p + 1 + ((pickV bs p 7).toNat : Int) + 1)
end Go.Proofs.YtpmphmpaeooeeaaDoorO.Code
/- Lists of lists of texts, marked in place and found so again. -/
namespace Go.Proofs.YtpmphmpaeooeeaaDoorO.Code
open Go Go.Ev Go.Proofs
set_option maxRecDepth 100000
set_option linter.unusedSimpArgs false
set_option linter.unusedVariables false
/-- Lists of texts, as data. -/
def textss (xss : List (List Txt)) : List D := xss.map fun xs => txts xs
theorem textss_get (xss : List (List Txt)) (i : Nat) (hi : i < xss.length) : (textss xss).getD i .nilp = txts (xss.getD i []) := by
  simp [textss, List.getD_eq_getElem?_getD, hi]
theorem textss_len (xss : List (List Txt)) : (textss xss).length = xss.length := by simp [textss]
def digM (n : Nat) (out : Txt) : Txt := if h : n = 0 then out else digM (n / 10) (UInt8.ofNat (48 + n % 10) :: out)
termination_by n
decreasing_by omega
theorem digM_len (n : Nat) : ∀ out : Txt, (digM n out).length ≤ out.length + n := by
  induction n using Nat.strongRecOn with
  | _ n ih =>
    intro out
    rw [digM]
    split
    · omega
    · have := ih (n / 10) (by omega) (UInt8.ofNat (48 + n % 10) :: out)
      rw [List.length_cons] at this
      omega
/-- The text of a mark. -/
def markV (n : Nat) : Txt := if n = 0 then [109, 48] else 109 :: digM n []
theorem l76 (n0 : Nat) (H : Hp) (n : Nat) : ∀ (out : Txt) (e : Env), out.length + n ≤ 100000000 → e.get 0 = .d (.int .i64 n) → e.get 3 = .d (.str out) →
    ∃ e', evLoop (evCode (ev R) R.glob n0 evLoop f76l0) [0, 3] ⟨e, H⟩ = some (.exit 0, ⟨e', H⟩) ∧ e'.get 3 = .d (.str (digM n out)) := by
  induction n using Nat.strongRecOn with
  | _ n ih =>
    intro out e hl h0 h3
    rw [evLoop_eq, digM]
    by_cases c : n = 0
    · subst c
      rw [dif_pos rfl]
      refine ⟨?_, ?_, ?_⟩
      rotate_left
      · simp [-List.getD_eq_getElem?_getD, -List.map_map, evBody, evCode, evOps, evOper, evOp, opd, Env.get, Env.put, Env.keep, zipEnv, V.ok, V.sto, V.cells, D.cells, V.isAgg, binD, binInt, binStr, shInt, unD, eqOf, asI, leave, resOf, mapO, fzV, tupOf, view, view1, isData, hand, flatV, flatD, allD, mkAgg, mkVal, beq_lit, IntKind.bits, htake_self, htake_push, hget_hpush_self, hset_push, rowOf_self, okIn, lowIn, lowIn1, fzC_d, fzC_row, f76l0, h0, h3]
        try rfl
      · simp [-List.getD_eq_getElem?_getD, -List.map_map, evBody, evCode, evOps, evOper, evOp, opd, Env.get, Env.put, Env.keep, zipEnv, V.ok, V.sto, V.cells, D.cells, V.isAgg, binD, binInt, binStr, shInt, unD, eqOf, asI, leave, resOf, mapO, fzV, tupOf, view, view1, isData, hand, flatV, flatD, allD, mkAgg, mkVal, beq_lit, IntKind.bits, htake_self, htake_push, hget_hpush_self, hset_push, rowOf_self, okIn, lowIn, lowIn1, fzC_d, fzC_row, h3]
    · rw [dif_neg c]
      have ih := ih (n / 10) (by omega) (UInt8.ofNat (48 + n % 10) :: out)
      obtain ⟨k, hk⟩ : ∃ k : Int, ((n / 10 : Nat) : Int) = k := ⟨_, rfl⟩
      obtain ⟨d, hd⟩ : ∃ d : Int, (n : Int).tmod 10 = d := ⟨_, rfl⟩
      have hd' : d = ((n % 10 : Nat) : Int) := by rw [← hd, Int.tmod_eq_emod_of_nonneg (by omega)]; omega
      have w0 : IntKind.i64.wrap ((n : Int).tdiv 10) = k := by rw [Int.tdiv_eq_ediv_of_nonneg (by omega), IntWalk.i64_in _ (by omega)]; omega
      have w0' : IntKind.i64.wrap ((n : Int) / 10) = k := by rw [IntWalk.i64_in _ (by omega)]; omega
      have hd2 : (n : Int) % 10 = d := by omega
      have w1 : IntKind.i64.wrap (48 + d) = 48 + d := IntWalk.i64_in _ (by omega)
      have w2 : IntKind.u8.wrap (48 + d) = 48 + d := IntWalk.u8_in _ (by omega)
      have t : (48 + d).toNat = 48 + n % 10 := by omega
      have l : 1 + out.length ≤ strRoom := by unfold strRoom; omega
      have l' : out.length + 1 ≤ strRoom := by unfold strRoom; omega
      have c1 : (0 : Int) < (n : Int) := by omega
      have c2 : 0 < n := by omega
      rw [hk] at ih
      obtain ⟨N, hN⟩ : ∃ N, 48 + n % 10 = N := ⟨_, rfl⟩
      rw [hN] at t ih ⊢
      generalize digM (n / 10) (UInt8.ofNat N :: out) = res at ih ⊢
      generalize evLoop (evCode (ev R) R.glob n0 evLoop f76l0) [0, 3] = F at ih ⊢
      simp [-List.getD_eq_getElem?_getD, -List.map_map, evBody, evCode, evOps, evOper, evOp, opd, Env.get, Env.put, Env.keep, zipEnv, V.ok, V.sto, V.cells, D.cells, V.isAgg, binD, binInt, binStr, shInt, unD, eqOf, asI, leave, resOf, mapO, fzV, tupOf, view, view1, isData, hand, flatV, flatD, allD, mkAgg, mkVal, beq_lit, IntKind.bits, htake_self, htake_push, hget_hpush_self, hset_push, rowOf_self, okIn, lowIn, lowIn1, fzC_d, fzC_row, f76l0, h0, h3, c1, c2, c, w0, w0', hd, hd2, w1, w2, t, l, l', src, strOf]
      refine ih _ (by simp; omega) ?_ ?_ <;> rfl
theorem e76 (H : Hp) (n : Nat) (hn : n ≤ 50000000) : ev R 76 [.d (.int .i64 n)] H = some (.d (.str (markV n)), H) := by
  refine ev_fn (fn := f76) rfl rfl ?_
  unfold markV
  by_cases c : n = 0
  · subst c
    simp [-List.getD_eq_getElem?_getD, -List.map_map, evBody, evCode, evOps, evOper, evOp, opd, Env.get, Env.put, Env.keep, zipEnv, V.ok, V.sto, V.cells, D.cells, V.isAgg, binD, binInt, binStr, shInt, unD, eqOf, asI, leave, resOf, mapO, fzV, tupOf, view, view1, isData, hand, flatV, flatD, allD, mkAgg, mkVal, beq_lit, IntKind.bits, htake_self, htake_push, hget_hpush_self, hset_push, rowOf_self, okIn, lowIn, lowIn1, fzC_d, fzC_row, f76]
  · obtain ⟨e', he, h3⟩ := l76 (hlen H) H n [] [(0, .d (.int .i64 n)), (3, .d (.str []))] (by simp; omega) rfl rfl
    have dl := digM_len n []
    simp only [List.length_nil] at dl
    have l : 1 + (digM n []).length ≤ strRoom := by unfold strRoom; omega
    have l' : (digM n []).length + 1 ≤ strRoom := by unfold strRoom; omega
    have c1 : ¬ (n : Int) ≤ 0 := by omega
    rw [if_neg c]
    generalize digM n [] = x at *
    simp [-List.getD_eq_getElem?_getD, -List.map_map, evBody, evCode, evOps, evOper, evOp, opd, Env.get, Env.put, Env.keep, zipEnv, V.ok, V.sto, V.cells, D.cells, V.isAgg, binD, binInt, binStr, shInt, unD, eqOf, asI, leave, resOf, mapO, fzV, tupOf, view, view1, isData, hand, flatV, flatD, allD, mkAgg, mkVal, beq_lit, IntKind.bits, htake_self, htake_push, hget_hpush_self, hset_push, rowOf_self, okIn, lowIn, lowIn1, fzC_d, fzC_row, f76, he, h3, c, c1, l, l']
/-- The marks of a list. -/
def marks (at' : Nat) : Nat → List Txt
  | 0 => []
  | n + 1 => markV at' :: marks (at' + 1) n
theorem marks_len : ∀ (n a : Nat), (marks a n).length = n
  | 0, _ => rfl
  | n + 1, a => by simp [marks, marks_len n (a + 1)]
theorem marks_get : ∀ (n a i : Nat), i < n → (marks a n).getD i [] = markV (a + i)
  | n + 1, a, 0, _ => rfl
  | n + 1, a, i + 1, h => by
    simp only [marks, List.getD_cons_succ]
    rw [marks_get n (a + 1) i (by omega)]
    congr 1; omega
/-- Found so again. -/
theorem l53 (n0 : Nat) (H : Hp) (N a : Nat) (ha : a + N ≤ 50000000) : ∀ (n i : Nat) (e : Env), i + n = N → e.get 0 = .d (txts (marks a N)) → e.get 1 = .d (.int .i64 (a + i : Nat)) → e.get 5 = .d (.int .i64 i) →
    ∃ e', evLoop (evCode (ev R) R.glob n0 evLoop f53l0) [0, 1, 5] ⟨e, H⟩ = some (.exit 0, ⟨e', H⟩) ∧ e'.get 1 = .d (.int .i64 (a + N : Nat))
  | 0, i, e, hi, h0, h1, h5 => by
    have ml : ((marks a N).length : Int) = (N : Int) := by rw [marks_len]
    have c : ¬ (i : Int) < ((marks a N).length : Int) := by rw [marks_len]; omega
    have c' : ¬ i < (marks a N).length := by rw [marks_len]; omega
    have hN : i = N := by omega
    subst hN
    rw [evLoop_eq]
    refine ⟨?_, ?_, ?_⟩
    rotate_left
    · simp [-List.getD_eq_getElem?_getD, -List.map_map, evBody, evCode, evOps, evOper, evOp, opd, Env.get, Env.put, Env.keep, zipEnv, V.ok, V.sto, V.cells, D.cells, V.isAgg, binD, binInt, binStr, shInt, unD, eqOf, asI, leave, resOf, mapO, fzV, tupOf, view, view1, isData, hand, flatV, flatD, allD, mkAgg, mkVal, beq_lit, IntKind.bits, htake_self, htake_push, hget_hpush_self, hset_push, rowOf_self, okIn, lowIn, lowIn1, fzC_d, fzC_row, f53l0, h0, h1, h5, c, c', txts]
      try rfl
    · simp [-List.getD_eq_getElem?_getD, -List.map_map, evBody, evCode, evOps, evOper, evOp, opd, Env.get, Env.put, Env.keep, zipEnv, V.ok, V.sto, V.cells, D.cells, V.isAgg, binD, binInt, binStr, shInt, unD, eqOf, asI, leave, resOf, mapO, fzV, tupOf, view, view1, isData, hand, flatV, flatD, allD, mkAgg, mkVal, beq_lit, IntKind.bits, htake_self, htake_push, hget_hpush_self, hset_push, rowOf_self, okIn, lowIn, lowIn1, fzC_d, fzC_row, h1]
  | n + 1, i, e, hi, h0, h1, h5 => by
    have c : (i : Int) < ((marks a N).length : Int) := by rw [marks_len]; omega
    have c' : i < (marks a N).length := by rw [marks_len]; omega
    have g := txts_get (marks a N) i c'
    rw [marks_get N a i (by omega)] at g
    have p := pureCall_eq (cl := ev R) fun H => e76 H (a + i) (by omega)
    have w1 : IntKind.i64.wrap ((i : Int) + 1) = ((i + 1 : Nat) : Int) := by rw [IntWalk.i64_in _ (by omega)]; rfl
    have w2 : IntKind.i64.wrap (((a + i : Nat) : Int) + 1) = ((a + (i + 1) : Nat) : Int) := by rw [IntWalk.i64_in _ (by omega)]; omega
    have ih := l53 n0 H N a ha n (i + 1)
    generalize markV (a + i) = x at g p
    generalize ((a + i : Nat) : Int) = q at *
    generalize ((a + (i + 1) : Nat) : Int) = q2 at *
    rw [evLoop_eq]
    generalize evLoop (evCode (ev R) R.glob n0 evLoop f53l0) [0, 1, 5] = F at ih ⊢
    simp [-List.getD_eq_getElem?_getD, -List.map_map, evBody, evCode, evOps, evOper, evOp, opd, Env.get, Env.put, Env.keep, zipEnv, V.ok, V.sto, V.cells, D.cells, V.isAgg, binD, binInt, binStr, shInt, unD, eqOf, asI, leave, resOf, mapO, fzV, tupOf, view, view1, isData, hand, flatV, flatD, allD, mkAgg, mkVal, beq_lit, IntKind.bits, htake_self, htake_push, hget_hpush_self, hset_push, rowOf_self, okIn, lowIn, lowIn1, fzC_d, fzC_row, f53l0, h0, h1, h5, txts, c, c', g, p, w1, w2]
    refine ih _ (by omega) ?_ ?_ ?_ <;> rfl
theorem e53 (H : Hp) (N a : Nat) (ha : a + N ≤ 50000000) : ev R 53 [.d (txts (marks a N)), .d (.int .i64 a)] H = some (.d (.int .i64 (a + N : Nat)), H) := by
  refine ev_fn (fn := f53) rfl rfl ?_
  obtain ⟨e', he, h1⟩ := l53 (hlen H) H N a ha N 0 [(0, .d (txts (marks a N))), (1, .d (.int .i64 a)), (5, .d (.int .i64 0))] (by omega) rfl rfl rfl
  generalize ((a + N : Nat) : Int) = q at *
  simp [-List.getD_eq_getElem?_getD, -List.map_map, evBody, evCode, evOps, evOper, evOp, opd, Env.get, Env.put, Env.keep, zipEnv, V.ok, V.sto, V.cells, D.cells, V.isAgg, binD, binInt, binStr, shInt, unD, eqOf, asI, leave, resOf, mapO, fzV, tupOf, view, view1, isData, hand, flatV, flatD, allD, mkAgg, mkVal, beq_lit, IntKind.bits, htake_self, htake_push, hget_hpush_self, hset_push, rowOf_self, okIn, lowIn, lowIn1, fzC_d, fzC_row, f53, he, h1]
/-- The marks of a list of lists. -/
def marksS (a : Nat) : List (List Txt) → List (List Txt)
  | [] => []
  | x :: r => marks a x.length :: marksS (a + x.length) r
/-- How many texts there are. -/
def total : List (List Txt) → Nat
  | [] => 0
  | x :: r => x.length + total r
theorem marksS_len : ∀ (xss : List (List Txt)) (a : Nat), (marksS a xss).length = xss.length
  | [], _ => rfl
  | x :: r, a => by simp [marksS, marksS_len r]
theorem marksS_get : ∀ (xss : List (List Txt)) (a i : Nat), i < xss.length → (marksS a xss).getD i [] = marks (a + total (xss.take i)) (xss.getD i []).length
  | x :: r, a, 0, _ => by simp [marksS, total]
  | x :: r, a, i + 1, h => by
    simp only [List.length_cons] at h
    simp only [marksS, List.getD_cons_succ, List.take_succ_cons, total]
    rw [marksS_get r (a + x.length) i (by omega)]
    congr 1; omega
theorem total_take (xss : List (List Txt)) : ∀ (i : Nat), i < xss.length → total (xss.take (i + 1)) = total (xss.take i) + (xss.getD i []).length := by
  induction xss with
  | nil => intro i h; simp at h
  | cons x r ih =>
    intro i h
    cases i with
    | zero => simp [total]
    | succ i =>
      simp only [List.length_cons] at h
      simp only [List.take_succ_cons, total, List.getD_cons_succ]
      rw [ih i (by omega)]
      omega
theorem total_le (xss : List (List Txt)) : ∀ (i : Nat), total (xss.take i) ≤ total xss := by
  induction xss with
  | nil => intro i; simp [total]
  | cons x r ih =>
    intro i
    cases i with
    | zero => simp [total]
    | succ i =>
      simp only [List.take_succ_cons, total]
      have := ih i
      omega
theorem total_all (xss : List (List Txt)) : total (xss.take xss.length) = total xss := by rw [List.take_length]
theorem l22 (n0 : Nat) (H : Hp) (xss : List (List Txt)) (a : Nat) (ha : a + total xss ≤ 50000000) (hx : xss.length ≤ 50000000) : ∀ (n i : Nat) (e : Env), i + n = xss.length → e.get 0 = .d (.vals 1 (textss (marksS a xss))) → e.get 1 = .d (.int .i64 (a + total (xss.take i) : Nat)) → e.get 5 = .d (.int .i64 i) →
    ∃ e', evLoop (evCode (ev R) R.glob n0 evLoop f22l0) [0, 1, 5] ⟨e, H⟩ = some (.exit 0, ⟨e', H⟩) ∧ e'.get 1 = .d (.int .i64 (a + total xss : Nat))
  | 0, i, e, hi, h0, h1, h5 => by
    have c : ¬ (i : Int) < ((textss (marksS a xss)).length : Int) := by rw [textss_len, marksS_len]; omega
    have c' : ¬ i < (textss (marksS a xss)).length := by rw [textss_len, marksS_len]; omega
    have hN : i = xss.length := by omega
    rw [hN, total_all] at h1
    rw [evLoop_eq]
    refine ⟨?_, ?_, ?_⟩
    rotate_left
    · simp [-List.getD_eq_getElem?_getD, -List.map_map, evBody, evCode, evOps, evOper, evOp, opd, Env.get, Env.put, Env.keep, zipEnv, V.ok, V.sto, V.cells, D.cells, V.isAgg, binD, binInt, binStr, shInt, unD, eqOf, asI, leave, resOf, mapO, fzV, tupOf, view, view1, isData, hand, flatV, flatD, allD, mkAgg, mkVal, beq_lit, IntKind.bits, htake_self, htake_push, hget_hpush_self, hset_push, rowOf_self, okIn, lowIn, lowIn1, fzC_d, fzC_row, f22l0, h0, h1, h5, c, c']
      try rfl
    · simp [-List.getD_eq_getElem?_getD, -List.map_map, evBody, evCode, evOps, evOper, evOp, opd, Env.get, Env.put, Env.keep, zipEnv, V.ok, V.sto, V.cells, D.cells, V.isAgg, binD, binInt, binStr, shInt, unD, eqOf, asI, leave, resOf, mapO, fzV, tupOf, view, view1, isData, hand, flatV, flatD, allD, mkAgg, mkVal, beq_lit, IntKind.bits, htake_self, htake_push, hget_hpush_self, hset_push, rowOf_self, okIn, lowIn, lowIn1, fzC_d, fzC_row, h1]
  | n + 1, i, e, hi, h0, h1, h5 => by
    have c : (i : Int) < ((textss (marksS a xss)).length : Int) := by rw [textss_len, marksS_len]; omega
    have c' : i < (textss (marksS a xss)).length := by rw [textss_len, marksS_len]; omega
    have g := textss_get (marksS a xss) i (by rw [marksS_len]; omega)
    rw [marksS_get xss a i (by omega)] at g
    have tt := total_take xss i (by omega)
    have tle := total_le xss (i + 1)
    have p := pureCall_eq (cl := ev R) fun H => e53 H (xss.getD i []).length (a + total (xss.take i)) (by omega)
    have w1 : IntKind.i64.wrap ((i : Int) + 1) = ((i + 1 : Nat) : Int) := by rw [IntWalk.i64_in _ (by omega)]; rfl
    have c3 : ¬ ((a + total (xss.take i) + (xss.getD i []).length : Nat) : Int) < 0 := by omega
    have ih := l22 n0 H xss a ha hx n (i + 1)
    have e1 : a + total (xss.take (i + 1)) = a + total (xss.take i) + (xss.getD i []).length := by omega
    rw [e1] at ih
    simp only [txts] at g p
    generalize ((a + total (xss.take i) + (xss.getD i []).length : Nat) : Int) = q2 at *
    generalize List.map D.str (marks (a + total (xss.take i)) (xss.getD i []).length) = T at *
    generalize ((a + total (xss.take i) : Nat) : Int) = q at *
    rw [evLoop_eq]
    generalize evLoop (evCode (ev R) R.glob n0 evLoop f22l0) [0, 1, 5] = F at ih ⊢
    simp [-List.getD_eq_getElem?_getD, -List.map_map, evBody, evCode, evOps, evOper, evOp, opd, Env.get, Env.put, Env.keep, zipEnv, V.ok, V.sto, V.cells, D.cells, V.isAgg, binD, binInt, binStr, shInt, unD, eqOf, asI, leave, resOf, mapO, fzV, tupOf, view, view1, isData, hand, flatV, flatD, allD, mkAgg, mkVal, beq_lit, IntKind.bits, htake_self, htake_push, hget_hpush_self, hset_push, rowOf_self, okIn, lowIn, lowIn1, fzC_d, fzC_row, f22l0, h0, h1, h5, c, c', g, p, w1, c3]
    refine ih _ (by omega) ?_ ?_ ?_ <;> rfl
theorem e22 (H : Hp) (xss : List (List Txt)) (a : Nat) (ha : a + total xss ≤ 50000000) (hx : xss.length ≤ 50000000) : ev R 22 [.d (.vals 1 (textss (marksS a xss))), .d (.int .i64 a)] H = some (.d (.int .i64 (a + total xss : Nat)), H) := by
  refine ev_fn (fn := f22) rfl rfl ?_
  obtain ⟨e', he, h1⟩ := l22 (hlen H) H xss a ha hx xss.length 0 [(0, .d (.vals 1 (textss (marksS a xss)))), (1, .d (.int .i64 a)), (5, .d (.int .i64 0))] (by omega) rfl (by simp [total, Env.get, beq_lit]) rfl
  generalize ((a + total xss : Nat) : Int) = q at *
  simp [-List.getD_eq_getElem?_getD, -List.map_map, evBody, evCode, evOps, evOper, evOp, opd, Env.get, Env.put, Env.keep, zipEnv, V.ok, V.sto, V.cells, D.cells, V.isAgg, binD, binInt, binStr, shInt, unD, eqOf, asI, leave, resOf, mapO, fzV, tupOf, view, view1, isData, hand, flatV, flatD, allD, mkAgg, mkVal, beq_lit, IntKind.bits, htake_self, htake_push, hget_hpush_self, hset_push, rowOf_self, okIn, lowIn, lowIn1, fzC_d, fzC_row, f22, he, h1]
end Go.Proofs.YtpmphmpaeooeeaaDoorO.Code
