/- The functions of these laws as compact code, and that it is the given code. -/
import Derived.Test.YtlijncbdinoheaaChecked
import Derived.KernelRfl
import Derived.Test.YtlijncbdinoheaaE26
namespace Go.Proofs.Ytlijncbdinoheaa.Code
open Go Go.Ev Go.Proofs
/- laws.FnExactTextBitGet -/
def f3 : AFunc := { np := 2, nt := 19, res := [.tmp 4], own := false, body := (.seq (.reg false [⟨some 4, none, .mv (.c (.bool false))⟩]) [0, 1]
 (.seq (.seq (.reg false [⟨some 7, none, .mv (.t 0)⟩,
  ⟨some 8, none, .len true (.t 7)⟩,
  ⟨some 9, none, .bin .gtr .val (.t 8) (.c (.int .i64 (1048576)))⟩]) [0, 1, 9]
 (.cond (.t 9) (.seq (.reg false [⟨some 4, none, .mv (.c (.bool true))⟩]) [4]
 (.ret)) (.skip))) [0, 1]
 (.seq (.reg false [⟨some 10, none, .mv (.t 0)⟩,
  ⟨some 11, none, .mv (.t 1)⟩,
  ⟨some 12, none, .pcall (.f 11) [.t 10, .t 11]⟩,
  ⟨some 5, none, .mv (.t 12)⟩]) [0, 1, 5]
 (.seq (.reg false [⟨some 13, none, .mv (.t 0)⟩,
  ⟨some 14, none, .mv (.t 1)⟩,
  ⟨some 15, none, .pcall (.f 12) [.t 13, .t 14]⟩,
  ⟨some 6, none, .mv (.t 15)⟩]) [5, 6]
 (.seq (.seq (.reg false [⟨some 16, none, .mv (.t 6)⟩,
  ⟨some 17, none, .mv (.t 5)⟩,
  ⟨some 18, none, .bin .neq .val (.t 16) (.t 17)⟩]) [18]
 (.cond (.t 18) (.seq (.reg false [⟨some 4, none, .mv (.c (.bool false))⟩]) [4]
 (.ret)) (.skip))) []
 (.seq (.reg false [⟨some 4, none, .mv (.c (.bool true))⟩]) [4]
 (.ret))))))) }
/- spec.TextBitGet -/
def f11 : AFunc := { np := 2, nt := 12, res := [.tmp 4], own := false, body := (.seq (.reg false [⟨some 4, none, .mv (.c (.int .i64 (0)))⟩]) [0, 1]
 (.seq (.seq (.reg false [⟨some 5, none, .mv (.t 0)⟩,
  ⟨some 6, none, .mv (.t 1)⟩,
  ⟨some 7, none, .pcall (.f 33) [.t 5, .t 6]⟩,
  ⟨some 8, none, .un .not (.t 7)⟩]) [0, 1, 8]
 (.cond (.t 8) (.seq (.reg false [⟨some 4, none, .mv (.c (.int .i64 (0)))⟩]) [4]
 (.ret)) (.skip))) [0, 1]
 (.seq (.reg false [⟨some 9, none, .mv (.t 0)⟩,
  ⟨some 10, none, .mv (.t 1)⟩,
  ⟨some 11, none, .pcall (.f 34) [.t 9, .t 10]⟩,
  ⟨some 4, none, .mv (.t 11)⟩]) [4]
 (.ret)))) }
/- impl.TextBitGet -/
def f12 : AFunc := { np := 2, nt := 16, res := [.tmp 4], own := false, body := (.seq (.reg false [⟨some 4, none, .mv (.c (.int .i64 (0)))⟩]) [0, 1]
 (.seq (.seq (.reg false [⟨some 5, none, .mv (.t 0)⟩,
  ⟨some 6, none, .len true (.t 5)⟩,
  ⟨some 7, none, .bin .gtr .val (.t 6) (.c (.int .i64 (40)))⟩,
  ⟨some 8, none, .mv (.t 7)⟩,
  ⟨some 9, some (8, false), .mv (.t 1)⟩,
  ⟨some 10, some (8, false), .pcall (.f 35) [.t 9, .c (.int .i64 (0)), .c (.int .i64 (319))]⟩,
  ⟨some 11, some (8, false), .un .not (.t 10)⟩,
  ⟨some 12, none, .pick (.t 8) (.c (.bool true)) (.t 11)⟩]) [0, 1, 12]
 (.cond (.t 12) (.seq (.reg false [⟨some 4, none, .mv (.c (.int .i64 (0)))⟩]) [4]
 (.ret)) (.skip))) [0, 1]
 (.seq (.reg false [⟨some 13, none, .mv (.t 0)⟩,
  ⟨some 14, none, .mv (.t 1)⟩,
  ⟨some 15, none, .pcall (.f 36) [.t 13, .t 14]⟩,
  ⟨some 4, none, .mv (.t 15)⟩]) [4]
 (.ret)))) }
/- spec.l8Bit -/
def f33 : AFunc := { np := 2, nt := 12, res := [.tmp 4], own := false, body := (.seq (.reg false [⟨some 4, none, .mv (.c (.bool false))⟩]) [0, 1]
 (.seq (.reg false [⟨some 5, none, .mv (.t 0)⟩,
  ⟨some 6, none, .len true (.t 5)⟩,
  ⟨some 7, none, .bin .leq .val (.t 6) (.c (.int .i64 (40)))⟩,
  ⟨some 8, none, .mv (.t 7)⟩,
  ⟨some 9, some (8, true), .mv (.t 1)⟩,
  ⟨some 10, some (8, true), .pcall (.f 37) [.t 9, .c (.int .i64 (0)), .c (.int .i64 (319))]⟩,
  ⟨some 11, none, .pick (.t 8) (.t 10) (.c (.bool false))⟩,
  ⟨some 4, none, .mv (.t 11)⟩]) [4]
 (.ret))) }
/- spec.l8Get -/
def f34 : AFunc := { np := 2, nt := 20, res := [.tmp 4], own := false, body := (.seq (.reg false [⟨some 4, none, .mv (.c (.int .i64 (0)))⟩]) [0, 1]
 (.seq (.seq (.reg false [⟨some 5, none, .mv (.t 1)⟩,
  ⟨some 6, none, .bin .quo .val (.t 5) (.c (.int .i64 (8)))⟩,
  ⟨some 7, none, .mv (.t 0)⟩,
  ⟨some 8, none, .len true (.t 7)⟩,
  ⟨some 9, none, .bin .geq .val (.t 6) (.t 8)⟩]) [0, 1, 9]
 (.cond (.t 9) (.seq (.reg false [⟨some 4, none, .mv (.c (.int .i64 (0)))⟩]) [4]
 (.ret)) (.skip))) [0, 1]
 (.seq (.reg false [⟨some 10, none, .mv (.t 0)⟩,
  ⟨some 11, none, .mv (.t 1)⟩,
  ⟨some 12, none, .bin .quo .val (.t 11) (.c (.int .i64 (8)))⟩,
  ⟨some 13, none, .idx (.t 10) (.t 12)⟩,
  ⟨some 14, none, .cvInt .i64 (.t 13)⟩,
  ⟨some 15, none, .mv (.t 1)⟩,
  ⟨some 16, none, .bin .rem .val (.t 15) (.c (.int .i64 (8)))⟩,
  ⟨some 17, none, .bin .sub .val (.c (.int .i64 (7))) (.t 16)⟩,
  ⟨some 18, none, .bin .shr .val (.t 14) (.t 17)⟩,
  ⟨some 19, none, .bin .and .val (.t 18) (.c (.int .i64 (1)))⟩,
  ⟨some 4, none, .mv (.t 19)⟩]) [4]
 (.ret)))) }
/- impl.within -/
def f35 : AFunc := { np := 3, nt := 15, res := [.tmp 6], own := false, body := (.seq (.reg false [⟨some 6, none, .mv (.c (.bool false))⟩]) [0, 1, 2]
 (.seq (.reg false [⟨some 7, none, .mv (.t 0)⟩,
  ⟨some 8, none, .mv (.t 1)⟩,
  ⟨some 9, none, .bin .geq .val (.t 7) (.t 8)⟩,
  ⟨some 10, none, .mv (.t 9)⟩,
  ⟨some 11, some (10, true), .mv (.t 0)⟩,
  ⟨some 12, some (10, true), .mv (.t 2)⟩,
  ⟨some 13, some (10, true), .bin .leq .val (.t 11) (.t 12)⟩,
  ⟨some 14, none, .pick (.t 10) (.t 13) (.c (.bool false))⟩,
  ⟨some 6, none, .mv (.t 14)⟩]) [6]
 (.ret))) }
/- impl.bitAt -/
def f36 : AFunc := { np := 2, nt := 20, res := [.tmp 4], own := false, body := (.seq (.reg false [⟨some 4, none, .mv (.c (.int .i64 (0)))⟩]) [0, 1]
 (.seq (.seq (.reg false [⟨some 5, none, .mv (.t 1)⟩,
  ⟨some 6, none, .bin .quo .val (.t 5) (.c (.int .i64 (8)))⟩,
  ⟨some 7, none, .mv (.t 0)⟩,
  ⟨some 8, none, .len true (.t 7)⟩,
  ⟨some 9, none, .bin .geq .val (.t 6) (.t 8)⟩]) [0, 1, 9]
 (.cond (.t 9) (.seq (.reg false [⟨some 4, none, .mv (.c (.int .i64 (0)))⟩]) [4]
 (.ret)) (.skip))) [0, 1]
 (.seq (.reg false [⟨some 10, none, .mv (.t 0)⟩,
  ⟨some 11, none, .mv (.t 1)⟩,
  ⟨some 12, none, .bin .quo .val (.t 11) (.c (.int .i64 (8)))⟩,
  ⟨some 13, none, .idx (.t 10) (.t 12)⟩,
  ⟨some 14, none, .mv (.t 1)⟩,
  ⟨some 15, none, .bin .rem .val (.t 14) (.c (.int .i64 (8)))⟩,
  ⟨some 16, none, .bin .sub .val (.c (.int .i64 (7))) (.t 15)⟩,
  ⟨some 17, none, .bin .shr .val (.t 13) (.t 16)⟩,
  ⟨some 18, none, .cvInt .i64 (.t 17)⟩,
  ⟨some 19, none, .bin .and .val (.t 18) (.c (.int .i64 (1)))⟩,
  ⟨some 4, none, .mv (.t 19)⟩]) [4]
 (.ret)))) }
/- spec.l1In -/
def f37 : AFunc := { np := 3, nt := 15, res := [.tmp 6], own := false, body := (.seq (.reg false [⟨some 6, none, .mv (.c (.bool false))⟩]) [0, 1, 2]
 (.seq (.reg false [⟨some 7, none, .mv (.t 0)⟩,
  ⟨some 8, none, .mv (.t 1)⟩,
  ⟨some 9, none, .bin .geq .val (.t 7) (.t 8)⟩,
  ⟨some 10, none, .mv (.t 9)⟩,
  ⟨some 11, some (10, true), .mv (.t 0)⟩,
  ⟨some 12, some (10, true), .mv (.t 2)⟩,
  ⟨some 13, some (10, true), .bin .leq .val (.t 11) (.t 12)⟩,
  ⟨some 14, none, .pick (.t 10) (.t 13) (.c (.bool false))⟩,
  ⟨some 6, none, .mv (.t 14)⟩]) [6]
 (.ret))) }
def tab : List (Nat × AFunc) := [(3, f3), (11, f11), (12, f12), (33, f33), (34, f34), (35, f35), (36, f36), (37, f37)]
theorem ok3 : chkFunc Try.prog Try.f3 f3 = true := by kernel_rfl
theorem ok11 : chkFunc Try.prog Try.f11 f11 = true := by kernel_rfl
theorem ok12 : chkFunc Try.prog Try.f12 f12 = true := by kernel_rfl
theorem ok33 : chkFunc Try.prog Try.f33 f33 = true := by kernel_rfl
theorem ok34 : chkFunc Try.prog Try.f34 f34 = true := by kernel_rfl
theorem ok35 : chkFunc Try.prog Try.f35 f35 = true := by kernel_rfl
theorem ok36 : chkFunc Try.prog Try.f36 f36 = true := by kernel_rfl
theorem ok37 : chkFunc Try.prog Try.f37 f37 = true := by kernel_rfl
theorem all_ok : ∀ p ∈ tab, ∃ fn, Try.prog.funcs[p.1]? = some fn ∧ chkFunc Try.prog fn p.2 = true := by
  intro p hp
  simp only [tab, List.mem_cons, List.not_mem_nil, or_false] at hp
  rcases hp with rfl | rfl | rfl | rfl | rfl | rfl | rfl | rfl
  · exact ⟨_, Try.func3, ok3⟩
  · exact ⟨_, Try.func11, ok11⟩
  · exact ⟨_, Try.func12, ok12⟩
  · exact ⟨_, Try.func33, ok33⟩
  · exact ⟨_, Try.func34, ok34⟩
  · exact ⟨_, Try.func35, ok35⟩
  · exact ⟨_, Try.func36, ok36⟩
  · exact ⟨_, Try.func37, ok37⟩
theorem prg_ok : PrgOk Try.prog (ofTab tab) := ofTab_ok (by kernel_rfl) all_ok
end Go.Proofs.Ytlijncbdinoheaa.Code
