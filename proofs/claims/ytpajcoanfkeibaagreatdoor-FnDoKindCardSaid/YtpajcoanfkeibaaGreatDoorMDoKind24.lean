/- Lemmas (several texts in one). -/
import Derived.Test.YtpajcoanfkeibaaGreatDoorMDoKind12
import Derived.Test.YtpajcoanfkeibaaGreatDoorMDoKind17
set_option maxRecDepth 100000
set_option linter.unusedSimpArgs false
set_option linter.unusedVariables false
namespace Go.Proofs.YtpajcoanfkeibaaGreatDoor.Code
open Go Go.Ev Go.Proofs
theorem Bx3 {b:Ba} (h:BaSm b):Be (ev R) 12 [.d (Df b), .d (Df b)]=some (.d (.bool true)):=
 Bpi b h.len fun e he=> ⟨(h.each e he).list,(h.each e he).scores,(h.each e he).fields⟩
theorem Bnz {e:En} (h:EnSm e):Be (ev R) 10 [.d (Jn e), .d (Jn e)]=some (.d (.bool true)):=Bem e h.list h.scores h.fields
end Go.Proofs.YtpajcoanfkeibaaGreatDoor.Code
