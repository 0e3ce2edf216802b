/- Lemmas (several texts in one). -/
import Derived.Test.YtpajcoanfkeibaaGreatDoorMDoRename12
import Derived.Test.YtpajcoanfkeibaaGreatDoorMDoRename17
set_option maxRecDepth 100000
set_option linter.unusedSimpArgs false
set_option linter.unusedVariables false
namespace Go.Proofs.YtpajcoanfkeibaaGreatDoor.Code
open Go Go.Ev Go.Proofs
theorem Bna {b:Ba} (h:BaSm b):Be (ev R) 12 [.d (Df b), .d (Df b)]=some (.d (.bool true)):=
 Boq b h.len fun e he=> ⟨(h.each e he).list,(h.each e he).scores,(h.each e he).fields⟩
theorem Bm9 {e:En} (h:EnSm e):Be (ev R) 10 [.d (Fy e), .d (Fy e)]=some (.d (.bool true)):=Bdz e h.list h.scores h.fields
end Go.Proofs.YtpajcoanfkeibaaGreatDoor.Code
