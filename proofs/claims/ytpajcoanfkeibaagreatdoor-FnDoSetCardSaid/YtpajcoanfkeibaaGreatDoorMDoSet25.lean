/- Lemmas (several texts in one). -/
import Derived.Test.YtpajcoanfkeibaaGreatDoorMDoSet12
import Derived.Test.YtpajcoanfkeibaaGreatDoorMDoSet17
set_option maxRecDepth 100000
set_option linter.unusedSimpArgs false
set_option linter.unusedVariables false
namespace Go.Proofs.YtpajcoanfkeibaaGreatDoor.Code
open Go Go.Ev Go.Proofs
theorem Bgg {e:En} (h:EnSm e):Bc (ev R) 10 [.d (F3 e), .d (F3 e)]=some (.d (.bool true)):=Bo6 e h.list h.scores h.fields
end Go.Proofs.YtpajcoanfkeibaaGreatDoor.Code
