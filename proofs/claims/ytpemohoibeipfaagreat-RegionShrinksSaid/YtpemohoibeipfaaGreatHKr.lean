/- The walk of the reference's around. -/
import Derived.Deep.DeepCutAuto
import Derived.Test.YtpemohoibeipfaaGreatHBi
import Derived.Test.YtpemohoibeipfaaGreatHKw
import Derived.Test.YtpemohoibeipfaaGreatHJm
import Derived.Test.YtpemohoibeipfaaGreatHGl
import Derived.Test.YtpemohoibeipfaaGreatHKz
set_option linter.unusedVariables false
set_option linter.unusedSimpArgs false
namespace Go.Proofs.YtpemohoibeipfaaGreat
open Go.RowKit
end Go.Proofs.YtpemohoibeipfaaGreat
