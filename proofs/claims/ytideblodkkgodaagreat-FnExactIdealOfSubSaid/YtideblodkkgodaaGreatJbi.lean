/- Joined texts. -/
import Derived.Test.YtideblodkkgodaaGreatJbg
import Derived.Test.YtideblodkkgodaaGreatJbh
set_option linter.unusedSectionVars false
set_option linter.unusedVariables false
set_option linter.unusedSimpArgs false

