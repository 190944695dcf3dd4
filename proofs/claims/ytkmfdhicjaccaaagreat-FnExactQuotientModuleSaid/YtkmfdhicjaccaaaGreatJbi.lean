/- Joined texts. -/
import Derived.Test.YtkmfdhicjaccaaaGreatJbg
import Derived.Test.YtkmfdhicjaccaaaGreatJbh
set_option linter.unusedSectionVars false
set_option linter.unusedVariables false
set_option linter.unusedSimpArgs false

