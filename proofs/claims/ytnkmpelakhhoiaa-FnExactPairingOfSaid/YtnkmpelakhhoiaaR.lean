/- All short forms. -/
import Derived.Test.YtnkmpelakhhoiaaR0
import Derived.Test.YtnkmpelakhhoiaaR1
import Derived.Test.YtnkmpelakhhoiaaR2
import Derived.Test.YtnkmpelakhhoiaaR3
import Derived.Test.YtnkmpelakhhoiaaVK
import Derived.Test.YtnkmpelakhhoiaaVL
