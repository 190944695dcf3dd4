/- All short forms. -/
import Derived.Test.YtnkmpelakhhoiabR0
import Derived.Test.YtnkmpelakhhoiabR1
import Derived.Test.YtnkmpelakhhoiabR2
import Derived.Test.YtnkmpelakhhoiabR3
import Derived.Test.YtnkmpelakhhoiabR4
import Derived.Test.YtnkmpelakhhoiabVK
import Derived.Test.YtnkmpelakhhoiabVL
