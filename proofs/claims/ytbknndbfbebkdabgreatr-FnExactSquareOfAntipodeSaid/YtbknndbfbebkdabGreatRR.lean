/- The rules and the program. -/
import Derived.KernelRfl
import Derived.Test.YtbknndbfbebkdabGreatRProg
import Derived.Test.YtbknndbfbebkdabGreatRVI
import Derived.Test.YtbknndbfbebkdabGreatRVK
import Derived.Test.YtbknndbfbebkdabGreatRVL
