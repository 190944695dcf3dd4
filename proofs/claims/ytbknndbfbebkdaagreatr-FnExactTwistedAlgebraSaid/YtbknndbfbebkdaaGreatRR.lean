/- The rules and the program. -/
import Derived.KernelRfl
import Derived.Test.YtbknndbfbebkdaaGreatRProg
import Derived.Test.YtbknndbfbebkdaaGreatRVI
import Derived.Test.YtbknndbfbebkdaaGreatRVK
import Derived.Test.YtbknndbfbebkdaaGreatRVL
