/- The rules and the program. -/
import Derived.KernelRfl
import Derived.Test.YtdellpnmbgjofaaProg
import Derived.Test.YtdellpnmbgjofaaVI
import Derived.Test.YtdellpnmbgjofaaVK
import Derived.Test.YtdellpnmbgjofaaVL
