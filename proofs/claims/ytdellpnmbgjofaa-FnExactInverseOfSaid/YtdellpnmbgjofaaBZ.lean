/- All of them. -/
import Derived.Test.YtdellpnmbgjofaaB4a
import Derived.Test.YtdellpnmbgjofaaB4b
