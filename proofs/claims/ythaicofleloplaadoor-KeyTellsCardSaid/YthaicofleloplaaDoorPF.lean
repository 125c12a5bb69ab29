/- What stands here: the printed texts that the fixed calls reach. Nothing is proved. -/
import Derived.Test.YthaicofleloplaaDoorP0
import Derived.Test.YthaicofleloplaaDoorP1
import Derived.Test.YthaicofleloplaaDoorP2
import Derived.Test.YthaicofleloplaaDoorP3
import Derived.Test.YthaicofleloplaaDoorP4
import Derived.Test.YthaicofleloplaaDoorP5
import Derived.Test.YthaicofleloplaaDoorP6
import Derived.Test.YthaicofleloplaaDoorP7
import Derived.Test.YthaicofleloplaaDoorP8
import Derived.Test.YthaicofleloplaaDoorP9
import Derived.Test.YthaicofleloplaaDoorP10
import Derived.Test.YthaicofleloplaaDoorP11
import Derived.Test.YthaicofleloplaaDoorP12
import Derived.Test.YthaicofleloplaaDoorP13
import Derived.Test.YthaicofleloplaaDoorP14
