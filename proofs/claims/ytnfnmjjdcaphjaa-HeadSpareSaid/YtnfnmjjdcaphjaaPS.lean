/- What stands here: the printed texts but the laws' own. Nothing is proved. -/
import Derived.Test.YtnfnmjjdcaphjaaP0
import Derived.Test.YtnfnmjjdcaphjaaP1
import Derived.Test.YtnfnmjjdcaphjaaP2
import Derived.Test.YtnfnmjjdcaphjaaP3
import Derived.Test.YtnfnmjjdcaphjaaP4
import Derived.Test.YtnfnmjjdcaphjaaP5
import Derived.Test.YtnfnmjjdcaphjaaP6
import Derived.Test.YtnfnmjjdcaphjaaP7
import Derived.Test.YtnfnmjjdcaphjaaP8
import Derived.Test.YtnfnmjjdcaphjaaP9
import Derived.Test.YtnfnmjjdcaphjaaP10
import Derived.Test.YtnfnmjjdcaphjaaP11
import Derived.Test.YtnfnmjjdcaphjaaP12
import Derived.Test.YtnfnmjjdcaphjaaP13
import Derived.Test.YtnfnmjjdcaphjaaP14
import Derived.Test.YtnfnmjjdcaphjaaP15
import Derived.Test.YtnfnmjjdcaphjaaP18
