/- What stands here: the printed texts that the fixed calls reach. Nothing is proved. -/
import Derived.Test.YtnfnmjjdcaphjaaP0
import Derived.Test.YtnfnmjjdcaphjaaP1
import Derived.Test.YtnfnmjjdcaphjaaP2
import Derived.Test.YtnfnmjjdcaphjaaP3
import Derived.Test.YtnfnmjjdcaphjaaP4
import Derived.Test.YtnfnmjjdcaphjaaP5
import Derived.Test.YtnfnmjjdcaphjaaP6
import Derived.Test.YtnfnmjjdcaphjaaP7
