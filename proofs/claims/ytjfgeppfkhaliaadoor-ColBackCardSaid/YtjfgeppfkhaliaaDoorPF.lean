/- What stands here: the printed texts that the fixed calls reach. Nothing is proved. -/
import Derived.Test.YtjfgeppfkhaliaaDoorP0
import Derived.Test.YtjfgeppfkhaliaaDoorP1
import Derived.Test.YtjfgeppfkhaliaaDoorP3
import Derived.Test.YtjfgeppfkhaliaaDoorP4
import Derived.Test.YtjfgeppfkhaliaaDoorP5
import Derived.Test.YtjfgeppfkhaliaaDoorP6
import Derived.Test.YtjfgeppfkhaliaaDoorP7
import Derived.Test.YtjfgeppfkhaliaaDoorP8
import Derived.Test.YtjfgeppfkhaliaaDoorP9
import Derived.Test.YtjfgeppfkhaliaaDoorP10
import Derived.Test.YtjfgeppfkhaliaaDoorP11
import Derived.Test.YtjfgeppfkhaliaaDoorP12
