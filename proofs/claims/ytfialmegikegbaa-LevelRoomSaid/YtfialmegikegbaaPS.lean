/- What stands here: the printed texts but the laws' own. Nothing is proved. -/
import Derived.Test.YtfialmegikegbaaP0
import Derived.Test.YtfialmegikegbaaP1
import Derived.Test.YtfialmegikegbaaP2
import Derived.Test.YtfialmegikegbaaP3
import Derived.Test.YtfialmegikegbaaP4
import Derived.Test.YtfialmegikegbaaP5
import Derived.Test.YtfialmegikegbaaP6
import Derived.Test.YtfialmegikegbaaP7
import Derived.Test.YtfialmegikegbaaP8
import Derived.Test.YtfialmegikegbaaP9
