/- What stands here: the printed texts that the fixed calls reach. Nothing is proved. -/
import Derived.Test.YtfialmegikegbaaP0
import Derived.Test.YtfialmegikegbaaP1
import Derived.Test.YtfialmegikegbaaP2
import Derived.Test.YtfialmegikegbaaP3
import Derived.Test.YtfialmegikegbaaP4
import Derived.Test.YtfialmegikegbaaP5
import Derived.Test.YtfialmegikegbaaP6
