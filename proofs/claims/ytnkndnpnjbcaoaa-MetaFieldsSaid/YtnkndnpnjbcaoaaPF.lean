/- What stands here: the printed texts that the fixed calls reach. Nothing is proved. -/
import Derived.Test.YtnkndnpnjbcaoaaP0
import Derived.Test.YtnkndnpnjbcaoaaP1
import Derived.Test.YtnkndnpnjbcaoaaP3
import Derived.Test.YtnkndnpnjbcaoaaP4
import Derived.Test.YtnkndnpnjbcaoaaP5
import Derived.Test.YtnkndnpnjbcaoaaP6
import Derived.Test.YtnkndnpnjbcaoaaP7
import Derived.Test.YtnkndnpnjbcaoaaP8
import Derived.Test.YtnkndnpnjbcaoaaP9
import Derived.Test.YtnkndnpnjbcaoaaP10
import Derived.Test.YtnkndnpnjbcaoaaP11
import Derived.Test.YtnkndnpnjbcaoaaP12
