/- What stands here: the printed texts that the fixed calls reach. Nothing is proved. -/
import Derived.Test.YtafebmhmcdnhkaaGreatP0
import Derived.Test.YtafebmhmcdnhkaaGreatP3
import Derived.Test.YtafebmhmcdnhkaaGreatP4
import Derived.Test.YtafebmhmcdnhkaaGreatP5
import Derived.Test.YtafebmhmcdnhkaaGreatP6
import Derived.Test.YtafebmhmcdnhkaaGreatP7
import Derived.Test.YtafebmhmcdnhkaaGreatP8
import Derived.Test.YtafebmhmcdnhkaaGreatP9
import Derived.Test.YtafebmhmcdnhkaaGreatP10
import Derived.Test.YtafebmhmcdnhkaaGreatP11
import Derived.Test.YtafebmhmcdnhkaaGreatP12
