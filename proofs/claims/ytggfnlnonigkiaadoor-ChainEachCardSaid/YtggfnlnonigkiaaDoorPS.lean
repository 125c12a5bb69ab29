/- What stands here: the printed texts but the laws' own. Nothing is proved. -/
import Derived.Test.YtggfnlnonigkiaaDoorP0
import Derived.Test.YtggfnlnonigkiaaDoorP1
import Derived.Test.YtggfnlnonigkiaaDoorP2
import Derived.Test.YtggfnlnonigkiaaDoorP3
import Derived.Test.YtggfnlnonigkiaaDoorP4
import Derived.Test.YtggfnlnonigkiaaDoorP5
import Derived.Test.YtggfnlnonigkiaaDoorP6
import Derived.Test.YtggfnlnonigkiaaDoorP7
import Derived.Test.YtggfnlnonigkiaaDoorP8
import Derived.Test.YtggfnlnonigkiaaDoorP9
