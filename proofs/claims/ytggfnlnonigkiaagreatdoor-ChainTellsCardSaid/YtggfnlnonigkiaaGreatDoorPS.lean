/- What stands here: the printed texts but the laws' own. Nothing is proved. -/
import Derived.Test.YtggfnlnonigkiaaGreatDoorP0
import Derived.Test.YtggfnlnonigkiaaGreatDoorP1
import Derived.Test.YtggfnlnonigkiaaGreatDoorP2
import Derived.Test.YtggfnlnonigkiaaGreatDoorP3
import Derived.Test.YtggfnlnonigkiaaGreatDoorP4
import Derived.Test.YtggfnlnonigkiaaGreatDoorP5
import Derived.Test.YtggfnlnonigkiaaGreatDoorP6
import Derived.Test.YtggfnlnonigkiaaGreatDoorP7
import Derived.Test.YtggfnlnonigkiaaGreatDoorP8
import Derived.Test.YtggfnlnonigkiaaGreatDoorP9
import Derived.Test.YtggfnlnonigkiaaGreatDoorP10
import Derived.Test.YtggfnlnonigkiaaGreatDoorP11
import Derived.Test.YtggfnlnonigkiaaGreatDoorP12
import Derived.Test.YtggfnlnonigkiaaGreatDoorP13
import Derived.Test.YtggfnlnonigkiaaGreatDoorP14
