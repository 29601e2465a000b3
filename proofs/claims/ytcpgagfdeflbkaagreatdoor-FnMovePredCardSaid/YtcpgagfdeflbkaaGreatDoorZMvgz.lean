/- The shallow forms of the functions, together. -/
import Derived.Test.YtcpgagfdeflbkaaGreatDoorZMvg0
import Derived.Test.YtcpgagfdeflbkaaGreatDoorZMvg1
import Derived.Test.YtcpgagfdeflbkaaGreatDoorZMvg2
import Derived.Test.YtcpgagfdeflbkaaGreatDoorZMvg3
import Derived.Test.YtcpgagfdeflbkaaGreatDoorZMvg4
import Derived.Test.YtcpgagfdeflbkaaGreatDoorZMvg5
import Derived.Test.YtcpgagfdeflbkaaGreatDoorZMvg6
import Derived.Test.YtcpgagfdeflbkaaGreatDoorZMvg7
