/- The shallow forms of the functions, together. -/
import Derived.Test.YtbocelianhcfmaaGreatDoorZEfg0
import Derived.Test.YtbocelianhcfmaaGreatDoorZEfg1
import Derived.Test.YtbocelianhcfmaaGreatDoorZEfg2
import Derived.Test.YtbocelianhcfmaaGreatDoorZEfg3
import Derived.Test.YtbocelianhcfmaaGreatDoorZEfg4
import Derived.Test.YtbocelianhcfmaaGreatDoorZEfg5
import Derived.Test.YtbocelianhcfmaaGreatDoorZEfg6
