/- The shallow forms of the functions, together. -/
import Derived.Test.YtbocelianhcfmaaGreatDoorZEgg0
import Derived.Test.YtbocelianhcfmaaGreatDoorZEgg1
import Derived.Test.YtbocelianhcfmaaGreatDoorZEgg2
import Derived.Test.YtbocelianhcfmaaGreatDoorZEgg3
import Derived.Test.YtbocelianhcfmaaGreatDoorZEgg4
import Derived.Test.YtbocelianhcfmaaGreatDoorZEgg5
import Derived.Test.YtbocelianhcfmaaGreatDoorZEgg6
import Derived.Test.YtbocelianhcfmaaGreatDoorZEgg7
