/- The shallow forms of the functions, together. -/
import Derived.Test.YtgllldjiaglkcaaGreatDoorZMpg0
import Derived.Test.YtgllldjiaglkcaaGreatDoorZMpg1
import Derived.Test.YtgllldjiaglkcaaGreatDoorZMpg2
import Derived.Test.YtgllldjiaglkcaaGreatDoorZMpg3
import Derived.Test.YtgllldjiaglkcaaGreatDoorZMpg4
import Derived.Test.YtgllldjiaglkcaaGreatDoorZMpg5
import Derived.Test.YtgllldjiaglkcaaGreatDoorZMpg6
import Derived.Test.YtgllldjiaglkcaaGreatDoorZMpg7
