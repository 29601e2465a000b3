/- The shallow forms of the functions, together. -/
import Derived.Test.YtgllldjiaglkcaaGreatDoorZUfg0
import Derived.Test.YtgllldjiaglkcaaGreatDoorZUfg1
import Derived.Test.YtgllldjiaglkcaaGreatDoorZUfg2
import Derived.Test.YtgllldjiaglkcaaGreatDoorZUfg3
import Derived.Test.YtgllldjiaglkcaaGreatDoorZUfg4
import Derived.Test.YtgllldjiaglkcaaGreatDoorZUfg5
import Derived.Test.YtgllldjiaglkcaaGreatDoorZUfg6
import Derived.Test.YtgllldjiaglkcaaGreatDoorZUfg7
