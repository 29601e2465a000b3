/- The shallow forms of the functions, together. -/
import Derived.Test.YtgllldjiaglkcaaGreatDoorZDrg0
import Derived.Test.YtgllldjiaglkcaaGreatDoorZDrg1
import Derived.Test.YtgllldjiaglkcaaGreatDoorZDrg2
import Derived.Test.YtgllldjiaglkcaaGreatDoorZDrg3
import Derived.Test.YtgllldjiaglkcaaGreatDoorZDrg4
import Derived.Test.YtgllldjiaglkcaaGreatDoorZDrg5
import Derived.Test.YtgllldjiaglkcaaGreatDoorZDrg6
import Derived.Test.YtgllldjiaglkcaaGreatDoorZDrg7
