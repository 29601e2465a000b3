/- The shallow forms of the functions, together. -/
import Derived.Test.YtgllldjiaglkcaaGreatDoorZMag0
import Derived.Test.YtgllldjiaglkcaaGreatDoorZMag1
import Derived.Test.YtgllldjiaglkcaaGreatDoorZMag2
import Derived.Test.YtgllldjiaglkcaaGreatDoorZMag3
import Derived.Test.YtgllldjiaglkcaaGreatDoorZMag4
import Derived.Test.YtgllldjiaglkcaaGreatDoorZMag5
import Derived.Test.YtgllldjiaglkcaaGreatDoorZMag6
import Derived.Test.YtgllldjiaglkcaaGreatDoorZMag7
