/- The shallow forms of the functions, together. -/
import Derived.Test.YtellfcpffcipcaaGreatDoorZCjg0
import Derived.Test.YtellfcpffcipcaaGreatDoorZCjg1
import Derived.Test.YtellfcpffcipcaaGreatDoorZCjg2
import Derived.Test.YtellfcpffcipcaaGreatDoorZCjg3
import Derived.Test.YtellfcpffcipcaaGreatDoorZCjg4
import Derived.Test.YtellfcpffcipcaaGreatDoorZCjg5
import Derived.Test.YtellfcpffcipcaaGreatDoorZCjg6
import Derived.Test.YtellfcpffcipcaaGreatDoorZCjg7
