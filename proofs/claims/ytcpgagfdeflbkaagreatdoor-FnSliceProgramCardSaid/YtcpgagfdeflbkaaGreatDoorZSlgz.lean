/- The shallow forms of the functions, together. -/
import Derived.Test.YtcpgagfdeflbkaaGreatDoorZSlg0
import Derived.Test.YtcpgagfdeflbkaaGreatDoorZSlg1
import Derived.Test.YtcpgagfdeflbkaaGreatDoorZSlg2
import Derived.Test.YtcpgagfdeflbkaaGreatDoorZSlg3
import Derived.Test.YtcpgagfdeflbkaaGreatDoorZSlg4
import Derived.Test.YtcpgagfdeflbkaaGreatDoorZSlg5
import Derived.Test.YtcpgagfdeflbkaaGreatDoorZSlg6
import Derived.Test.YtcpgagfdeflbkaaGreatDoorZSlg7
