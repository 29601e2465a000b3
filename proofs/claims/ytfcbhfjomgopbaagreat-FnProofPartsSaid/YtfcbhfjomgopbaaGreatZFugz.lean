/- The shallow forms of the functions, together. -/
import Derived.Test.YtfcbhfjomgopbaaGreatZFug0
import Derived.Test.YtfcbhfjomgopbaaGreatZFug1
import Derived.Test.YtfcbhfjomgopbaaGreatZFug2
import Derived.Test.YtfcbhfjomgopbaaGreatZFug3
import Derived.Test.YtfcbhfjomgopbaaGreatZFug4
import Derived.Test.YtfcbhfjomgopbaaGreatZFug5
import Derived.Test.YtfcbhfjomgopbaaGreatZFug6
import Derived.Test.YtfcbhfjomgopbaaGreatZFug7
