/- The shallow forms of the functions, together. -/
import Derived.Test.YtfcbhfjomgopbaaGreatZFfg0
import Derived.Test.YtfcbhfjomgopbaaGreatZFfg1
import Derived.Test.YtfcbhfjomgopbaaGreatZFfg2
import Derived.Test.YtfcbhfjomgopbaaGreatZFfg3
import Derived.Test.YtfcbhfjomgopbaaGreatZFfg4
import Derived.Test.YtfcbhfjomgopbaaGreatZFfg5
import Derived.Test.YtfcbhfjomgopbaaGreatZFfg6
import Derived.Test.YtfcbhfjomgopbaaGreatZFfg7
