/- The shallow forms of the functions, together. -/
import Derived.Test.YtjbcdmheajljpaaGreatZLpg0
import Derived.Test.YtjbcdmheajljpaaGreatZLpg1
import Derived.Test.YtjbcdmheajljpaaGreatZLpg2
import Derived.Test.YtjbcdmheajljpaaGreatZLpg3
import Derived.Test.YtjbcdmheajljpaaGreatZLpg4
import Derived.Test.YtjbcdmheajljpaaGreatZLpg5
import Derived.Test.YtjbcdmheajljpaaGreatZLpg6
import Derived.Test.YtjbcdmheajljpaaGreatZLpg7
