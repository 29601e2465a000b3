/- The shallow forms of the functions, together. -/
import Derived.Test.YtjbcdmheajljpaaGreatZRcg0
import Derived.Test.YtjbcdmheajljpaaGreatZRcg1
import Derived.Test.YtjbcdmheajljpaaGreatZRcg2
import Derived.Test.YtjbcdmheajljpaaGreatZRcg3
import Derived.Test.YtjbcdmheajljpaaGreatZRcg4
import Derived.Test.YtjbcdmheajljpaaGreatZRcg5
import Derived.Test.YtjbcdmheajljpaaGreatZRcg6
import Derived.Test.YtjbcdmheajljpaaGreatZRcg7
