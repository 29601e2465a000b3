/- The shallow forms of the functions, together. -/
import Derived.Test.YtjbcdmheajljpaaGreatZCvg0
import Derived.Test.YtjbcdmheajljpaaGreatZCvg1
import Derived.Test.YtjbcdmheajljpaaGreatZCvg2
import Derived.Test.YtjbcdmheajljpaaGreatZCvg3
import Derived.Test.YtjbcdmheajljpaaGreatZCvg4
import Derived.Test.YtjbcdmheajljpaaGreatZCvg5
import Derived.Test.YtjbcdmheajljpaaGreatZCvg6
import Derived.Test.YtjbcdmheajljpaaGreatZCvg7
