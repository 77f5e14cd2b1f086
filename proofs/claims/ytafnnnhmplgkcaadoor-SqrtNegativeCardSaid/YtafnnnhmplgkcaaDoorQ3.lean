import Derived.Test.YtafnnnhmplgkcaaDoorH1
import Derived.Test.YtafnnnhmplgkcaaDoorK1
import Derived.Test.YtafnnnhmplgkcaaDoorSxT
/- The tables of the levels, with slices. -/
