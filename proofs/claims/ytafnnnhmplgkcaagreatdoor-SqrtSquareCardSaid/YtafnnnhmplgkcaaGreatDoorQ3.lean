import Derived.Test.YtafnnnhmplgkcaaGreatDoorH1
import Derived.Test.YtafnnnhmplgkcaaGreatDoorK1
import Derived.Test.YtafnnnhmplgkcaaGreatDoorSxT
/- The tables of the levels, with slices. -/
