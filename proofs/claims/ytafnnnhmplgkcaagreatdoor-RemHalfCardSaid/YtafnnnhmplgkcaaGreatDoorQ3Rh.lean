import Derived.Test.YtafnnnhmplgkcaaGreatDoorH1Rh
import Derived.Test.YtafnnnhmplgkcaaGreatDoorK1Rh
import Derived.Test.YtafnnnhmplgkcaaGreatDoorSxTRh
/- The tables of the levels, with slices. -/
