import Derived.Test.YtafnnnhmplgkcaaGreatDoorH1Sf
import Derived.Test.YtafnnnhmplgkcaaGreatDoorK1Sf
import Derived.Test.YtafnnnhmplgkcaaGreatDoorSxTSf
/- The tables of the levels, with slices. -/
