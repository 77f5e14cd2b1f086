import Derived.Test.YtnknpgmnejndeaaGreatDoorH1Fm
import Derived.Test.YtnknpgmnejndeaaGreatDoorK1Fm
import Derived.Test.YtnknpgmnejndeaaGreatDoorSxTFm
/- The tables of the levels, with slices. -/
