/- (nothing of fractions is needed here) -/
import Derived.Test.YthmimjofdmnakaaGreatDoorBase
import Derived.Deep.RegionHeld3
