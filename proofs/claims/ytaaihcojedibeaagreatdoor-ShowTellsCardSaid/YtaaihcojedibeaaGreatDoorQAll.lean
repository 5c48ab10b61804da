/- All printed texts. -/
import Derived.Test.YtaaihcojedibeaaGreatDoorQ0
import Derived.Test.YtaaihcojedibeaaGreatDoorQ1
import Derived.Test.YtaaihcojedibeaaGreatDoorQ2
import Derived.Test.YtaaihcojedibeaaGreatDoorQ3
import Derived.Test.YtaaihcojedibeaaGreatDoorQ5
