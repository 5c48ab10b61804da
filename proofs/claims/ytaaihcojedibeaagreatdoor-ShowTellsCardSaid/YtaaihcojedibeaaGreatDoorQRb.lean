/- Printed texts of the document. -/
import Derived.Test.YtaaihcojedibeaaGreatDoorQ10
import Derived.Test.YtaaihcojedibeaaGreatDoorQ12
import Derived.Test.YtaaihcojedibeaaGreatDoorQ14
import Derived.Test.YtaaihcojedibeaaGreatDoorQ15
import Derived.Test.YtaaihcojedibeaaGreatDoorQ16
