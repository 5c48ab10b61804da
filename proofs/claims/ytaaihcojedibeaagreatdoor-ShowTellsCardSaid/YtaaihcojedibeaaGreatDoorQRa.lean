/- Printed texts of the document. -/
import Derived.Test.YtaaihcojedibeaaGreatDoorQ8
import Derived.Test.YtaaihcojedibeaaGreatDoorQ9
