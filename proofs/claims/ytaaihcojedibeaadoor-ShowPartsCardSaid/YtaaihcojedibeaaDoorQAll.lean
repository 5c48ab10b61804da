/- The printed texts. -/
import Derived.Test.YtaaihcojedibeaaDoorQ0
import Derived.Test.YtaaihcojedibeaaDoorQ1
import Derived.Test.YtaaihcojedibeaaDoorQ2
import Derived.Test.YtaaihcojedibeaaDoorQ3
import Derived.Test.YtaaihcojedibeaaDoorQ5
