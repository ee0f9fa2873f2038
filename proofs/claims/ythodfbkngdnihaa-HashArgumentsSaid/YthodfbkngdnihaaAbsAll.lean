/-
  All of the own layer.
-/
import Derived.Test.YthodfbkngdnihaaFacts
import Derived.Test.YthodfbkngdnihaaAbs28
import Derived.Test.YthodfbkngdnihaaAbs29
import Derived.Test.YthodfbkngdnihaaAbs30
