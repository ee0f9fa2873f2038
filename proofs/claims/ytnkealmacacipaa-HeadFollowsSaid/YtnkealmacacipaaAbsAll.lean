/-
  All of the own layer.
-/
import Derived.Test.YtnkealmacacipaaFacts
import Derived.Test.YtnkealmacacipaaAbs28
import Derived.Test.YtnkealmacacipaaAbs29
import Derived.Test.YtnkealmacacipaaAbs30
