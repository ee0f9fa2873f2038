/-
  All of the own layer.
-/
import Derived.Test.YteejpckkgepecaaAbsD
