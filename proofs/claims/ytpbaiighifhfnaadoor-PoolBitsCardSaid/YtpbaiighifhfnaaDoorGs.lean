/- The package-level numbers that a walk may lean on: that they are numbers. No program stands in this text. -/
import Derived.Test.YtpbaiighifhfnaaDoorWords
namespace Go.Proofs.YtpbaiighifhfnaaDoor
/-- The blocks of package-level variables that hold a number. -/
def gsOf : List Nat := [
  0
  ]
end Go.Proofs.YtpbaiighifhfnaaDoor
