/- Texts of the proof, one behind the other. -/
import Derived.Test.YtealbjacocgjcaaGreatGateFaultK17
section
namespace Go.Av
open Go
end Go.Av
end
