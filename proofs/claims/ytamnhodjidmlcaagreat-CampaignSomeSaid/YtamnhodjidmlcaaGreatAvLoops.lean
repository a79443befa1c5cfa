/- Loops that recur: what their turns come to. -/
import Derived.Test.YtamnhodjidmlcaaGreatAvLaw
namespace Go.Av
open Go
end Go.Av
