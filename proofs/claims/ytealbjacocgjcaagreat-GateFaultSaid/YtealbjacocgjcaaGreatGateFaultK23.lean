/- Texts of the proof, one behind the other. -/
import Derived.Test.YtealbjacocgjcaaGreatGateFaultK22
section
namespace Go.Av
abbrev qA:Ty:=.pair (.int .i64) (.pair (.int .i64) (.pair (.int .i64) (.pair (.int .i64) (.pair (.int .i64) (.pair (.int .i64) (.pair (.int .i64) (.pair .bool .unit)))))))
abbrev qk:Ty:=.pair (.int .i64) (.pair (.int .i64) (.pair qA .unit))
abbrev qij:Ty:=.pair (.int .i64) (.pair (.int .i64) .unit)
abbrev qbQ:Ty:=.pair (.int .i64) (.pair (.int .i64) (.pair (.int .i64) .unit))
abbrev qE:Ty:=.pair (.arr 15 (.int .i64)) (.pair (.int .i64) (.pair .bool (.pair .bool (.pair .bool (.pair .bool .unit)))))
abbrev qF8:Ty:=.pair (.int .i64) (.pair (.int .i64) (.pair (.int .i64) (.pair .bool .unit)))
abbrev qX:Ty:=.pair (.int .i64) (.pair (.int .i64) (.pair (.int .i64) (.pair (.int .i64) .unit)))
abbrev qtg:Ty:=.pair (.int .i64) (.pair (.int .i64) (.pair (.int .i64) (.pair (.int .i64) .unit)))
abbrev qeR:Ty:=.pair .bool (.pair (.int .i64) (.pair (.int .i64) (.pair (.int .i64) (.pair (.int .i64) (.pair (.int .i64) (.pair .str (.pair .str (.pair .str .unit))))))))
abbrev qgZ:Ty:=.pair (.int .i64) (.pair (.int .i64) (.pair .bool .unit))
abbrev qbn:Ty:=.pair (.int .i64) (.pair (.int .i64) (.pair .bool .unit))
abbrev tOp:Ty:=.pair (.int .i64) (.pair (.int .i64) (.pair (.int .i64) (.pair (.int .i64) (.pair (.int .i64) (.pair (.int .i64) .unit)))))
abbrev qMv:Ty:=.pair (.int .i64) (.pair .str .unit)
end Go.Av
end
