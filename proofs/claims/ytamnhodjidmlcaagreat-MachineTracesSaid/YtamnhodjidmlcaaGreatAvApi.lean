/- The types of package api, as plain data. -/
import Derived.Test.YtamnhodjidmlcaaGreatAvDefer
namespace Go.Av
abbrev q9:Ty:=.pair (.int .i64) (.pair (.int .i64) (.pair (.int .i64) (.pair (.int .i64) (.pair (.int .i64) (.pair (.int .i64) (.pair (.int .i64) (.pair .bool .unit)))))))
abbrev qee:Ty:=.pair (.int .i64) (.pair (.int .i64) (.pair (.int .i64) .unit))
abbrev qC:Ty:=.pair (.arr 15 (.int .i64)) (.pair (.int .i64) (.pair .bool (.pair .bool (.pair .bool (.pair .bool .unit)))))
abbrev qA9:Ty:=.pair (.int .i64) (.pair (.int .i64) (.pair (.int .i64) (.pair .bool .unit)))
abbrev qB:Ty:=.pair (.int .i64) (.pair (.int .i64) (.pair (.int .i64) (.pair (.int .i64) .unit)))
abbrev qcK:Ty:=.pair (.int .i64) (.pair (.int .i64) (.pair (.int .i64) (.pair (.int .i64) .unit)))
abbrev qcc:Ty:=.pair .bool (.pair (.int .i64) (.pair (.int .i64) (.pair (.int .i64) (.pair (.int .i64) (.pair (.int .i64) (.pair .str (.pair .str (.pair .str .unit))))))))
abbrev qhN:Ty:=.pair (.int .i64) (.pair (.int .i64) (.pair .bool .unit))
abbrev qhz:Ty:=.pair (.int .i64) (.pair (.int .i64) (.pair (.int .i64) (.pair (.int .i64) (.pair (.int .i64) (.pair (.int .i64) (.pair (.int .i64) .unit))))))
abbrev qI:Ty:=.pair (.int .i64) (.pair (.int .i64) (.pair .bool .unit))
abbrev tOp:Ty:=.pair (.int .i64) (.pair (.int .i64) (.pair (.int .i64) (.pair (.int .i64) (.pair (.int .i64) (.pair (.int .i64) .unit)))))
abbrev qlw:Ty:=.pair (.int .i64) (.pair .str .unit)
end Go.Av
