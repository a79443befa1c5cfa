/- The types of package api, as plain data. -/
import Derived.Test.YtamnhodjidmlcaaGreatAvDefer
namespace Go.Av
abbrev qbd:Ty:=.pair (.int .i64) (.pair (.int .i64) (.pair (.int .i64) (.pair (.int .i64) (.pair (.int .i64) (.pair (.int .i64) (.pair (.int .i64) (.pair .bool .unit)))))))
abbrev qew:Ty:=.pair (.int .i64) (.pair (.int .i64) (.pair (.int .i64) .unit))
abbrev qG:Ty:=.pair (.arr 15 (.int .i64)) (.pair (.int .i64) (.pair .bool (.pair .bool (.pair .bool (.pair .bool .unit)))))
abbrev qA5:Ty:=.pair (.int .i64) (.pair (.int .i64) (.pair (.int .i64) (.pair .bool .unit)))
abbrev qw:Ty:=.pair (.int .i64) (.pair (.int .i64) (.pair (.int .i64) (.pair (.int .i64) .unit)))
abbrev qhU:Ty:=.pair (.int .i64) (.pair (.int .i64) (.pair (.int .i64) (.pair (.int .i64) .unit)))
abbrev qcg:Ty:=.pair .bool (.pair (.int .i64) (.pair (.int .i64) (.pair (.int .i64) (.pair (.int .i64) (.pair (.int .i64) (.pair .str (.pair .str (.pair .str .unit))))))))
abbrev qiJ:Ty:=.pair (.int .i64) (.pair (.int .i64) (.pair .bool .unit))
abbrev qcn:Ty:=.pair (.int .i64) (.pair (.int .i64) (.pair (.int .i64) (.pair (.int .i64) (.pair (.int .i64) (.pair (.int .i64) (.pair (.int .i64) .unit))))))
abbrev qM:Ty:=.pair (.int .i64) (.pair (.int .i64) (.pair .bool .unit))
abbrev tOp:Ty:=.pair (.int .i64) (.pair (.int .i64) (.pair (.int .i64) (.pair (.int .i64) (.pair (.int .i64) (.pair (.int .i64) .unit)))))
abbrev qfL:Ty:=.pair (.int .i64) (.pair .str .unit)
end Go.Av
