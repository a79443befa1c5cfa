/- The types of package api, as plain data. -/
import Derived.Test.YtbfhpnnnfjjjnaaAvIter
namespace Go.Av
abbrev tIns : Ty := .pair (.int .i64) (.pair (.int .i64) (.pair (.int .i64) (.pair (.int .i64) (.pair (.int .i64) (.pair (.int .i64) (.pair (.int .i64) (.pair .bool .unit)))))))
abbrev tItem : Ty := .pair (.int .i64) (.pair (.int .i64) (.pair tIns .unit))
abbrev tPlace : Ty := .pair (.int .i64) (.pair (.int .i64) .unit)
abbrev tSizes : Ty := .pair (.int .i64) (.pair (.int .i64) (.pair (.int .i64) .unit))
abbrev tState : Ty := .pair (.arr 15 (.int .i64)) (.pair (.int .i64) (.pair .bool (.pair .bool (.pair .bool (.pair .bool .unit)))))
abbrev tAccess : Ty := .pair (.int .i64) (.pair (.int .i64) (.pair (.int .i64) (.pair .bool .unit)))
abbrev tFault : Ty := .pair (.int .i64) (.pair (.int .i64) (.pair (.int .i64) (.pair (.int .i64) .unit)))
abbrev tEvent : Ty := .pair (.int .i64) (.pair (.int .i64) (.pair (.int .i64) (.pair (.int .i64) .unit)))
abbrev tResult : Ty := .pair .bool (.pair (.int .i64) (.pair (.int .i64) (.pair (.int .i64) (.pair (.int .i64) (.pair (.int .i64) (.pair .str (.pair .str (.pair .str .unit))))))))
abbrev tArray : Ty := .pair (.int .i64) (.pair (.int .i64) (.pair (.int .i64) (.pair (.int .i64) .unit)))
abbrev tFrame : Ty := .pair (.int .i64) (.pair (.sl (.int .i64)) (.pair (.int .i64) .unit))
abbrev tSpot : Ty := .pair (.int .i64) (.pair (.int .i64) (.pair .bool .unit))
abbrev tCounts : Ty := .pair (.int .i64) (.pair (.int .i64) (.pair (.int .i64) (.pair (.int .i64) (.pair (.int .i64) (.pair (.int .i64) (.pair (.int .i64) .unit))))))
abbrev tRegion : Ty := .pair (.int .i64) (.pair (.int .i64) (.pair .bool .unit))
abbrev tOp : Ty := .pair (.int .i64) (.pair (.int .i64) (.pair (.int .i64) (.pair (.int .i64) (.pair (.int .i64) (.pair (.int .i64) .unit)))))
abbrev tTerm : Ty := .pair (.int .i64) (.pair (.int .i64) (.pair (.int .i64) (.pair (.int .i64) .unit)))
abbrev tOutcome : Ty := .pair (.int .i64) (.pair .str .unit)
end Go.Av
