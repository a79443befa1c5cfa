import Derived.Test.YtehcaooipfgklaaAvBody
namespace Go.Av
open Go

/-- A strings.Builder's content; its bytes are a row of its own. -/
def shBld : Sh := .tyc 61 (.pair (.nbox 0) (.pair (.tsl 5 0) (.ty .unit)))
/-- The same, of whatever numbers. -/
abbrev shBldL (b r : Nat) : Sh := .tyc 61 (.pair (.nbox b) (.pair (.tsl 5 r) (.ty .unit)))
/-- The same when its bytes have been shown as a string. -/
def shBldR : Sh := .tyc 61 (.pair (.nbox 0) (.pair .top (.ty .unit)))
/-- There is room for so many bytes. -/
def G_bytesFit (x : List UInt8) (y : List UInt8) : Bool := Nat.ble (List.length x + List.length y) 140737488355328
def V_bytesJoin (x : List UInt8) (y : List UInt8) : List UInt8 := x ++ y
def body_WriteString : Body := bodyT [.box 0 0, .ty .str] [shBld] .top [shBld] (fun x y => G_bytesFit y.2.1 x.2) (fun x y => ((), y.1, V_bytesJoin y.2.1 x.2, ()))
def body_String : Body := bodyT [.box 0 0] [shBld] (.ty .str) [shBldR] (fun _ _ => true) (fun _ y => (y.2.1, y.1, (), ()))
end Go.Av
