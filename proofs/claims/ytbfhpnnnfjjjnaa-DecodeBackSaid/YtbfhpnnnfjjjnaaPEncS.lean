/- Layer 2: how many bytes an instruction has. -/
import Derived.Test.YtbfhpnnnfjjjnaaPEncLaw
namespace Go.Av
open Go
/-- thumb.Size -/
abbrev A_thumb_Size : List Ty := [tIns]
abbrev S_thumb_Size : Sh := Sh.ty (Ty.int IntKind.i64)
def T_thumb_Size (x : dens A_thumb_Size) : PO (Sh.den S_thumb_Size) :=
  (.ite (V_thumb_Check x != 0)
   (.ret (0))
   (.ite (G_thumb_bits x)
    (.ite ((V_thumb_bits x).2.2.1)
     (.ret (4))
     (.ret (2)))
    .fail))
def G_thumb_Size (_ : dens A_thumb_Size) : Bool := true
def V_thumb_Size (x : dens A_thumb_Size) : Sh.den S_thumb_Size := bif V_thumb_Check x != 0 then 0 else bif isLong x.1 x.2.2.2.2.2.2.2.1 then 4 else 2
theorem size_val (x : tIns.den) : (T_thumb_Size x).val = some (bif V_thumb_Check x != 0 then 0 else bif isLong x.1 x.2.2.2.2.2.2.2.1 then 4 else 2) := by
  obtain ⟨op, rd, rn, rm, ra, imm, cond, w, u⟩ := x
  show (bif V_thumb_Check (op, rd, rn, rm, ra, imm, cond, w, ()) != 0 then some 0 else (bif (T_thumb_bits (op, rd, rn, rm, ra, imm, cond, w, ())).val.isSome then (bif ((T_thumb_bits (op, rd, rn, rm, ra, imm, cond, w, ())).val.getD default).2.2.1 then some 4 else some 2) else none)) = some (bif V_thumb_Check (op, rd, rn, rm, ra, imm, cond, w, ()) != 0 then 0 else bif isLong op w then 4 else 2)
  cases hc : (V_thumb_Check (op, rd, rn, rm, ra, imm, cond, w, ()) != (0 : Int))
  · have h : V_thumb_Check (op, rd, rn, rm, ra, imm, cond, w, ()) = 0 := by simpa using hc
    rw [bits_val op rd rn rm ra imm cond w h]
    show (bif (codeV op rd rn rm ra imm cond w).2.2.1 then some 4 else some 2) = some (bif isLong op w then 4 else 2)
    rw [code_long op rd rn rm ra imm cond w h]
    cases isLong op w <;> rfl
  · rfl
theorem ok_thumb_Size (x : dens A_thumb_Size) (_ : G_thumb_Size x = true) : (T_thumb_Size x).val = some (V_thumb_Size x) := size_val x
end Go.Av
