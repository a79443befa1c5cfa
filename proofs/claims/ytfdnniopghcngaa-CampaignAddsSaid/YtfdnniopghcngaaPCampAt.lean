/- All faults at a step. -/
import Derived.Test.YtfdnniopghcngaaPBase
namespace Go.Av
open Go
def skipF (k : Int) : tFault.den := (1, k, 0, 0, ())
def flipF (k : Int) (r b : Nat) : tFault.den := (2, k, (r : Int), (b : Int), ())
def flagF (k : Int) (b : Nat) : tFault.den := (3, k, 0, (b : Int), ())
def flipsTo (k : Int) (r b : Nat) : List tFault.den := (List.range b).map (flipF k r)
def rowsTo (k : Int) (r : Nat) : List tFault.den := (List.range r).flatMap fun i => flipsTo k i 32
def flagsTo (k : Int) (b : Nat) : List tFault.den := (List.range b).map (flagF k)
/-- All faults at a step. -/
def atL (k : Int) : List tFault.den := [skipF k] ++ rowsTo k 15 ++ flagsTo k 4
theorem flipsTo_succ (k : Int) (r b : Nat) : flipsTo k r (b + 1) = flipsTo k r b ++ [flipF k r b] := by simp [flipsTo, List.range_succ]
theorem rowsTo_succ (k : Int) (r : Nat) : rowsTo k (r + 1) = rowsTo k r ++ flipsTo k r 32 := by simp [rowsTo, List.range_succ]
theorem flagsTo_succ (k : Int) (b : Nat) : flagsTo k (b + 1) = flagsTo k b ++ [flagF k b] := by simp [flagsTo, List.range_succ]
theorem flipsTo_len (k : Int) (r b : Nat) : (flipsTo k r b).length = b := by simp [flipsTo]
theorem rowsTo_len (k : Int) : ∀ r : Nat, (rowsTo k r).length = 32 * r
  | 0 => rfl
  | r + 1 => by rw [rowsTo_succ, List.length_append, rowsTo_len k r, flipsTo_len]; omega
theorem flagsTo_len (k : Int) (b : Nat) : (flagsTo k b).length = b := by simp [flagsTo]
theorem atL_len (k : Int) : (atL k).length = 485 := by unfold atL; rw [List.length_append, List.length_append, rowsTo_len, flagsTo_len]; rfl
abbrev A_campaign_At : List Ty := [.int .i64]
abbrev S_campaign_At : Sh := Sh.ty (Ty.sl tFault)
def G_campaign_At (_ : dens A_campaign_At) : Bool := true
def V_campaign_At (k : dens A_campaign_At) : S_campaign_At.den := bif decide ((k : Int) < 0) then [] else atL k
end Go.Av
