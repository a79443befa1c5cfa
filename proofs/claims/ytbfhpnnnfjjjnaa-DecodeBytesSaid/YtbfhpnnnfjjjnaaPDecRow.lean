/- Layer 3: what the document reads of a row's letters. -/
import Derived.Test.YtbfhpnnnfjjjnaaPDecBack
namespace Go.Av
open Go
/-- What has been read. -/
structure Rd where
  x : Bool
  y : Bool
  t : Bool
  d : List Bool
  n : List Bool
  m : List Bool
  a : List Bool
  c : List Bool
  w : List Bool
  imm : List (Nat × Bool)
def Rd.zero : Rd := ⟨false, false, false, [], [], [], [], [], [], []⟩
def isBig (c : UInt8) : Bool := Nat.ble 65 c.toNat && Nat.ble c.toNat 89
def Rd.step (s : Rd) (c : UInt8) (b : Bool) : Rd where
  x := bif c == 120 then b else s.x
  y := bif c == 121 then b else s.y
  t := bif c == 89 then b else s.t
  d := bif c == 100 then s.d ++ [b] else s.d
  n := bif c == 110 then s.n ++ [b] else s.n
  m := bif c == 109 then s.m ++ [b] else s.m
  a := bif c == 97 then s.a ++ [b] else s.a
  c := bif c == 99 then s.c ++ [b] else s.c
  w := bif c == 119 then s.w ++ [b] else s.w
  imm := bif isBig c then s.imm ++ [(c.toNat - 65, b)] else s.imm
def bN (b : Bool) : Int := ((b.toNat : Nat) : Int)
/-- The number of placed bits. -/
def immN : List (Nat × Bool) → Nat
  | [] => 0
  | p :: l => p.2.toNat * 2 ^ p.1 + immN l
theorem immN_append : ∀ (l : List (Nat × Bool)) (k : Nat) (b : Bool), immN (l ++ [(k, b)]) = immN l + b.toNat * 2 ^ k
  | [], k, b => by show b.toNat * 2 ^ k + 0 = 0 + b.toNat * 2 ^ k; rw [Nat.add_zero, Nat.zero_add]
  | p :: l, k, b => by
    show p.2.toNat * 2 ^ p.1 + immN (l ++ [(k, b)]) = p.2.toNat * 2 ^ p.1 + immN l + b.toNat * 2 ^ k
    rw [immN_append l k b, Nat.add_assoc]
/-- The instruction of what has been read. -/
def finR (op : Int) (w : Bool) (s : Rd) : tIns.den :=
  bif op == 18 then (op, H s.d, H s.n, H s.m, w64 (w64 (H s.w + 1) - ((immN s.imm : Nat) : Int)), ((immN s.imm : Nat) : Int), H s.c, w, ())
  else bif op == 24 && w then (op, H s.d, H s.n, H s.m, H s.a, V_hauberkref03_sign (w64 (w64 (((immN s.imm : Nat) : Int) + w64 (Int.tmod (w64 (w64 (bN s.x + bN s.t) + 1)) 2 * V_hauberkref03_power 23)) + w64 (Int.tmod (w64 (w64 (bN s.y + bN s.t) + 1)) 2 * V_hauberkref03_power 22)), 24), H s.c, w, ())
  else bif op == 24 then (op, H s.d, H s.n, H s.m, H s.a, V_hauberkref03_sign (((immN s.imm : Nat) : Int), 11), H s.c, w, ())
  else bif op == 25 && w then (op, H s.d, H s.n, H s.m, H s.a, V_hauberkref03_sign (((immN s.imm : Nat) : Int), 20), H s.c, w, ())
  else bif op == 25 then (op, H s.d, H s.n, H s.m, H s.a, V_hauberkref03_sign (((immN s.imm : Nat) : Int), 8), H s.c, w, ())
  else (op, H s.d, H s.n, H s.m, H s.a, ((immN s.imm : Nat) : Int), H s.c, w, ())
def foldR (p : List UInt8) (l : List Bool) : Rd := (p.zip l).foldl (fun s q => s.step q.1 q.2) Rd.zero
/-- The instruction of a row's bits. -/
def iRow (op : Int) (w : Bool) (l : List Bool) : tIns.den := finR op w (foldR (V_hauberkref02_Bits (op, w)) l)
theorem sign_SG (b : Bool) (r : List Bool) : V_hauberkref03_sign (H (b :: r), (r.length : Int)) = SG (b :: r) := by
  rw [SG_eq]
  have h1 := H_nonneg r
  have h2 := H_lt (l := r) (Nat.le_refl _)
  show (bif decide (H (b :: r) ≥ (2 ^ Int.toNat (r.length : Int) : Nat)) then H (b :: r) - 2 * (2 ^ Int.toNat (r.length : Int) : Nat) else H (b :: r)) = _
  rw [Int.toNat_natCast, Nat.pow_succ, H_cons]
  generalize 2 ^ r.length = q at *
  cases b
  · rw [dec_false (by simp; omega)]
    rfl
  · rw [dec_true (by simp; omega)]
    simp only [cond_true, Bool.toNat_true]
    omega
theorem fin24 (q : Nat) (hq : q < 33554432) (x y t : Bool) : w64 (w64 ((q : Int) + w64 (Int.tmod (w64 (w64 (bN x + bN t) + 1)) 2 * 8388608)) + w64 (Int.tmod (w64 (w64 (bN y + bN t) + 1)) 2 * 4194304)) = ((q + (nx x t).toNat * 8388608 + (nx y t).toNat * 4194304 : Nat) : Int) := by
  have t0 : ∀ x t : Bool, w64 (Int.tmod (w64 (w64 (bN x + bN t) + 1)) 2 * 8388608) = (((nx x t).toNat * 8388608 : Nat) : Int) := by
    intro x t
    cases x <;> cases t <;> rfl
  have t1 : ∀ x t : Bool, w64 (Int.tmod (w64 (w64 (bN x + bN t) + 1)) 2 * 4194304) = (((nx x t).toNat * 4194304 : Nat) : Int) := by
    intro x t
    cases x <;> cases t <;> rfl
  have h0 := Bool.toNat_le (nx x t)
  have h1 := Bool.toNat_le (nx y t)
  rw [t0, t1]
  generalize (nx x t).toNat = a at *
  generalize (nx y t).toNat = b at *
  rw [w64_id (n := (q : Int) + ((a * 8388608 : Nat) : Int)) (by omega) (by omega), w64_id (by omega) (by omega)]
  omega
end Go.Av
