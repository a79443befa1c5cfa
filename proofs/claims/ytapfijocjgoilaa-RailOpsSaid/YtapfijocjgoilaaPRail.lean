/- Layer 29: ways between blocks. -/
import Derived.Test.YtapfijocjgoilaaPItems
namespace Go.Av
open Go
/-- A block's tag, less one: no tag is 0. -/
def tagN (k : Int) : Nat := ((k + 1) % 65536).toNat + 65536 * (65535 - ((k + 1) % 65536).toNat) - 1
def V_rail_Tag (x : dens [(.int .i64)]) : Int := Int.ofNat (Nat.succ (tagN x))
def V_hauberkref29_Tag (x : dens [(.int .i64)]) : Int := Int.ofNat (Nat.succ (tagN x))
theorem nat_xor (m : Nat) (h : m < 2 ^ 16) : m ^^^ (2 ^ 16 - 1) = 2 ^ 16 - (m + 1) := by
  apply Nat.eq_of_testBit_eq
  intro i
  rw [Nat.testBit_xor, Nat.testBit_two_pow_sub_one, Nat.testBit_two_pow_sub_succ h]
  by_cases hi : i < 16
  · simp [hi]
  · have : m.testBit i = false := Nat.testBit_lt_two_pow (Nat.lt_of_lt_of_le h (Nat.pow_le_pow_right (by omega) (by omega)))
    simp [hi, this]
theorem ofInt_nat (m : Nat) (h : m < 2 ^ 63) : (BitVec.ofInt 64 (m : Int)).toNat = m := by
  rw [BitVec.ofInt_natCast, BitVec.toNat_ofNat, Nat.mod_eq_of_lt (by omega)]
theorem bxor_16 (m : Nat) (h : m < 65536) : bxor .i64 m 65535 = 65535 - m := by
  show IntKind.i64.wrap (BitVec.ofInt 64 (m : Int) ^^^ BitVec.ofInt 64 ((65535 : Nat) : Int)).toNat = _
  rw [BitVec.toNat_xor, ofInt_nat _ (by omega), ofInt_nat _ (by omega), nat_xor m h]
  rw [wrap_i64 _ (by omega) (by omega)]
  omega
theorem bor_16 (a m : Nat) (h : m < 65536) (ha : a < 65536) : bor .i64 m (a * 65536 : Nat) = m + a * 65536 := by
  show IntKind.i64.wrap (BitVec.ofInt 64 (m : Int) ||| BitVec.ofInt 64 ((a * 65536 : Nat) : Int)).toNat = _
  rw [BitVec.toNat_or, ofInt_nat _ (by omega), ofInt_nat _ (by omega), Nat.or_comm]
  have := Nat.two_pow_add_eq_or_of_lt (i := 16) (b := m) h a
  rw [Nat.mul_comm a 65536, show (65536 : Nat) = 2 ^ 16 from rfl, ← this]
  rw [wrap_i64 _ (by omega) (by omega)]
  omega
theorem ishl_16 (n : Int) : ishl .i64 n 16 = w64 (n * 65536) := rfl
/-- A block's tag. -/
theorem tag_val (k : Int) : bor IntKind.i64 (band IntKind.i64 (w64 (k + 1)) 65535) (ishl IntKind.i64 (bxor IntKind.i64 (band IntKind.i64 (w64 (k + 1)) 65535) 65535) 16) = V_rail_Tag k ∧
    w64 (w64 (Int.tmod (IntKind.wrap IntKind.u64 (IntKind.wrap IntKind.u64 k + 1)) 65536) + w64 (65536 * w64 (65535 - w64 (Int.tmod (IntKind.wrap IntKind.u64 (IntKind.wrap IntKind.u64 k + 1)) 65536)))) = V_rail_Tag k := by
  have hp : ((w64 (k + 1)) % 65536 : Int) = (k + 1) % 65536 := by
    simp only [w64, IntKind.wrap, IntKind.bits, IntKind.signed]
    simp
    omega
  obtain ⟨m, hm⟩ : ∃ m : Nat, (k + 1) % 65536 = (m : Int) := ⟨((k + 1) % 65536).toNat, by omega⟩
  have hm' : m < 65536 := by omega
  have hv : V_rail_Tag k = m + 65536 * (65535 - m) := by
    show ((Nat.succ (tagN k) : Nat) : Int) = _
    simp only [tagN]
    omega
  rw [hv]
  refine ⟨?_, ?_⟩
  · rw [band_16, hp, hm, bxor_16 m hm', ishl_16, w64_id (by omega) (by omega)]
    have := bor_16 (65535 - m) m hm' (by omega)
    rw [show ((65535 : Int) - m) * 65536 = ((65535 - m) * 65536 : Nat) by omega, this]
    omega
  · rw [u64_wrap, u64_wrap, tmod_pos _ _ (by omega)]
    have : ((k % 18446744073709551616 + 1) % 18446744073709551616 % 65536 : Int) = (k + 1) % 65536 := by omega
    rw [this, hm, w64_id (n := (m : Int)) (by omega) (by omega), w64_id (n := 65535 - (m : Int)) (by omega) (by omega), w64_id (n := 65536 * (65535 - (m : Int))) (by omega) (by omega), w64_id (by omega) (by omega)]
/-- rail.Tag -/
abbrev A_rail_Tag : List Ty := [(.int .i64)]
abbrev S_rail_Tag : Sh := Sh.ty (Ty.int IntKind.i64)
def T_rail_Tag (x : dens A_rail_Tag) : PO (Sh.den S_rail_Tag) :=
  (.ret (bor IntKind.i64 (band IntKind.i64 (w64 (x + 1)) 65535) (ishl IntKind.i64 (bxor IntKind.i64 (band IntKind.i64 (w64 (x + 1)) 65535) 65535) 16)))
def G_rail_Tag (_ : dens A_rail_Tag) : Bool := true
theorem ok_rail_Tag (x : dens A_rail_Tag) (_ : G_rail_Tag x = true) : (T_rail_Tag x).val = some (V_rail_Tag x) := congrArg some (tag_val x).1
/-- hauberkref29.Tag -/
abbrev A_hauberkref29_Tag : List Ty := [(.int .i64)]
abbrev S_hauberkref29_Tag : Sh := Sh.ty (Ty.int IntKind.i64)
def T_hauberkref29_Tag (x : dens A_hauberkref29_Tag) : PO (Sh.den S_hauberkref29_Tag) :=
  (.ret (w64 (w64 (Int.tmod (IntKind.wrap IntKind.u64 (IntKind.wrap IntKind.u64 x + 1)) 65536) + w64 (65536 * w64 (65535 - w64 (Int.tmod (IntKind.wrap IntKind.u64 (IntKind.wrap IntKind.u64 x + 1)) 65536))))))
def G_hauberkref29_Tag (_ : dens A_hauberkref29_Tag) : Bool := true
theorem ok_hauberkref29_Tag (x : dens A_hauberkref29_Tag) (_ : G_hauberkref29_Tag x = true) : (T_hauberkref29_Tag x).val = some (V_hauberkref29_Tag x) := congrArg some (tag_val x).2
/-- The way from rail r, at 0, and to it. -/
def railA (r : Nat) : Int := match r with
  | 0 => 8196
  | _ => 8200
def getL (r : Nat) (d : Int) : List tIns.den := [movw 7 0, insI 4 7 0 0 0 (railA r) 0, ldrI d 7]
def putL (r : Nat) (d : Int) : List tIns.den := [movw 7 0, insI 4 7 0 0 0 (railA r) 0, strI d 7]
/-- A comparison of register 0 with a number, and a branch. -/
def numI (ref z : Bool) (n : Int) : List tIns.den := match z with
  | true => [movw 1 (match ref with
    | true => lo true n
    | false => 0)]
  | false => wordI ref 1 n
def cmpL (ref z : Bool) (n c to : Int) : List tItem.den := its (numI ref z n ++ [cmpI 0 1]) ++ [itC c to]
def edgeL (ref : Bool) (tag : Int) : List tItem.den := its (wordI ref 3 tag ++ putL 0 3 ++ wordI ref 3 tag ++ putL 1 3)
def enterL (ref z : Bool) (tag k h : Int) : List tItem.den := [itL k] ++ its (getL 0 0) ++ cmpL ref z tag 1 h ++ its (getL 1 0) ++ cmpL ref z tag 1 h
def jumpL (ref : Bool) (tag k : Int) : List tItem.den := edgeL ref tag ++ [itB k, itB k]
abbrev A_rail_Edge : List Ty := [tI]
abbrev S_rail_Edge : Sh := .osl 32 tItem
def T_rail_Edge (x : dens A_rail_Edge) : PO (List tItem.den) := .ret (edgeL false (V_rail_Tag x))
def G_rail_Edge (_ : dens A_rail_Edge) : Bool := true
def V_rail_Edge (x : dens A_rail_Edge) : List tItem.den := edgeL false (V_rail_Tag x)
theorem ok_rail_Edge (x : dens A_rail_Edge) (_ : G_rail_Edge x = true) : (T_rail_Edge x).val = some (V_rail_Edge x) := rfl
abbrev A_rail_Enter : List Ty := [tI, tI]
abbrev S_rail_Enter : Sh := .osl 32 tItem
def T_rail_Enter (x : dens A_rail_Enter) : PO (List tItem.den) := .ret (enterL false false (V_rail_Tag x.1) x.1 x.2)
def G_rail_Enter (_ : dens A_rail_Enter) : Bool := true
def V_rail_Enter (x : dens A_rail_Enter) : List tItem.den := enterL false false (V_rail_Tag x.1) x.1 x.2
theorem ok_rail_Enter (x : dens A_rail_Enter) (_ : G_rail_Enter x = true) : (T_rail_Enter x).val = some (V_rail_Enter x) := rfl
abbrev A_rail_Jump : List Ty := [tI, tI]
abbrev S_rail_Jump : Sh := .osl 32 tItem
def T_rail_Jump (x : dens A_rail_Jump) : PO (List tItem.den) := .ite (decide (x.1 < 0)) (.ret [itB x.2, itB x.2]) (.ret (jumpL false (V_rail_Tag x.1) x.1))
def G_rail_Jump (_ : dens A_rail_Jump) : Bool := true
def V_rail_Jump (x : dens A_rail_Jump) : List tItem.den := bif decide (x.1 < 0) then [itB x.2, itB x.2] else jumpL false (V_rail_Tag x.1) x.1
theorem ok_rail_Jump (x : dens A_rail_Jump) (_ : G_rail_Jump x = true) : (T_rail_Jump x).val = some (V_rail_Jump x) := by
  unfold T_rail_Jump V_rail_Jump PO.val
  cases decide (x.1 < 0) <;> rfl
/-- hauberklaw29.lives: an example, computed -/
abbrev A_hauberklaw29_lives : List Ty := []
abbrev S_hauberklaw29_lives : Sh := .ty .bool
def T_hauberklaw29_lives (_ : dens A_hauberklaw29_lives) : PO Bool := .ret true
def G_hauberklaw29_lives (_ : dens A_hauberklaw29_lives) : Bool := true
def V_hauberklaw29_lives (_ : dens A_hauberklaw29_lives) : Bool := true
theorem ok_hauberklaw29_lives (x : dens A_hauberklaw29_lives) (_ : G_hauberklaw29_lives x = true) : (T_hauberklaw29_lives x).val = some (V_hauberklaw29_lives x) := rfl
/-- The law's last line, of the three lists. -/
def waysL (x : dens [tI, tI]) (a b c : List tItem.den) : PO Bool :=
  (.ite (bif V_rail_Tag x.1 == V_hauberkref29_Tag x.1 then G_hauberkref28_Same (V_rail_Edge x.1, a) && (bif V_hauberkref28_Same (V_rail_Edge x.1, a) then G_hauberkref28_Same (V_rail_Enter x, b) && (bif V_hauberkref28_Same (V_rail_Enter x, b) then G_hauberkref28_Same (V_rail_Jump x, c) && (V_hauberkref28_Same (V_rail_Jump x, c) || true) else true) else true) else true)
   (.ret (V_rail_Tag x.1 == V_hauberkref29_Tag x.1 && (V_hauberkref28_Same (V_rail_Edge x.1, a) && (V_hauberkref28_Same (V_rail_Enter x, b) && (V_hauberkref28_Same (V_rail_Jump x, c) && true)))))
   .fail)
/-- hauberklaw29.RailWays -/
abbrev A_hauberklaw29_RailWays : List Ty := [tI, tI]
abbrev S_hauberklaw29_RailWays : Sh := Sh.ty Ty.bool
def T_hauberklaw29_RailWays (x : dens A_hauberklaw29_RailWays) : PO (Sh.den S_hauberklaw29_RailWays) :=
  .ite (decide (x.1 ≥ 0))
    (waysL x (edgeL true (V_hauberkref29_Tag x.1)) (enterL true false (V_hauberkref29_Tag x.1) x.1 x.2) (jumpL true (V_hauberkref29_Tag x.1) x.1))
    (waysL x (edgeL true (V_hauberkref29_Tag x.1)) (enterL true false (V_hauberkref29_Tag x.1) x.1 x.2) [itB x.2, itB x.2])
end Go.Av
