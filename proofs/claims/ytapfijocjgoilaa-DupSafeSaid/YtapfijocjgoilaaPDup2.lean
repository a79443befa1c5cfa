/- Layer 28: what may be done twice. -/
import Derived.Test.YtapfijocjgoilaaPRef02
namespace Go.Av
open Go
def L_hauberkref28_has_2 : LoopN where
  M := [0, 1, 4, 5]
  T := [6, 7, 8, 9, 10, 11, 12, 13, 14, 15, 16]
  D := [0, 1, 5]
  ss := [.ty .str, .ty (.int .u8), .ty .bool, .ty (.int .i64)]
  hs := []
  es := [.exit 0, .ret]
  σ := (Ty.den .bool) × (Ty.den (.int .i64))
  x0 := fun x _ => (x.2.2.1, x.2.2.2)
  put := fun x _ s => ((x.1, x.2.1, s.1, s.2), ())
  fuel := fun x _ => List.length x.1+1
  turn := fun x _ s =>
  (.ite (decide (s.2 < lenI x.1))
   (.ite (inRange s.2 (List.length x.1))
    (.ite (u8I (List.getD x.1 (Int.toNat s.2) 0) == x.2.1)
     (.ret (.out 1 (true, s.2)))
     (.ret (.on (s.1, w64 (s.2 + 1)))))
    .fail)
   (.ret (.out 0 (s.1, s.2))))
/-- hauberkref28.has -/
abbrev A_hauberkref28_has : List Ty := [.str, (.int .u8)]
abbrev S_hauberkref28_has : Sh := Sh.ty Ty.bool
def T_hauberkref28_has (x : dens A_hauberkref28_has) : PO (Sh.den S_hauberkref28_has) :=
  (.opt (LoopN.res L_hauberkref28_has_2 (x.1, x.2, false, 0) ()) fun p0 =>
   (.ite (way p0.1)
    (.ret (false))
    (.ret (p0.2.1))))
def G_hauberkref28_has (x : dens A_hauberkref28_has) : Bool := decide (List.length x.1 < 4611686018427387904)
def V_hauberkref28_has (x : dens A_hauberkref28_has) : Sh.den S_hauberkref28_has := List.any x.1 fun b => u8I b == x.2
theorem ok_hauberkref28_has (x : dens A_hauberkref28_has) (h : G_hauberkref28_has x = true) : (T_hauberkref28_has x).val = some (V_hauberkref28_has x) := by
  obtain ⟨s, c⟩ := x
  have hs : List.length s < 4611686018427387904 := of_decide_eq_true h
  obtain ⟨o, st, h1, h2⟩ := has_run s c (L_hauberkref28_has_2.turn (s, c, false, 0) ()) (fun _ => rfl) hs
  have h1' : LoopN.res L_hauberkref28_has_2 (s, c, false, 0) () = some (o, st) := h1
  unfold T_hauberkref28_has PO.val
  rw [h1']
  exact h2
/-- hauberkref28.Safe -/
abbrev A_hauberkref28_Safe : List Ty := [tIns]
abbrev S_hauberkref28_Safe : Sh := Sh.ty Ty.bool
def T_hauberkref28_Safe (x : dens A_hauberkref28_Safe) : PO (Sh.den S_hauberkref28_Safe) :=
  (.ite (G_hauberkref02_Check x)
   (.ite (V_hauberkref02_Check x != 0 || (x.1 == 24 || (x.1 == 25 || x.1 == 2)))
    (.ret (false))
    (.ite (x.1 == 20 || x.1 == 22)
     (.ret (true))
     (.ite (G_hauberkref28_has (V_hauberkref02_Bits (x.1, x.2.2.2.2.2.2.2.1), 110) && G_hauberkref28_has (V_hauberkref02_Bits (x.1, x.2.2.2.2.2.2.2.1), 109))
      (.ite (G_hauberkref28_has (V_hauberkref02_Bits (x.1, x.2.2.2.2.2.2.2.1), 100))
       (.ite (V_hauberkref28_has (V_hauberkref02_Bits (x.1, x.2.2.2.2.2.2.2.1), 100) && bif V_hauberkref28_has (V_hauberkref02_Bits (x.1, x.2.2.2.2.2.2.2.1), 110) then x.2.1 == x.2.2.1 || V_hauberkref28_has (V_hauberkref02_Bits (x.1, x.2.2.2.2.2.2.2.1), 109) && x.2.1 == x.2.2.2.1 else V_hauberkref28_has (V_hauberkref02_Bits (x.1, x.2.2.2.2.2.2.2.1), 109) && x.2.1 == x.2.2.2.1)
        (.ret (false))
        (.ite (G_hauberkref28_has (V_hauberkref02_Bits (x.1, x.2.2.2.2.2.2.2.1), 97))
         (.ret (!V_hauberkref28_has (V_hauberkref02_Bits (x.1, x.2.2.2.2.2.2.2.1), 97) || x.2.2.2.2.1 != x.2.2.1 && x.2.2.2.2.1 != x.2.2.2.1))
         .fail))
       .fail)
      .fail)))
   .fail)
def G_hauberkref28_Safe (x : dens A_hauberkref28_Safe) : Bool := (T_hauberkref28_Safe x).val.isSome
def V_hauberkref28_Safe (x : dens A_hauberkref28_Safe) : Sh.den S_hauberkref28_Safe := (T_hauberkref28_Safe x).getO default
theorem ok_hauberkref28_Safe (x : dens A_hauberkref28_Safe) (h : G_hauberkref28_Safe x = true) : (T_hauberkref28_Safe x).val = some (V_hauberkref28_Safe x) := PO.getO_ok default h
/-- hauberklaw28.lives: an example, computed -/
abbrev A_hauberklaw28_lives : List Ty := []
abbrev S_hauberklaw28_lives : Sh := .ty .bool
def T_hauberklaw28_lives (_ : dens A_hauberklaw28_lives) : PO Bool := .ret true
def G_hauberklaw28_lives (_ : dens A_hauberklaw28_lives) : Bool := true
def V_hauberklaw28_lives (_ : dens A_hauberklaw28_lives) : Bool := true
theorem ok_hauberklaw28_lives (x : dens A_hauberklaw28_lives) (_ : G_hauberklaw28_lives x = true) : (T_hauberklaw28_lives x).val = some (V_hauberklaw28_lives x) := rfl
/-- hauberklaw28.DupSafe -/
abbrev A_hauberklaw28_DupSafe : List Ty := [tIns]
abbrev S_hauberklaw28_DupSafe : Sh := Sh.ty Ty.bool
def T_hauberklaw28_DupSafe (x : dens A_hauberklaw28_DupSafe) : PO (Sh.den S_hauberklaw28_DupSafe) :=
  (.ite (G_hauberkref28_Safe x && (V_dup_Safe x == V_hauberkref28_Safe x || true))
   (.ret (V_dup_Safe x == V_hauberkref28_Safe x && true))
   .fail)
end Go.Av
