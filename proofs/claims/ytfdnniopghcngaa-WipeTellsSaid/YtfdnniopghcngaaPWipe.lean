/- Layer 30: the handler. -/
import Derived.Test.YtfdnniopghcngaaPItems
namespace Go.Av
open Go
def zeroL (h : Int) : List tItem.den := its [ldrI 0 5, movw 2 0, cmpI 0 2] ++ [itC 1 h]
def wipe1 (ref : Bool) (base n a : Int) : List tItem.den := headL ref n a ++ its [movw 0 0] ++ its (addrI ref 5 base 1) ++ its [strI 0 5] ++ tailL a
def look1 (ref : Bool) (base n a h : Int) : List tItem.den := headL ref n a ++ its (addrI ref 5 base 1) ++ zeroL h ++ tailL a
/-- l: the labels of the six loops. -/
def handL (ref : Bool) (l : Nat → Int) (s : tSizes.den) (twice : Bool) (h : Int) : List tItem.den :=
  [itL h] ++ its [movw 0 0] ++ its (wordI ref 5 537919488) ++ its [strI 0 5] ++
  wipe1 ref 537001984 s.2.1 (l 0) ++ wipe1 ref 537133056 s.2.2.1 (l 1) ++ wipe1 ref 537395200 s.2.2.1 (l 2) ++
  look1 ref 537001984 s.2.1 (l 3) h ++ look1 ref 537133056 s.2.2.1 (l 4) h ++ look1 ref 537395200 s.2.2.1 (l 5) h ++
  its (wordI ref 5 537919488) ++ zeroL h ++ its (wordI ref 5 538968064) ++ its (wordI ref 0 195890093) ++ its [strI 0 5, bkptI] ++ (match twice with
    | true => its [bkptI]
    | false => [])
def lab (ref : Bool) (first : Int) (k : Nat) : Int := match ref with
  | true => w64 (first + (2 * k : Nat))
  | false => match k with
    | 0 => w64 (first + 0)
    | 1 => w64 (first + 2)
    | 2 => w64 (first + 4)
    | 3 => w64 (w64 (first + 6) + 0)
    | 4 => w64 (w64 (first + 6) + 2)
    | _ => w64 (w64 (first + 6) + 4)
theorem w64_w64 (a b : Int) : w64 (w64 a + b) = w64 (a + b) := by
  simp only [w64, IntKind.wrap, IntKind.bits, IntKind.signed]
  simp
  omega
theorem handL_ref (s : tSizes.den) (twice : Bool) (h first : Int) : handL true (lab true first) s twice h = handL false (lab false first) s twice h := by
  have e : ∀ k, k < 6 → lab true first k = lab false first k := by
    intro k hk
    match k, hk with
    | 0, _ => rfl
    | 1, _ => rfl
    | 2, _ => rfl
    | 3, _ => simp only [lab, w64_w64]; congr 1; omega
    | 4, _ => simp only [lab, w64_w64]; congr 1; omega
    | 5, _ => simp only [lab, w64_w64]; congr 1; omega
  simp only [handL, wipe1, look1, headL_ref, addrI_ref, wordI_ref, e 0 (by omega), e 1 (by omega), e 2 (by omega), e 3 (by omega), e 4 (by omega), e 5 (by omega)]

abbrev A_wipe_Handler : List Ty := [tSizes, .bool, tI, tI]
abbrev S_wipe_Handler : Sh := .osl 32 tItem
def T_wipe_Handler (x : dens A_wipe_Handler) : PO (List tItem.den) := .ite x.2.1 (.ret (handL false (lab false x.2.2.2) x.1 true x.2.2.1)) (.ret (handL false (lab false x.2.2.2) x.1 false x.2.2.1))
def G_wipe_Handler (_ : dens A_wipe_Handler) : Bool := true
def V_wipe_Handler (x : dens A_wipe_Handler) : List tItem.den := handL false (lab false x.2.2.2) x.1 x.2.1 x.2.2.1
theorem ok_wipe_Handler (x : dens A_wipe_Handler) (_ : G_wipe_Handler x = true) : (T_wipe_Handler x).val = some (V_wipe_Handler x) := by
  unfold T_wipe_Handler V_wipe_Handler
  cases x.2.1 <;> rfl
abbrev A_hauberkref30_Handler : List Ty := [tSizes, .bool, tI, tI]
abbrev S_hauberkref30_Handler : Sh := .osl 32 tItem
def T_hauberkref30_Handler (x : dens A_hauberkref30_Handler) : PO (List tItem.den) := .ite x.2.1 (.ret (handL true (lab true x.2.2.2) x.1 true x.2.2.1)) (.ret (handL true (lab true x.2.2.2) x.1 false x.2.2.1))
def G_hauberkref30_Handler (_ : dens A_hauberkref30_Handler) : Bool := true
def V_hauberkref30_Handler (x : dens A_hauberkref30_Handler) : List tItem.den := handL true (lab true x.2.2.2) x.1 x.2.1 x.2.2.1
theorem ok_hauberkref30_Handler (x : dens A_hauberkref30_Handler) (_ : G_hauberkref30_Handler x = true) : (T_hauberkref30_Handler x).val = some (V_hauberkref30_Handler x) := by
  unfold T_hauberkref30_Handler V_hauberkref30_Handler
  cases x.2.1 <;> rfl
/-- hauberklaw30.lives: an example, computed -/
abbrev A_hauberklaw30_lives : List Ty := []
abbrev S_hauberklaw30_lives : Sh := .ty .bool
def T_hauberklaw30_lives (_ : dens A_hauberklaw30_lives) : PO Bool := .ret true
def G_hauberklaw30_lives (_ : dens A_hauberklaw30_lives) : Bool := true
def V_hauberklaw30_lives (_ : dens A_hauberklaw30_lives) : Bool := true
theorem ok_hauberklaw30_lives (x : dens A_hauberklaw30_lives) (_ : G_hauberklaw30_lives x = true) : (T_hauberklaw30_lives x).val = some (V_hauberklaw30_lives x) := rfl
/-- hauberklaw30.WipeTells -/
abbrev A_hauberklaw30_WipeTells : List Ty := [tSizes, .bool, (.int .i64), (.int .i64), (.int .i64), (.int .i64)]
abbrev S_hauberklaw30_WipeTells : Sh := Sh.ty Ty.bool
def T_hauberklaw30_WipeTells (x : dens A_hauberklaw30_WipeTells) : PO (Sh.den S_hauberklaw30_WipeTells) :=
  (.ite (G_hauberkref28_Same (V_wipe_Handler (x.1, x.2.1, x.2.2.1, x.2.2.2.1), V_hauberkref30_Handler (x.1, x.2.1, x.2.2.1, x.2.2.2.1)) && bif V_hauberkref28_Same (V_wipe_Handler (x.1, x.2.1, x.2.2.1, x.2.2.2.1), V_hauberkref30_Handler (x.1, x.2.1, x.2.2.1, x.2.2.2.1)) then G_hauberkref27_Same (V_wipe_Address (x.2.2.2.2.1, x.2.2.1, x.2.2.2.2.2), V_hauberkref30_Address (x.2.2.2.2.1, x.2.2.1, x.2.2.2.2.2)) && (V_hauberkref27_Same (V_wipe_Address (x.2.2.2.2.1, x.2.2.1, x.2.2.2.2.2), V_hauberkref30_Address (x.2.2.2.2.1, x.2.2.1, x.2.2.2.2.2)) || true) else true)
   (.ret (V_hauberkref28_Same (V_wipe_Handler (x.1, x.2.1, x.2.2.1, x.2.2.2.1), V_hauberkref30_Handler (x.1, x.2.1, x.2.2.1, x.2.2.2.1)) && (V_hauberkref27_Same (V_wipe_Address (x.2.2.2.2.1, x.2.2.1, x.2.2.2.2.2), V_hauberkref30_Address (x.2.2.2.2.1, x.2.2.1, x.2.2.2.2.2)) && true)))
   .fail)
end Go.Av
