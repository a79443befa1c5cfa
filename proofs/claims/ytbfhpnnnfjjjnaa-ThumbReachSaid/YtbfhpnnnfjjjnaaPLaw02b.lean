/- Layer 2's statements: a branch's reach. -/
import Derived.Test.YtbfhpnnnfjjjnaaPEncB
namespace Go.Av
open Go
/-- hauberklaw02.ThumbReach -/
abbrev A_hauberklaw02_ThumbReach : List Ty := [(.int .i64), (.int .i64), (.int .i64)]
abbrev S_hauberklaw02_ThumbReach : Sh := Sh.ty Ty.bool
def T_hauberklaw02_ThumbReach (x : dens A_hauberklaw02_ThumbReach) : PO (Sh.den S_hauberklaw02_ThumbReach) :=
  (.ite (bif x.1 != 24 then x.1 != 25 || (decide (x.2.1 < 0) || decide (x.2.1 > 13)) else decide (x.2.1 < 0) || decide (x.2.1 > 13))
   (.ret (true))
   (.ite (bif Int.tmod x.2.2 2 == 0 then bif decide (x.2.2 ≥ (V_thumb_Reach (x.1, false)).1) then !(V_thumb_Check (x.1, 0, 0, 0, 0, x.2.2, bif x.1 == 24 then 0 else x.2.1, false, ()) == 0) == decide (x.2.2 ≤ (V_thumb_Reach (x.1, false)).2.1) || (decide ((V_thumb_Reach (x.1, false)).1 ≥ 0) || decide ((V_thumb_Reach (x.1, false)).2.1 ≤ 0)) else !(V_thumb_Check (x.1, 0, 0, 0, 0, x.2.2, bif x.1 == 24 then 0 else x.2.1, false, ()) == 0) == false || (decide ((V_thumb_Reach (x.1, false)).1 ≥ 0) || decide ((V_thumb_Reach (x.1, false)).2.1 ≤ 0)) else !(V_thumb_Check (x.1, 0, 0, 0, 0, x.2.2, bif x.1 == 24 then 0 else x.2.1, false, ()) == 0) == false || (decide ((V_thumb_Reach (x.1, false)).1 ≥ 0) || decide ((V_thumb_Reach (x.1, false)).2.1 ≤ 0)))
    (.ret (false))
    (.ite (bif Int.tmod x.2.2 2 == 0 then bif decide (x.2.2 ≥ (V_thumb_Reach (x.1, true)).1) then !(V_thumb_Check (x.1, 0, 0, 0, 0, x.2.2, bif x.1 == 24 then 0 else x.2.1, true, ()) == 0) == decide (x.2.2 ≤ (V_thumb_Reach (x.1, true)).2.1) || (decide ((V_thumb_Reach (x.1, true)).1 ≥ 0) || decide ((V_thumb_Reach (x.1, true)).2.1 ≤ 0)) else !(V_thumb_Check (x.1, 0, 0, 0, 0, x.2.2, bif x.1 == 24 then 0 else x.2.1, true, ()) == 0) == false || (decide ((V_thumb_Reach (x.1, true)).1 ≥ 0) || decide ((V_thumb_Reach (x.1, true)).2.1 ≤ 0)) else !(V_thumb_Check (x.1, 0, 0, 0, 0, x.2.2, bif x.1 == 24 then 0 else x.2.1, true, ()) == 0) == false || (decide ((V_thumb_Reach (x.1, true)).1 ≥ 0) || decide ((V_thumb_Reach (x.1, true)).2.1 ≤ 0)))
     (.ret (false))
     (.ite (V_thumb_Check (x.1, 0, 0, 0, 0, x.2.2, bif x.1 == 24 then 0 else x.2.1, false, ()) != 0 || (V_thumb_Check (x.1, 0, 0, 0, 0, x.2.2, bif x.1 == 24 then 0 else x.2.1, true, ()) == 0 || true))
      (.ret (V_thumb_Check (x.1, 0, 0, 0, 0, x.2.2, bif x.1 == 24 then 0 else x.2.1, false, ()) != 0 || V_thumb_Check (x.1, 0, 0, 0, 0, x.2.2, bif x.1 == 24 then 0 else x.2.1, true, ()) == 0 && true))
      .fail))))
def G_hauberklaw02_ThumbReach (_ : dens A_hauberklaw02_ThumbReach) : Bool := true
def V_hauberklaw02_ThumbReach (x : dens A_hauberklaw02_ThumbReach) : Sh.den S_hauberklaw02_ThumbReach := (T_hauberklaw02_ThumbReach x).getO default
theorem ok_hauberklaw02_ThumbReach (x : dens A_hauberklaw02_ThumbReach) (_ : G_hauberklaw02_ThumbReach x = true) : (T_hauberklaw02_ThumbReach x).val = some (V_hauberklaw02_ThumbReach x) := PO.tots_ok default (by simp [T_hauberklaw02_ThumbReach, PO.tots])
end Go.Av
