/- Layer 34's statements: CampaignAt, CampaignAdds. -/
import Derived.Test.YtfdnniopghcngaaPCampaign
import Derived.Test.YtfdnniopghcngaaPCampAt
namespace Go.Av
open Go
def L_campaign_Skips_3 : LoopN where
  M := [3, 7, 8]
  T := [4, 9, 10, 11, 12, 13, 14, 15, 16]
  D := [7, 8]
  ss := [.osl 0 tFault, .ty (.int .i64), .ty (.int .i64)]
  hs := []
  es := [.exit 0]
  σ := (List (Ty.den tFault)) × (Ty.den (.int .i64))
  x0 := fun x _ => (x.1, x.2.2)
  put := fun x _ s => ((s.1, x.2.1, s.2), ())
  fuel := fun x _ => Int.toNat x.2.1+1
  turn := fun x _ s =>
  (.ite (decide (s.2 < x.2.1))
   (.ite (Nat.ble ((List.length s.1 + List.length [(1, s.2, 0, 0, ())]) * 32) 140737488355328)
    (.ret (.on (s.1 ++ [(1, s.2, 0, 0, ())], w64 (s.2 + 1))))
    .fail)
   (.ret (.out 0 (s.1, s.2))))
/-- campaign.Skips -/
abbrev A_campaign_Skips : List Ty := [(.int .i64)]
abbrev S_campaign_Skips : Sh := Sh.osl 32 tFault
def T_campaign_Skips (x : dens A_campaign_Skips) : PO (Sh.den S_campaign_Skips) :=
  (.opt (LoopN.res L_campaign_Skips_3 ([], imax 0 (imin x 4194304), 0) ()) fun p0 =>
   (.ret (p0.2.1)))
def G_campaign_Skips (x : dens A_campaign_Skips) : Bool := (T_campaign_Skips x).val.isSome
def V_campaign_Skips (x : dens A_campaign_Skips) : Sh.den S_campaign_Skips := (T_campaign_Skips x).getO default
theorem ok_campaign_Skips (x : dens A_campaign_Skips) (h : G_campaign_Skips x = true) : (T_campaign_Skips x).val = some (V_campaign_Skips x) := PO.getO_ok default h
def L_hauberkref34_At_5 : LoopN where
  M := [0, 3, 4]
  T := [11, 12, 13, 14, 15, 16, 17, 18, 19, 20, 21, 22, 23]
  D := [4]
  ss := [.ty (.int .i64), .osl 0 tFault, .ty (.int .i64)]
  hs := []
  es := [.exit 0]
  σ := (List (Ty.den tFault)) × (Ty.den (.int .i64))
  x0 := fun x _ => (x.2.1, x.2.2)
  put := fun x _ s => ((x.1, s.1, s.2), ())
  fuel := fun _ _ => 481
  turn := fun x _ s =>
  (.ite (decide (s.2 < 480))
   (.ite (Nat.ble ((List.length s.1 + List.length [(2, x.1, w64 (Int.tdiv s.2 32), Int.tmod s.2 32, ())]) * 32) 140737488355328)
    (.ret (.on (s.1 ++ [(2, x.1, w64 (Int.tdiv s.2 32), Int.tmod s.2 32, ())], w64 (s.2 + 1))))
    .fail)
   (.ret (.out 0 (s.1, s.2))))
def L_hauberkref34_At_9 : LoopN where
  M := [0, 3, 5]
  T := [24, 25, 26, 27, 28, 29, 30, 31, 32, 33]
  D := [0, 5]
  ss := [.ty (.int .i64), .osl 0 tFault, .ty (.int .i64)]
  hs := []
  es := [.exit 2]
  σ := (List (Ty.den tFault)) × (Ty.den (.int .i64))
  x0 := fun x _ => (x.2.1, x.2.2)
  put := fun x _ s => ((x.1, s.1, s.2), ())
  fuel := fun _ _ => 5
  turn := fun x _ s =>
  (.ite (decide (s.2 < 4))
   (.ite (Nat.ble ((List.length s.1 + List.length [(3, x.1, 0, s.2, ())]) * 32) 140737488355328)
    (.ret (.on (s.1 ++ [(3, x.1, 0, s.2, ())], w64 (s.2 + 1))))
    .fail)
   (.ret (.out 0 (s.1, s.2))))
/-- hauberkref34.At -/
abbrev A_hauberkref34_At : List Ty := [(.int .i64)]
abbrev S_hauberkref34_At : Sh := Sh.osl 32 tFault
def T_hauberkref34_At (x : dens A_hauberkref34_At) : PO (Sh.den S_hauberkref34_At) :=
  (.ite (decide (x < 0))
   (.ret ([]))
   (.opt (LoopN.res L_hauberkref34_At_5 (x, [(1, x, 0, 0, ())], 0) ()) fun p0 =>
    (.opt (LoopN.res L_hauberkref34_At_9 (x, p0.2.1, 0) ()) fun p1 =>
     (.ret (p1.2.1)))))
def G_hauberkref34_At (x : dens A_hauberkref34_At) : Bool := (T_hauberkref34_At x).val.isSome
def V_hauberkref34_At (x : dens A_hauberkref34_At) : Sh.den S_hauberkref34_At := (T_hauberkref34_At x).getO default
theorem ok_hauberkref34_At (x : dens A_hauberkref34_At) (h : G_hauberkref34_At x = true) : (T_hauberkref34_At x).val = some (V_hauberkref34_At x) := PO.getO_ok default h
def L_hauberklaw34_CampaignAt_5 : LoopN where
  M := [1, 4, 5, 6, 7]
  T := [19, 20, 21, 22, 23, 24, 25, 26, 27, 28, 29, 30, 31, 32, 33]
  D := [5, 6, 7]
  ss := [.ty (.int .i64), .ty .bool, .ty (.sl tFault), .ty (.sl tFault), .ty (.int .i64)]
  hs := []
  es := [.exit 0, .ret]
  σ := (Ty.den .bool) × (Ty.den (.int .i64))
  x0 := fun x _ => (x.2.1, x.2.2.2.2)
  put := fun x _ s => ((x.1, s.1, x.2.2.1, x.2.2.2.1, s.2), ())
  fuel := fun x _ => List.length x.2.2.1+1
  turn := fun x _ s =>
  (.ite (decide (s.2 < lenI x.2.2.1))
   (.ite (inRange s.2 (List.length x.2.2.1) && inRange s.2 (List.length x.2.2.2.1))
    (.ite (!Ty.eqb tFault (List.getD x.2.2.1 (Int.toNat s.2) (Ty.dflt tFault)) (List.getD x.2.2.2.1 (Int.toNat s.2) (Ty.dflt tFault)))
     (.ret (.out 1 (false, s.2)))
     (.ret (.on (s.1, w64 (s.2 + 1)))))
    .fail)
   (.ret (.out 0 (s.1, s.2))))
def L_hauberklaw34_CampaignAt_13 : LoopN where
  M := [1, 4, 8, 9]
  T := [39, 40, 41, 42, 43, 44, 45, 46, 47, 48, 49, 50, 51]
  D := [9]
  ss := [.ty (.int .i64), .ty .bool, .ty (.sl tFault), .ty (.int .i64)]
  hs := []
  es := [.exit 2, .ret]
  σ := (Ty.den .bool) × (Ty.den (.int .i64))
  x0 := fun x _ => (x.2.1, x.2.2.2)
  put := fun x _ s => ((x.1, s.1, x.2.2.1, s.2), ())
  fuel := fun x _ => List.length x.2.2.1+1
  turn := fun x _ s =>
  (.ite (decide (s.2 < lenI x.2.2.1))
   (.ite (inRange s.2 (List.length x.2.2.1))
    (.ite (!Ty.eqb tFault (List.getD x.2.2.1 (Int.toNat s.2) (Ty.dflt tFault)) (1, s.2, 0, 0, ()))
     (.ret (.out 1 (false, s.2)))
     (.ret (.on (s.1, w64 (s.2 + 1)))))
    .fail)
   (.ret (.out 0 (s.1, s.2))))
/-- hauberklaw34.CampaignAt -/
abbrev A_hauberklaw34_CampaignAt : List Ty := [(.int .i64), (.int .i64)]
abbrev S_hauberklaw34_CampaignAt : Sh := Sh.ty Ty.bool
def T_hauberklaw34_CampaignAt (x : dens A_hauberklaw34_CampaignAt) : PO (Sh.den S_hauberklaw34_CampaignAt) :=
  (.ite (G_hauberkref34_At x.1)
   (.ite (lenI (V_campaign_At x.1) != lenI (V_hauberkref34_At x.1))
    (.ret (false))
    (.opt (LoopN.res L_hauberklaw34_CampaignAt_5 (x.2, false, V_campaign_At x.1, V_hauberkref34_At x.1, 0) ()) fun p0 =>
     (.ite (way p0.1)
      (.ite (decide (x.2 > 5000))
       (.ret (true))
       (.ite (G_campaign_Skips x.2)
        (.opt (LoopN.res L_hauberklaw34_CampaignAt_13 (x.2, p0.2.1, V_campaign_Skips x.2, 0) ()) fun p1 =>
         (.ite (way p1.1)
          (.ite (lenI (V_campaign_Skips x.2) == imax 0 x.2 || true)
           (.ret (lenI (V_campaign_Skips x.2) == imax 0 x.2 && true))
           .fail)
          (.ret (p1.2.1))))
        .fail))
      (.ret (p0.2.1)))))
   .fail)
end Go.Av
