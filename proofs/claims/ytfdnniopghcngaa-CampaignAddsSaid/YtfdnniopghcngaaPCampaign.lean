/- Layer 34: what comes of faults. -/
import Derived.Test.YtfdnniopghcngaaPBase
namespace Go.Av
open Go
/-- campaign.Add -/
abbrev A_campaign_Add : List Ty := [tCounts, tCounts]
abbrev S_campaign_Add : Sh := Sh.ty tCounts
def T_campaign_Add (x : dens A_campaign_Add) : PO (Sh.den S_campaign_Add) :=
  (.ret ((w64 (x.1.1 + x.2.1), w64 (x.1.2.1 + x.2.2.1), w64 (x.1.2.2.1 + x.2.2.2.1), w64 (x.1.2.2.2.1 + x.2.2.2.2.1), w64 (x.1.2.2.2.2.1 + x.2.2.2.2.2.1), w64 (x.1.2.2.2.2.2.1 + x.2.2.2.2.2.2.1), w64 (x.1.2.2.2.2.2.2.1 + x.2.2.2.2.2.2.2.1), x.1.2.2.2.2.2.2.2)))
def G_campaign_Add (_ : dens A_campaign_Add) : Bool := true
def V_campaign_Add (x : dens A_campaign_Add) : Sh.den S_campaign_Add := (T_campaign_Add x).getO default
theorem ok_campaign_Add (x : dens A_campaign_Add) (_ : G_campaign_Add x = true) : (T_campaign_Add x).val = some (V_campaign_Add x) := PO.sure_ok default (by simp [T_campaign_Add, PO.sure])
/-- hauberkref34.Add -/
abbrev A_hauberkref34_Add : List Ty := [tCounts, tCounts]
abbrev S_hauberkref34_Add : Sh := Sh.ty tCounts
def T_hauberkref34_Add (x : dens A_hauberkref34_Add) : PO (Sh.den S_hauberkref34_Add) :=
  (.ret ((w64 (x.1.1 + x.2.1), w64 (x.1.2.1 + x.2.2.1), w64 (x.1.2.2.1 + x.2.2.2.1), w64 (x.1.2.2.2.1 + x.2.2.2.2.1), w64 (x.1.2.2.2.2.1 + x.2.2.2.2.2.1), w64 (x.1.2.2.2.2.2.1 + x.2.2.2.2.2.2.1), w64 (x.1.2.2.2.2.2.2.1 + x.2.2.2.2.2.2.2.1), ())))
def G_hauberkref34_Add (_ : dens A_hauberkref34_Add) : Bool := true
def V_hauberkref34_Add (x : dens A_hauberkref34_Add) : Sh.den S_hauberkref34_Add := (T_hauberkref34_Add x).getO default
theorem ok_hauberkref34_Add (x : dens A_hauberkref34_Add) (_ : G_hauberkref34_Add x = true) : (T_hauberkref34_Add x).val = some (V_hauberkref34_Add x) := PO.sure_ok default (by simp [T_hauberkref34_Add, PO.sure])
/-- hauberklaw34.lives: an example, computed -/
abbrev A_hauberklaw34_lives : List Ty := []
abbrev S_hauberklaw34_lives : Sh := .ty .bool
def T_hauberklaw34_lives (_ : dens A_hauberklaw34_lives) : PO Bool := .ret true
def G_hauberklaw34_lives (_ : dens A_hauberklaw34_lives) : Bool := true
def V_hauberklaw34_lives (_ : dens A_hauberklaw34_lives) : Bool := true
theorem ok_hauberklaw34_lives (x : dens A_hauberklaw34_lives) (_ : G_hauberklaw34_lives x = true) : (T_hauberklaw34_lives x).val = some (V_hauberklaw34_lives x) := rfl
/-- hauberklaw34.CampaignAdds -/
abbrev A_hauberklaw34_CampaignAdds : List Ty := [tCounts, tCounts]
abbrev S_hauberklaw34_CampaignAdds : Sh := Sh.ty Ty.bool
def T_hauberklaw34_CampaignAdds (x : dens A_hauberklaw34_CampaignAdds) : PO (Sh.den S_hauberklaw34_CampaignAdds) :=
  (.ite (bif Ty.eqb tCounts (V_campaign_Add (x.1, x.2)) (V_hauberkref34_Add (x.1, x.2)) then Ty.eqb tCounts (V_campaign_Add (x.1, 0, 0, 0, 0, 0, 0, 0, ())) x.1 || true else true)
   (.ret (Ty.eqb tCounts (V_campaign_Add (x.1, x.2)) (V_hauberkref34_Add (x.1, x.2)) && (Ty.eqb tCounts (V_campaign_Add (x.1, 0, 0, 0, 0, 0, 0, 0, ())) x.1 && true)))
   .fail)
end Go.Av
