/- The functions that the statements reach, walked: chain Camp. Written by wip/tools/gen.py out of wip/conf/Camp.txt. -/
import Derived.Test.YtfdnniopghcngaaPCampaign
import Derived.Test.YtfdnniopghcngaaPCampAt
import Derived.Test.YtfdnniopghcngaaPCamp
import Derived.Test.YtfdnniopghcngaaPCampLaw
import Derived.Test.YtfdnniopghcngaaRangeAt
import Derived.Test.YtfdnniopghcngaaProg
namespace Go.Proofs.Ytfdnniopghcngaa
open Go Go.Av Go.Proofs
noncomputable def cCamp0 : Ctx := baseC Try.prog [85, 101, 44, 35, 50, 41, 48, 56, 33, 75]
theorem cCamp0_good : Av.Good cCamp0 := good_base (by kernel_rfl) (by kernel_rfl) (by kernel_rfl)
noncomputable def cCamp1 : Ctx := cCamp0.addPlain 25 (plainT A_campaign_At G_campaign_At S_campaign_At V_campaign_At)
theorem cCamp1_good : Av.Good cCamp1 := cCamp0_good.addPlain (at_plain ) (by kernel_rfl)
noncomputable def cCamp2 : Ctx := cCamp1.addPlain 29 (plainT A_campaign_Add G_campaign_Add S_campaign_Add V_campaign_Add)
theorem cCamp2_good : Av.Good cCamp2 := cCamp1_good.fnP S_campaign_Add T_campaign_Add G_campaign_Add V_campaign_Add 4 8 (by kernel_rfl) (fun x => by kernel_rfl) ok_campaign_Add
noncomputable def cCamp3 : Ctx := cCamp2.addPlain 30 (plainT A_hauberkref34_Add G_hauberkref34_Add S_hauberkref34_Add V_hauberkref34_Add)
theorem cCamp3_good : Av.Good cCamp3 := cCamp2_good.fnP S_hauberkref34_Add T_hauberkref34_Add G_hauberkref34_Add V_hauberkref34_Add 4 8 (by kernel_rfl) (fun x => by kernel_rfl) ok_hauberkref34_Add
noncomputable def cCamp4 : Ctx := cCamp3.addLoop 28 3 L_campaign_Skips_3.toT.toLoop
theorem cCamp4_good : Av.Good cCamp4 := cCamp3_good.loopN L_campaign_Skips_3 2 8 (by kernel_rfl) (fun _ _ => rfl) (fun x y s m K => by kernel_rfl) (fun x y s s' K e => by kernel_rfl)
noncomputable def cCamp5 : Ctx := cCamp4.addPlain 28 (plainT A_campaign_Skips G_campaign_Skips S_campaign_Skips V_campaign_Skips)
theorem cCamp5_good : Av.Good cCamp5 := cCamp4_good.fnP S_campaign_Skips T_campaign_Skips G_campaign_Skips V_campaign_Skips 2 8 (by kernel_rfl) (fun x => by kernel_rfl) ok_campaign_Skips
noncomputable def cCamp6 : Ctx := cCamp5.addLoop 26 5 L_hauberkref34_At_5.toT.toLoop
theorem cCamp6_good : Av.Good cCamp6 := cCamp5_good.loopN L_hauberkref34_At_5 2 8 (by kernel_rfl) (fun _ _ => rfl) (fun x y s m K => by kernel_rfl) (fun x y s s' K e => by kernel_rfl)
noncomputable def cCamp7 : Ctx := cCamp6.addLoop 26 9 L_hauberkref34_At_9.toT.toLoop
theorem cCamp7_good : Av.Good cCamp7 := cCamp6_good.loopN L_hauberkref34_At_9 2 8 (by kernel_rfl) (fun _ _ => rfl) (fun x y s m K => by kernel_rfl) (fun x y s s' K e => by kernel_rfl)
noncomputable def cCamp8 : Ctx := cCamp7.addPlain 26 (plainT A_hauberkref34_At G_hauberkref34_At S_hauberkref34_At V_hauberkref34_At)
theorem cCamp8_good : Av.Good cCamp8 := cCamp7_good.fnP S_hauberkref34_At T_hauberkref34_At G_hauberkref34_At V_hauberkref34_At 2 8 (by kernel_rfl) (fun x => by kernel_rfl) ok_hauberkref34_At
noncomputable def cCamp9 : Ctx := cCamp8.addPlain 27 (plainT A_hauberklaw34_lives G_hauberklaw34_lives S_hauberklaw34_lives V_hauberklaw34_lives)
theorem cCamp9_good : Av.Good cCamp9 := cCamp8_good.fnP S_hauberklaw34_lives T_hauberklaw34_lives G_hauberklaw34_lives V_hauberklaw34_lives 6 500 (by kernel_rfl) (fun x => by kernel_rfl) ok_hauberklaw34_lives
noncomputable def cCamp10 : Ctx := cCamp9.addLoop 5 5 L_hauberklaw34_CampaignAt_5.toT.toLoop
theorem cCamp10_good : Av.Good cCamp10 := cCamp9_good.loopN L_hauberklaw34_CampaignAt_5 2 8 (by kernel_rfl) (fun _ _ => rfl) (fun x y s m K => by kernel_rfl) (fun x y s s' K e => by kernel_rfl)
noncomputable def cCamp11 : Ctx := cCamp10.addLoop 5 13 L_hauberklaw34_CampaignAt_13.toT.toLoop
theorem cCamp11_good : Av.Good cCamp11 := cCamp10_good.loopN L_hauberklaw34_CampaignAt_13 2 8 (by kernel_rfl) (fun _ _ => rfl) (fun x y s m K => by kernel_rfl) (fun x y s s' K e => by kernel_rfl)
noncomputable def cCamp : Ctx := cCamp11
theorem cCamp_good : Av.Good cCamp := cCamp11_good
end Go.Proofs.Ytfdnniopghcngaa
