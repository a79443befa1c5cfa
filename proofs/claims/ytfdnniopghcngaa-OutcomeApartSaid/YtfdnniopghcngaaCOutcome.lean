/- The functions that the statements reach, walked: chain Outcome. Written by wip/tools/gen.py out of wip/conf/Outcome.txt. -/
import Derived.Test.YtfdnniopghcngaaPOutcome
import Derived.Test.YtfdnniopghcngaaPOutcomeLaw
import Derived.Test.YtfdnniopghcngaaProg
namespace Go.Proofs.Ytfdnniopghcngaa
open Go Go.Av Go.Proofs
noncomputable def cOutcome0 : Ctx := baseC Try.prog [85, 101, 44, 35, 50, 41, 48, 56, 33, 75]
theorem cOutcome0_good : Av.Good cOutcome0 := good_base (by kernel_rfl) (by kernel_rfl) (by kernel_rfl)
noncomputable def cOutcome1 : Ctx := cOutcome0.addLoop 69 2 L_outcome_zero_2.toT.toLoop
theorem cOutcome1_good : Av.Good cOutcome1 := cOutcome0_good.loopN L_outcome_zero_2 3 8 (by kernel_rfl) (fun _ _ => rfl) (fun x y s m K => by kernel_rfl) (fun x y N i s s' K e => by kernel_rfl)
noncomputable def cOutcome2 : Ctx := cOutcome1.addLoop 70 3 L_hauberkref10_sum_3.toT.toLoop
theorem cOutcome2_good : Av.Good cOutcome2 := cOutcome1_good.loopN L_hauberkref10_sum_3 3 8 (by kernel_rfl) (fun _ _ => rfl) (fun x y s m K => by kernel_rfl) (fun x y N i s s' K e => by kernel_rfl)
noncomputable def cOutcome3 : Ctx := cOutcome2.addPlain 69 (plainT A_outcome_zero G_outcome_zero S_outcome_zero V_outcome_zero)
theorem cOutcome3_good : Av.Good cOutcome3 := cOutcome2_good.fnP S_outcome_zero T_outcome_zero G_outcome_zero V_outcome_zero 3 8 (by kernel_rfl) (fun x => by kernel_rfl) ok_outcome_zero
noncomputable def cOutcome4 : Ctx := cOutcome3.addPlain 70 (plainT A_hauberkref10_sum G_hauberkref10_sum S_hauberkref10_sum V_hauberkref10_sum)
theorem cOutcome4_good : Av.Good cOutcome4 := cOutcome3_good.fnP S_hauberkref10_sum T_hauberkref10_sum G_hauberkref10_sum V_hauberkref10_sum 3 8 (by kernel_rfl) (fun x => by kernel_rfl) ok_hauberkref10_sum
noncomputable def cOutcome5 : Ctx := cOutcome4.addPlain 71 (plainT A_memmap_Check G_memmap_Check S_memmap_Check V_memmap_Check)
theorem cOutcome5_good : Av.Good cOutcome5 := cOutcome4_good.fnP S_memmap_Check T_memmap_Check G_memmap_Check V_memmap_Check 3 8 (by kernel_rfl) (fun x => by kernel_rfl) ok_memmap_Check
noncomputable def cOutcome6 : Ctx := cOutcome5.addPlain 72 (plainT A_hauberkref05_Check G_hauberkref05_Check S_hauberkref05_Check V_hauberkref05_Check)
theorem cOutcome6_good : Av.Good cOutcome6 := cOutcome5_good.fnP S_hauberkref05_Check T_hauberkref05_Check G_hauberkref05_Check V_hauberkref05_Check 3 8 (by kernel_rfl) (fun x => by kernel_rfl) ok_hauberkref05_Check
noncomputable def cOutcome7 : Ctx := cOutcome6.addPlain 33 (plainT A_outcome_Wiped G_outcome_Wiped S_outcome_Wiped V_outcome_Wiped)
theorem cOutcome7_good : Av.Good cOutcome7 := cOutcome6_good.fnP S_outcome_Wiped T_outcome_Wiped G_outcome_Wiped V_outcome_Wiped 3 8 (by kernel_rfl) (fun x => by kernel_rfl) ok_outcome_Wiped
noncomputable def cOutcome8 : Ctx := cOutcome7.addPlain 34 (plainT A_hauberkref10_Wiped G_hauberkref10_Wiped S_hauberkref10_Wiped V_hauberkref10_Wiped)
theorem cOutcome8_good : Av.Good cOutcome8 := cOutcome7_good.fnP S_hauberkref10_Wiped T_hauberkref10_Wiped G_hauberkref10_Wiped V_hauberkref10_Wiped 3 8 (by kernel_rfl) (fun x => by kernel_rfl) ok_hauberkref10_Wiped
noncomputable def cOutcome9 : Ctx := cOutcome8.addPlain 36 (plainT A_outcome_Same G_outcome_Same S_outcome_Same V_outcome_Same)
theorem cOutcome9_good : Av.Good cOutcome9 := cOutcome8_good.fnP S_outcome_Same T_outcome_Same G_outcome_Same V_outcome_Same 3 8 (by kernel_rfl) (fun x => by kernel_rfl) ok_outcome_Same
noncomputable def cOutcome10 : Ctx := cOutcome9.addPlain 31 (plainT A_outcome_Of G_outcome_Of S_outcome_Of V_outcome_Of)
theorem cOutcome10_good : Av.Good cOutcome10 := cOutcome9_good.fnP S_outcome_Of T_outcome_Of G_outcome_Of V_outcome_Of 4 8 (by kernel_rfl) (fun x => by kernel_rfl) ok_outcome_Of
noncomputable def cOutcome11 : Ctx := cOutcome10.addPlain 32 (plainT A_hauberkref10_Of G_hauberkref10_Of S_hauberkref10_Of V_hauberkref10_Of)
theorem cOutcome11_good : Av.Good cOutcome11 := cOutcome10_good.fnP S_hauberkref10_Of T_hauberkref10_Of G_hauberkref10_Of V_hauberkref10_Of 4 8 (by kernel_rfl) (fun x => by kernel_rfl) ok_hauberkref10_Of
noncomputable def cOutcome12 : Ctx := cOutcome11.addPlain 37 (plainT A_outcome_Slack G_outcome_Slack S_outcome_Slack V_outcome_Slack)
theorem cOutcome12_good : Av.Good cOutcome12 := cOutcome11_good.fnP S_outcome_Slack T_outcome_Slack G_outcome_Slack V_outcome_Slack 4 8 (by kernel_rfl) (fun x => by kernel_rfl) ok_outcome_Slack
noncomputable def cOutcome13 : Ctx := cOutcome12.addPlain 38 (plainT A_hauberkref10_Slack G_hauberkref10_Slack S_hauberkref10_Slack V_hauberkref10_Slack)
theorem cOutcome13_good : Av.Good cOutcome13 := cOutcome12_good.fnP S_hauberkref10_Slack T_hauberkref10_Slack G_hauberkref10_Slack V_hauberkref10_Slack 4 8 (by kernel_rfl) (fun x => by kernel_rfl) ok_hauberkref10_Slack
noncomputable def cOutcome14 : Ctx := cOutcome13.addPlain 35 (plainT A_hauberklaw10_lives G_hauberklaw10_lives S_hauberklaw10_lives V_hauberklaw10_lives)
theorem cOutcome14_good : Av.Good cOutcome14 := cOutcome13_good.fnP S_hauberklaw10_lives T_hauberklaw10_lives G_hauberklaw10_lives V_hauberklaw10_lives 6 8 (by kernel_rfl) (fun x => by kernel_rfl) ok_hauberklaw10_lives
noncomputable def cOutcome : Ctx := cOutcome14
theorem cOutcome_good : Av.Good cOutcome := cOutcome14_good
end Go.Proofs.Ytfdnniopghcngaa
