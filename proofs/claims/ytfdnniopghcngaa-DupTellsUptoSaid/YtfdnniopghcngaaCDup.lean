/- The functions that the statements reach, walked: chain Dup. Written by wip/tools/gen.py out of wip/conf/Dup.txt. -/
import Derived.Test.YtfdnniopghcngaaPSame
import Derived.Test.YtfdnniopghcngaaPThumb
import Derived.Test.YtfdnniopghcngaaPDup
import Derived.Test.YtfdnniopghcngaaPDupLaw
import Derived.Test.YtfdnniopghcngaaProg
namespace Go.Proofs.Ytfdnniopghcngaa
open Go Go.Av Go.Proofs
noncomputable def cDup0 : Ctx := baseC Try.prog [85, 101, 44, 35, 50, 41, 48, 56, 33, 75]
theorem cDup0_good : Av.Good cDup0 := good_base (by kernel_rfl) (by kernel_rfl) (by kernel_rfl)
noncomputable def cDup1 : Ctx := cDup0.addLoop 15 4 L_hauberkref27_Same_4.toT.toLoop
theorem cDup1_good : Av.Good cDup1 := cDup0_good.loopN L_hauberkref27_Same_4 3 8 (by kernel_rfl) (fun _ _ => rfl) (fun x y s m K => by kernel_rfl) (fun x y s s' K e => by kernel_rfl)
noncomputable def cDup2 : Ctx := cDup1.addLoop 39 4 L_hauberkref28_Same_4.toT.toLoop
theorem cDup2_good : Av.Good cDup2 := cDup1_good.loopN L_hauberkref28_Same_4 3 8 (by kernel_rfl) (fun _ _ => rfl) (fun x y s m K => by kernel_rfl) (fun x y s s' K e => by kernel_rfl)
noncomputable def cDup3 : Ctx := cDup2.addPlain 15 (plainT A_hauberkref27_Same G_hauberkref27_Same S_hauberkref27_Same V_hauberkref27_Same)
theorem cDup3_good : Av.Good cDup3 := cDup2_good.fnP S_hauberkref27_Same T_hauberkref27_Same G_hauberkref27_Same V_hauberkref27_Same 3 8 (by kernel_rfl) (fun x => by kernel_rfl) ok_hauberkref27_Same
noncomputable def cDup4 : Ctx := cDup3.addPlain 39 (plainT A_hauberkref28_Same G_hauberkref28_Same S_hauberkref28_Same V_hauberkref28_Same)
theorem cDup4_good : Av.Good cDup4 := cDup3_good.fnP S_hauberkref28_Same T_hauberkref28_Same G_hauberkref28_Same V_hauberkref28_Same 3 8 (by kernel_rfl) (fun x => by kernel_rfl) ok_hauberkref28_Same
noncomputable def cDup5 : Ctx := cDup4.addPlain 115 (plainT A_thumb_within G_thumb_within S_thumb_within V_thumb_within)
theorem cDup5_good : Av.Good cDup5 := cDup4_good.fnP S_thumb_within T_thumb_within G_thumb_within V_thumb_within 2 8 (by kernel_rfl) (fun x => by kernel_rfl) ok_thumb_within
noncomputable def cDup6 : Ctx := cDup5.addPlain 116 (plainT A_thumb_field G_thumb_field S_thumb_field V_thumb_field)
theorem cDup6_good : Av.Good cDup6 := cDup5_good.fnP S_thumb_field T_thumb_field G_thumb_field V_thumb_field 2 8 (by kernel_rfl) (fun x => by kernel_rfl) ok_thumb_field
noncomputable def cDup7 : Ctx := cDup6.addPlain 114 (plainT A_thumb_formOf G_thumb_formOf S_thumb_formOf V_thumb_formOf)
theorem cDup7_good : Av.Good cDup7 := cDup6_good.fnP S_thumb_formOf T_thumb_formOf G_thumb_formOf V_thumb_formOf 2 8 (by kernel_rfl) (fun x => by kernel_rfl) ok_thumb_formOf
noncomputable def cDup8 : Ctx := cDup7.addPlain 117 (plainT A_thumb_Reach G_thumb_Reach S_thumb_Reach V_thumb_Reach)
theorem cDup8_good : Av.Good cDup8 := cDup7_good.fnP S_thumb_Reach T_thumb_Reach G_thumb_Reach V_thumb_Reach 3 8 (by kernel_rfl) (fun x => by kernel_rfl) ok_thumb_Reach
noncomputable def cDup9 : Ctx := cDup8.addPlain 113 (plainT A_thumb_branch G_thumb_branch S_thumb_branch V_thumb_branch)
theorem cDup9_good : Av.Good cDup9 := cDup8_good.fnP S_thumb_branch T_thumb_branch G_thumb_branch V_thumb_branch 3 8 (by kernel_rfl) (fun x => by kernel_rfl) ok_thumb_branch
noncomputable def cDup10 : Ctx := cDup9.addPlain 112 (plainT A_thumb_Check G_thumb_Check S_thumb_Check V_thumb_Check)
theorem cDup10_good : Av.Good cDup10 := cDup9_good.fnP S_thumb_Check T_thumb_Check G_thumb_Check V_thumb_Check 3 8 (by kernel_rfl) (fun x => by kernel_rfl) ok_thumb_Check
noncomputable def cDup11 : Ctx := cDup10.addPlain 103 (plainT A_dup_Safe G_dup_Safe S_dup_Safe V_dup_Safe)
theorem cDup11_good : Av.Good cDup11 := cDup10_good.fnP S_dup_Safe T_dup_Safe G_dup_Safe V_dup_Safe 3 8 (by kernel_rfl) (fun x => by kernel_rfl) ok_dup_Safe
noncomputable def cDup12 : Ctx := cDup11.addLoop 60 3 L_dup_All_3.toT.toLoop
theorem cDup12_good : Av.Good cDup12 := cDup11_good.loopN L_dup_All_3 3 8 (by kernel_rfl) (fun _ _ => rfl) (fun x y s m K => by kernel_rfl) (fun x y s s' K e => by kernel_rfl)
noncomputable def cDup13 : Ctx := cDup12.addLoop 61 3 L_hauberkref28_All_3.toT.toLoop
theorem cDup13_good : Av.Good cDup13 := cDup12_good.loopN L_hauberkref28_All_3 3 8 (by kernel_rfl) (fun _ _ => rfl) (fun x y s m K => by kernel_rfl) (fun x y s s' K e => by kernel_rfl)
noncomputable def cDup14 : Ctx := cDup13.addPlain 60 (plainT A_dup_All G_dup_All S_dup_All V_dup_All)
theorem cDup14_good : Av.Good cDup14 := cDup13_good.fnP S_dup_All T_dup_All G_dup_All V_dup_All 3 8 (by kernel_rfl) (fun x => by kernel_rfl) ok_dup_All
noncomputable def cDup15 : Ctx := cDup14.addPlain 61 (plainT A_hauberkref28_All G_hauberkref28_All S_hauberkref28_All V_hauberkref28_All)
theorem cDup15_good : Av.Good cDup15 := cDup14_good.fnP S_hauberkref28_All T_hauberkref28_All G_hauberkref28_All V_hauberkref28_All 3 8 (by kernel_rfl) (fun x => by kernel_rfl) ok_hauberkref28_All
noncomputable def cDup16 : Ctx := cDup15.addPlain 62 (plainT A_hauberklaw28_lives G_hauberklaw28_lives S_hauberklaw28_lives V_hauberklaw28_lives)
theorem cDup16_good : Av.Good cDup16 := cDup15_good.fnP S_hauberklaw28_lives T_hauberklaw28_lives G_hauberklaw28_lives V_hauberklaw28_lives 8 30 (by kernel_rfl) (fun x => by kernel_rfl) ok_hauberklaw28_lives
noncomputable def cDup : Ctx := cDup16
theorem cDup_good : Av.Good cDup := cDup16_good
end Go.Proofs.Ytfdnniopghcngaa
