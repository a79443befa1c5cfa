/- The functions that the statements reach, walked: chain Dup2. Written by wip/tools/gen.py out of wip/conf/Dup2.txt. -/
import Derived.Test.YtapfijocjgoilaaPThumb
import Derived.Test.YtapfijocjgoilaaPRef02
import Derived.Test.YtapfijocjgoilaaPRef02Law
import Derived.Test.YtapfijocjgoilaaPDup2
import Derived.Test.YtapfijocjgoilaaPDup2Law
import Derived.Test.YtapfijocjgoilaaProg
namespace Go.Proofs.Ytapfijocjgoilaa
open Go Go.Av Go.Proofs
noncomputable def cDup20 : Ctx := baseC Try.prog [26, 48, 60, 54, 24, 32, 92, 58, 126]
theorem cDup20_good : Av.Good cDup20 := good_base (by kernel_rfl) (by kernel_rfl) (by kernel_rfl)
noncomputable def cDup21 : Ctx := cDup20.addPlain 58 (plainT A_thumb_within G_thumb_within S_thumb_within V_thumb_within)
theorem cDup21_good : Av.Good cDup21 := cDup20_good.fnP S_thumb_within T_thumb_within G_thumb_within V_thumb_within 2 8 (by kernel_rfl) (fun x => by kernel_rfl) ok_thumb_within
noncomputable def cDup22 : Ctx := cDup21.addPlain 59 (plainT A_thumb_field G_thumb_field S_thumb_field V_thumb_field)
theorem cDup22_good : Av.Good cDup22 := cDup21_good.fnP S_thumb_field T_thumb_field G_thumb_field V_thumb_field 2 8 (by kernel_rfl) (fun x => by kernel_rfl) ok_thumb_field
noncomputable def cDup23 : Ctx := cDup22.addPlain 57 (plainT A_thumb_formOf G_thumb_formOf S_thumb_formOf V_thumb_formOf)
theorem cDup23_good : Av.Good cDup23 := cDup22_good.fnP S_thumb_formOf T_thumb_formOf G_thumb_formOf V_thumb_formOf 2 8 (by kernel_rfl) (fun x => by kernel_rfl) ok_thumb_formOf
noncomputable def cDup24 : Ctx := cDup23.addPlain 113 (plainT A_thumb_Reach G_thumb_Reach S_thumb_Reach V_thumb_Reach)
theorem cDup24_good : Av.Good cDup24 := cDup23_good.fnP S_thumb_Reach T_thumb_Reach G_thumb_Reach V_thumb_Reach 3 8 (by kernel_rfl) (fun x => by kernel_rfl) ok_thumb_Reach
noncomputable def cDup25 : Ctx := cDup24.addPlain 56 (plainT A_thumb_branch G_thumb_branch S_thumb_branch V_thumb_branch)
theorem cDup25_good : Av.Good cDup25 := cDup24_good.fnP S_thumb_branch T_thumb_branch G_thumb_branch V_thumb_branch 3 8 (by kernel_rfl) (fun x => by kernel_rfl) ok_thumb_branch
noncomputable def cDup26 : Ctx := cDup25.addPlain 23 (plainT A_thumb_Check G_thumb_Check S_thumb_Check V_thumb_Check)
theorem cDup26_good : Av.Good cDup26 := cDup25_good.fnP S_thumb_Check T_thumb_Check G_thumb_Check V_thumb_Check 3 8 (by kernel_rfl) (fun x => by kernel_rfl) ok_thumb_Check
noncomputable def cDup27 : Ctx := cDup26.addPlain 27 (plainT A_dup_Safe G_dup_Safe S_dup_Safe V_dup_Safe)
theorem cDup27_good : Av.Good cDup27 := cDup26_good.fnP S_dup_Safe T_dup_Safe G_dup_Safe V_dup_Safe 3 8 (by kernel_rfl) (fun x => by kernel_rfl) ok_dup_Safe
noncomputable def cDup28 : Ctx := cDup27.addPlain 117 (plainT A_hauberkref02_more G_hauberkref02_more S_hauberkref02_more V_hauberkref02_more)
theorem cDup28_good : Av.Good cDup28 := cDup27_good.fnP S_hauberkref02_more T_hauberkref02_more G_hauberkref02_more V_hauberkref02_more 2 8 (by kernel_rfl) (fun x => by kernel_rfl) ok_hauberkref02_more
noncomputable def cDup29 : Ctx := cDup28.addPlain 61 (plainT A_hauberkref02_Bits G_hauberkref02_Bits S_hauberkref02_Bits V_hauberkref02_Bits)
theorem cDup29_good : Av.Good cDup29 := cDup28_good.fnP S_hauberkref02_Bits T_hauberkref02_Bits G_hauberkref02_Bits V_hauberkref02_Bits 2 8 (by kernel_rfl) (fun x => by kernel_rfl) ok_hauberkref02_Bits
noncomputable def cDup210 : Ctx := cDup29.addLoop 153 2 L_hauberkref02_has_2.toT.toLoop
theorem cDup210_good : Av.Good cDup210 := cDup29_good.loopN L_hauberkref02_has_2 2 8 (by kernel_rfl) (fun _ _ => rfl) (fun x y s m K => by kernel_rfl) (fun x y s s' K e => by kernel_rfl)
noncomputable def cDup211 : Ctx := cDup210.addPlain 153 (plainT A_hauberkref02_has G_hauberkref02_has S_hauberkref02_has V_hauberkref02_has)
theorem cDup211_good : Av.Good cDup211 := cDup210_good.fnP S_hauberkref02_has T_hauberkref02_has G_hauberkref02_has V_hauberkref02_has 2 8 (by kernel_rfl) (fun x => by kernel_rfl) ok_hauberkref02_has
noncomputable def cDup212 : Ctx := cDup211.addPlain 98 (plainT A_hauberkref02_reg G_hauberkref02_reg S_hauberkref02_reg V_hauberkref02_reg)
theorem cDup212_good : Av.Good cDup212 := cDup211_good.fnP S_hauberkref02_reg T_hauberkref02_reg G_hauberkref02_reg V_hauberkref02_reg 2 8 (by kernel_rfl) (fun x => by kernel_rfl) ok_hauberkref02_reg
noncomputable def cDup213 : Ctx := cDup212.addPlain 99 (plainT A_hauberkref02_Reach G_hauberkref02_Reach S_hauberkref02_Reach V_hauberkref02_Reach)
theorem cDup213_good : Av.Good cDup213 := cDup212_good.fnP S_hauberkref02_Reach T_hauberkref02_Reach G_hauberkref02_Reach V_hauberkref02_Reach 2 8 (by kernel_rfl) (fun x => by kernel_rfl) ok_hauberkref02_Reach
noncomputable def cDup214 : Ctx := cDup213.addPlain 97 (plainT A_hauberkref02_number G_hauberkref02_number S_hauberkref02_number V_hauberkref02_number)
theorem cDup214_good : Av.Good cDup214 := cDup213_good.fnP S_hauberkref02_number T_hauberkref02_number G_hauberkref02_number V_hauberkref02_number 2 8 (by kernel_rfl) (fun x => by kernel_rfl) ok_hauberkref02_number
noncomputable def cDup215 : Ctx := cDup214.addPlain 47 (plainT A_hauberkref02_Check G_hauberkref02_Check S_hauberkref02_Check V_hauberkref02_Check)
theorem cDup215_good : Av.Good cDup215 := cDup214_good.fnP S_hauberkref02_Check T_hauberkref02_Check G_hauberkref02_Check V_hauberkref02_Check 3 8 (by kernel_rfl) (fun x => by kernel_rfl) ok_hauberkref02_Check
noncomputable def cDup216 : Ctx := cDup215.addLoop 62 2 L_hauberkref28_has_2.toT.toLoop
theorem cDup216_good : Av.Good cDup216 := cDup215_good.loopN L_hauberkref28_has_2 2 8 (by kernel_rfl) (fun _ _ => rfl) (fun x y s m K => by kernel_rfl) (fun x y s s' K e => by kernel_rfl)
noncomputable def cDup217 : Ctx := cDup216.addPlain 62 (plainT A_hauberkref28_has G_hauberkref28_has S_hauberkref28_has V_hauberkref28_has)
theorem cDup217_good : Av.Good cDup217 := cDup216_good.fnP S_hauberkref28_has T_hauberkref28_has G_hauberkref28_has V_hauberkref28_has 2 8 (by kernel_rfl) (fun x => by kernel_rfl) ok_hauberkref28_has
noncomputable def cDup218 : Ctx := cDup217.addPlain 28 (plainT A_hauberkref28_Safe G_hauberkref28_Safe S_hauberkref28_Safe V_hauberkref28_Safe)
theorem cDup218_good : Av.Good cDup218 := cDup217_good.fnP S_hauberkref28_Safe T_hauberkref28_Safe G_hauberkref28_Safe V_hauberkref28_Safe 3 8 (by kernel_rfl) (fun x => by kernel_rfl) ok_hauberkref28_Safe
noncomputable def cDup219 : Ctx := cDup218.addPlain 29 (plainT A_hauberklaw28_lives G_hauberklaw28_lives S_hauberklaw28_lives V_hauberklaw28_lives)
theorem cDup219_good : Av.Good cDup219 := cDup218_good.fnP S_hauberklaw28_lives T_hauberklaw28_lives G_hauberklaw28_lives V_hauberklaw28_lives 8 30 (by kernel_rfl) (fun x => by kernel_rfl) ok_hauberklaw28_lives
noncomputable def cDup2 : Ctx := cDup219
theorem cDup2_good : Av.Good cDup2 := cDup219_good
end Go.Proofs.Ytapfijocjgoilaa
