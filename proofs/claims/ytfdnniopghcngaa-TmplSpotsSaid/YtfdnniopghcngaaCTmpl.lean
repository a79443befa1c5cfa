/- The functions that the statements reach, walked: chain Tmpl. Written by wip/tools/gen.py out of wip/conf/Tmpl.txt. -/
import Derived.Test.YtfdnniopghcngaaPTmpl
import Derived.Test.YtfdnniopghcngaaPTmplLaw
import Derived.Test.YtfdnniopghcngaaProg
namespace Go.Proofs.Ytfdnniopghcngaa
open Go Go.Av Go.Proofs
noncomputable def cTmpl0 : Ctx := baseC Try.prog [85, 101, 44, 35, 50, 41, 48, 56, 33, 75]
theorem cTmpl0_good : Av.Good cTmpl0 := good_base (by kernel_rfl) (by kernel_rfl) (by kernel_rfl)
noncomputable def cTmpl1 : Ctx := cTmpl0.addPlain 23 (plainT A_tmpl_Spot G_tmpl_Spot S_tmpl_Spot V_tmpl_Spot)
theorem cTmpl1_good : Av.Good cTmpl1 := cTmpl0_good.fnP S_tmpl_Spot T_tmpl_Spot G_tmpl_Spot V_tmpl_Spot 4 8 (by kernel_rfl) (fun x => by kernel_rfl) ok_tmpl_Spot
noncomputable def cTmpl2 : Ctx := cTmpl1.addPlain 24 (plainT A_hauberkref27_Spot G_hauberkref27_Spot S_hauberkref27_Spot V_hauberkref27_Spot)
theorem cTmpl2_good : Av.Good cTmpl2 := cTmpl1_good.fnP S_hauberkref27_Spot T_hauberkref27_Spot G_hauberkref27_Spot V_hauberkref27_Spot 4 8 (by kernel_rfl) (fun x => by kernel_rfl) ok_hauberkref27_Spot
noncomputable def cTmpl3 : Ctx := cTmpl2.addPlain 22 (plainT A_hauberklaw27_lives G_hauberklaw27_lives S_hauberklaw27_lives V_hauberklaw27_lives)
theorem cTmpl3_good : Av.Good cTmpl3 := cTmpl2_good.fnP S_hauberklaw27_lives T_hauberklaw27_lives G_hauberklaw27_lives V_hauberklaw27_lives 6 8 (by kernel_rfl) (fun x => by kernel_rfl) ok_hauberklaw27_lives
noncomputable def cTmpl : Ctx := cTmpl3
theorem cTmpl_good : Av.Good cTmpl := cTmpl3_good
end Go.Proofs.Ytfdnniopghcngaa
