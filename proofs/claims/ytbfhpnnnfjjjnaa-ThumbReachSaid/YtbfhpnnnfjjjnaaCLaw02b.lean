/- The functions that the statements reach, walked: chain Law02b. Written by wip/tools/gen.py out of wip/conf/Law02b.txt. -/
import Derived.Test.YtbfhpnnnfjjjnaaPThumb
import Derived.Test.YtbfhpnnnfjjjnaaPRef02
import Derived.Test.YtbfhpnnnfjjjnaaPRef02Law
import Derived.Test.YtbfhpnnnfjjjnaaPEnc
import Derived.Test.YtbfhpnnnfjjjnaaPEncLaw
import Derived.Test.YtbfhpnnnfjjjnaaPEncS
import Derived.Test.YtbfhpnnnfjjjnaaPRefSize
import Derived.Test.YtbfhpnnnfjjjnaaPEncB
import Derived.Test.YtbfhpnnnfjjjnaaPLaw02b
import Derived.Test.YtbfhpnnnfjjjnaaPLaw02bLaw
import Derived.Test.YtbfhpnnnfjjjnaaProg
namespace Go.Proofs.Ytbfhpnnnfjjjnaa
open Go Go.Av Go.Proofs
noncomputable def cLaw02b0 : Ctx := baseC Try.prog [23, 66, 68]
theorem cLaw02b0_good : Av.Good cLaw02b0 := good_base (by kernel_rfl) (by kernel_rfl) (by kernel_rfl)
noncomputable def cLaw02b1 : Ctx := cLaw02b0.addPlain 44 (plainT A_thumb_within G_thumb_within S_thumb_within V_thumb_within)
theorem cLaw02b1_good : Av.Good cLaw02b1 := cLaw02b0_good.fnP S_thumb_within T_thumb_within G_thumb_within V_thumb_within 2 8 (by kernel_rfl) (fun x => by kernel_rfl) ok_thumb_within
noncomputable def cLaw02b2 : Ctx := cLaw02b1.addPlain 45 (plainT A_thumb_field G_thumb_field S_thumb_field V_thumb_field)
theorem cLaw02b2_good : Av.Good cLaw02b2 := cLaw02b1_good.fnP S_thumb_field T_thumb_field G_thumb_field V_thumb_field 2 8 (by kernel_rfl) (fun x => by kernel_rfl) ok_thumb_field
noncomputable def cLaw02b3 : Ctx := cLaw02b2.addPlain 43 (plainT A_thumb_formOf G_thumb_formOf S_thumb_formOf V_thumb_formOf)
theorem cLaw02b3_good : Av.Good cLaw02b3 := cLaw02b2_good.fnP S_thumb_formOf T_thumb_formOf G_thumb_formOf V_thumb_formOf 2 8 (by kernel_rfl) (fun x => by kernel_rfl) ok_thumb_formOf
noncomputable def cLaw02b4 : Ctx := cLaw02b3.addPlain 18 (plainT A_thumb_Reach G_thumb_Reach S_thumb_Reach V_thumb_Reach)
theorem cLaw02b4_good : Av.Good cLaw02b4 := cLaw02b3_good.fnP S_thumb_Reach T_thumb_Reach G_thumb_Reach V_thumb_Reach 3 8 (by kernel_rfl) (fun x => by kernel_rfl) ok_thumb_Reach
noncomputable def cLaw02b5 : Ctx := cLaw02b4.addPlain 42 (plainT A_thumb_branch G_thumb_branch S_thumb_branch V_thumb_branch)
theorem cLaw02b5_good : Av.Good cLaw02b5 := cLaw02b4_good.fnP S_thumb_branch T_thumb_branch G_thumb_branch V_thumb_branch 3 8 (by kernel_rfl) (fun x => by kernel_rfl) ok_thumb_branch
noncomputable def cLaw02b6 : Ctx := cLaw02b5.addPlain 19 (plainT A_thumb_Check G_thumb_Check S_thumb_Check V_thumb_Check)
theorem cLaw02b6_good : Av.Good cLaw02b6 := cLaw02b5_good.fnP S_thumb_Check T_thumb_Check G_thumb_Check V_thumb_Check 3 8 (by kernel_rfl) (fun x => by kernel_rfl) ok_thumb_Check
noncomputable def cLaw02b7 : Ctx := cLaw02b6.addPlain 67 (plainT A_hauberkref02_more G_hauberkref02_more S_hauberkref02_more V_hauberkref02_more)
theorem cLaw02b7_good : Av.Good cLaw02b7 := cLaw02b6_good.fnP S_hauberkref02_more T_hauberkref02_more G_hauberkref02_more V_hauberkref02_more 2 8 (by kernel_rfl) (fun x => by kernel_rfl) ok_hauberkref02_more
noncomputable def cLaw02b8 : Ctx := cLaw02b7.addPlain 40 (plainT A_hauberkref02_Bits G_hauberkref02_Bits S_hauberkref02_Bits V_hauberkref02_Bits)
theorem cLaw02b8_good : Av.Good cLaw02b8 := cLaw02b7_good.fnP S_hauberkref02_Bits T_hauberkref02_Bits G_hauberkref02_Bits V_hauberkref02_Bits 2 8 (by kernel_rfl) (fun x => by kernel_rfl) ok_hauberkref02_Bits
noncomputable def cLaw02b9 : Ctx := cLaw02b8.addLoop 69 2 L_hauberkref02_has_2.toT.toLoop
theorem cLaw02b9_good : Av.Good cLaw02b9 := cLaw02b8_good.loopN L_hauberkref02_has_2 2 8 (by kernel_rfl) (fun _ _ => rfl) (fun x y s m K => by kernel_rfl) (fun x y s s' K e => by kernel_rfl)
noncomputable def cLaw02b10 : Ctx := cLaw02b9.addPlain 69 (plainT A_hauberkref02_has G_hauberkref02_has S_hauberkref02_has V_hauberkref02_has)
theorem cLaw02b10_good : Av.Good cLaw02b10 := cLaw02b9_good.fnP S_hauberkref02_has T_hauberkref02_has G_hauberkref02_has V_hauberkref02_has 2 8 (by kernel_rfl) (fun x => by kernel_rfl) ok_hauberkref02_has
noncomputable def cLaw02b11 : Ctx := cLaw02b10.addPlain 47 (plainT A_hauberkref02_reg G_hauberkref02_reg S_hauberkref02_reg V_hauberkref02_reg)
theorem cLaw02b11_good : Av.Good cLaw02b11 := cLaw02b10_good.fnP S_hauberkref02_reg T_hauberkref02_reg G_hauberkref02_reg V_hauberkref02_reg 2 8 (by kernel_rfl) (fun x => by kernel_rfl) ok_hauberkref02_reg
noncomputable def cLaw02b12 : Ctx := cLaw02b11.addPlain 20 (plainT A_hauberkref02_Reach G_hauberkref02_Reach S_hauberkref02_Reach V_hauberkref02_Reach)
theorem cLaw02b12_good : Av.Good cLaw02b12 := cLaw02b11_good.fnP S_hauberkref02_Reach T_hauberkref02_Reach G_hauberkref02_Reach V_hauberkref02_Reach 2 8 (by kernel_rfl) (fun x => by kernel_rfl) ok_hauberkref02_Reach
noncomputable def cLaw02b13 : Ctx := cLaw02b12.addPlain 46 (plainT A_hauberkref02_number G_hauberkref02_number S_hauberkref02_number V_hauberkref02_number)
theorem cLaw02b13_good : Av.Good cLaw02b13 := cLaw02b12_good.fnP S_hauberkref02_number T_hauberkref02_number G_hauberkref02_number V_hauberkref02_number 2 8 (by kernel_rfl) (fun x => by kernel_rfl) ok_hauberkref02_number
noncomputable def cLaw02b14 : Ctx := cLaw02b13.addPlain 21 (plainT A_hauberkref02_Check G_hauberkref02_Check S_hauberkref02_Check V_hauberkref02_Check)
theorem cLaw02b14_good : Av.Good cLaw02b14 := cLaw02b13_good.fnP S_hauberkref02_Check T_hauberkref02_Check G_hauberkref02_Check V_hauberkref02_Check 3 8 (by kernel_rfl) (fun x => by kernel_rfl) ok_hauberkref02_Check
noncomputable def cLaw02b15 : Ctx := cLaw02b14.addPlain 88 (plainT A_thumb_put G_thumb_put S_thumb_put V_thumb_put)
theorem cLaw02b15_good : Av.Good cLaw02b15 := cLaw02b14_good.fnP S_thumb_put T_thumb_put G_thumb_put V_thumb_put 2 6 (by kernel_rfl) (fun x => by kernel_rfl) ok_thumb_put
noncomputable def cLaw02b16 : Ctx := cLaw02b15.addPlain 65 (plainT A_thumb_shifted G_thumb_shifted S_thumb_shifted V_thumb_shifted)
theorem cLaw02b16_good : Av.Good cLaw02b16 := cLaw02b15_good.fnP S_thumb_shifted T_thumb_shifted G_thumb_shifted V_thumb_shifted 4 8 (by kernel_rfl) (fun x => by kernel_rfl) ok_thumb_shifted
noncomputable def cLaw02b17 : Ctx := cLaw02b16.addPlain 64 (plainT A_thumb_move G_thumb_move S_thumb_move V_thumb_move)
theorem cLaw02b17_good : Av.Good cLaw02b17 := cLaw02b16_good.fnP S_thumb_move T_thumb_move G_thumb_move V_thumb_move 4 8 (by kernel_rfl) (fun x => by kernel_rfl) ok_thumb_move
noncomputable def cLaw02b18 : Ctx := cLaw02b17.addPlain 89 (plainT A_thumb_short G_thumb_short S_thumb_short V_thumb_short)
theorem cLaw02b18_good : Av.Good cLaw02b18 := cLaw02b17_good.fnP S_thumb_short T_thumb_short G_thumb_short V_thumb_short 4 8 (by kernel_rfl) (fun x => by kernel_rfl) ok_thumb_short
noncomputable def cLaw02b19 : Ctx := cLaw02b18.addPlain 90 (plainT A_thumb_wide G_thumb_wide S_thumb_wide V_thumb_wide)
theorem cLaw02b19_good : Av.Good cLaw02b19 := cLaw02b18_good.fnP S_thumb_wide T_thumb_wide G_thumb_wide V_thumb_wide 4 8 (by kernel_rfl) (fun x => by kernel_rfl) ok_thumb_wide
noncomputable def cLaw02b20 : Ctx := cLaw02b19.addPlain 66 (plainT A_thumb_others G_thumb_others S_thumb_others V_thumb_others)
theorem cLaw02b20_good : Av.Good cLaw02b20 := cLaw02b19_good.fnP S_thumb_others T_thumb_others G_thumb_others V_thumb_others 4 8 (by kernel_rfl) (fun x => by kernel_rfl) ok_thumb_others
noncomputable def cLaw02b21 : Ctx := cLaw02b20.addPlain 38 (plainT A_thumb_bits G_thumb_bits S_thumb_bits V_thumb_bits)
theorem cLaw02b21_good : Av.Good cLaw02b21 := cLaw02b20_good.fnP S_thumb_bits T_thumb_bits G_thumb_bits V_thumb_bits 4 8 (by kernel_rfl) (fun x => by kernel_rfl) ok_thumb_bits
noncomputable def cLaw02b22 : Ctx := cLaw02b21.addPlain 22 (plainT A_thumb_Size G_thumb_Size S_thumb_Size V_thumb_Size)
theorem cLaw02b22_good : Av.Good cLaw02b22 := cLaw02b21_good.fnP S_thumb_Size T_thumb_Size G_thumb_Size V_thumb_Size 4 8 (by kernel_rfl) (fun x => by kernel_rfl) ok_thumb_Size
noncomputable def cLaw02b23 : Ctx := cLaw02b22.addPlain 23 (plainT A_hauberkref02_Size G_hauberkref02_Size S_hauberkref02_Size V_hauberkref02_Size)
theorem cLaw02b23_good : Av.Good cLaw02b23 := cLaw02b22_good.fnP S_hauberkref02_Size T_hauberkref02_Size G_hauberkref02_Size V_hauberkref02_Size 2 8 (by kernel_rfl) (fun x => by kernel_rfl) ok_hauberkref02_Size
noncomputable def cLaw02b24 : Ctx := cLaw02b23.addPlain 39 (plainT A_thumb_half G_thumb_half S_thumb_half V_thumb_half)
theorem cLaw02b24_good : Av.Good cLaw02b24 := cLaw02b23_good.fnP S_thumb_half T_thumb_half G_thumb_half V_thumb_half 2 8 (by kernel_rfl) (fun x => by kernel_rfl) ok_thumb_half
noncomputable def cLaw02b25 : Ctx := cLaw02b24.addPlain 15 (plainT A_thumb_Encode G_thumb_Encode S_thumb_Encode V_thumb_Encode)
theorem cLaw02b25_good : Av.Good cLaw02b25 := cLaw02b24_good.fnP S_thumb_Encode T_thumb_Encode G_thumb_Encode V_thumb_Encode 2 8 (by kernel_rfl) (fun x => by kernel_rfl) ok_thumb_Encode
noncomputable def cLaw02b26 : Ctx := cLaw02b25.addPlain 17 (plainT A_hauberklaw02_lives G_hauberklaw02_lives S_hauberklaw02_lives V_hauberklaw02_lives)
theorem cLaw02b26_good : Av.Good cLaw02b26 := cLaw02b25_good.fnP S_hauberklaw02_lives T_hauberklaw02_lives G_hauberklaw02_lives V_hauberklaw02_lives 2 8 (by kernel_rfl) (fun x => by kernel_rfl) ok_hauberklaw02_lives
noncomputable def cLaw02b : Ctx := cLaw02b26
theorem cLaw02b_good : Av.Good cLaw02b := cLaw02b26_good
end Go.Proofs.Ytbfhpnnnfjjjnaa
