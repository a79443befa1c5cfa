/- The functions that the statements reach, walked: chain Law02c. Written by wip/tools/gen.py out of wip/conf/Law02c.txt. -/
import Derived.Test.YtbfhpnnnfjjjnaaPThumb
import Derived.Test.YtbfhpnnnfjjjnaaPRef02
import Derived.Test.YtbfhpnnnfjjjnaaPRef02Law
import Derived.Test.YtbfhpnnnfjjjnaaPEnc
import Derived.Test.YtbfhpnnnfjjjnaaPEncLaw
import Derived.Test.YtbfhpnnnfjjjnaaPEncS
import Derived.Test.YtbfhpnnnfjjjnaaPRefSize
import Derived.Test.YtbfhpnnnfjjjnaaPEncB
import Derived.Test.YtbfhpnnnfjjjnaaPRefEnc
import Derived.Test.YtbfhpnnnfjjjnaaPRefEnc2
import Derived.Test.YtbfhpnnnfjjjnaaPRefEncLaw
import Derived.Test.YtbfhpnnnfjjjnaaPFldBits
import Derived.Test.YtbfhpnnnfjjjnaaPCheckB
import Derived.Test.YtbfhpnnnfjjjnaaPEncSame
import Derived.Test.YtbfhpnnnfjjjnaaPEncEq
import Derived.Test.YtbfhpnnnfjjjnaaPLaw02c
import Derived.Test.YtbfhpnnnfjjjnaaPLaw02cLaw
import Derived.Test.YtbfhpnnnfjjjnaaProg
namespace Go.Proofs.Ytbfhpnnnfjjjnaa
open Go Go.Av Go.Proofs
noncomputable def cLaw02c0 : Ctx := baseC Try.prog [23, 66, 68]
theorem cLaw02c0_good : Av.Good cLaw02c0 := good_base (by kernel_rfl) (by kernel_rfl) (by kernel_rfl)
noncomputable def cLaw02c1 : Ctx := cLaw02c0.addPlain 44 (plainT A_thumb_within G_thumb_within S_thumb_within V_thumb_within)
theorem cLaw02c1_good : Av.Good cLaw02c1 := cLaw02c0_good.fnP S_thumb_within T_thumb_within G_thumb_within V_thumb_within 2 8 (by kernel_rfl) (fun x => by kernel_rfl) ok_thumb_within
noncomputable def cLaw02c2 : Ctx := cLaw02c1.addPlain 45 (plainT A_thumb_field G_thumb_field S_thumb_field V_thumb_field)
theorem cLaw02c2_good : Av.Good cLaw02c2 := cLaw02c1_good.fnP S_thumb_field T_thumb_field G_thumb_field V_thumb_field 2 8 (by kernel_rfl) (fun x => by kernel_rfl) ok_thumb_field
noncomputable def cLaw02c3 : Ctx := cLaw02c2.addPlain 43 (plainT A_thumb_formOf G_thumb_formOf S_thumb_formOf V_thumb_formOf)
theorem cLaw02c3_good : Av.Good cLaw02c3 := cLaw02c2_good.fnP S_thumb_formOf T_thumb_formOf G_thumb_formOf V_thumb_formOf 2 8 (by kernel_rfl) (fun x => by kernel_rfl) ok_thumb_formOf
noncomputable def cLaw02c4 : Ctx := cLaw02c3.addPlain 18 (plainT A_thumb_Reach G_thumb_Reach S_thumb_Reach V_thumb_Reach)
theorem cLaw02c4_good : Av.Good cLaw02c4 := cLaw02c3_good.fnP S_thumb_Reach T_thumb_Reach G_thumb_Reach V_thumb_Reach 3 8 (by kernel_rfl) (fun x => by kernel_rfl) ok_thumb_Reach
noncomputable def cLaw02c5 : Ctx := cLaw02c4.addPlain 42 (plainT A_thumb_branch G_thumb_branch S_thumb_branch V_thumb_branch)
theorem cLaw02c5_good : Av.Good cLaw02c5 := cLaw02c4_good.fnP S_thumb_branch T_thumb_branch G_thumb_branch V_thumb_branch 3 8 (by kernel_rfl) (fun x => by kernel_rfl) ok_thumb_branch
noncomputable def cLaw02c6 : Ctx := cLaw02c5.addPlain 19 (plainT A_thumb_Check G_thumb_Check S_thumb_Check V_thumb_Check)
theorem cLaw02c6_good : Av.Good cLaw02c6 := cLaw02c5_good.fnP S_thumb_Check T_thumb_Check G_thumb_Check V_thumb_Check 3 8 (by kernel_rfl) (fun x => by kernel_rfl) ok_thumb_Check
noncomputable def cLaw02c7 : Ctx := cLaw02c6.addPlain 67 (plainT A_hauberkref02_more G_hauberkref02_more S_hauberkref02_more V_hauberkref02_more)
theorem cLaw02c7_good : Av.Good cLaw02c7 := cLaw02c6_good.fnP S_hauberkref02_more T_hauberkref02_more G_hauberkref02_more V_hauberkref02_more 2 8 (by kernel_rfl) (fun x => by kernel_rfl) ok_hauberkref02_more
noncomputable def cLaw02c8 : Ctx := cLaw02c7.addPlain 40 (plainT A_hauberkref02_Bits G_hauberkref02_Bits S_hauberkref02_Bits V_hauberkref02_Bits)
theorem cLaw02c8_good : Av.Good cLaw02c8 := cLaw02c7_good.fnP S_hauberkref02_Bits T_hauberkref02_Bits G_hauberkref02_Bits V_hauberkref02_Bits 2 8 (by kernel_rfl) (fun x => by kernel_rfl) ok_hauberkref02_Bits
noncomputable def cLaw02c9 : Ctx := cLaw02c8.addLoop 69 2 L_hauberkref02_has_2.toT.toLoop
theorem cLaw02c9_good : Av.Good cLaw02c9 := cLaw02c8_good.loopN L_hauberkref02_has_2 2 8 (by kernel_rfl) (fun _ _ => rfl) (fun x y s m K => by kernel_rfl) (fun x y s s' K e => by kernel_rfl)
noncomputable def cLaw02c10 : Ctx := cLaw02c9.addPlain 69 (plainT A_hauberkref02_has G_hauberkref02_has S_hauberkref02_has V_hauberkref02_has)
theorem cLaw02c10_good : Av.Good cLaw02c10 := cLaw02c9_good.fnP S_hauberkref02_has T_hauberkref02_has G_hauberkref02_has V_hauberkref02_has 2 8 (by kernel_rfl) (fun x => by kernel_rfl) ok_hauberkref02_has
noncomputable def cLaw02c11 : Ctx := cLaw02c10.addPlain 47 (plainT A_hauberkref02_reg G_hauberkref02_reg S_hauberkref02_reg V_hauberkref02_reg)
theorem cLaw02c11_good : Av.Good cLaw02c11 := cLaw02c10_good.fnP S_hauberkref02_reg T_hauberkref02_reg G_hauberkref02_reg V_hauberkref02_reg 2 8 (by kernel_rfl) (fun x => by kernel_rfl) ok_hauberkref02_reg
noncomputable def cLaw02c12 : Ctx := cLaw02c11.addPlain 20 (plainT A_hauberkref02_Reach G_hauberkref02_Reach S_hauberkref02_Reach V_hauberkref02_Reach)
theorem cLaw02c12_good : Av.Good cLaw02c12 := cLaw02c11_good.fnP S_hauberkref02_Reach T_hauberkref02_Reach G_hauberkref02_Reach V_hauberkref02_Reach 2 8 (by kernel_rfl) (fun x => by kernel_rfl) ok_hauberkref02_Reach
noncomputable def cLaw02c13 : Ctx := cLaw02c12.addPlain 46 (plainT A_hauberkref02_number G_hauberkref02_number S_hauberkref02_number V_hauberkref02_number)
theorem cLaw02c13_good : Av.Good cLaw02c13 := cLaw02c12_good.fnP S_hauberkref02_number T_hauberkref02_number G_hauberkref02_number V_hauberkref02_number 2 8 (by kernel_rfl) (fun x => by kernel_rfl) ok_hauberkref02_number
noncomputable def cLaw02c14 : Ctx := cLaw02c13.addPlain 21 (plainT A_hauberkref02_Check G_hauberkref02_Check S_hauberkref02_Check V_hauberkref02_Check)
theorem cLaw02c14_good : Av.Good cLaw02c14 := cLaw02c13_good.fnP S_hauberkref02_Check T_hauberkref02_Check G_hauberkref02_Check V_hauberkref02_Check 3 8 (by kernel_rfl) (fun x => by kernel_rfl) ok_hauberkref02_Check
noncomputable def cLaw02c15 : Ctx := cLaw02c14.addPlain 88 (plainT A_thumb_put G_thumb_put S_thumb_put V_thumb_put)
theorem cLaw02c15_good : Av.Good cLaw02c15 := cLaw02c14_good.fnP S_thumb_put T_thumb_put G_thumb_put V_thumb_put 2 6 (by kernel_rfl) (fun x => by kernel_rfl) ok_thumb_put
noncomputable def cLaw02c16 : Ctx := cLaw02c15.addPlain 65 (plainT A_thumb_shifted G_thumb_shifted S_thumb_shifted V_thumb_shifted)
theorem cLaw02c16_good : Av.Good cLaw02c16 := cLaw02c15_good.fnP S_thumb_shifted T_thumb_shifted G_thumb_shifted V_thumb_shifted 4 8 (by kernel_rfl) (fun x => by kernel_rfl) ok_thumb_shifted
noncomputable def cLaw02c17 : Ctx := cLaw02c16.addPlain 64 (plainT A_thumb_move G_thumb_move S_thumb_move V_thumb_move)
theorem cLaw02c17_good : Av.Good cLaw02c17 := cLaw02c16_good.fnP S_thumb_move T_thumb_move G_thumb_move V_thumb_move 4 8 (by kernel_rfl) (fun x => by kernel_rfl) ok_thumb_move
noncomputable def cLaw02c18 : Ctx := cLaw02c17.addPlain 89 (plainT A_thumb_short G_thumb_short S_thumb_short V_thumb_short)
theorem cLaw02c18_good : Av.Good cLaw02c18 := cLaw02c17_good.fnP S_thumb_short T_thumb_short G_thumb_short V_thumb_short 4 8 (by kernel_rfl) (fun x => by kernel_rfl) ok_thumb_short
noncomputable def cLaw02c19 : Ctx := cLaw02c18.addPlain 90 (plainT A_thumb_wide G_thumb_wide S_thumb_wide V_thumb_wide)
theorem cLaw02c19_good : Av.Good cLaw02c19 := cLaw02c18_good.fnP S_thumb_wide T_thumb_wide G_thumb_wide V_thumb_wide 4 8 (by kernel_rfl) (fun x => by kernel_rfl) ok_thumb_wide
noncomputable def cLaw02c20 : Ctx := cLaw02c19.addPlain 66 (plainT A_thumb_others G_thumb_others S_thumb_others V_thumb_others)
theorem cLaw02c20_good : Av.Good cLaw02c20 := cLaw02c19_good.fnP S_thumb_others T_thumb_others G_thumb_others V_thumb_others 4 8 (by kernel_rfl) (fun x => by kernel_rfl) ok_thumb_others
noncomputable def cLaw02c21 : Ctx := cLaw02c20.addPlain 38 (plainT A_thumb_bits G_thumb_bits S_thumb_bits V_thumb_bits)
theorem cLaw02c21_good : Av.Good cLaw02c21 := cLaw02c20_good.fnP S_thumb_bits T_thumb_bits G_thumb_bits V_thumb_bits 4 8 (by kernel_rfl) (fun x => by kernel_rfl) ok_thumb_bits
noncomputable def cLaw02c22 : Ctx := cLaw02c21.addPlain 22 (plainT A_thumb_Size G_thumb_Size S_thumb_Size V_thumb_Size)
theorem cLaw02c22_good : Av.Good cLaw02c22 := cLaw02c21_good.fnP S_thumb_Size T_thumb_Size G_thumb_Size V_thumb_Size 4 8 (by kernel_rfl) (fun x => by kernel_rfl) ok_thumb_Size
noncomputable def cLaw02c23 : Ctx := cLaw02c22.addPlain 23 (plainT A_hauberkref02_Size G_hauberkref02_Size S_hauberkref02_Size V_hauberkref02_Size)
theorem cLaw02c23_good : Av.Good cLaw02c23 := cLaw02c22_good.fnP S_hauberkref02_Size T_hauberkref02_Size G_hauberkref02_Size V_hauberkref02_Size 2 8 (by kernel_rfl) (fun x => by kernel_rfl) ok_hauberkref02_Size
noncomputable def cLaw02c24 : Ctx := cLaw02c23.addPlain 39 (plainT A_thumb_half G_thumb_half S_thumb_half V_thumb_half)
theorem cLaw02c24_good : Av.Good cLaw02c24 := cLaw02c23_good.fnP S_thumb_half T_thumb_half G_thumb_half V_thumb_half 2 8 (by kernel_rfl) (fun x => by kernel_rfl) ok_thumb_half
noncomputable def cLaw02c25 : Ctx := cLaw02c24.addPlain 15 (plainT A_thumb_Encode G_thumb_Encode S_thumb_Encode V_thumb_Encode)
theorem cLaw02c25_good : Av.Good cLaw02c25 := cLaw02c24_good.fnP S_thumb_Encode T_thumb_Encode G_thumb_Encode V_thumb_Encode 2 8 (by kernel_rfl) (fun x => by kernel_rfl) ok_thumb_Encode
noncomputable def cLaw02c26 : Ctx := cLaw02c25.addPlain 17 (plainT A_hauberklaw02_lives G_hauberklaw02_lives S_hauberklaw02_lives V_hauberklaw02_lives)
theorem cLaw02c26_good : Av.Good cLaw02c26 := cLaw02c25_good.fnP S_hauberklaw02_lives T_hauberklaw02_lives G_hauberklaw02_lives V_hauberklaw02_lives 2 8 (by kernel_rfl) (fun x => by kernel_rfl) ok_hauberklaw02_lives
noncomputable def cLaw02c27 : Ctx := cLaw02c26.addLoop 68 3 L_hauberkref02_bit_3.toT.toLoop
theorem cLaw02c27_good : Av.Good cLaw02c27 := cLaw02c26_good.loopN L_hauberkref02_bit_3 2 8 (by kernel_rfl) (fun _ _ => rfl) (fun x y s m K => by kernel_rfl) (fun x y s s' K e => by kernel_rfl)
noncomputable def cLaw02c28 : Ctx := cLaw02c27.addPlain 68 (plainT A_hauberkref02_bit G_hauberkref02_bit S_hauberkref02_bit V_hauberkref02_bit)
theorem cLaw02c28_good : Av.Good cLaw02c28 := cLaw02c27_good.fnP S_hauberkref02_bit T_hauberkref02_bit G_hauberkref02_bit V_hauberkref02_bit 2 8 (by kernel_rfl) (fun x => by kernel_rfl) ok_hauberkref02_bit
noncomputable def cLaw02c29 : Ctx := cLaw02c28.addPlain 41 (plainT A_hauberkref02_field G_hauberkref02_field S_hauberkref02_field V_hauberkref02_field)
theorem cLaw02c29_good : Av.Good cLaw02c29 := cLaw02c28_good.fnP S_hauberkref02_field T_hauberkref02_field G_hauberkref02_field V_hauberkref02_field 2 8 (by kernel_rfl) (fun x => by kernel_rfl) ok_hauberkref02_field
noncomputable def cLaw02c30 : Ctx := cLaw02c29.addLoop 16 14 L_hauberkref02_Encode_14.toT.toLoop
theorem cLaw02c30_good : Av.Good cLaw02c30 := cLaw02c29_good.loopN L_hauberkref02_Encode_14 2 8 (by kernel_rfl) (fun _ _ => rfl) (fun x y s m K => by kernel_rfl) (fun x y s s' K e => by kernel_rfl)
noncomputable def cLaw02c31 : Ctx := cLaw02c30.addLoop 16 11 L_hauberkref02_Encode_11.toT.toLoop
theorem cLaw02c31_good : Av.Good cLaw02c31 := cLaw02c30_good.loopN L_hauberkref02_Encode_11 2 8 (by kernel_rfl) (fun _ _ => rfl) (fun x y s m K => by kernel_rfl) (fun x y s s' K e => by kernel_rfl)
noncomputable def cLaw02c32 : Ctx := cLaw02c31.addLoop 16 7 L_hauberkref02_Encode_7.toT.toLoop
theorem cLaw02c32_good : Av.Good cLaw02c32 := cLaw02c31_good.loopN L_hauberkref02_Encode_7 2 8 (by kernel_rfl) (fun _ _ => rfl) (fun x y s m K => by kernel_rfl) (fun x y s s' K e => by kernel_rfl)
noncomputable def cLaw02c33 : Ctx := cLaw02c32.addPlain 16 (plainT A_hauberkref02_Encode G_hauberkref02_Encode S_hauberkref02_Encode V_hauberkref02_Encode)
theorem cLaw02c33_good : Av.Good cLaw02c33 := cLaw02c32_good.fnP S_hauberkref02_Encode T_hauberkref02_Encode G_hauberkref02_Encode V_hauberkref02_Encode 2 8 (by kernel_rfl) (fun x => by kernel_rfl) ok_hauberkref02_Encode
noncomputable def cLaw02c : Ctx := cLaw02c33
theorem cLaw02c_good : Av.Good cLaw02c := cLaw02c33_good
end Go.Proofs.Ytbfhpnnnfjjjnaa
