/- The functions that the statements reach, walked: chain Law03c. Written by wip/tools/gen.py out of wip/conf/Law03c.txt. -/
import Derived.Test.YtbfhpnnnfjjjnaaPThumb
import Derived.Test.YtbfhpnnnfjjjnaaPRef02
import Derived.Test.YtbfhpnnnfjjjnaaPRef02Law
import Derived.Test.YtbfhpnnnfjjjnaaPEnc
import Derived.Test.YtbfhpnnnfjjjnaaPEncLaw
import Derived.Test.YtbfhpnnnfjjjnaaPEncS
import Derived.Test.YtbfhpnnnfjjjnaaPRefSize
import Derived.Test.YtbfhpnnnfjjjnaaPEncB
import Derived.Test.YtbfhpnnnfjjjnaaPRefEnc
import Derived.Test.YtbfhpnnnfjjjnaaPRefEnc2
import Derived.Test.YtbfhpnnnfjjjnaaPRefEncLaw
import Derived.Test.YtbfhpnnnfjjjnaaPFldBits
import Derived.Test.YtbfhpnnnfjjjnaaPCheckB
import Derived.Test.YtbfhpnnnfjjjnaaPEncSame
import Derived.Test.YtbfhpnnnfjjjnaaPEncEq
import Derived.Test.YtbfhpnnnfjjjnaaPDec
import Derived.Test.YtbfhpnnnfjjjnaaPHBits
import Derived.Test.YtbfhpnnnfjjjnaaPDecBits
import Derived.Test.YtbfhpnnnfjjjnaaPCheckIff
import Derived.Test.YtbfhpnnnfjjjnaaPDecBack
import Derived.Test.YtbfhpnnnfjjjnaaPDecFw
import Derived.Test.YtbfhpnnnfjjjnaaPDecFw2
import Derived.Test.YtbfhpnnnfjjjnaaPDecLaw
import Derived.Test.YtbfhpnnnfjjjnaaPDecLaw2
import Derived.Test.YtbfhpnnnfjjjnaaPLaw03c
import Derived.Test.YtbfhpnnnfjjjnaaPLaw03cLaw
import Derived.Test.YtbfhpnnnfjjjnaaProg
namespace Go.Proofs.Ytbfhpnnnfjjjnaa
open Go Go.Av Go.Proofs
noncomputable def cLaw03c0 : Ctx := baseC Try.prog [23, 66, 68]
theorem cLaw03c0_good : Av.Good cLaw03c0 := good_base (by kernel_rfl) (by kernel_rfl) (by kernel_rfl)
noncomputable def cLaw03c1 : Ctx := cLaw03c0.addPlain 44 (plainT A_thumb_within G_thumb_within S_thumb_within V_thumb_within)
theorem cLaw03c1_good : Av.Good cLaw03c1 := cLaw03c0_good.fnP S_thumb_within T_thumb_within G_thumb_within V_thumb_within 2 8 (by kernel_rfl) (fun x => by kernel_rfl) ok_thumb_within
noncomputable def cLaw03c2 : Ctx := cLaw03c1.addPlain 45 (plainT A_thumb_field G_thumb_field S_thumb_field V_thumb_field)
theorem cLaw03c2_good : Av.Good cLaw03c2 := cLaw03c1_good.fnP S_thumb_field T_thumb_field G_thumb_field V_thumb_field 2 8 (by kernel_rfl) (fun x => by kernel_rfl) ok_thumb_field
noncomputable def cLaw03c3 : Ctx := cLaw03c2.addPlain 43 (plainT A_thumb_formOf G_thumb_formOf S_thumb_formOf V_thumb_formOf)
theorem cLaw03c3_good : Av.Good cLaw03c3 := cLaw03c2_good.fnP S_thumb_formOf T_thumb_formOf G_thumb_formOf V_thumb_formOf 2 8 (by kernel_rfl) (fun x => by kernel_rfl) ok_thumb_formOf
noncomputable def cLaw03c4 : Ctx := cLaw03c3.addPlain 18 (plainT A_thumb_Reach G_thumb_Reach S_thumb_Reach V_thumb_Reach)
theorem cLaw03c4_good : Av.Good cLaw03c4 := cLaw03c3_good.fnP S_thumb_Reach T_thumb_Reach G_thumb_Reach V_thumb_Reach 3 8 (by kernel_rfl) (fun x => by kernel_rfl) ok_thumb_Reach
noncomputable def cLaw03c5 : Ctx := cLaw03c4.addPlain 42 (plainT A_thumb_branch G_thumb_branch S_thumb_branch V_thumb_branch)
theorem cLaw03c5_good : Av.Good cLaw03c5 := cLaw03c4_good.fnP S_thumb_branch T_thumb_branch G_thumb_branch V_thumb_branch 3 8 (by kernel_rfl) (fun x => by kernel_rfl) ok_thumb_branch
noncomputable def cLaw03c6 : Ctx := cLaw03c5.addPlain 19 (plainT A_thumb_Check G_thumb_Check S_thumb_Check V_thumb_Check)
theorem cLaw03c6_good : Av.Good cLaw03c6 := cLaw03c5_good.fnP S_thumb_Check T_thumb_Check G_thumb_Check V_thumb_Check 3 8 (by kernel_rfl) (fun x => by kernel_rfl) ok_thumb_Check
noncomputable def cLaw03c7 : Ctx := cLaw03c6.addPlain 67 (plainT A_hauberkref02_more G_hauberkref02_more S_hauberkref02_more V_hauberkref02_more)
theorem cLaw03c7_good : Av.Good cLaw03c7 := cLaw03c6_good.fnP S_hauberkref02_more T_hauberkref02_more G_hauberkref02_more V_hauberkref02_more 2 8 (by kernel_rfl) (fun x => by kernel_rfl) ok_hauberkref02_more
noncomputable def cLaw03c8 : Ctx := cLaw03c7.addPlain 40 (plainT A_hauberkref02_Bits G_hauberkref02_Bits S_hauberkref02_Bits V_hauberkref02_Bits)
theorem cLaw03c8_good : Av.Good cLaw03c8 := cLaw03c7_good.fnP S_hauberkref02_Bits T_hauberkref02_Bits G_hauberkref02_Bits V_hauberkref02_Bits 2 8 (by kernel_rfl) (fun x => by kernel_rfl) ok_hauberkref02_Bits
noncomputable def cLaw03c9 : Ctx := cLaw03c8.addLoop 69 2 L_hauberkref02_has_2.toT.toLoop
theorem cLaw03c9_good : Av.Good cLaw03c9 := cLaw03c8_good.loopN L_hauberkref02_has_2 2 8 (by kernel_rfl) (fun _ _ => rfl) (fun x y s m K => by kernel_rfl) (fun x y s s' K e => by kernel_rfl)
noncomputable def cLaw03c10 : Ctx := cLaw03c9.addPlain 69 (plainT A_hauberkref02_has G_hauberkref02_has S_hauberkref02_has V_hauberkref02_has)
theorem cLaw03c10_good : Av.Good cLaw03c10 := cLaw03c9_good.fnP S_hauberkref02_has T_hauberkref02_has G_hauberkref02_has V_hauberkref02_has 2 8 (by kernel_rfl) (fun x => by kernel_rfl) ok_hauberkref02_has
noncomputable def cLaw03c11 : Ctx := cLaw03c10.addPlain 47 (plainT A_hauberkref02_reg G_hauberkref02_reg S_hauberkref02_reg V_hauberkref02_reg)
theorem cLaw03c11_good : Av.Good cLaw03c11 := cLaw03c10_good.fnP S_hauberkref02_reg T_hauberkref02_reg G_hauberkref02_reg V_hauberkref02_reg 2 8 (by kernel_rfl) (fun x => by kernel_rfl) ok_hauberkref02_reg
noncomputable def cLaw03c12 : Ctx := cLaw03c11.addPlain 20 (plainT A_hauberkref02_Reach G_hauberkref02_Reach S_hauberkref02_Reach V_hauberkref02_Reach)
theorem cLaw03c12_good : Av.Good cLaw03c12 := cLaw03c11_good.fnP S_hauberkref02_Reach T_hauberkref02_Reach G_hauberkref02_Reach V_hauberkref02_Reach 2 8 (by kernel_rfl) (fun x => by kernel_rfl) ok_hauberkref02_Reach
noncomputable def cLaw03c13 : Ctx := cLaw03c12.addPlain 46 (plainT A_hauberkref02_number G_hauberkref02_number S_hauberkref02_number V_hauberkref02_number)
theorem cLaw03c13_good : Av.Good cLaw03c13 := cLaw03c12_good.fnP S_hauberkref02_number T_hauberkref02_number G_hauberkref02_number V_hauberkref02_number 2 8 (by kernel_rfl) (fun x => by kernel_rfl) ok_hauberkref02_number
noncomputable def cLaw03c14 : Ctx := cLaw03c13.addPlain 21 (plainT A_hauberkref02_Check G_hauberkref02_Check S_hauberkref02_Check V_hauberkref02_Check)
theorem cLaw03c14_good : Av.Good cLaw03c14 := cLaw03c13_good.fnP S_hauberkref02_Check T_hauberkref02_Check G_hauberkref02_Check V_hauberkref02_Check 3 8 (by kernel_rfl) (fun x => by kernel_rfl) ok_hauberkref02_Check
noncomputable def cLaw03c15 : Ctx := cLaw03c14.addPlain 88 (plainT A_thumb_put G_thumb_put S_thumb_put V_thumb_put)
theorem cLaw03c15_good : Av.Good cLaw03c15 := cLaw03c14_good.fnP S_thumb_put T_thumb_put G_thumb_put V_thumb_put 2 6 (by kernel_rfl) (fun x => by kernel_rfl) ok_thumb_put
noncomputable def cLaw03c16 : Ctx := cLaw03c15.addPlain 65 (plainT A_thumb_shifted G_thumb_shifted S_thumb_shifted V_thumb_shifted)
theorem cLaw03c16_good : Av.Good cLaw03c16 := cLaw03c15_good.fnP S_thumb_shifted T_thumb_shifted G_thumb_shifted V_thumb_shifted 4 8 (by kernel_rfl) (fun x => by kernel_rfl) ok_thumb_shifted
noncomputable def cLaw03c17 : Ctx := cLaw03c16.addPlain 64 (plainT A_thumb_move G_thumb_move S_thumb_move V_thumb_move)
theorem cLaw03c17_good : Av.Good cLaw03c17 := cLaw03c16_good.fnP S_thumb_move T_thumb_move G_thumb_move V_thumb_move 4 8 (by kernel_rfl) (fun x => by kernel_rfl) ok_thumb_move
noncomputable def cLaw03c18 : Ctx := cLaw03c17.addPlain 89 (plainT A_thumb_short G_thumb_short S_thumb_short V_thumb_short)
theorem cLaw03c18_good : Av.Good cLaw03c18 := cLaw03c17_good.fnP S_thumb_short T_thumb_short G_thumb_short V_thumb_short 4 8 (by kernel_rfl) (fun x => by kernel_rfl) ok_thumb_short
noncomputable def cLaw03c19 : Ctx := cLaw03c18.addPlain 90 (plainT A_thumb_wide G_thumb_wide S_thumb_wide V_thumb_wide)
theorem cLaw03c19_good : Av.Good cLaw03c19 := cLaw03c18_good.fnP S_thumb_wide T_thumb_wide G_thumb_wide V_thumb_wide 4 8 (by kernel_rfl) (fun x => by kernel_rfl) ok_thumb_wide
noncomputable def cLaw03c20 : Ctx := cLaw03c19.addPlain 66 (plainT A_thumb_others G_thumb_others S_thumb_others V_thumb_others)
theorem cLaw03c20_good : Av.Good cLaw03c20 := cLaw03c19_good.fnP S_thumb_others T_thumb_others G_thumb_others V_thumb_others 4 8 (by kernel_rfl) (fun x => by kernel_rfl) ok_thumb_others
noncomputable def cLaw03c21 : Ctx := cLaw03c20.addPlain 38 (plainT A_thumb_bits G_thumb_bits S_thumb_bits V_thumb_bits)
theorem cLaw03c21_good : Av.Good cLaw03c21 := cLaw03c20_good.fnP S_thumb_bits T_thumb_bits G_thumb_bits V_thumb_bits 4 8 (by kernel_rfl) (fun x => by kernel_rfl) ok_thumb_bits
noncomputable def cLaw03c22 : Ctx := cLaw03c21.addPlain 22 (plainT A_thumb_Size G_thumb_Size S_thumb_Size V_thumb_Size)
theorem cLaw03c22_good : Av.Good cLaw03c22 := cLaw03c21_good.fnP S_thumb_Size T_thumb_Size G_thumb_Size V_thumb_Size 4 8 (by kernel_rfl) (fun x => by kernel_rfl) ok_thumb_Size
noncomputable def cLaw03c23 : Ctx := cLaw03c22.addPlain 23 (plainT A_hauberkref02_Size G_hauberkref02_Size S_hauberkref02_Size V_hauberkref02_Size)
theorem cLaw03c23_good : Av.Good cLaw03c23 := cLaw03c22_good.fnP S_hauberkref02_Size T_hauberkref02_Size G_hauberkref02_Size V_hauberkref02_Size 2 8 (by kernel_rfl) (fun x => by kernel_rfl) ok_hauberkref02_Size
noncomputable def cLaw03c24 : Ctx := cLaw03c23.addPlain 39 (plainT A_thumb_half G_thumb_half S_thumb_half V_thumb_half)
theorem cLaw03c24_good : Av.Good cLaw03c24 := cLaw03c23_good.fnP S_thumb_half T_thumb_half G_thumb_half V_thumb_half 2 8 (by kernel_rfl) (fun x => by kernel_rfl) ok_thumb_half
noncomputable def cLaw03c25 : Ctx := cLaw03c24.addPlain 15 (plainT A_thumb_Encode G_thumb_Encode S_thumb_Encode V_thumb_Encode)
theorem cLaw03c25_good : Av.Good cLaw03c25 := cLaw03c24_good.fnP S_thumb_Encode T_thumb_Encode G_thumb_Encode V_thumb_Encode 2 8 (by kernel_rfl) (fun x => by kernel_rfl) ok_thumb_Encode
noncomputable def cLaw03c26 : Ctx := cLaw03c25.addPlain 17 (plainT A_hauberklaw02_lives G_hauberklaw02_lives S_hauberklaw02_lives V_hauberklaw02_lives)
theorem cLaw03c26_good : Av.Good cLaw03c26 := cLaw03c25_good.fnP S_hauberklaw02_lives T_hauberklaw02_lives G_hauberklaw02_lives V_hauberklaw02_lives 2 8 (by kernel_rfl) (fun x => by kernel_rfl) ok_hauberklaw02_lives
noncomputable def cLaw03c27 : Ctx := cLaw03c26.addLoop 68 3 L_hauberkref02_bit_3.toT.toLoop
theorem cLaw03c27_good : Av.Good cLaw03c27 := cLaw03c26_good.loopN L_hauberkref02_bit_3 2 8 (by kernel_rfl) (fun _ _ => rfl) (fun x y s m K => by kernel_rfl) (fun x y s s' K e => by kernel_rfl)
noncomputable def cLaw03c28 : Ctx := cLaw03c27.addPlain 68 (plainT A_hauberkref02_bit G_hauberkref02_bit S_hauberkref02_bit V_hauberkref02_bit)
theorem cLaw03c28_good : Av.Good cLaw03c28 := cLaw03c27_good.fnP S_hauberkref02_bit T_hauberkref02_bit G_hauberkref02_bit V_hauberkref02_bit 2 8 (by kernel_rfl) (fun x => by kernel_rfl) ok_hauberkref02_bit
noncomputable def cLaw03c29 : Ctx := cLaw03c28.addPlain 41 (plainT A_hauberkref02_field G_hauberkref02_field S_hauberkref02_field V_hauberkref02_field)
theorem cLaw03c29_good : Av.Good cLaw03c29 := cLaw03c28_good.fnP S_hauberkref02_field T_hauberkref02_field G_hauberkref02_field V_hauberkref02_field 2 8 (by kernel_rfl) (fun x => by kernel_rfl) ok_hauberkref02_field
noncomputable def cLaw03c30 : Ctx := cLaw03c29.addLoop 16 14 L_hauberkref02_Encode_14.toT.toLoop
theorem cLaw03c30_good : Av.Good cLaw03c30 := cLaw03c29_good.loopN L_hauberkref02_Encode_14 2 8 (by kernel_rfl) (fun _ _ => rfl) (fun x y s m K => by kernel_rfl) (fun x y s s' K e => by kernel_rfl)
noncomputable def cLaw03c31 : Ctx := cLaw03c30.addLoop 16 11 L_hauberkref02_Encode_11.toT.toLoop
theorem cLaw03c31_good : Av.Good cLaw03c31 := cLaw03c30_good.loopN L_hauberkref02_Encode_11 2 8 (by kernel_rfl) (fun _ _ => rfl) (fun x y s m K => by kernel_rfl) (fun x y s s' K e => by kernel_rfl)
noncomputable def cLaw03c32 : Ctx := cLaw03c31.addLoop 16 7 L_hauberkref02_Encode_7.toT.toLoop
theorem cLaw03c32_good : Av.Good cLaw03c32 := cLaw03c31_good.loopN L_hauberkref02_Encode_7 2 8 (by kernel_rfl) (fun _ _ => rfl) (fun x y s m K => by kernel_rfl) (fun x y s s' K e => by kernel_rfl)
noncomputable def cLaw03c33 : Ctx := cLaw03c32.addPlain 16 (plainT A_hauberkref02_Encode G_hauberkref02_Encode S_hauberkref02_Encode V_hauberkref02_Encode)
theorem cLaw03c33_good : Av.Good cLaw03c33 := cLaw03c32_good.fnP S_hauberkref02_Encode T_hauberkref02_Encode G_hauberkref02_Encode V_hauberkref02_Encode 2 8 (by kernel_rfl) (fun x => by kernel_rfl) ok_hauberkref02_Encode
noncomputable def cLaw03c34 : Ctx := cLaw03c33.addPlain 70 (plainT A_decode_some G_decode_some S_decode_some V_decode_some)
theorem cLaw03c34_good : Av.Good cLaw03c34 := cLaw03c33_good.fnP S_decode_some T_decode_some G_decode_some V_decode_some 2 8 (by kernel_rfl) (fun x => by kernel_rfl) ok_decode_some
noncomputable def cLaw03c35 : Ctx := cLaw03c34.addPlain 49 (plainT A_decode_half G_decode_half S_decode_half V_decode_half)
theorem cLaw03c35_good : Av.Good cLaw03c35 := cLaw03c34_good.fnP S_decode_half T_decode_half G_decode_half V_decode_half 2 8 (by kernel_rfl) (fun x => by kernel_rfl) ok_decode_half
noncomputable def cLaw03c36 : Ctx := cLaw03c35.addPlain 71 (plainT A_decode_signed G_decode_signed S_decode_signed V_decode_signed)
theorem cLaw03c36_good : Av.Good cLaw03c36 := cLaw03c35_good.fnP S_decode_signed T_decode_signed G_decode_signed V_decode_signed 2 8 (by kernel_rfl) (fun x => by kernel_rfl) ok_decode_signed
noncomputable def cLaw03c37 : Ctx := cLaw03c36.addLoop 91 2 L_decode_regs_2.toT.toLoop
theorem cLaw03c37_good : Av.Good cLaw03c37 := cLaw03c36_good.loopN L_decode_regs_2 2 8 (by kernel_rfl) (fun _ _ => rfl) (fun x y s m K => by kernel_rfl) (fun x y s s' K e => by kernel_rfl)
noncomputable def cLaw03c38 : Ctx := cLaw03c37.addPlain 91 (plainT A_decode_regs G_decode_regs S_decode_regs V_decode_regs)
theorem cLaw03c38_good : Av.Good cLaw03c38 := cLaw03c37_good.fnP S_decode_regs T_decode_regs G_decode_regs V_decode_regs 2 8 (by kernel_rfl) (fun x => by kernel_rfl) ok_decode_regs
noncomputable def cLaw03c39 : Ctx := cLaw03c38.addPlain 26 (plainT A_decode_Size G_decode_Size S_decode_Size V_decode_Size)
theorem cLaw03c39_good : Av.Good cLaw03c39 := cLaw03c38_good.fnP S_decode_Size T_decode_Size G_decode_Size V_decode_Size 2 8 (by kernel_rfl) (fun x => by kernel_rfl) ok_decode_Size
noncomputable def cLaw03c40 : Ctx := cLaw03c39.addPlain 48 (plainT A_decode_narrow G_decode_narrow S_decode_narrow V_decode_narrow)
theorem cLaw03c40_good : Av.Good cLaw03c40 := cLaw03c39_good.fnP S_decode_narrow T_decode_narrow G_decode_narrow V_decode_narrow 2 12 (by kernel_rfl) (fun x => by kernel_rfl) ok_decode_narrow
noncomputable def cLaw03c41 : Ctx := cLaw03c40.addPlain 72 (plainT A_decode_three G_decode_three S_decode_three V_decode_three)
theorem cLaw03c41_good : Av.Good cLaw03c41 := cLaw03c40_good.fnP S_decode_three T_decode_three G_decode_three V_decode_three 3 12 (by kernel_rfl) (fun x => by kernel_rfl) ok_decode_three
noncomputable def cLaw03c42 : Ctx := cLaw03c41.addPlain 73 (plainT A_decode_product G_decode_product S_decode_product V_decode_product)
theorem cLaw03c42_good : Av.Good cLaw03c42 := cLaw03c41_good.fnP S_decode_product T_decode_product G_decode_product V_decode_product 2 12 (by kernel_rfl) (fun x => by kernel_rfl) ok_decode_product
noncomputable def cLaw03c43 : Ctx := cLaw03c42.addPlain 74 (plainT A_decode_plain G_decode_plain S_decode_plain V_decode_plain)
theorem cLaw03c43_good : Av.Good cLaw03c43 := cLaw03c42_good.fnP S_decode_plain T_decode_plain G_decode_plain V_decode_plain 2 12 (by kernel_rfl) (fun x => by kernel_rfl) ok_decode_plain
noncomputable def cLaw03c44 : Ctx := cLaw03c43.addPlain 75 (plainT A_decode_branch G_decode_branch S_decode_branch V_decode_branch)
theorem cLaw03c44_good : Av.Good cLaw03c44 := cLaw03c43_good.fnP S_decode_branch T_decode_branch G_decode_branch V_decode_branch 2 12 (by kernel_rfl) (fun x => by kernel_rfl) ok_decode_branch
noncomputable def cLaw03c45 : Ctx := cLaw03c44.addPlain 50 (plainT A_decode_long G_decode_long S_decode_long V_decode_long)
theorem cLaw03c45_good : Av.Good cLaw03c45 := cLaw03c44_good.fnP S_decode_long T_decode_long G_decode_long V_decode_long 2 12 (by kernel_rfl) (fun x => by kernel_rfl) ok_decode_long
noncomputable def cLaw03c46 : Ctx := cLaw03c45.addPlain 24 (plainT A_decode_Decode G_decode_Decode S_decode_Decode V_decode_Decode)
theorem cLaw03c46_good : Av.Good cLaw03c46 := cLaw03c45_good.fnP S_decode_Decode T_decode_Decode G_decode_Decode V_decode_Decode 2 12 (by kernel_rfl) (fun x => by kernel_rfl) ok_decode_Decode
noncomputable def cLaw03c47 : Ctx := cLaw03c46.addPlain 76 (plainT A_hauberkref03_text G_hauberkref03_text S_hauberkref03_text V_hauberkref03_text)
theorem cLaw03c47_good : Av.Good cLaw03c47 := cLaw03c46_good.fnP S_hauberkref03_text T_hauberkref03_text G_hauberkref03_text V_hauberkref03_text 2 20 (by kernel_rfl) (fun x => by kernel_rfl) ok_hauberkref03_text
noncomputable def cLaw03c48 : Ctx := cLaw03c47.addLoop 79 3 L_hauberkref03_power_3.toT.toLoop
theorem cLaw03c48_good : Av.Good cLaw03c48 := cLaw03c47_good.loopN L_hauberkref03_power_3 2 8 (by kernel_rfl) (fun _ _ => rfl) (fun x y s m K => by kernel_rfl) (fun x y s s' K e => by kernel_rfl)
noncomputable def cLaw03c49 : Ctx := cLaw03c48.addPlain 79 (plainT A_hauberkref03_power G_hauberkref03_power S_hauberkref03_power V_hauberkref03_power)
theorem cLaw03c49_good : Av.Good cLaw03c49 := cLaw03c48_good.fnP S_hauberkref03_power T_hauberkref03_power G_hauberkref03_power V_hauberkref03_power 2 8 (by kernel_rfl) (fun x => by kernel_rfl) ok_hauberkref03_power
noncomputable def cLaw03c50 : Ctx := cLaw03c49.addLoop 78 3 L_hauberkref03_sign_3.toT.toLoop
theorem cLaw03c50_good : Av.Good cLaw03c50 := cLaw03c49_good.loopN L_hauberkref03_sign_3 2 8 (by kernel_rfl) (fun _ _ => rfl) (fun x y s m K => by kernel_rfl) (fun x y s s' K e => by kernel_rfl)
noncomputable def cLaw03c51 : Ctx := cLaw03c50.addPlain 78 (plainT A_hauberkref03_sign G_hauberkref03_sign S_hauberkref03_sign V_hauberkref03_sign)
theorem cLaw03c51_good : Av.Good cLaw03c51 := cLaw03c50_good.fnP S_hauberkref03_sign T_hauberkref03_sign G_hauberkref03_sign V_hauberkref03_sign 2 8 (by kernel_rfl) (fun x => by kernel_rfl) ok_hauberkref03_sign
noncomputable def cLaw03c52 : Ctx := cLaw03c51.addPlain 51 (plainT A_hauberkref03_half G_hauberkref03_half S_hauberkref03_half V_hauberkref03_half)
theorem cLaw03c52_good : Av.Good cLaw03c52 := cLaw03c51_good.fnP S_hauberkref03_half T_hauberkref03_half G_hauberkref03_half V_hauberkref03_half 2 8 (by kernel_rfl) (fun x => by kernel_rfl) ok_hauberkref03_half
noncomputable def cLaw03c53 : Ctx := cLaw03c52.addPlain 27 (plainT A_hauberkref03_Size G_hauberkref03_Size S_hauberkref03_Size V_hauberkref03_Size)
theorem cLaw03c53_good : Av.Good cLaw03c53 := cLaw03c52_good.fnP S_hauberkref03_Size T_hauberkref03_Size G_hauberkref03_Size V_hauberkref03_Size 2 8 (by kernel_rfl) (fun x => by kernel_rfl) ok_hauberkref03_Size
noncomputable def cLaw03c54 : Ctx := cLaw03c53.addLoop 52 8 L_hauberkref03_read_8.toT.toLoop
theorem cLaw03c54_good : Av.Good cLaw03c54 := cLaw03c53_good.loopN L_hauberkref03_read_8 3 12 (by kernel_rfl) (fun _ _ => rfl) (fun x y s m K => by kernel_rfl) (fun x y s s' K e => by kernel_rfl)
noncomputable def cLaw03c55 : Ctx := cLaw03c54.addPlain 52 (plainT A_hauberkref03_read G_hauberkref03_read S_hauberkref03_read V_hauberkref03_read)
theorem cLaw03c55_good : Av.Good cLaw03c55 := cLaw03c54_good.fnP S_hauberkref03_read T_hauberkref03_read G_hauberkref03_read V_hauberkref03_read 3 12 (by kernel_rfl) (fun x => by kernel_rfl) ok_hauberkref03_read
noncomputable def cLaw03c56 : Ctx := cLaw03c55.addLoop 25 8 L_hauberkref03_Decode_8.toT.toLoop
theorem cLaw03c56_good : Av.Good cLaw03c56 := cLaw03c55_good.loopN L_hauberkref03_Decode_8 2 8 (by kernel_rfl) (fun _ _ => rfl) (fun x y s m K => by kernel_rfl) (fun x y s s' K e => by kernel_rfl)
noncomputable def cLaw03c57 : Ctx := cLaw03c56.addPlain 25 (plainT A_hauberkref03_Decode G_hauberkref03_Decode S_hauberkref03_Decode V_hauberkref03_Decode)
theorem cLaw03c57_good : Av.Good cLaw03c57 := cLaw03c56_good.fnP S_hauberkref03_Decode T_hauberkref03_Decode G_hauberkref03_Decode V_hauberkref03_Decode 2 8 (by kernel_rfl) (fun x => by kernel_rfl) ok_hauberkref03_Decode
noncomputable def cLaw03c58 : Ctx := cLaw03c57.addPlain 28 (plainT A_hauberklaw03_lives G_hauberklaw03_lives S_hauberklaw03_lives V_hauberklaw03_lives)
theorem cLaw03c58_good : Av.Good cLaw03c58 := cLaw03c57_good.fnP S_hauberklaw03_lives T_hauberklaw03_lives G_hauberklaw03_lives V_hauberklaw03_lives 2 8 (by kernel_rfl) (fun x => by kernel_rfl) ok_hauberklaw03_lives
noncomputable def cLaw03c : Ctx := cLaw03c58
theorem cLaw03c_good : Av.Good cLaw03c := cLaw03c58_good
end Go.Proofs.Ytbfhpnnnfjjjnaa
