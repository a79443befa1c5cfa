/- The functions that the statements reach, walked: chain Law03b. Written by wip/tools/gen.py out of wip/conf/Law03b.txt. -/
import Derived.Test.YtbfhpnnnfjjjnaaPThumb
import Derived.Test.YtbfhpnnnfjjjnaaPRef02
import Derived.Test.YtbfhpnnnfjjjnaaPRef02Law
import Derived.Test.YtbfhpnnnfjjjnaaPEnc
import Derived.Test.YtbfhpnnnfjjjnaaPEncLaw
import Derived.Test.YtbfhpnnnfjjjnaaPEncS
import Derived.Test.YtbfhpnnnfjjjnaaPRefSize
import Derived.Test.YtbfhpnnnfjjjnaaPEncB
import Derived.Test.YtbfhpnnnfjjjnaaPRefEnc
import Derived.Test.YtbfhpnnnfjjjnaaPRefEnc2
import Derived.Test.YtbfhpnnnfjjjnaaPRefEncLaw
import Derived.Test.YtbfhpnnnfjjjnaaPFldBits
import Derived.Test.YtbfhpnnnfjjjnaaPCheckB
import Derived.Test.YtbfhpnnnfjjjnaaPEncSame
import Derived.Test.YtbfhpnnnfjjjnaaPEncEq
import Derived.Test.YtbfhpnnnfjjjnaaPDec
import Derived.Test.YtbfhpnnnfjjjnaaPHBits
import Derived.Test.YtbfhpnnnfjjjnaaPDecBits
import Derived.Test.YtbfhpnnnfjjjnaaPCheckIff
import Derived.Test.YtbfhpnnnfjjjnaaPDecBack
import Derived.Test.YtbfhpnnnfjjjnaaPDecFw
import Derived.Test.YtbfhpnnnfjjjnaaPDecFw2
import Derived.Test.YtbfhpnnnfjjjnaaPDecLaw
import Derived.Test.YtbfhpnnnfjjjnaaPDecLaw2
import Derived.Test.YtbfhpnnnfjjjnaaPLaw03b
import Derived.Test.YtbfhpnnnfjjjnaaPLaw03bLaw
import Derived.Test.YtbfhpnnnfjjjnaaProg
namespace Go.Proofs.Ytbfhpnnnfjjjnaa
open Go Go.Av Go.Proofs
noncomputable def cLaw03b0 : Ctx := baseC Try.prog [23, 66, 68]
theorem cLaw03b0_good : Av.Good cLaw03b0 := good_base (by kernel_rfl) (by kernel_rfl) (by kernel_rfl)
noncomputable def cLaw03b1 : Ctx := cLaw03b0.addPlain 44 (plainT A_thumb_within G_thumb_within S_thumb_within V_thumb_within)
theorem cLaw03b1_good : Av.Good cLaw03b1 := cLaw03b0_good.fnP S_thumb_within T_thumb_within G_thumb_within V_thumb_within 2 8 (by kernel_rfl) (fun x => by kernel_rfl) ok_thumb_within
noncomputable def cLaw03b2 : Ctx := cLaw03b1.addPlain 45 (plainT A_thumb_field G_thumb_field S_thumb_field V_thumb_field)
theorem cLaw03b2_good : Av.Good cLaw03b2 := cLaw03b1_good.fnP S_thumb_field T_thumb_field G_thumb_field V_thumb_field 2 8 (by kernel_rfl) (fun x => by kernel_rfl) ok_thumb_field
noncomputable def cLaw03b3 : Ctx := cLaw03b2.addPlain 43 (plainT A_thumb_formOf G_thumb_formOf S_thumb_formOf V_thumb_formOf)
theorem cLaw03b3_good : Av.Good cLaw03b3 := cLaw03b2_good.fnP S_thumb_formOf T_thumb_formOf G_thumb_formOf V_thumb_formOf 2 8 (by kernel_rfl) (fun x => by kernel_rfl) ok_thumb_formOf
noncomputable def cLaw03b4 : Ctx := cLaw03b3.addPlain 18 (plainT A_thumb_Reach G_thumb_Reach S_thumb_Reach V_thumb_Reach)
theorem cLaw03b4_good : Av.Good cLaw03b4 := cLaw03b3_good.fnP S_thumb_Reach T_thumb_Reach G_thumb_Reach V_thumb_Reach 3 8 (by kernel_rfl) (fun x => by kernel_rfl) ok_thumb_Reach
noncomputable def cLaw03b5 : Ctx := cLaw03b4.addPlain 42 (plainT A_thumb_branch G_thumb_branch S_thumb_branch V_thumb_branch)
theorem cLaw03b5_good : Av.Good cLaw03b5 := cLaw03b4_good.fnP S_thumb_branch T_thumb_branch G_thumb_branch V_thumb_branch 3 8 (by kernel_rfl) (fun x => by kernel_rfl) ok_thumb_branch
noncomputable def cLaw03b6 : Ctx := cLaw03b5.addPlain 19 (plainT A_thumb_Check G_thumb_Check S_thumb_Check V_thumb_Check)
theorem cLaw03b6_good : Av.Good cLaw03b6 := cLaw03b5_good.fnP S_thumb_Check T_thumb_Check G_thumb_Check V_thumb_Check 3 8 (by kernel_rfl) (fun x => by kernel_rfl) ok_thumb_Check
noncomputable def cLaw03b7 : Ctx := cLaw03b6.addPlain 67 (plainT A_hauberkref02_more G_hauberkref02_more S_hauberkref02_more V_hauberkref02_more)
theorem cLaw03b7_good : Av.Good cLaw03b7 := cLaw03b6_good.fnP S_hauberkref02_more T_hauberkref02_more G_hauberkref02_more V_hauberkref02_more 2 8 (by kernel_rfl) (fun x => by kernel_rfl) ok_hauberkref02_more
noncomputable def cLaw03b8 : Ctx := cLaw03b7.addPlain 40 (plainT A_hauberkref02_Bits G_hauberkref02_Bits S_hauberkref02_Bits V_hauberkref02_Bits)
theorem cLaw03b8_good : Av.Good cLaw03b8 := cLaw03b7_good.fnP S_hauberkref02_Bits T_hauberkref02_Bits G_hauberkref02_Bits V_hauberkref02_Bits 2 8 (by kernel_rfl) (fun x => by kernel_rfl) ok_hauberkref02_Bits
noncomputable def cLaw03b9 : Ctx := cLaw03b8.addLoop 69 2 L_hauberkref02_has_2.toT.toLoop
theorem cLaw03b9_good : Av.Good cLaw03b9 := cLaw03b8_good.loopN L_hauberkref02_has_2 2 8 (by kernel_rfl) (fun _ _ => rfl) (fun x y s m K => by kernel_rfl) (fun x y s s' K e => by kernel_rfl)
noncomputable def cLaw03b10 : Ctx := cLaw03b9.addPlain 69 (plainT A_hauberkref02_has G_hauberkref02_has S_hauberkref02_has V_hauberkref02_has)
theorem cLaw03b10_good : Av.Good cLaw03b10 := cLaw03b9_good.fnP S_hauberkref02_has T_hauberkref02_has G_hauberkref02_has V_hauberkref02_has 2 8 (by kernel_rfl) (fun x => by kernel_rfl) ok_hauberkref02_has
noncomputable def cLaw03b11 : Ctx := cLaw03b10.addPlain 47 (plainT A_hauberkref02_reg G_hauberkref02_reg S_hauberkref02_reg V_hauberkref02_reg)
theorem cLaw03b11_good : Av.Good cLaw03b11 := cLaw03b10_good.fnP S_hauberkref02_reg T_hauberkref02_reg G_hauberkref02_reg V_hauberkref02_reg 2 8 (by kernel_rfl) (fun x => by kernel_rfl) ok_hauberkref02_reg
noncomputable def cLaw03b12 : Ctx := cLaw03b11.addPlain 20 (plainT A_hauberkref02_Reach G_hauberkref02_Reach S_hauberkref02_Reach V_hauberkref02_Reach)
theorem cLaw03b12_good : Av.Good cLaw03b12 := cLaw03b11_good.fnP S_hauberkref02_Reach T_hauberkref02_Reach G_hauberkref02_Reach V_hauberkref02_Reach 2 8 (by kernel_rfl) (fun x => by kernel_rfl) ok_hauberkref02_Reach
noncomputable def cLaw03b13 : Ctx := cLaw03b12.addPlain 46 (plainT A_hauberkref02_number G_hauberkref02_number S_hauberkref02_number V_hauberkref02_number)
theorem cLaw03b13_good : Av.Good cLaw03b13 := cLaw03b12_good.fnP S_hauberkref02_number T_hauberkref02_number G_hauberkref02_number V_hauberkref02_number 2 8 (by kernel_rfl) (fun x => by kernel_rfl) ok_hauberkref02_number
noncomputable def cLaw03b14 : Ctx := cLaw03b13.addPlain 21 (plainT A_hauberkref02_Check G_hauberkref02_Check S_hauberkref02_Check V_hauberkref02_Check)
theorem cLaw03b14_good : Av.Good cLaw03b14 := cLaw03b13_good.fnP S_hauberkref02_Check T_hauberkref02_Check G_hauberkref02_Check V_hauberkref02_Check 3 8 (by kernel_rfl) (fun x => by kernel_rfl) ok_hauberkref02_Check
noncomputable def cLaw03b15 : Ctx := cLaw03b14.addPlain 88 (plainT A_thumb_put G_thumb_put S_thumb_put V_thumb_put)
theorem cLaw03b15_good : Av.Good cLaw03b15 := cLaw03b14_good.fnP S_thumb_put T_thumb_put G_thumb_put V_thumb_put 2 6 (by kernel_rfl) (fun x => by kernel_rfl) ok_thumb_put
noncomputable def cLaw03b16 : Ctx := cLaw03b15.addPlain 65 (plainT A_thumb_shifted G_thumb_shifted S_thumb_shifted V_thumb_shifted)
theorem cLaw03b16_good : Av.Good cLaw03b16 := cLaw03b15_good.fnP S_thumb_shifted T_thumb_shifted G_thumb_shifted V_thumb_shifted 4 8 (by kernel_rfl) (fun x => by kernel_rfl) ok_thumb_shifted
noncomputable def cLaw03b17 : Ctx := cLaw03b16.addPlain 64 (plainT A_thumb_move G_thumb_move S_thumb_move V_thumb_move)
theorem cLaw03b17_good : Av.Good cLaw03b17 := cLaw03b16_good.fnP S_thumb_move T_thumb_move G_thumb_move V_thumb_move 4 8 (by kernel_rfl) (fun x => by kernel_rfl) ok_thumb_move
noncomputable def cLaw03b18 : Ctx := cLaw03b17.addPlain 89 (plainT A_thumb_short G_thumb_short S_thumb_short V_thumb_short)
theorem cLaw03b18_good : Av.Good cLaw03b18 := cLaw03b17_good.fnP S_thumb_short T_thumb_short G_thumb_short V_thumb_short 4 8 (by kernel_rfl) (fun x => by kernel_rfl) ok_thumb_short
noncomputable def cLaw03b19 : Ctx := cLaw03b18.addPlain 90 (plainT A_thumb_wide G_thumb_wide S_thumb_wide V_thumb_wide)
theorem cLaw03b19_good : Av.Good cLaw03b19 := cLaw03b18_good.fnP S_thumb_wide T_thumb_wide G_thumb_wide V_thumb_wide 4 8 (by kernel_rfl) (fun x => by kernel_rfl) ok_thumb_wide
noncomputable def cLaw03b20 : Ctx := cLaw03b19.addPlain 66 (plainT A_thumb_others G_thumb_others S_thumb_others V_thumb_others)
theorem cLaw03b20_good : Av.Good cLaw03b20 := cLaw03b19_good.fnP S_thumb_others T_thumb_others G_thumb_others V_thumb_others 4 8 (by kernel_rfl) (fun x => by kernel_rfl) ok_thumb_others
noncomputable def cLaw03b21 : Ctx := cLaw03b20.addPlain 38 (plainT A_thumb_bits G_thumb_bits S_thumb_bits V_thumb_bits)
theorem cLaw03b21_good : Av.Good cLaw03b21 := cLaw03b20_good.fnP S_thumb_bits T_thumb_bits G_thumb_bits V_thumb_bits 4 8 (by kernel_rfl) (fun x => by kernel_rfl) ok_thumb_bits
noncomputable def cLaw03b22 : Ctx := cLaw03b21.addPlain 22 (plainT A_thumb_Size G_thumb_Size S_thumb_Size V_thumb_Size)
theorem cLaw03b22_good : Av.Good cLaw03b22 := cLaw03b21_good.fnP S_thumb_Size T_thumb_Size G_thumb_Size V_thumb_Size 4 8 (by kernel_rfl) (fun x => by kernel_rfl) ok_thumb_Size
noncomputable def cLaw03b23 : Ctx := cLaw03b22.addPlain 23 (plainT A_hauberkref02_Size G_hauberkref02_Size S_hauberkref02_Size V_hauberkref02_Size)
theorem cLaw03b23_good : Av.Good cLaw03b23 := cLaw03b22_good.fnP S_hauberkref02_Size T_hauberkref02_Size G_hauberkref02_Size V_hauberkref02_Size 2 8 (by kernel_rfl) (fun x => by kernel_rfl) ok_hauberkref02_Size
noncomputable def cLaw03b24 : Ctx := cLaw03b23.addPlain 39 (plainT A_thumb_half G_thumb_half S_thumb_half V_thumb_half)
theorem cLaw03b24_good : Av.Good cLaw03b24 := cLaw03b23_good.fnP S_thumb_half T_thumb_half G_thumb_half V_thumb_half 2 8 (by kernel_rfl) (fun x => by kernel_rfl) ok_thumb_half
noncomputable def cLaw03b25 : Ctx := cLaw03b24.addPlain 15 (plainT A_thumb_Encode G_thumb_Encode S_thumb_Encode V_thumb_Encode)
theorem cLaw03b25_good : Av.Good cLaw03b25 := cLaw03b24_good.fnP S_thumb_Encode T_thumb_Encode G_thumb_Encode V_thumb_Encode 2 8 (by kernel_rfl) (fun x => by kernel_rfl) ok_thumb_Encode
noncomputable def cLaw03b26 : Ctx := cLaw03b25.addPlain 17 (plainT A_hauberklaw02_lives G_hauberklaw02_lives S_hauberklaw02_lives V_hauberklaw02_lives)
theorem cLaw03b26_good : Av.Good cLaw03b26 := cLaw03b25_good.fnP S_hauberklaw02_lives T_hauberklaw02_lives G_hauberklaw02_lives V_hauberklaw02_lives 2 8 (by kernel_rfl) (fun x => by kernel_rfl) ok_hauberklaw02_lives
noncomputable def cLaw03b27 : Ctx := cLaw03b26.addLoop 68 3 L_hauberkref02_bit_3.toT.toLoop
theorem cLaw03b27_good : Av.Good cLaw03b27 := cLaw03b26_good.loopN L_hauberkref02_bit_3 2 8 (by kernel_rfl) (fun _ _ => rfl) (fun x y s m K => by kernel_rfl) (fun x y s s' K e => by kernel_rfl)
noncomputable def cLaw03b28 : Ctx := cLaw03b27.addPlain 68 (plainT A_hauberkref02_bit G_hauberkref02_bit S_hauberkref02_bit V_hauberkref02_bit)
theorem cLaw03b28_good : Av.Good cLaw03b28 := cLaw03b27_good.fnP S_hauberkref02_bit T_hauberkref02_bit G_hauberkref02_bit V_hauberkref02_bit 2 8 (by kernel_rfl) (fun x => by kernel_rfl) ok_hauberkref02_bit
noncomputable def cLaw03b29 : Ctx := cLaw03b28.addPlain 41 (plainT A_hauberkref02_field G_hauberkref02_field S_hauberkref02_field V_hauberkref02_field)
theorem cLaw03b29_good : Av.Good cLaw03b29 := cLaw03b28_good.fnP S_hauberkref02_field T_hauberkref02_field G_hauberkref02_field V_hauberkref02_field 2 8 (by kernel_rfl) (fun x => by kernel_rfl) ok_hauberkref02_field
noncomputable def cLaw03b30 : Ctx := cLaw03b29.addLoop 16 14 L_hauberkref02_Encode_14.toT.toLoop
theorem cLaw03b30_good : Av.Good cLaw03b30 := cLaw03b29_good.loopN L_hauberkref02_Encode_14 2 8 (by kernel_rfl) (fun _ _ => rfl) (fun x y s m K => by kernel_rfl) (fun x y s s' K e => by kernel_rfl)
noncomputable def cLaw03b31 : Ctx := cLaw03b30.addLoop 16 11 L_hauberkref02_Encode_11.toT.toLoop
theorem cLaw03b31_good : Av.Good cLaw03b31 := cLaw03b30_good.loopN L_hauberkref02_Encode_11 2 8 (by kernel_rfl) (fun _ _ => rfl) (fun x y s m K => by kernel_rfl) (fun x y s s' K e => by kernel_rfl)
noncomputable def cLaw03b32 : Ctx := cLaw03b31.addLoop 16 7 L_hauberkref02_Encode_7.toT.toLoop
theorem cLaw03b32_good : Av.Good cLaw03b32 := cLaw03b31_good.loopN L_hauberkref02_Encode_7 2 8 (by kernel_rfl) (fun _ _ => rfl) (fun x y s m K => by kernel_rfl) (fun x y s s' K e => by kernel_rfl)
noncomputable def cLaw03b33 : Ctx := cLaw03b32.addPlain 16 (plainT A_hauberkref02_Encode G_hauberkref02_Encode S_hauberkref02_Encode V_hauberkref02_Encode)
theorem cLaw03b33_good : Av.Good cLaw03b33 := cLaw03b32_good.fnP S_hauberkref02_Encode T_hauberkref02_Encode G_hauberkref02_Encode V_hauberkref02_Encode 2 8 (by kernel_rfl) (fun x => by kernel_rfl) ok_hauberkref02_Encode
noncomputable def cLaw03b34 : Ctx := cLaw03b33.addPlain 70 (plainT A_decode_some G_decode_some S_decode_some V_decode_some)
theorem cLaw03b34_good : Av.Good cLaw03b34 := cLaw03b33_good.fnP S_decode_some T_decode_some G_decode_some V_decode_some 2 8 (by kernel_rfl) (fun x => by kernel_rfl) ok_decode_some
noncomputable def cLaw03b35 : Ctx := cLaw03b34.addPlain 49 (plainT A_decode_half G_decode_half S_decode_half V_decode_half)
theorem cLaw03b35_good : Av.Good cLaw03b35 := cLaw03b34_good.fnP S_decode_half T_decode_half G_decode_half V_decode_half 2 8 (by kernel_rfl) (fun x => by kernel_rfl) ok_decode_half
noncomputable def cLaw03b36 : Ctx := cLaw03b35.addPlain 71 (plainT A_decode_signed G_decode_signed S_decode_signed V_decode_signed)
theorem cLaw03b36_good : Av.Good cLaw03b36 := cLaw03b35_good.fnP S_decode_signed T_decode_signed G_decode_signed V_decode_signed 2 8 (by kernel_rfl) (fun x => by kernel_rfl) ok_decode_signed
noncomputable def cLaw03b37 : Ctx := cLaw03b36.addLoop 91 2 L_decode_regs_2.toT.toLoop
theorem cLaw03b37_good : Av.Good cLaw03b37 := cLaw03b36_good.loopN L_decode_regs_2 2 8 (by kernel_rfl) (fun _ _ => rfl) (fun x y s m K => by kernel_rfl) (fun x y s s' K e => by kernel_rfl)
noncomputable def cLaw03b38 : Ctx := cLaw03b37.addPlain 91 (plainT A_decode_regs G_decode_regs S_decode_regs V_decode_regs)
theorem cLaw03b38_good : Av.Good cLaw03b38 := cLaw03b37_good.fnP S_decode_regs T_decode_regs G_decode_regs V_decode_regs 2 8 (by kernel_rfl) (fun x => by kernel_rfl) ok_decode_regs
noncomputable def cLaw03b39 : Ctx := cLaw03b38.addPlain 26 (plainT A_decode_Size G_decode_Size S_decode_Size V_decode_Size)
theorem cLaw03b39_good : Av.Good cLaw03b39 := cLaw03b38_good.fnP S_decode_Size T_decode_Size G_decode_Size V_decode_Size 2 8 (by kernel_rfl) (fun x => by kernel_rfl) ok_decode_Size
noncomputable def cLaw03b40 : Ctx := cLaw03b39.addPlain 48 (plainT A_decode_narrow G_decode_narrow S_decode_narrow V_decode_narrow)
theorem cLaw03b40_good : Av.Good cLaw03b40 := cLaw03b39_good.fnP S_decode_narrow T_decode_narrow G_decode_narrow V_decode_narrow 2 12 (by kernel_rfl) (fun x => by kernel_rfl) ok_decode_narrow
noncomputable def cLaw03b41 : Ctx := cLaw03b40.addPlain 72 (plainT A_decode_three G_decode_three S_decode_three V_decode_three)
theorem cLaw03b41_good : Av.Good cLaw03b41 := cLaw03b40_good.fnP S_decode_three T_decode_three G_decode_three V_decode_three 3 12 (by kernel_rfl) (fun x => by kernel_rfl) ok_decode_three
noncomputable def cLaw03b42 : Ctx := cLaw03b41.addPlain 73 (plainT A_decode_product G_decode_product S_decode_product V_decode_product)
theorem cLaw03b42_good : Av.Good cLaw03b42 := cLaw03b41_good.fnP S_decode_product T_decode_product G_decode_product V_decode_product 2 12 (by kernel_rfl) (fun x => by kernel_rfl) ok_decode_product
noncomputable def cLaw03b43 : Ctx := cLaw03b42.addPlain 74 (plainT A_decode_plain G_decode_plain S_decode_plain V_decode_plain)
theorem cLaw03b43_good : Av.Good cLaw03b43 := cLaw03b42_good.fnP S_decode_plain T_decode_plain G_decode_plain V_decode_plain 2 12 (by kernel_rfl) (fun x => by kernel_rfl) ok_decode_plain
noncomputable def cLaw03b44 : Ctx := cLaw03b43.addPlain 75 (plainT A_decode_branch G_decode_branch S_decode_branch V_decode_branch)
theorem cLaw03b44_good : Av.Good cLaw03b44 := cLaw03b43_good.fnP S_decode_branch T_decode_branch G_decode_branch V_decode_branch 2 12 (by kernel_rfl) (fun x => by kernel_rfl) ok_decode_branch
noncomputable def cLaw03b45 : Ctx := cLaw03b44.addPlain 50 (plainT A_decode_long G_decode_long S_decode_long V_decode_long)
theorem cLaw03b45_good : Av.Good cLaw03b45 := cLaw03b44_good.fnP S_decode_long T_decode_long G_decode_long V_decode_long 2 12 (by kernel_rfl) (fun x => by kernel_rfl) ok_decode_long
noncomputable def cLaw03b46 : Ctx := cLaw03b45.addPlain 24 (plainT A_decode_Decode G_decode_Decode S_decode_Decode V_decode_Decode)
theorem cLaw03b46_good : Av.Good cLaw03b46 := cLaw03b45_good.fnP S_decode_Decode T_decode_Decode G_decode_Decode V_decode_Decode 2 12 (by kernel_rfl) (fun x => by kernel_rfl) ok_decode_Decode
noncomputable def cLaw03b47 : Ctx := cLaw03b46.addPlain 76 (plainT A_hauberkref03_text G_hauberkref03_text S_hauberkref03_text V_hauberkref03_text)
theorem cLaw03b47_good : Av.Good cLaw03b47 := cLaw03b46_good.fnP S_hauberkref03_text T_hauberkref03_text G_hauberkref03_text V_hauberkref03_text 2 20 (by kernel_rfl) (fun x => by kernel_rfl) ok_hauberkref03_text
noncomputable def cLaw03b48 : Ctx := cLaw03b47.addLoop 79 3 L_hauberkref03_power_3.toT.toLoop
theorem cLaw03b48_good : Av.Good cLaw03b48 := cLaw03b47_good.loopN L_hauberkref03_power_3 2 8 (by kernel_rfl) (fun _ _ => rfl) (fun x y s m K => by kernel_rfl) (fun x y s s' K e => by kernel_rfl)
noncomputable def cLaw03b49 : Ctx := cLaw03b48.addPlain 79 (plainT A_hauberkref03_power G_hauberkref03_power S_hauberkref03_power V_hauberkref03_power)
theorem cLaw03b49_good : Av.Good cLaw03b49 := cLaw03b48_good.fnP S_hauberkref03_power T_hauberkref03_power G_hauberkref03_power V_hauberkref03_power 2 8 (by kernel_rfl) (fun x => by kernel_rfl) ok_hauberkref03_power
noncomputable def cLaw03b50 : Ctx := cLaw03b49.addLoop 78 3 L_hauberkref03_sign_3.toT.toLoop
theorem cLaw03b50_good : Av.Good cLaw03b50 := cLaw03b49_good.loopN L_hauberkref03_sign_3 2 8 (by kernel_rfl) (fun _ _ => rfl) (fun x y s m K => by kernel_rfl) (fun x y s s' K e => by kernel_rfl)
noncomputable def cLaw03b51 : Ctx := cLaw03b50.addPlain 78 (plainT A_hauberkref03_sign G_hauberkref03_sign S_hauberkref03_sign V_hauberkref03_sign)
theorem cLaw03b51_good : Av.Good cLaw03b51 := cLaw03b50_good.fnP S_hauberkref03_sign T_hauberkref03_sign G_hauberkref03_sign V_hauberkref03_sign 2 8 (by kernel_rfl) (fun x => by kernel_rfl) ok_hauberkref03_sign
noncomputable def cLaw03b52 : Ctx := cLaw03b51.addPlain 51 (plainT A_hauberkref03_half G_hauberkref03_half S_hauberkref03_half V_hauberkref03_half)
theorem cLaw03b52_good : Av.Good cLaw03b52 := cLaw03b51_good.fnP S_hauberkref03_half T_hauberkref03_half G_hauberkref03_half V_hauberkref03_half 2 8 (by kernel_rfl) (fun x => by kernel_rfl) ok_hauberkref03_half
noncomputable def cLaw03b53 : Ctx := cLaw03b52.addPlain 27 (plainT A_hauberkref03_Size G_hauberkref03_Size S_hauberkref03_Size V_hauberkref03_Size)
theorem cLaw03b53_good : Av.Good cLaw03b53 := cLaw03b52_good.fnP S_hauberkref03_Size T_hauberkref03_Size G_hauberkref03_Size V_hauberkref03_Size 2 8 (by kernel_rfl) (fun x => by kernel_rfl) ok_hauberkref03_Size
noncomputable def cLaw03b54 : Ctx := cLaw03b53.addLoop 52 8 L_hauberkref03_read_8.toT.toLoop
theorem cLaw03b54_good : Av.Good cLaw03b54 := cLaw03b53_good.loopN L_hauberkref03_read_8 3 12 (by kernel_rfl) (fun _ _ => rfl) (fun x y s m K => by kernel_rfl) (fun x y s s' K e => by kernel_rfl)
noncomputable def cLaw03b55 : Ctx := cLaw03b54.addPlain 52 (plainT A_hauberkref03_read G_hauberkref03_read S_hauberkref03_read V_hauberkref03_read)
theorem cLaw03b55_good : Av.Good cLaw03b55 := cLaw03b54_good.fnP S_hauberkref03_read T_hauberkref03_read G_hauberkref03_read V_hauberkref03_read 3 12 (by kernel_rfl) (fun x => by kernel_rfl) ok_hauberkref03_read
noncomputable def cLaw03b56 : Ctx := cLaw03b55.addLoop 25 8 L_hauberkref03_Decode_8.toT.toLoop
theorem cLaw03b56_good : Av.Good cLaw03b56 := cLaw03b55_good.loopN L_hauberkref03_Decode_8 2 8 (by kernel_rfl) (fun _ _ => rfl) (fun x y s m K => by kernel_rfl) (fun x y s s' K e => by kernel_rfl)
noncomputable def cLaw03b57 : Ctx := cLaw03b56.addPlain 25 (plainT A_hauberkref03_Decode G_hauberkref03_Decode S_hauberkref03_Decode V_hauberkref03_Decode)
theorem cLaw03b57_good : Av.Good cLaw03b57 := cLaw03b56_good.fnP S_hauberkref03_Decode T_hauberkref03_Decode G_hauberkref03_Decode V_hauberkref03_Decode 2 8 (by kernel_rfl) (fun x => by kernel_rfl) ok_hauberkref03_Decode
noncomputable def cLaw03b58 : Ctx := cLaw03b57.addPlain 28 (plainT A_hauberklaw03_lives G_hauberklaw03_lives S_hauberklaw03_lives V_hauberklaw03_lives)
theorem cLaw03b58_good : Av.Good cLaw03b58 := cLaw03b57_good.fnP S_hauberklaw03_lives T_hauberklaw03_lives G_hauberklaw03_lives V_hauberklaw03_lives 2 8 (by kernel_rfl) (fun x => by kernel_rfl) ok_hauberklaw03_lives
noncomputable def cLaw03b : Ctx := cLaw03b58
theorem cLaw03b_good : Av.Good cLaw03b := cLaw03b58_good
end Go.Proofs.Ytbfhpnnnfjjjnaa
