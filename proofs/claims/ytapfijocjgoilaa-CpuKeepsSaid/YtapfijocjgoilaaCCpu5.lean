/- The functions that the statements reach, walked: chain Cpu5. Written by wip/tools/gen.py out of wip/conf/Cpu5.txt. -/
import Derived.Test.YtapfijocjgoilaaPThumb
import Derived.Test.YtapfijocjgoilaaPRef02
import Derived.Test.YtapfijocjgoilaaPRef02Law
import Derived.Test.YtapfijocjgoilaaPEnc
import Derived.Test.YtapfijocjgoilaaPEncLaw
import Derived.Test.YtapfijocjgoilaaPEncS
import Derived.Test.YtapfijocjgoilaaPWord
import Derived.Test.YtapfijocjgoilaaPRef01
import Derived.Test.YtapfijocjgoilaaPRef01b
import Derived.Test.YtapfijocjgoilaaPCpu
import Derived.Test.YtapfijocjgoilaaPCpu2
import Derived.Test.YtapfijocjgoilaaPCpu3
import Derived.Test.YtapfijocjgoilaaPCpu4
import Derived.Test.YtapfijocjgoilaaPCpu5
import Derived.Test.YtapfijocjgoilaaPCpu5Law
import Derived.Test.YtapfijocjgoilaaProg
namespace Go.Proofs.Ytapfijocjgoilaa
open Go Go.Av Go.Proofs
noncomputable def cCpu50 : Ctx := baseC Try.prog [26, 48, 60, 54, 24, 32, 92, 58, 126]
theorem cCpu50_good : Av.Good cCpu50 := good_base (by kernel_rfl) (by kernel_rfl) (by kernel_rfl)
noncomputable def cCpu51 : Ctx := cCpu50.addPlain 58 (plainT A_thumb_within G_thumb_within S_thumb_within V_thumb_within)
theorem cCpu51_good : Av.Good cCpu51 := cCpu50_good.fnP S_thumb_within T_thumb_within G_thumb_within V_thumb_within 2 8 (by kernel_rfl) (fun x => by kernel_rfl) ok_thumb_within
noncomputable def cCpu52 : Ctx := cCpu51.addPlain 59 (plainT A_thumb_field G_thumb_field S_thumb_field V_thumb_field)
theorem cCpu52_good : Av.Good cCpu52 := cCpu51_good.fnP S_thumb_field T_thumb_field G_thumb_field V_thumb_field 2 8 (by kernel_rfl) (fun x => by kernel_rfl) ok_thumb_field
noncomputable def cCpu53 : Ctx := cCpu52.addPlain 57 (plainT A_thumb_formOf G_thumb_formOf S_thumb_formOf V_thumb_formOf)
theorem cCpu53_good : Av.Good cCpu53 := cCpu52_good.fnP S_thumb_formOf T_thumb_formOf G_thumb_formOf V_thumb_formOf 2 8 (by kernel_rfl) (fun x => by kernel_rfl) ok_thumb_formOf
noncomputable def cCpu54 : Ctx := cCpu53.addPlain 113 (plainT A_thumb_Reach G_thumb_Reach S_thumb_Reach V_thumb_Reach)
theorem cCpu54_good : Av.Good cCpu54 := cCpu53_good.fnP S_thumb_Reach T_thumb_Reach G_thumb_Reach V_thumb_Reach 3 8 (by kernel_rfl) (fun x => by kernel_rfl) ok_thumb_Reach
noncomputable def cCpu55 : Ctx := cCpu54.addPlain 56 (plainT A_thumb_branch G_thumb_branch S_thumb_branch V_thumb_branch)
theorem cCpu55_good : Av.Good cCpu55 := cCpu54_good.fnP S_thumb_branch T_thumb_branch G_thumb_branch V_thumb_branch 3 8 (by kernel_rfl) (fun x => by kernel_rfl) ok_thumb_branch
noncomputable def cCpu56 : Ctx := cCpu55.addPlain 23 (plainT A_thumb_Check G_thumb_Check S_thumb_Check V_thumb_Check)
theorem cCpu56_good : Av.Good cCpu56 := cCpu55_good.fnP S_thumb_Check T_thumb_Check G_thumb_Check V_thumb_Check 3 8 (by kernel_rfl) (fun x => by kernel_rfl) ok_thumb_Check
noncomputable def cCpu57 : Ctx := cCpu56.addPlain 27 (plainT A_dup_Safe G_dup_Safe S_dup_Safe V_dup_Safe)
theorem cCpu57_good : Av.Good cCpu57 := cCpu56_good.fnP S_dup_Safe T_dup_Safe G_dup_Safe V_dup_Safe 3 8 (by kernel_rfl) (fun x => by kernel_rfl) ok_dup_Safe
noncomputable def cCpu58 : Ctx := cCpu57.addPlain 117 (plainT A_hauberkref02_more G_hauberkref02_more S_hauberkref02_more V_hauberkref02_more)
theorem cCpu58_good : Av.Good cCpu58 := cCpu57_good.fnP S_hauberkref02_more T_hauberkref02_more G_hauberkref02_more V_hauberkref02_more 2 8 (by kernel_rfl) (fun x => by kernel_rfl) ok_hauberkref02_more
noncomputable def cCpu59 : Ctx := cCpu58.addPlain 61 (plainT A_hauberkref02_Bits G_hauberkref02_Bits S_hauberkref02_Bits V_hauberkref02_Bits)
theorem cCpu59_good : Av.Good cCpu59 := cCpu58_good.fnP S_hauberkref02_Bits T_hauberkref02_Bits G_hauberkref02_Bits V_hauberkref02_Bits 2 8 (by kernel_rfl) (fun x => by kernel_rfl) ok_hauberkref02_Bits
noncomputable def cCpu510 : Ctx := cCpu59.addLoop 153 2 L_hauberkref02_has_2.toT.toLoop
theorem cCpu510_good : Av.Good cCpu510 := cCpu59_good.loopN L_hauberkref02_has_2 2 8 (by kernel_rfl) (fun _ _ => rfl) (fun x y s m K => by kernel_rfl) (fun x y s s' K e => by kernel_rfl)
noncomputable def cCpu511 : Ctx := cCpu510.addPlain 153 (plainT A_hauberkref02_has G_hauberkref02_has S_hauberkref02_has V_hauberkref02_has)
theorem cCpu511_good : Av.Good cCpu511 := cCpu510_good.fnP S_hauberkref02_has T_hauberkref02_has G_hauberkref02_has V_hauberkref02_has 2 8 (by kernel_rfl) (fun x => by kernel_rfl) ok_hauberkref02_has
noncomputable def cCpu512 : Ctx := cCpu511.addPlain 98 (plainT A_hauberkref02_reg G_hauberkref02_reg S_hauberkref02_reg V_hauberkref02_reg)
theorem cCpu512_good : Av.Good cCpu512 := cCpu511_good.fnP S_hauberkref02_reg T_hauberkref02_reg G_hauberkref02_reg V_hauberkref02_reg 2 8 (by kernel_rfl) (fun x => by kernel_rfl) ok_hauberkref02_reg
noncomputable def cCpu513 : Ctx := cCpu512.addPlain 99 (plainT A_hauberkref02_Reach G_hauberkref02_Reach S_hauberkref02_Reach V_hauberkref02_Reach)
theorem cCpu513_good : Av.Good cCpu513 := cCpu512_good.fnP S_hauberkref02_Reach T_hauberkref02_Reach G_hauberkref02_Reach V_hauberkref02_Reach 2 8 (by kernel_rfl) (fun x => by kernel_rfl) ok_hauberkref02_Reach
noncomputable def cCpu514 : Ctx := cCpu513.addPlain 97 (plainT A_hauberkref02_number G_hauberkref02_number S_hauberkref02_number V_hauberkref02_number)
theorem cCpu514_good : Av.Good cCpu514 := cCpu513_good.fnP S_hauberkref02_number T_hauberkref02_number G_hauberkref02_number V_hauberkref02_number 2 8 (by kernel_rfl) (fun x => by kernel_rfl) ok_hauberkref02_number
noncomputable def cCpu515 : Ctx := cCpu514.addPlain 47 (plainT A_hauberkref02_Check G_hauberkref02_Check S_hauberkref02_Check V_hauberkref02_Check)
theorem cCpu515_good : Av.Good cCpu515 := cCpu514_good.fnP S_hauberkref02_Check T_hauberkref02_Check G_hauberkref02_Check V_hauberkref02_Check 3 8 (by kernel_rfl) (fun x => by kernel_rfl) ok_hauberkref02_Check
noncomputable def cCpu516 : Ctx := cCpu515.addPlain 156 (plainT A_thumb_put G_thumb_put S_thumb_put V_thumb_put)
theorem cCpu516_good : Av.Good cCpu516 := cCpu515_good.fnP S_thumb_put T_thumb_put G_thumb_put V_thumb_put 2 6 (by kernel_rfl) (fun x => by kernel_rfl) ok_thumb_put
noncomputable def cCpu517 : Ctx := cCpu516.addPlain 115 (plainT A_thumb_shifted G_thumb_shifted S_thumb_shifted V_thumb_shifted)
theorem cCpu517_good : Av.Good cCpu517 := cCpu516_good.fnP S_thumb_shifted T_thumb_shifted G_thumb_shifted V_thumb_shifted 4 8 (by kernel_rfl) (fun x => by kernel_rfl) ok_thumb_shifted
noncomputable def cCpu518 : Ctx := cCpu517.addPlain 114 (plainT A_thumb_move G_thumb_move S_thumb_move V_thumb_move)
theorem cCpu518_good : Av.Good cCpu518 := cCpu517_good.fnP S_thumb_move T_thumb_move G_thumb_move V_thumb_move 4 8 (by kernel_rfl) (fun x => by kernel_rfl) ok_thumb_move
noncomputable def cCpu519 : Ctx := cCpu518.addPlain 157 (plainT A_thumb_short G_thumb_short S_thumb_short V_thumb_short)
theorem cCpu519_good : Av.Good cCpu519 := cCpu518_good.fnP S_thumb_short T_thumb_short G_thumb_short V_thumb_short 4 8 (by kernel_rfl) (fun x => by kernel_rfl) ok_thumb_short
noncomputable def cCpu520 : Ctx := cCpu519.addPlain 158 (plainT A_thumb_wide G_thumb_wide S_thumb_wide V_thumb_wide)
theorem cCpu520_good : Av.Good cCpu520 := cCpu519_good.fnP S_thumb_wide T_thumb_wide G_thumb_wide V_thumb_wide 4 8 (by kernel_rfl) (fun x => by kernel_rfl) ok_thumb_wide
noncomputable def cCpu521 : Ctx := cCpu520.addPlain 116 (plainT A_thumb_others G_thumb_others S_thumb_others V_thumb_others)
theorem cCpu521_good : Av.Good cCpu521 := cCpu520_good.fnP S_thumb_others T_thumb_others G_thumb_others V_thumb_others 4 8 (by kernel_rfl) (fun x => by kernel_rfl) ok_thumb_others
noncomputable def cCpu522 : Ctx := cCpu521.addPlain 60 (plainT A_thumb_bits G_thumb_bits S_thumb_bits V_thumb_bits)
theorem cCpu522_good : Av.Good cCpu522 := cCpu521_good.fnP S_thumb_bits T_thumb_bits G_thumb_bits V_thumb_bits 4 8 (by kernel_rfl) (fun x => by kernel_rfl) ok_thumb_bits
noncomputable def cCpu523 : Ctx := cCpu522.addPlain 25 (plainT A_thumb_Size G_thumb_Size S_thumb_Size V_thumb_Size)
theorem cCpu523_good : Av.Good cCpu523 := cCpu522_good.fnP S_thumb_Size T_thumb_Size G_thumb_Size V_thumb_Size 4 8 (by kernel_rfl) (fun x => by kernel_rfl) ok_thumb_Size
noncomputable def cCpu524 : Ctx := cCpu523.addPlain 45 (plainT A_word_Wrap G_word_Wrap S_word_Wrap V_word_Wrap)
theorem cCpu524_good : Av.Good cCpu524 := cCpu523_good.fnP S_word_Wrap T_word_Wrap G_word_Wrap V_word_Wrap 2 8 (by kernel_rfl) (fun x => by kernel_rfl) ok_word_Wrap
noncomputable def cCpu525 : Ctx := cCpu524.addPlain 162 (plainT A_word_many G_word_many S_word_many V_word_many)
theorem cCpu525_good : Av.Good cCpu525 := cCpu524_good.fnP S_word_many T_word_many G_word_many V_word_many 2 8 (by kernel_rfl) (fun x => by kernel_rfl) ok_word_many
noncomputable def cCpu526 : Ctx := cCpu525.addPlain 149 (plainT A_word_Add G_word_Add S_word_Add V_word_Add)
theorem cCpu526_good : Av.Good cCpu526 := cCpu525_good.fnP S_word_Add T_word_Add G_word_Add V_word_Add 2 8 (by kernel_rfl) (fun x => by kernel_rfl) ok_word_Add
noncomputable def cCpu527 : Ctx := cCpu526.addPlain 150 (plainT A_word_Sub G_word_Sub S_word_Sub V_word_Sub)
theorem cCpu527_good : Av.Good cCpu527 := cCpu526_good.fnP S_word_Sub T_word_Sub G_word_Sub V_word_Sub 2 8 (by kernel_rfl) (fun x => by kernel_rfl) ok_word_Sub
noncomputable def cCpu528 : Ctx := cCpu527.addPlain 151 (plainT A_word_product G_word_product S_word_product V_word_product)
theorem cCpu528_good : Av.Good cCpu528 := cCpu527_good.fnP S_word_product T_word_product G_word_product V_word_product 2 8 (by kernel_rfl) (fun x => by kernel_rfl) ok_word_product
noncomputable def cCpu529 : Ctx := cCpu528.addPlain 94 (plainT A_word_Mul G_word_Mul S_word_Mul V_word_Mul)
theorem cCpu529_good : Av.Good cCpu529 := cCpu528_good.fnP S_word_Mul T_word_Mul G_word_Mul V_word_Mul 2 8 (by kernel_rfl) (fun x => by kernel_rfl) ok_word_Mul
noncomputable def cCpu530 : Ctx := cCpu529.addPlain 95 (plainT A_word_High G_word_High S_word_High V_word_High)
theorem cCpu530_good : Av.Good cCpu530 := cCpu529_good.fnP S_word_High T_word_High G_word_High V_word_High 2 8 (by kernel_rfl) (fun x => by kernel_rfl) ok_word_High
noncomputable def cCpu531 : Ctx := cCpu530.addPlain 92 (plainT A_word_Not G_word_Not S_word_Not V_word_Not)
theorem cCpu531_good : Av.Good cCpu531 := cCpu530_good.fnP S_word_Not T_word_Not G_word_Not V_word_Not 2 8 (by kernel_rfl) (fun x => by kernel_rfl) ok_word_Not
noncomputable def cCpu532 : Ctx := cCpu531.addPlain 146 (plainT A_word_And G_word_And S_word_And V_word_And)
theorem cCpu532_good : Av.Good cCpu532 := cCpu531_good.fnP S_word_And T_word_And G_word_And V_word_And 2 8 (by kernel_rfl) (fun x => by kernel_rfl) ok_word_And
noncomputable def cCpu533 : Ctx := cCpu532.addPlain 147 (plainT A_word_Or G_word_Or S_word_Or V_word_Or)
theorem cCpu533_good : Av.Good cCpu533 := cCpu532_good.fnP S_word_Or T_word_Or G_word_Or V_word_Or 2 8 (by kernel_rfl) (fun x => by kernel_rfl) ok_word_Or
noncomputable def cCpu534 : Ctx := cCpu533.addPlain 148 (plainT A_word_Xor G_word_Xor S_word_Xor V_word_Xor)
theorem cCpu534_good : Av.Good cCpu534 := cCpu533_good.fnP S_word_Xor T_word_Xor G_word_Xor V_word_Xor 2 8 (by kernel_rfl) (fun x => by kernel_rfl) ok_word_Xor
noncomputable def cCpu535 : Ctx := cCpu534.addPlain 142 (plainT A_word_Shl G_word_Shl S_word_Shl V_word_Shl)
theorem cCpu535_good : Av.Good cCpu535 := cCpu534_good.fnP S_word_Shl T_word_Shl G_word_Shl V_word_Shl 2 8 (by kernel_rfl) (fun x => by kernel_rfl) ok_word_Shl
noncomputable def cCpu536 : Ctx := cCpu535.addPlain 143 (plainT A_word_Shr G_word_Shr S_word_Shr V_word_Shr)
theorem cCpu536_good : Av.Good cCpu536 := cCpu535_good.fnP S_word_Shr T_word_Shr G_word_Shr V_word_Shr 2 8 (by kernel_rfl) (fun x => by kernel_rfl) ok_word_Shr
noncomputable def cCpu537 : Ctx := cCpu536.addPlain 144 (plainT A_word_Sar G_word_Sar S_word_Sar V_word_Sar)
theorem cCpu537_good : Av.Good cCpu537 := cCpu536_good.fnP S_word_Sar T_word_Sar G_word_Sar V_word_Sar 2 8 (by kernel_rfl) (fun x => by kernel_rfl) ok_word_Sar
noncomputable def cCpu538 : Ctx := cCpu537.addPlain 145 (plainT A_word_Ror G_word_Ror S_word_Ror V_word_Ror)
theorem cCpu538_good : Av.Good cCpu538 := cCpu537_good.fnP S_word_Ror T_word_Ror G_word_Ror V_word_Ror 2 8 (by kernel_rfl) (fun x => by kernel_rfl) ok_word_Ror
noncomputable def cCpu539 : Ctx := cCpu538.addPlain 141 (plainT A_word_Select G_word_Select S_word_Select V_word_Select)
theorem cCpu539_good : Av.Good cCpu539 := cCpu538_good.fnP S_word_Select T_word_Select G_word_Select V_word_Select 2 8 (by kernel_rfl) (fun x => by kernel_rfl) ok_word_Select
noncomputable def cCpu540 : Ctx := cCpu539.addPlain 152 (plainT A_word_Bit G_word_Bit S_word_Bit V_word_Bit)
theorem cCpu540_good : Av.Good cCpu540 := cCpu539_good.fnP S_word_Bit T_word_Bit G_word_Bit V_word_Bit 2 8 (by kernel_rfl) (fun x => by kernel_rfl) ok_word_Bit
noncomputable def cCpu541 : Ctx := cCpu540.addPlain 48 (plainT A_hauberkref01_Wrap G_hauberkref01_Wrap S_hauberkref01_Wrap V_hauberkref01_Wrap)
theorem cCpu541_good : Av.Good cCpu541 := cCpu540_good.fnP S_hauberkref01_Wrap T_hauberkref01_Wrap G_hauberkref01_Wrap V_hauberkref01_Wrap 2 8 (by kernel_rfl) (fun x => by kernel_rfl) ok_hauberkref01_Wrap
noncomputable def cCpu542 : Ctx := cCpu541.addPlain 101 (plainT A_hauberkref01_many G_hauberkref01_many S_hauberkref01_many V_hauberkref01_many)
theorem cCpu542_good : Av.Good cCpu542 := cCpu541_good.fnP S_hauberkref01_many T_hauberkref01_many G_hauberkref01_many V_hauberkref01_many 2 8 (by kernel_rfl) (fun x => by kernel_rfl) ok_hauberkref01_many
noncomputable def cCpu543 : Ctx := cCpu542.addLoop 100 3 L_hauberkref01_power_3.toT.toLoop
theorem cCpu543_good : Av.Good cCpu543 := cCpu542_good.loopN L_hauberkref01_power_3 2 8 (by kernel_rfl) (fun _ _ => rfl) (fun x y s m K => by kernel_rfl) (fun x y s s' K e => by kernel_rfl)
noncomputable def cCpu544 : Ctx := cCpu543.addPlain 100 (plainT A_hauberkref01_power G_hauberkref01_power S_hauberkref01_power V_hauberkref01_power)
theorem cCpu544_good : Av.Good cCpu544 := cCpu543_good.fnP S_hauberkref01_power T_hauberkref01_power G_hauberkref01_power V_hauberkref01_power 2 8 (by kernel_rfl) (fun x => by kernel_rfl) ok_hauberkref01_power
noncomputable def cCpu545 : Ctx := cCpu544.addPlain 110 (plainT A_hauberkref01_Add G_hauberkref01_Add S_hauberkref01_Add V_hauberkref01_Add)
theorem cCpu545_good : Av.Good cCpu545 := cCpu544_good.fnP S_hauberkref01_Add T_hauberkref01_Add G_hauberkref01_Add V_hauberkref01_Add 2 8 (by kernel_rfl) (fun x => by kernel_rfl) ok_hauberkref01_Add
noncomputable def cCpu546 : Ctx := cCpu545.addPlain 53 (plainT A_hauberkref01_Sub G_hauberkref01_Sub S_hauberkref01_Sub V_hauberkref01_Sub)
theorem cCpu546_good : Av.Good cCpu546 := cCpu545_good.fnP S_hauberkref01_Sub T_hauberkref01_Sub G_hauberkref01_Sub V_hauberkref01_Sub 2 8 (by kernel_rfl) (fun x => by kernel_rfl) ok_hauberkref01_Sub
noncomputable def cCpu547 : Ctx := cCpu546.addPlain 111 (plainT A_hauberkref01_Mul G_hauberkref01_Mul S_hauberkref01_Mul V_hauberkref01_Mul)
theorem cCpu547_good : Av.Good cCpu547 := cCpu546_good.fnP S_hauberkref01_Mul T_hauberkref01_Mul G_hauberkref01_Mul V_hauberkref01_Mul 2 8 (by kernel_rfl) (fun x => by kernel_rfl) ok_hauberkref01_Mul
noncomputable def cCpu548 : Ctx := cCpu547.addPlain 55 (plainT A_hauberkref01_High G_hauberkref01_High S_hauberkref01_High V_hauberkref01_High)
theorem cCpu548_good : Av.Good cCpu548 := cCpu547_good.fnP S_hauberkref01_High T_hauberkref01_High G_hauberkref01_High V_hauberkref01_High 2 8 (by kernel_rfl) (fun x => by kernel_rfl) ok_hauberkref01_High
noncomputable def cCpu549 : Ctx := cCpu548.addPlain 52 (plainT A_hauberkref01_Bit G_hauberkref01_Bit S_hauberkref01_Bit V_hauberkref01_Bit)
theorem cCpu549_good : Av.Good cCpu549 := cCpu548_good.fnP S_hauberkref01_Bit T_hauberkref01_Bit G_hauberkref01_Bit V_hauberkref01_Bit 2 8 (by kernel_rfl) (fun x => by kernel_rfl) ok_hauberkref01_Bit
noncomputable def cCpu550 : Ctx := cCpu549.addLoop 154 3 L_hauberkref01_three_3.toT.toLoop
theorem cCpu550_good : Av.Good cCpu550 := cCpu549_good.loopN L_hauberkref01_three_3 2 8 (by kernel_rfl) (fun _ _ => rfl) (fun x y s m K => by kernel_rfl) (fun x y s s' K e => by kernel_rfl)
noncomputable def cCpu551 : Ctx := cCpu550.addPlain 154 (plainT A_hauberkref01_three G_hauberkref01_three S_hauberkref01_three V_hauberkref01_three)
theorem cCpu551_good : Av.Good cCpu551 := cCpu550_good.fnP S_hauberkref01_three T_hauberkref01_three G_hauberkref01_three V_hauberkref01_three 2 8 (by kernel_rfl) (fun x => by kernel_rfl) ok_hauberkref01_three
noncomputable def cCpu552 : Ctx := cCpu551.addLoop 104 3 L_hauberkref01_Sar_3.toT.toLoop
theorem cCpu552_good : Av.Good cCpu552 := cCpu551_good.loopN L_hauberkref01_Sar_3 2 8 (by kernel_rfl) (fun _ _ => rfl) (fun x y s m K => by kernel_rfl) (fun x y s s' K e => by kernel_rfl)
noncomputable def cCpu553 : Ctx := cCpu552.addPlain 104 (plainT A_hauberkref01_Sar G_hauberkref01_Sar S_hauberkref01_Sar V_hauberkref01_Sar)
theorem cCpu553_good : Av.Good cCpu553 := cCpu552_good.fnP S_hauberkref01_Sar T_hauberkref01_Sar G_hauberkref01_Sar V_hauberkref01_Sar 2 8 (by kernel_rfl) (fun x => by kernel_rfl) ok_hauberkref01_Sar
noncomputable def cCpu554 : Ctx := cCpu553.addLoop 105 3 L_hauberkref01_Ror_3.toT.toLoop
theorem cCpu554_good : Av.Good cCpu554 := cCpu553_good.loopN L_hauberkref01_Ror_3 2 8 (by kernel_rfl) (fun _ _ => rfl) (fun x y s m K => by kernel_rfl) (fun x y s s' K e => by kernel_rfl)
noncomputable def cCpu555 : Ctx := cCpu554.addPlain 105 (plainT A_hauberkref01_Ror G_hauberkref01_Ror S_hauberkref01_Ror V_hauberkref01_Ror)
theorem cCpu555_good : Av.Good cCpu555 := cCpu554_good.fnP S_hauberkref01_Ror T_hauberkref01_Ror G_hauberkref01_Ror V_hauberkref01_Ror 2 8 (by kernel_rfl) (fun x => by kernel_rfl) ok_hauberkref01_Ror
noncomputable def cCpu556 : Ctx := cCpu555.addPlain 106 (plainT A_hauberkref01_Not G_hauberkref01_Not S_hauberkref01_Not V_hauberkref01_Not)
theorem cCpu556_good : Av.Good cCpu556 := cCpu555_good.fnP S_hauberkref01_Not T_hauberkref01_Not G_hauberkref01_Not V_hauberkref01_Not 2 8 (by kernel_rfl) (fun x => by kernel_rfl) ok_hauberkref01_Not
noncomputable def cCpu557 : Ctx := cCpu556.addPlain 107 (plainT A_hauberkref01_And G_hauberkref01_And S_hauberkref01_And V_hauberkref01_And)
theorem cCpu557_good : Av.Good cCpu557 := cCpu556_good.fnP S_hauberkref01_And T_hauberkref01_And G_hauberkref01_And V_hauberkref01_And 2 8 (by kernel_rfl) (fun x => by kernel_rfl) ok_hauberkref01_And
noncomputable def cCpu558 : Ctx := cCpu557.addPlain 108 (plainT A_hauberkref01_Or G_hauberkref01_Or S_hauberkref01_Or V_hauberkref01_Or)
theorem cCpu558_good : Av.Good cCpu558 := cCpu557_good.fnP S_hauberkref01_Or T_hauberkref01_Or G_hauberkref01_Or V_hauberkref01_Or 2 8 (by kernel_rfl) (fun x => by kernel_rfl) ok_hauberkref01_Or
noncomputable def cCpu559 : Ctx := cCpu558.addPlain 109 (plainT A_hauberkref01_Xor G_hauberkref01_Xor S_hauberkref01_Xor V_hauberkref01_Xor)
theorem cCpu559_good : Av.Good cCpu559 := cCpu558_good.fnP S_hauberkref01_Xor T_hauberkref01_Xor G_hauberkref01_Xor V_hauberkref01_Xor 2 8 (by kernel_rfl) (fun x => by kernel_rfl) ok_hauberkref01_Xor
noncomputable def cCpu560 : Ctx := cCpu559.addPlain 102 (plainT A_hauberkref01_Shl G_hauberkref01_Shl S_hauberkref01_Shl V_hauberkref01_Shl)
theorem cCpu560_good : Av.Good cCpu560 := cCpu559_good.fnP S_hauberkref01_Shl T_hauberkref01_Shl G_hauberkref01_Shl V_hauberkref01_Shl 2 8 (by kernel_rfl) (fun x => by kernel_rfl) ok_hauberkref01_Shl
noncomputable def cCpu561 : Ctx := cCpu560.addPlain 103 (plainT A_hauberkref01_Shr G_hauberkref01_Shr S_hauberkref01_Shr V_hauberkref01_Shr)
theorem cCpu561_good : Av.Good cCpu561 := cCpu560_good.fnP S_hauberkref01_Shr T_hauberkref01_Shr G_hauberkref01_Shr V_hauberkref01_Shr 2 8 (by kernel_rfl) (fun x => by kernel_rfl) ok_hauberkref01_Shr
noncomputable def cCpu562 : Ctx := cCpu561.addPlain 155 (plainT A_hauberkref01_Flip G_hauberkref01_Flip S_hauberkref01_Flip V_hauberkref01_Flip)
theorem cCpu562_good : Av.Good cCpu562 := cCpu561_good.fnP S_hauberkref01_Flip T_hauberkref01_Flip G_hauberkref01_Flip V_hauberkref01_Flip 2 8 (by kernel_rfl) (fun x => by kernel_rfl) ok_hauberkref01_Flip
noncomputable def cCpu563 : Ctx := cCpu562.addPlain 49 (plainT A_hauberkref02_Size G_hauberkref02_Size S_hauberkref02_Size V_hauberkref02_Size)
theorem cCpu563_good : Av.Good cCpu563 := cCpu562_good.fnP S_hauberkref02_Size T_hauberkref02_Size G_hauberkref02_Size V_hauberkref02_Size 2 8 (by kernel_rfl) (fun x => by kernel_rfl) ok_hauberkref02_Size
noncomputable def cCpu564 : Ctx := cCpu563.addPlain 21 (plainT A_cpu_Holds G_cpu_Holds S_cpu_Holds V_cpu_Holds)
theorem cCpu564_good : Av.Good cCpu564 := cCpu563_good.fnP S_cpu_Holds T_cpu_Holds G_cpu_Holds V_cpu_Holds 2 8 (by kernel_rfl) (fun x => by kernel_rfl) ok_cpu_Holds
noncomputable def cCpu565 : Ctx := cCpu564.addPlain 22 (plainT A_hauberkref08_Holds G_hauberkref08_Holds S_hauberkref08_Holds V_hauberkref08_Holds)
theorem cCpu565_good : Av.Good cCpu565 := cCpu564_good.fnP S_hauberkref08_Holds T_hauberkref08_Holds G_hauberkref08_Holds V_hauberkref08_Holds 2 8 (by kernel_rfl) (fun x => by kernel_rfl) ok_hauberkref08_Holds
noncomputable def cCpu566 : Ctx := cCpu565.addPlain 50 (plainT A_hauberkref08_Taken G_hauberkref08_Taken S_hauberkref08_Taken V_hauberkref08_Taken)
theorem cCpu566_good : Av.Good cCpu566 := cCpu565_good.fnP S_hauberkref08_Taken T_hauberkref08_Taken G_hauberkref08_Taken V_hauberkref08_Taken 2 8 (by kernel_rfl) (fun x => by kernel_rfl) ok_hauberkref08_Taken
noncomputable def cCpu567 : Ctx := cCpu566.addPlain 43 (plainT A_cpu_goes G_cpu_goes S_cpu_goes V_cpu_goes)
theorem cCpu567_good : Av.Good cCpu567 := cCpu566_good.fnP S_cpu_goes T_cpu_goes G_cpu_goes V_cpu_goes 2 8 (by kernel_rfl) (fun x => by kernel_rfl) ok_cpu_goes
noncomputable def cCpu568 : Ctx := cCpu567.addLoop 42 2 L_cpu_words_2.toT.toLoop
theorem cCpu568_good : Av.Good cCpu568 := cCpu567_good.loopN L_cpu_words_2 2 8 (by kernel_rfl) (fun _ _ => rfl) (fun x y s m K => by kernel_rfl) (fun x y s s' K e => by kernel_rfl)
noncomputable def cCpu569 : Ctx := cCpu568.addLoop 46 2 L_hauberkref08_Words_2.toT.toLoop
theorem cCpu569_good : Av.Good cCpu569 := cCpu568_good.loopN L_hauberkref08_Words_2 2 8 (by kernel_rfl) (fun _ _ => rfl) (fun x y s m K => by kernel_rfl) (fun x y s s' K e => by kernel_rfl)
noncomputable def cCpu570 : Ctx := cCpu569.addPlain 42 (plainT A_cpu_words G_cpu_words S_cpu_words V_cpu_words)
theorem cCpu570_good : Av.Good cCpu570 := cCpu569_good.fnP S_cpu_words T_cpu_words G_cpu_words V_cpu_words 2 8 (by kernel_rfl) (fun x => by kernel_rfl) ok_cpu_words
noncomputable def cCpu571 : Ctx := cCpu570.addPlain 46 (plainT A_hauberkref08_Words G_hauberkref08_Words S_hauberkref08_Words V_hauberkref08_Words)
theorem cCpu571_good : Av.Good cCpu571 := cCpu570_good.fnP S_hauberkref08_Words T_hauberkref08_Words G_hauberkref08_Words V_hauberkref08_Words 2 8 (by kernel_rfl) (fun x => by kernel_rfl) ok_hauberkref08_Words
noncomputable def cCpu572 : Ctx := cCpu571.addPlain 90 (plainT A_cpu_insert G_cpu_insert S_cpu_insert V_cpu_insert)
theorem cCpu572_good : Av.Good cCpu572 := cCpu571_good.fnP S_cpu_insert T_cpu_insert G_cpu_insert V_cpu_insert 2 8 (by kernel_rfl) (fun x => by kernel_rfl) ok_cpu_insert
noncomputable def cCpu573 : Ctx := cCpu572.addPlain 91 (plainT A_cpu_shifted G_cpu_shifted S_cpu_shifted V_cpu_shifted)
theorem cCpu573_good : Av.Good cCpu573 := cCpu572_good.fnP S_cpu_shifted T_cpu_shifted G_cpu_shifted V_cpu_shifted 2 8 (by kernel_rfl) (fun x => by kernel_rfl) ok_cpu_shifted
noncomputable def cCpu574 : Ctx := cCpu573.addPlain 93 (plainT A_cpu_two G_cpu_two S_cpu_two V_cpu_two)
theorem cCpu574_good : Av.Good cCpu574 := cCpu573_good.fnP S_cpu_two T_cpu_two G_cpu_two V_cpu_two 2 8 (by kernel_rfl) (fun x => by kernel_rfl) ok_cpu_two
noncomputable def cCpu575 : Ctx := cCpu574.addPlain 96 (plainT A_cpu_compare G_cpu_compare S_cpu_compare V_cpu_compare)
theorem cCpu575_good : Av.Good cCpu575 := cCpu574_good.fnP S_cpu_compare T_cpu_compare G_cpu_compare V_cpu_compare 2 8 (by kernel_rfl) (fun x => by kernel_rfl) ok_cpu_compare
noncomputable def cCpu576 : Ctx := cCpu575.addPlain 51 (plainT A_hauberkref08_signed G_hauberkref08_signed S_hauberkref08_signed V_hauberkref08_signed)
theorem cCpu576_good : Av.Good cCpu576 := cCpu575_good.fnP S_hauberkref08_signed T_hauberkref08_signed G_hauberkref08_signed V_hauberkref08_signed 2 8 (by kernel_rfl) (fun x => by kernel_rfl) ok_hauberkref08_signed
noncomputable def cCpu577 : Ctx := cCpu576.addLoop 112 2 L_hauberkref08_put_2.toT.toLoop
theorem cCpu577_good : Av.Good cCpu577 := cCpu576_good.loopN L_hauberkref08_put_2 2 8 (by kernel_rfl) (fun _ _ => rfl) (fun x y s m K => by kernel_rfl) (fun x y s s' K e => by kernel_rfl)
noncomputable def cCpu578 : Ctx := cCpu577.addPlain 112 (plainT A_hauberkref08_put G_hauberkref08_put S_hauberkref08_put V_hauberkref08_put)
theorem cCpu578_good : Av.Good cCpu578 := cCpu577_good.fnP S_hauberkref08_put T_hauberkref08_put G_hauberkref08_put V_hauberkref08_put 2 8 (by kernel_rfl) (fun x => by kernel_rfl) ok_hauberkref08_put
noncomputable def cCpu579 : Ctx := cCpu578.addPlain 44 (plainT A_cpu_makes G_cpu_makes S_cpu_makes V_cpu_makes)
theorem cCpu579_good : Av.Good cCpu579 := cCpu578_good.fnP S_cpu_makes T_cpu_makes G_cpu_makes V_cpu_makes 2 8 (by kernel_rfl) (fun x => by kernel_rfl) ok_cpu_makes
noncomputable def cCpu580 : Ctx := cCpu579.addPlain 17 (plainT A_cpu_Access G_cpu_Access S_cpu_Access V_cpu_Access)
theorem cCpu580_good : Av.Good cCpu580 := cCpu579_good.fnP S_cpu_Access T_cpu_Access G_cpu_Access V_cpu_Access 2 8 (by kernel_rfl) (fun x => by kernel_rfl) ok_cpu_Access
noncomputable def cCpu581 : Ctx := cCpu580.addPlain 54 (plainT A_hauberkref08_value G_hauberkref08_value S_hauberkref08_value V_hauberkref08_value)
theorem cCpu581_good : Av.Good cCpu581 := cCpu580_good.fnP S_hauberkref08_value T_hauberkref08_value G_hauberkref08_value V_hauberkref08_value 2 8 (by kernel_rfl) (fun x => by kernel_rfl) ok_hauberkref08_value
noncomputable def cCpu582 : Ctx := cCpu581.addPlain 18 (plainT A_hauberkref08_Access G_hauberkref08_Access S_hauberkref08_Access V_hauberkref08_Access)
theorem cCpu582_good : Av.Good cCpu582 := cCpu581_good.fnP S_hauberkref08_Access T_hauberkref08_Access G_hauberkref08_Access V_hauberkref08_Access 2 8 (by kernel_rfl) (fun x => by kernel_rfl) ok_hauberkref08_Access
noncomputable def cCpu583 : Ctx := cCpu582.addPlain 14 (plainT A_cpu_Step G_cpu_Step S_cpu_Step V_cpu_Step)
theorem cCpu583_good : Av.Good cCpu583 := cCpu582_good.fnP S_cpu_Step T_cpu_Step G_cpu_Step V_cpu_Step 2 8 (by kernel_rfl) (fun x => by kernel_rfl) ok_cpu_Step
noncomputable def cCpu584 : Ctx := cCpu583.addPlain 19 (plainT A_cpu_Cycles G_cpu_Cycles S_cpu_Cycles V_cpu_Cycles)
theorem cCpu584_good : Av.Good cCpu584 := cCpu583_good.fnP S_cpu_Cycles T_cpu_Cycles G_cpu_Cycles V_cpu_Cycles 2 8 (by kernel_rfl) (fun x => by kernel_rfl) ok_cpu_Cycles
noncomputable def cCpu585 : Ctx := cCpu584.addPlain 15 (plainT A_hauberkref08_Step G_hauberkref08_Step S_hauberkref08_Step V_hauberkref08_Step)
theorem cCpu585_good : Av.Good cCpu585 := cCpu584_good.fnP S_hauberkref08_Step T_hauberkref08_Step G_hauberkref08_Step V_hauberkref08_Step 2 8 (by kernel_rfl) (fun x => by kernel_rfl) ok_hauberkref08_Step
noncomputable def cCpu586 : Ctx := cCpu585.addPlain 20 (plainT A_hauberkref08_Cycles G_hauberkref08_Cycles S_hauberkref08_Cycles V_hauberkref08_Cycles)
theorem cCpu586_good : Av.Good cCpu586 := cCpu585_good.fnP S_hauberkref08_Cycles T_hauberkref08_Cycles G_hauberkref08_Cycles V_hauberkref08_Cycles 2 8 (by kernel_rfl) (fun x => by kernel_rfl) ok_hauberkref08_Cycles
noncomputable def cCpu587 : Ctx := cCpu586.addPlain 16 (plainT A_hauberklaw08_lives G_hauberklaw08_lives S_hauberklaw08_lives V_hauberklaw08_lives)
theorem cCpu587_good : Av.Good cCpu587 := cCpu586_good.fnP S_hauberklaw08_lives T_hauberklaw08_lives G_hauberklaw08_lives V_hauberklaw08_lives 10 40 (by kernel_rfl) (fun x => by kernel_rfl) ok_hauberklaw08_lives
noncomputable def cCpu588 : Ctx := cCpu587.addPlain 24 (plainT A_hauberklaw08_other G_hauberklaw08_other S_hauberklaw08_other V_hauberklaw08_other)
theorem cCpu588_good : Av.Good cCpu588 := cCpu587_good.fnP S_hauberklaw08_other T_hauberklaw08_other G_hauberklaw08_other V_hauberklaw08_other 2 8 (by kernel_rfl) (fun x => by kernel_rfl) ok_hauberklaw08_other
noncomputable def cCpu589 : Ctx := cCpu588.addPlain 26 (plainT A_hauberklaw08_signed G_hauberklaw08_signed S_hauberklaw08_signed V_hauberklaw08_signed)
theorem cCpu589_good : Av.Good cCpu589 := cCpu588_good.fnP S_hauberklaw08_signed T_hauberklaw08_signed G_hauberklaw08_signed V_hauberklaw08_signed 2 8 (by kernel_rfl) (fun x => by kernel_rfl) ok_hauberklaw08_signed
noncomputable def cCpu590 : Ctx := cCpu589.addLoop 7 5 L_hauberklaw08_CpuKeeps_5.toT.toLoop
theorem cCpu590_good : Av.Good cCpu590 := cCpu589_good.loopN L_hauberklaw08_CpuKeeps_5 2 8 (by kernel_rfl) (fun _ _ => rfl) (fun x y s m K => by kernel_rfl) (fun x y s s' K e => by kernel_rfl)
noncomputable def cCpu5 : Ctx := cCpu590
theorem cCpu5_good : Av.Good cCpu5 := cCpu590_good
end Go.Proofs.Ytapfijocjgoilaa
