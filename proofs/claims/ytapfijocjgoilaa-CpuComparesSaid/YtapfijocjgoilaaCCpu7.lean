/- The functions that the statements reach, walked: chain Cpu7. Written by wip/tools/gen.py out of wip/conf/Cpu7.txt. -/
import Derived.Test.YtapfijocjgoilaaPThumb
import Derived.Test.YtapfijocjgoilaaPRef02
import Derived.Test.YtapfijocjgoilaaPRef02Law
import Derived.Test.YtapfijocjgoilaaPEnc
import Derived.Test.YtapfijocjgoilaaPEncLaw
import Derived.Test.YtapfijocjgoilaaPEncS
import Derived.Test.YtapfijocjgoilaaPRefSize
import Derived.Test.YtapfijocjgoilaaPWord
import Derived.Test.YtapfijocjgoilaaPRef01
import Derived.Test.YtapfijocjgoilaaPRef01b
import Derived.Test.YtapfijocjgoilaaPCpu
import Derived.Test.YtapfijocjgoilaaPCpu2
import Derived.Test.YtapfijocjgoilaaPCpu3
import Derived.Test.YtapfijocjgoilaaPCpu4
import Derived.Test.YtapfijocjgoilaaPCpu5
import Derived.Test.YtapfijocjgoilaaPCpu5Law
import Derived.Test.YtapfijocjgoilaaPCpu7
import Derived.Test.YtapfijocjgoilaaPCpu7Law
import Derived.Test.YtapfijocjgoilaaProg
namespace Go.Proofs.Ytapfijocjgoilaa
open Go Go.Av Go.Proofs
noncomputable def cCpu70 : Ctx := baseC Try.prog [26, 48, 60, 54, 24, 32, 92, 58, 126]
theorem cCpu70_good : Av.Good cCpu70 := good_base (by kernel_rfl) (by kernel_rfl) (by kernel_rfl)
noncomputable def cCpu71 : Ctx := cCpu70.addPlain 58 (plainT A_thumb_within G_thumb_within S_thumb_within V_thumb_within)
theorem cCpu71_good : Av.Good cCpu71 := cCpu70_good.fnP S_thumb_within T_thumb_within G_thumb_within V_thumb_within 2 8 (by kernel_rfl) (fun x => by kernel_rfl) ok_thumb_within
noncomputable def cCpu72 : Ctx := cCpu71.addPlain 59 (plainT A_thumb_field G_thumb_field S_thumb_field V_thumb_field)
theorem cCpu72_good : Av.Good cCpu72 := cCpu71_good.fnP S_thumb_field T_thumb_field G_thumb_field V_thumb_field 2 8 (by kernel_rfl) (fun x => by kernel_rfl) ok_thumb_field
noncomputable def cCpu73 : Ctx := cCpu72.addPlain 57 (plainT A_thumb_formOf G_thumb_formOf S_thumb_formOf V_thumb_formOf)
theorem cCpu73_good : Av.Good cCpu73 := cCpu72_good.fnP S_thumb_formOf T_thumb_formOf G_thumb_formOf V_thumb_formOf 2 8 (by kernel_rfl) (fun x => by kernel_rfl) ok_thumb_formOf
noncomputable def cCpu74 : Ctx := cCpu73.addPlain 113 (plainT A_thumb_Reach G_thumb_Reach S_thumb_Reach V_thumb_Reach)
theorem cCpu74_good : Av.Good cCpu74 := cCpu73_good.fnP S_thumb_Reach T_thumb_Reach G_thumb_Reach V_thumb_Reach 3 8 (by kernel_rfl) (fun x => by kernel_rfl) ok_thumb_Reach
noncomputable def cCpu75 : Ctx := cCpu74.addPlain 56 (plainT A_thumb_branch G_thumb_branch S_thumb_branch V_thumb_branch)
theorem cCpu75_good : Av.Good cCpu75 := cCpu74_good.fnP S_thumb_branch T_thumb_branch G_thumb_branch V_thumb_branch 3 8 (by kernel_rfl) (fun x => by kernel_rfl) ok_thumb_branch
noncomputable def cCpu76 : Ctx := cCpu75.addPlain 23 (plainT A_thumb_Check G_thumb_Check S_thumb_Check V_thumb_Check)
theorem cCpu76_good : Av.Good cCpu76 := cCpu75_good.fnP S_thumb_Check T_thumb_Check G_thumb_Check V_thumb_Check 3 8 (by kernel_rfl) (fun x => by kernel_rfl) ok_thumb_Check
noncomputable def cCpu77 : Ctx := cCpu76.addPlain 27 (plainT A_dup_Safe G_dup_Safe S_dup_Safe V_dup_Safe)
theorem cCpu77_good : Av.Good cCpu77 := cCpu76_good.fnP S_dup_Safe T_dup_Safe G_dup_Safe V_dup_Safe 3 8 (by kernel_rfl) (fun x => by kernel_rfl) ok_dup_Safe
noncomputable def cCpu78 : Ctx := cCpu77.addPlain 117 (plainT A_hauberkref02_more G_hauberkref02_more S_hauberkref02_more V_hauberkref02_more)
theorem cCpu78_good : Av.Good cCpu78 := cCpu77_good.fnP S_hauberkref02_more T_hauberkref02_more G_hauberkref02_more V_hauberkref02_more 2 8 (by kernel_rfl) (fun x => by kernel_rfl) ok_hauberkref02_more
noncomputable def cCpu79 : Ctx := cCpu78.addPlain 61 (plainT A_hauberkref02_Bits G_hauberkref02_Bits S_hauberkref02_Bits V_hauberkref02_Bits)
theorem cCpu79_good : Av.Good cCpu79 := cCpu78_good.fnP S_hauberkref02_Bits T_hauberkref02_Bits G_hauberkref02_Bits V_hauberkref02_Bits 2 8 (by kernel_rfl) (fun x => by kernel_rfl) ok_hauberkref02_Bits
noncomputable def cCpu710 : Ctx := cCpu79.addLoop 153 2 L_hauberkref02_has_2.toT.toLoop
theorem cCpu710_good : Av.Good cCpu710 := cCpu79_good.loopN L_hauberkref02_has_2 2 8 (by kernel_rfl) (fun _ _ => rfl) (fun x y s m K => by kernel_rfl) (fun x y s s' K e => by kernel_rfl)
noncomputable def cCpu711 : Ctx := cCpu710.addPlain 153 (plainT A_hauberkref02_has G_hauberkref02_has S_hauberkref02_has V_hauberkref02_has)
theorem cCpu711_good : Av.Good cCpu711 := cCpu710_good.fnP S_hauberkref02_has T_hauberkref02_has G_hauberkref02_has V_hauberkref02_has 2 8 (by kernel_rfl) (fun x => by kernel_rfl) ok_hauberkref02_has
noncomputable def cCpu712 : Ctx := cCpu711.addPlain 98 (plainT A_hauberkref02_reg G_hauberkref02_reg S_hauberkref02_reg V_hauberkref02_reg)
theorem cCpu712_good : Av.Good cCpu712 := cCpu711_good.fnP S_hauberkref02_reg T_hauberkref02_reg G_hauberkref02_reg V_hauberkref02_reg 2 8 (by kernel_rfl) (fun x => by kernel_rfl) ok_hauberkref02_reg
noncomputable def cCpu713 : Ctx := cCpu712.addPlain 99 (plainT A_hauberkref02_Reach G_hauberkref02_Reach S_hauberkref02_Reach V_hauberkref02_Reach)
theorem cCpu713_good : Av.Good cCpu713 := cCpu712_good.fnP S_hauberkref02_Reach T_hauberkref02_Reach G_hauberkref02_Reach V_hauberkref02_Reach 2 8 (by kernel_rfl) (fun x => by kernel_rfl) ok_hauberkref02_Reach
noncomputable def cCpu714 : Ctx := cCpu713.addPlain 97 (plainT A_hauberkref02_number G_hauberkref02_number S_hauberkref02_number V_hauberkref02_number)
theorem cCpu714_good : Av.Good cCpu714 := cCpu713_good.fnP S_hauberkref02_number T_hauberkref02_number G_hauberkref02_number V_hauberkref02_number 2 8 (by kernel_rfl) (fun x => by kernel_rfl) ok_hauberkref02_number
noncomputable def cCpu715 : Ctx := cCpu714.addPlain 47 (plainT A_hauberkref02_Check G_hauberkref02_Check S_hauberkref02_Check V_hauberkref02_Check)
theorem cCpu715_good : Av.Good cCpu715 := cCpu714_good.fnP S_hauberkref02_Check T_hauberkref02_Check G_hauberkref02_Check V_hauberkref02_Check 3 8 (by kernel_rfl) (fun x => by kernel_rfl) ok_hauberkref02_Check
noncomputable def cCpu716 : Ctx := cCpu715.addPlain 156 (plainT A_thumb_put G_thumb_put S_thumb_put V_thumb_put)
theorem cCpu716_good : Av.Good cCpu716 := cCpu715_good.fnP S_thumb_put T_thumb_put G_thumb_put V_thumb_put 2 6 (by kernel_rfl) (fun x => by kernel_rfl) ok_thumb_put
noncomputable def cCpu717 : Ctx := cCpu716.addPlain 115 (plainT A_thumb_shifted G_thumb_shifted S_thumb_shifted V_thumb_shifted)
theorem cCpu717_good : Av.Good cCpu717 := cCpu716_good.fnP S_thumb_shifted T_thumb_shifted G_thumb_shifted V_thumb_shifted 4 8 (by kernel_rfl) (fun x => by kernel_rfl) ok_thumb_shifted
noncomputable def cCpu718 : Ctx := cCpu717.addPlain 114 (plainT A_thumb_move G_thumb_move S_thumb_move V_thumb_move)
theorem cCpu718_good : Av.Good cCpu718 := cCpu717_good.fnP S_thumb_move T_thumb_move G_thumb_move V_thumb_move 4 8 (by kernel_rfl) (fun x => by kernel_rfl) ok_thumb_move
noncomputable def cCpu719 : Ctx := cCpu718.addPlain 157 (plainT A_thumb_short G_thumb_short S_thumb_short V_thumb_short)
theorem cCpu719_good : Av.Good cCpu719 := cCpu718_good.fnP S_thumb_short T_thumb_short G_thumb_short V_thumb_short 4 8 (by kernel_rfl) (fun x => by kernel_rfl) ok_thumb_short
noncomputable def cCpu720 : Ctx := cCpu719.addPlain 158 (plainT A_thumb_wide G_thumb_wide S_thumb_wide V_thumb_wide)
theorem cCpu720_good : Av.Good cCpu720 := cCpu719_good.fnP S_thumb_wide T_thumb_wide G_thumb_wide V_thumb_wide 4 8 (by kernel_rfl) (fun x => by kernel_rfl) ok_thumb_wide
noncomputable def cCpu721 : Ctx := cCpu720.addPlain 116 (plainT A_thumb_others G_thumb_others S_thumb_others V_thumb_others)
theorem cCpu721_good : Av.Good cCpu721 := cCpu720_good.fnP S_thumb_others T_thumb_others G_thumb_others V_thumb_others 4 8 (by kernel_rfl) (fun x => by kernel_rfl) ok_thumb_others
noncomputable def cCpu722 : Ctx := cCpu721.addPlain 60 (plainT A_thumb_bits G_thumb_bits S_thumb_bits V_thumb_bits)
theorem cCpu722_good : Av.Good cCpu722 := cCpu721_good.fnP S_thumb_bits T_thumb_bits G_thumb_bits V_thumb_bits 4 8 (by kernel_rfl) (fun x => by kernel_rfl) ok_thumb_bits
noncomputable def cCpu723 : Ctx := cCpu722.addPlain 25 (plainT A_thumb_Size G_thumb_Size S_thumb_Size V_thumb_Size)
theorem cCpu723_good : Av.Good cCpu723 := cCpu722_good.fnP S_thumb_Size T_thumb_Size G_thumb_Size V_thumb_Size 4 8 (by kernel_rfl) (fun x => by kernel_rfl) ok_thumb_Size
noncomputable def cCpu724 : Ctx := cCpu723.addPlain 49 (plainT A_hauberkref02_Size G_hauberkref02_Size S_hauberkref02_Size V_hauberkref02_Size)
theorem cCpu724_good : Av.Good cCpu724 := cCpu723_good.fnP S_hauberkref02_Size T_hauberkref02_Size G_hauberkref02_Size V_hauberkref02_Size 2 8 (by kernel_rfl) (fun x => by kernel_rfl) ok_hauberkref02_Size
noncomputable def cCpu725 : Ctx := cCpu724.addPlain 45 (plainT A_word_Wrap G_word_Wrap S_word_Wrap V_word_Wrap)
theorem cCpu725_good : Av.Good cCpu725 := cCpu724_good.fnP S_word_Wrap T_word_Wrap G_word_Wrap V_word_Wrap 2 8 (by kernel_rfl) (fun x => by kernel_rfl) ok_word_Wrap
noncomputable def cCpu726 : Ctx := cCpu725.addPlain 162 (plainT A_word_many G_word_many S_word_many V_word_many)
theorem cCpu726_good : Av.Good cCpu726 := cCpu725_good.fnP S_word_many T_word_many G_word_many V_word_many 2 8 (by kernel_rfl) (fun x => by kernel_rfl) ok_word_many
noncomputable def cCpu727 : Ctx := cCpu726.addPlain 149 (plainT A_word_Add G_word_Add S_word_Add V_word_Add)
theorem cCpu727_good : Av.Good cCpu727 := cCpu726_good.fnP S_word_Add T_word_Add G_word_Add V_word_Add 2 8 (by kernel_rfl) (fun x => by kernel_rfl) ok_word_Add
noncomputable def cCpu728 : Ctx := cCpu727.addPlain 150 (plainT A_word_Sub G_word_Sub S_word_Sub V_word_Sub)
theorem cCpu728_good : Av.Good cCpu728 := cCpu727_good.fnP S_word_Sub T_word_Sub G_word_Sub V_word_Sub 2 8 (by kernel_rfl) (fun x => by kernel_rfl) ok_word_Sub
noncomputable def cCpu729 : Ctx := cCpu728.addPlain 151 (plainT A_word_product G_word_product S_word_product V_word_product)
theorem cCpu729_good : Av.Good cCpu729 := cCpu728_good.fnP S_word_product T_word_product G_word_product V_word_product 2 8 (by kernel_rfl) (fun x => by kernel_rfl) ok_word_product
noncomputable def cCpu730 : Ctx := cCpu729.addPlain 94 (plainT A_word_Mul G_word_Mul S_word_Mul V_word_Mul)
theorem cCpu730_good : Av.Good cCpu730 := cCpu729_good.fnP S_word_Mul T_word_Mul G_word_Mul V_word_Mul 2 8 (by kernel_rfl) (fun x => by kernel_rfl) ok_word_Mul
noncomputable def cCpu731 : Ctx := cCpu730.addPlain 95 (plainT A_word_High G_word_High S_word_High V_word_High)
theorem cCpu731_good : Av.Good cCpu731 := cCpu730_good.fnP S_word_High T_word_High G_word_High V_word_High 2 8 (by kernel_rfl) (fun x => by kernel_rfl) ok_word_High
noncomputable def cCpu732 : Ctx := cCpu731.addPlain 92 (plainT A_word_Not G_word_Not S_word_Not V_word_Not)
theorem cCpu732_good : Av.Good cCpu732 := cCpu731_good.fnP S_word_Not T_word_Not G_word_Not V_word_Not 2 8 (by kernel_rfl) (fun x => by kernel_rfl) ok_word_Not
noncomputable def cCpu733 : Ctx := cCpu732.addPlain 146 (plainT A_word_And G_word_And S_word_And V_word_And)
theorem cCpu733_good : Av.Good cCpu733 := cCpu732_good.fnP S_word_And T_word_And G_word_And V_word_And 2 8 (by kernel_rfl) (fun x => by kernel_rfl) ok_word_And
noncomputable def cCpu734 : Ctx := cCpu733.addPlain 147 (plainT A_word_Or G_word_Or S_word_Or V_word_Or)
theorem cCpu734_good : Av.Good cCpu734 := cCpu733_good.fnP S_word_Or T_word_Or G_word_Or V_word_Or 2 8 (by kernel_rfl) (fun x => by kernel_rfl) ok_word_Or
noncomputable def cCpu735 : Ctx := cCpu734.addPlain 148 (plainT A_word_Xor G_word_Xor S_word_Xor V_word_Xor)
theorem cCpu735_good : Av.Good cCpu735 := cCpu734_good.fnP S_word_Xor T_word_Xor G_word_Xor V_word_Xor 2 8 (by kernel_rfl) (fun x => by kernel_rfl) ok_word_Xor
noncomputable def cCpu736 : Ctx := cCpu735.addPlain 142 (plainT A_word_Shl G_word_Shl S_word_Shl V_word_Shl)
theorem cCpu736_good : Av.Good cCpu736 := cCpu735_good.fnP S_word_Shl T_word_Shl G_word_Shl V_word_Shl 2 8 (by kernel_rfl) (fun x => by kernel_rfl) ok_word_Shl
noncomputable def cCpu737 : Ctx := cCpu736.addPlain 143 (plainT A_word_Shr G_word_Shr S_word_Shr V_word_Shr)
theorem cCpu737_good : Av.Good cCpu737 := cCpu736_good.fnP S_word_Shr T_word_Shr G_word_Shr V_word_Shr 2 8 (by kernel_rfl) (fun x => by kernel_rfl) ok_word_Shr
noncomputable def cCpu738 : Ctx := cCpu737.addPlain 144 (plainT A_word_Sar G_word_Sar S_word_Sar V_word_Sar)
theorem cCpu738_good : Av.Good cCpu738 := cCpu737_good.fnP S_word_Sar T_word_Sar G_word_Sar V_word_Sar 2 8 (by kernel_rfl) (fun x => by kernel_rfl) ok_word_Sar
noncomputable def cCpu739 : Ctx := cCpu738.addPlain 145 (plainT A_word_Ror G_word_Ror S_word_Ror V_word_Ror)
theorem cCpu739_good : Av.Good cCpu739 := cCpu738_good.fnP S_word_Ror T_word_Ror G_word_Ror V_word_Ror 2 8 (by kernel_rfl) (fun x => by kernel_rfl) ok_word_Ror
noncomputable def cCpu740 : Ctx := cCpu739.addPlain 141 (plainT A_word_Select G_word_Select S_word_Select V_word_Select)
theorem cCpu740_good : Av.Good cCpu740 := cCpu739_good.fnP S_word_Select T_word_Select G_word_Select V_word_Select 2 8 (by kernel_rfl) (fun x => by kernel_rfl) ok_word_Select
noncomputable def cCpu741 : Ctx := cCpu740.addPlain 152 (plainT A_word_Bit G_word_Bit S_word_Bit V_word_Bit)
theorem cCpu741_good : Av.Good cCpu741 := cCpu740_good.fnP S_word_Bit T_word_Bit G_word_Bit V_word_Bit 2 8 (by kernel_rfl) (fun x => by kernel_rfl) ok_word_Bit
noncomputable def cCpu742 : Ctx := cCpu741.addPlain 48 (plainT A_hauberkref01_Wrap G_hauberkref01_Wrap S_hauberkref01_Wrap V_hauberkref01_Wrap)
theorem cCpu742_good : Av.Good cCpu742 := cCpu741_good.fnP S_hauberkref01_Wrap T_hauberkref01_Wrap G_hauberkref01_Wrap V_hauberkref01_Wrap 2 8 (by kernel_rfl) (fun x => by kernel_rfl) ok_hauberkref01_Wrap
noncomputable def cCpu743 : Ctx := cCpu742.addPlain 101 (plainT A_hauberkref01_many G_hauberkref01_many S_hauberkref01_many V_hauberkref01_many)
theorem cCpu743_good : Av.Good cCpu743 := cCpu742_good.fnP S_hauberkref01_many T_hauberkref01_many G_hauberkref01_many V_hauberkref01_many 2 8 (by kernel_rfl) (fun x => by kernel_rfl) ok_hauberkref01_many
noncomputable def cCpu744 : Ctx := cCpu743.addLoop 100 3 L_hauberkref01_power_3.toT.toLoop
theorem cCpu744_good : Av.Good cCpu744 := cCpu743_good.loopN L_hauberkref01_power_3 2 8 (by kernel_rfl) (fun _ _ => rfl) (fun x y s m K => by kernel_rfl) (fun x y s s' K e => by kernel_rfl)
noncomputable def cCpu745 : Ctx := cCpu744.addPlain 100 (plainT A_hauberkref01_power G_hauberkref01_power S_hauberkref01_power V_hauberkref01_power)
theorem cCpu745_good : Av.Good cCpu745 := cCpu744_good.fnP S_hauberkref01_power T_hauberkref01_power G_hauberkref01_power V_hauberkref01_power 2 8 (by kernel_rfl) (fun x => by kernel_rfl) ok_hauberkref01_power
noncomputable def cCpu746 : Ctx := cCpu745.addPlain 110 (plainT A_hauberkref01_Add G_hauberkref01_Add S_hauberkref01_Add V_hauberkref01_Add)
theorem cCpu746_good : Av.Good cCpu746 := cCpu745_good.fnP S_hauberkref01_Add T_hauberkref01_Add G_hauberkref01_Add V_hauberkref01_Add 2 8 (by kernel_rfl) (fun x => by kernel_rfl) ok_hauberkref01_Add
noncomputable def cCpu747 : Ctx := cCpu746.addPlain 53 (plainT A_hauberkref01_Sub G_hauberkref01_Sub S_hauberkref01_Sub V_hauberkref01_Sub)
theorem cCpu747_good : Av.Good cCpu747 := cCpu746_good.fnP S_hauberkref01_Sub T_hauberkref01_Sub G_hauberkref01_Sub V_hauberkref01_Sub 2 8 (by kernel_rfl) (fun x => by kernel_rfl) ok_hauberkref01_Sub
noncomputable def cCpu748 : Ctx := cCpu747.addPlain 111 (plainT A_hauberkref01_Mul G_hauberkref01_Mul S_hauberkref01_Mul V_hauberkref01_Mul)
theorem cCpu748_good : Av.Good cCpu748 := cCpu747_good.fnP S_hauberkref01_Mul T_hauberkref01_Mul G_hauberkref01_Mul V_hauberkref01_Mul 2 8 (by kernel_rfl) (fun x => by kernel_rfl) ok_hauberkref01_Mul
noncomputable def cCpu749 : Ctx := cCpu748.addPlain 55 (plainT A_hauberkref01_High G_hauberkref01_High S_hauberkref01_High V_hauberkref01_High)
theorem cCpu749_good : Av.Good cCpu749 := cCpu748_good.fnP S_hauberkref01_High T_hauberkref01_High G_hauberkref01_High V_hauberkref01_High 2 8 (by kernel_rfl) (fun x => by kernel_rfl) ok_hauberkref01_High
noncomputable def cCpu750 : Ctx := cCpu749.addPlain 52 (plainT A_hauberkref01_Bit G_hauberkref01_Bit S_hauberkref01_Bit V_hauberkref01_Bit)
theorem cCpu750_good : Av.Good cCpu750 := cCpu749_good.fnP S_hauberkref01_Bit T_hauberkref01_Bit G_hauberkref01_Bit V_hauberkref01_Bit 2 8 (by kernel_rfl) (fun x => by kernel_rfl) ok_hauberkref01_Bit
noncomputable def cCpu751 : Ctx := cCpu750.addLoop 154 3 L_hauberkref01_three_3.toT.toLoop
theorem cCpu751_good : Av.Good cCpu751 := cCpu750_good.loopN L_hauberkref01_three_3 2 8 (by kernel_rfl) (fun _ _ => rfl) (fun x y s m K => by kernel_rfl) (fun x y s s' K e => by kernel_rfl)
noncomputable def cCpu752 : Ctx := cCpu751.addPlain 154 (plainT A_hauberkref01_three G_hauberkref01_three S_hauberkref01_three V_hauberkref01_three)
theorem cCpu752_good : Av.Good cCpu752 := cCpu751_good.fnP S_hauberkref01_three T_hauberkref01_three G_hauberkref01_three V_hauberkref01_three 2 8 (by kernel_rfl) (fun x => by kernel_rfl) ok_hauberkref01_three
noncomputable def cCpu753 : Ctx := cCpu752.addLoop 104 3 L_hauberkref01_Sar_3.toT.toLoop
theorem cCpu753_good : Av.Good cCpu753 := cCpu752_good.loopN L_hauberkref01_Sar_3 2 8 (by kernel_rfl) (fun _ _ => rfl) (fun x y s m K => by kernel_rfl) (fun x y s s' K e => by kernel_rfl)
noncomputable def cCpu754 : Ctx := cCpu753.addPlain 104 (plainT A_hauberkref01_Sar G_hauberkref01_Sar S_hauberkref01_Sar V_hauberkref01_Sar)
theorem cCpu754_good : Av.Good cCpu754 := cCpu753_good.fnP S_hauberkref01_Sar T_hauberkref01_Sar G_hauberkref01_Sar V_hauberkref01_Sar 2 8 (by kernel_rfl) (fun x => by kernel_rfl) ok_hauberkref01_Sar
noncomputable def cCpu755 : Ctx := cCpu754.addLoop 105 3 L_hauberkref01_Ror_3.toT.toLoop
theorem cCpu755_good : Av.Good cCpu755 := cCpu754_good.loopN L_hauberkref01_Ror_3 2 8 (by kernel_rfl) (fun _ _ => rfl) (fun x y s m K => by kernel_rfl) (fun x y s s' K e => by kernel_rfl)
noncomputable def cCpu756 : Ctx := cCpu755.addPlain 105 (plainT A_hauberkref01_Ror G_hauberkref01_Ror S_hauberkref01_Ror V_hauberkref01_Ror)
theorem cCpu756_good : Av.Good cCpu756 := cCpu755_good.fnP S_hauberkref01_Ror T_hauberkref01_Ror G_hauberkref01_Ror V_hauberkref01_Ror 2 8 (by kernel_rfl) (fun x => by kernel_rfl) ok_hauberkref01_Ror
noncomputable def cCpu757 : Ctx := cCpu756.addPlain 106 (plainT A_hauberkref01_Not G_hauberkref01_Not S_hauberkref01_Not V_hauberkref01_Not)
theorem cCpu757_good : Av.Good cCpu757 := cCpu756_good.fnP S_hauberkref01_Not T_hauberkref01_Not G_hauberkref01_Not V_hauberkref01_Not 2 8 (by kernel_rfl) (fun x => by kernel_rfl) ok_hauberkref01_Not
noncomputable def cCpu758 : Ctx := cCpu757.addPlain 107 (plainT A_hauberkref01_And G_hauberkref01_And S_hauberkref01_And V_hauberkref01_And)
theorem cCpu758_good : Av.Good cCpu758 := cCpu757_good.fnP S_hauberkref01_And T_hauberkref01_And G_hauberkref01_And V_hauberkref01_And 2 8 (by kernel_rfl) (fun x => by kernel_rfl) ok_hauberkref01_And
noncomputable def cCpu759 : Ctx := cCpu758.addPlain 108 (plainT A_hauberkref01_Or G_hauberkref01_Or S_hauberkref01_Or V_hauberkref01_Or)
theorem cCpu759_good : Av.Good cCpu759 := cCpu758_good.fnP S_hauberkref01_Or T_hauberkref01_Or G_hauberkref01_Or V_hauberkref01_Or 2 8 (by kernel_rfl) (fun x => by kernel_rfl) ok_hauberkref01_Or
noncomputable def cCpu760 : Ctx := cCpu759.addPlain 109 (plainT A_hauberkref01_Xor G_hauberkref01_Xor S_hauberkref01_Xor V_hauberkref01_Xor)
theorem cCpu760_good : Av.Good cCpu760 := cCpu759_good.fnP S_hauberkref01_Xor T_hauberkref01_Xor G_hauberkref01_Xor V_hauberkref01_Xor 2 8 (by kernel_rfl) (fun x => by kernel_rfl) ok_hauberkref01_Xor
noncomputable def cCpu761 : Ctx := cCpu760.addPlain 102 (plainT A_hauberkref01_Shl G_hauberkref01_Shl S_hauberkref01_Shl V_hauberkref01_Shl)
theorem cCpu761_good : Av.Good cCpu761 := cCpu760_good.fnP S_hauberkref01_Shl T_hauberkref01_Shl G_hauberkref01_Shl V_hauberkref01_Shl 2 8 (by kernel_rfl) (fun x => by kernel_rfl) ok_hauberkref01_Shl
noncomputable def cCpu762 : Ctx := cCpu761.addPlain 103 (plainT A_hauberkref01_Shr G_hauberkref01_Shr S_hauberkref01_Shr V_hauberkref01_Shr)
theorem cCpu762_good : Av.Good cCpu762 := cCpu761_good.fnP S_hauberkref01_Shr T_hauberkref01_Shr G_hauberkref01_Shr V_hauberkref01_Shr 2 8 (by kernel_rfl) (fun x => by kernel_rfl) ok_hauberkref01_Shr
noncomputable def cCpu763 : Ctx := cCpu762.addPlain 155 (plainT A_hauberkref01_Flip G_hauberkref01_Flip S_hauberkref01_Flip V_hauberkref01_Flip)
theorem cCpu763_good : Av.Good cCpu763 := cCpu762_good.fnP S_hauberkref01_Flip T_hauberkref01_Flip G_hauberkref01_Flip V_hauberkref01_Flip 2 8 (by kernel_rfl) (fun x => by kernel_rfl) ok_hauberkref01_Flip
noncomputable def cCpu764 : Ctx := cCpu763.addPlain 21 (plainT A_cpu_Holds G_cpu_Holds S_cpu_Holds V_cpu_Holds)
theorem cCpu764_good : Av.Good cCpu764 := cCpu763_good.fnP S_cpu_Holds T_cpu_Holds G_cpu_Holds V_cpu_Holds 2 8 (by kernel_rfl) (fun x => by kernel_rfl) ok_cpu_Holds
noncomputable def cCpu765 : Ctx := cCpu764.addPlain 22 (plainT A_hauberkref08_Holds G_hauberkref08_Holds S_hauberkref08_Holds V_hauberkref08_Holds)
theorem cCpu765_good : Av.Good cCpu765 := cCpu764_good.fnP S_hauberkref08_Holds T_hauberkref08_Holds G_hauberkref08_Holds V_hauberkref08_Holds 2 8 (by kernel_rfl) (fun x => by kernel_rfl) ok_hauberkref08_Holds
noncomputable def cCpu766 : Ctx := cCpu765.addPlain 50 (plainT A_hauberkref08_Taken G_hauberkref08_Taken S_hauberkref08_Taken V_hauberkref08_Taken)
theorem cCpu766_good : Av.Good cCpu766 := cCpu765_good.fnP S_hauberkref08_Taken T_hauberkref08_Taken G_hauberkref08_Taken V_hauberkref08_Taken 2 8 (by kernel_rfl) (fun x => by kernel_rfl) ok_hauberkref08_Taken
noncomputable def cCpu767 : Ctx := cCpu766.addPlain 43 (plainT A_cpu_goes G_cpu_goes S_cpu_goes V_cpu_goes)
theorem cCpu767_good : Av.Good cCpu767 := cCpu766_good.fnP S_cpu_goes T_cpu_goes G_cpu_goes V_cpu_goes 2 8 (by kernel_rfl) (fun x => by kernel_rfl) ok_cpu_goes
noncomputable def cCpu768 : Ctx := cCpu767.addLoop 42 2 L_cpu_words_2.toT.toLoop
theorem cCpu768_good : Av.Good cCpu768 := cCpu767_good.loopN L_cpu_words_2 2 8 (by kernel_rfl) (fun _ _ => rfl) (fun x y s m K => by kernel_rfl) (fun x y s s' K e => by kernel_rfl)
noncomputable def cCpu769 : Ctx := cCpu768.addLoop 46 2 L_hauberkref08_Words_2.toT.toLoop
theorem cCpu769_good : Av.Good cCpu769 := cCpu768_good.loopN L_hauberkref08_Words_2 2 8 (by kernel_rfl) (fun _ _ => rfl) (fun x y s m K => by kernel_rfl) (fun x y s s' K e => by kernel_rfl)
noncomputable def cCpu770 : Ctx := cCpu769.addPlain 42 (plainT A_cpu_words G_cpu_words S_cpu_words V_cpu_words)
theorem cCpu770_good : Av.Good cCpu770 := cCpu769_good.fnP S_cpu_words T_cpu_words G_cpu_words V_cpu_words 2 8 (by kernel_rfl) (fun x => by kernel_rfl) ok_cpu_words
noncomputable def cCpu771 : Ctx := cCpu770.addPlain 46 (plainT A_hauberkref08_Words G_hauberkref08_Words S_hauberkref08_Words V_hauberkref08_Words)
theorem cCpu771_good : Av.Good cCpu771 := cCpu770_good.fnP S_hauberkref08_Words T_hauberkref08_Words G_hauberkref08_Words V_hauberkref08_Words 2 8 (by kernel_rfl) (fun x => by kernel_rfl) ok_hauberkref08_Words
noncomputable def cCpu772 : Ctx := cCpu771.addPlain 90 (plainT A_cpu_insert G_cpu_insert S_cpu_insert V_cpu_insert)
theorem cCpu772_good : Av.Good cCpu772 := cCpu771_good.fnP S_cpu_insert T_cpu_insert G_cpu_insert V_cpu_insert 2 8 (by kernel_rfl) (fun x => by kernel_rfl) ok_cpu_insert
noncomputable def cCpu773 : Ctx := cCpu772.addPlain 91 (plainT A_cpu_shifted G_cpu_shifted S_cpu_shifted V_cpu_shifted)
theorem cCpu773_good : Av.Good cCpu773 := cCpu772_good.fnP S_cpu_shifted T_cpu_shifted G_cpu_shifted V_cpu_shifted 2 8 (by kernel_rfl) (fun x => by kernel_rfl) ok_cpu_shifted
noncomputable def cCpu774 : Ctx := cCpu773.addPlain 93 (plainT A_cpu_two G_cpu_two S_cpu_two V_cpu_two)
theorem cCpu774_good : Av.Good cCpu774 := cCpu773_good.fnP S_cpu_two T_cpu_two G_cpu_two V_cpu_two 2 8 (by kernel_rfl) (fun x => by kernel_rfl) ok_cpu_two
noncomputable def cCpu775 : Ctx := cCpu774.addPlain 96 (plainT A_cpu_compare G_cpu_compare S_cpu_compare V_cpu_compare)
theorem cCpu775_good : Av.Good cCpu775 := cCpu774_good.fnP S_cpu_compare T_cpu_compare G_cpu_compare V_cpu_compare 2 8 (by kernel_rfl) (fun x => by kernel_rfl) ok_cpu_compare
noncomputable def cCpu776 : Ctx := cCpu775.addPlain 51 (plainT A_hauberkref08_signed G_hauberkref08_signed S_hauberkref08_signed V_hauberkref08_signed)
theorem cCpu776_good : Av.Good cCpu776 := cCpu775_good.fnP S_hauberkref08_signed T_hauberkref08_signed G_hauberkref08_signed V_hauberkref08_signed 2 8 (by kernel_rfl) (fun x => by kernel_rfl) ok_hauberkref08_signed
noncomputable def cCpu777 : Ctx := cCpu776.addLoop 112 2 L_hauberkref08_put_2.toT.toLoop
theorem cCpu777_good : Av.Good cCpu777 := cCpu776_good.loopN L_hauberkref08_put_2 2 8 (by kernel_rfl) (fun _ _ => rfl) (fun x y s m K => by kernel_rfl) (fun x y s s' K e => by kernel_rfl)
noncomputable def cCpu778 : Ctx := cCpu777.addPlain 112 (plainT A_hauberkref08_put G_hauberkref08_put S_hauberkref08_put V_hauberkref08_put)
theorem cCpu778_good : Av.Good cCpu778 := cCpu777_good.fnP S_hauberkref08_put T_hauberkref08_put G_hauberkref08_put V_hauberkref08_put 2 8 (by kernel_rfl) (fun x => by kernel_rfl) ok_hauberkref08_put
noncomputable def cCpu779 : Ctx := cCpu778.addPlain 44 (plainT A_cpu_makes G_cpu_makes S_cpu_makes V_cpu_makes)
theorem cCpu779_good : Av.Good cCpu779 := cCpu778_good.fnP S_cpu_makes T_cpu_makes G_cpu_makes V_cpu_makes 2 8 (by kernel_rfl) (fun x => by kernel_rfl) ok_cpu_makes
noncomputable def cCpu780 : Ctx := cCpu779.addPlain 17 (plainT A_cpu_Access G_cpu_Access S_cpu_Access V_cpu_Access)
theorem cCpu780_good : Av.Good cCpu780 := cCpu779_good.fnP S_cpu_Access T_cpu_Access G_cpu_Access V_cpu_Access 2 8 (by kernel_rfl) (fun x => by kernel_rfl) ok_cpu_Access
noncomputable def cCpu781 : Ctx := cCpu780.addPlain 54 (plainT A_hauberkref08_value G_hauberkref08_value S_hauberkref08_value V_hauberkref08_value)
theorem cCpu781_good : Av.Good cCpu781 := cCpu780_good.fnP S_hauberkref08_value T_hauberkref08_value G_hauberkref08_value V_hauberkref08_value 2 8 (by kernel_rfl) (fun x => by kernel_rfl) ok_hauberkref08_value
noncomputable def cCpu782 : Ctx := cCpu781.addPlain 18 (plainT A_hauberkref08_Access G_hauberkref08_Access S_hauberkref08_Access V_hauberkref08_Access)
theorem cCpu782_good : Av.Good cCpu782 := cCpu781_good.fnP S_hauberkref08_Access T_hauberkref08_Access G_hauberkref08_Access V_hauberkref08_Access 2 8 (by kernel_rfl) (fun x => by kernel_rfl) ok_hauberkref08_Access
noncomputable def cCpu783 : Ctx := cCpu782.addPlain 14 (plainT A_cpu_Step G_cpu_Step S_cpu_Step V_cpu_Step)
theorem cCpu783_good : Av.Good cCpu783 := cCpu782_good.fnP S_cpu_Step T_cpu_Step G_cpu_Step V_cpu_Step 2 8 (by kernel_rfl) (fun x => by kernel_rfl) ok_cpu_Step
noncomputable def cCpu784 : Ctx := cCpu783.addPlain 19 (plainT A_cpu_Cycles G_cpu_Cycles S_cpu_Cycles V_cpu_Cycles)
theorem cCpu784_good : Av.Good cCpu784 := cCpu783_good.fnP S_cpu_Cycles T_cpu_Cycles G_cpu_Cycles V_cpu_Cycles 2 8 (by kernel_rfl) (fun x => by kernel_rfl) ok_cpu_Cycles
noncomputable def cCpu785 : Ctx := cCpu784.addPlain 15 (plainT A_hauberkref08_Step G_hauberkref08_Step S_hauberkref08_Step V_hauberkref08_Step)
theorem cCpu785_good : Av.Good cCpu785 := cCpu784_good.fnP S_hauberkref08_Step T_hauberkref08_Step G_hauberkref08_Step V_hauberkref08_Step 2 8 (by kernel_rfl) (fun x => by kernel_rfl) ok_hauberkref08_Step
noncomputable def cCpu786 : Ctx := cCpu785.addPlain 20 (plainT A_hauberkref08_Cycles G_hauberkref08_Cycles S_hauberkref08_Cycles V_hauberkref08_Cycles)
theorem cCpu786_good : Av.Good cCpu786 := cCpu785_good.fnP S_hauberkref08_Cycles T_hauberkref08_Cycles G_hauberkref08_Cycles V_hauberkref08_Cycles 2 8 (by kernel_rfl) (fun x => by kernel_rfl) ok_hauberkref08_Cycles
noncomputable def cCpu787 : Ctx := cCpu786.addPlain 16 (plainT A_hauberklaw08_lives G_hauberklaw08_lives S_hauberklaw08_lives V_hauberklaw08_lives)
theorem cCpu787_good : Av.Good cCpu787 := cCpu786_good.fnP S_hauberklaw08_lives T_hauberklaw08_lives G_hauberklaw08_lives V_hauberklaw08_lives 10 40 (by kernel_rfl) (fun x => by kernel_rfl) ok_hauberklaw08_lives
noncomputable def cCpu788 : Ctx := cCpu787.addPlain 24 (plainT A_hauberklaw08_other G_hauberklaw08_other S_hauberklaw08_other V_hauberklaw08_other)
theorem cCpu788_good : Av.Good cCpu788 := cCpu787_good.fnP S_hauberklaw08_other T_hauberklaw08_other G_hauberklaw08_other V_hauberklaw08_other 2 8 (by kernel_rfl) (fun x => by kernel_rfl) ok_hauberklaw08_other
noncomputable def cCpu789 : Ctx := cCpu788.addPlain 26 (plainT A_hauberklaw08_signed G_hauberklaw08_signed S_hauberklaw08_signed V_hauberklaw08_signed)
theorem cCpu789_good : Av.Good cCpu789 := cCpu788_good.fnP S_hauberklaw08_signed T_hauberklaw08_signed G_hauberklaw08_signed V_hauberklaw08_signed 2 8 (by kernel_rfl) (fun x => by kernel_rfl) ok_hauberklaw08_signed
noncomputable def cCpu790 : Ctx := cCpu789.addLoop 7 5 L_hauberklaw08_CpuKeeps_5.toT.toLoop
theorem cCpu790_good : Av.Good cCpu790 := cCpu789_good.loopN L_hauberklaw08_CpuKeeps_5 2 8 (by kernel_rfl) (fun _ _ => rfl) (fun x y s m K => by kernel_rfl) (fun x y s s' K e => by kernel_rfl)
noncomputable def cCpu791 : Ctx := cCpu790.addCut 8 16 L_hauberklaw08_CpuCompares_c16.toT.toLoop
theorem cCpu791_good : Av.Good cCpu791 := cCpu790_good.cutN L_hauberklaw08_CpuCompares_c16 2 8 (by kernel_rfl) (fun _ _ => rfl) (fun x y K => by kernel_rfl)
noncomputable def cCpu792 : Ctx := cCpu791.addCut 8 14 L_hauberklaw08_CpuCompares_c14.toT.toLoop
theorem cCpu792_good : Av.Good cCpu792 := cCpu791_good.cutN L_hauberklaw08_CpuCompares_c14 2 8 (by kernel_rfl) (fun _ _ => rfl) (fun x y K => by kernel_rfl)
noncomputable def cCpu793 : Ctx := cCpu792.addCut 8 12 L_hauberklaw08_CpuCompares_c12.toT.toLoop
theorem cCpu793_good : Av.Good cCpu793 := cCpu792_good.cutN L_hauberklaw08_CpuCompares_c12 2 8 (by kernel_rfl) (fun _ _ => rfl) (fun x y K => by kernel_rfl)
noncomputable def cCpu7 : Ctx := cCpu793
theorem cCpu7_good : Av.Good cCpu7 := cCpu793_good
end Go.Proofs.Ytapfijocjgoilaa
