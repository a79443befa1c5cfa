/- Texts of the proof, one behind the other. -/
import Derived.Test.YtealbjacocgjcaaGreatGateFaultK18
section
namespace Go.Av
open Go
theorem qC2 (n:Int):IntKind.u64.wrap n=n % 18446744073709551616:=by
 simp[IntKind.wrap,IntKind.bits,IntKind.signed]
theorem qML (n:Int):IntKind.u32.wrap n=n % 4294967296:=by
 simp[IntKind.wrap,IntKind.bits,IntKind.signed]
theorem qpO (w:Nat) (n:Int):((BitVec.ofInt w n).toNat:Int)=n % (2 ^ w:Nat):=by
 rw[BitVec.toNat_ofInt]
 have:(0:Int)≤n % (2 ^ w:Nat):=Int.emod_nonneg _ (by
  have:=Nat.two_pow_pos w
  omega)
 omega
theorem qiR (n:Int) (k:Nat) (hk:k<64):qR .i64 n ((2 ^ k:Nat)-1)=n % (2 ^ k:Nat):=by
 have hp:0<2 ^ k:=Nat.two_pow_pos k
 have hle:2 ^ k≤2 ^ 63:=Nat.pow_le_pow_right (by omega) (by omega)
 have e1:BitVec.ofInt 64 ((2 ^ k:Nat)-1)=BitVec.ofNat 64 (2 ^ k-1):=by
  apply BitVec.eq_of_toNat_eq
  have:=qpO 64 ((2 ^ k:Nat)-1)
  rw[Int.emod_eq_of_lt (by omega) (by omega)] at this
  rw[BitVec.toNat_ofNat,Nat.mod_eq_of_lt (by omega)]
  omega
 show IntKind.i64.wrap (BitVec.ofInt 64 n &&& BitVec.ofInt 64 ((2 ^ k:Nat)-1)).toNat=_
 rw[e1,BitVec.toNat_and,BitVec.toNat_ofNat,Nat.mod_eq_of_lt (by omega),Nat.and_two_pow_sub_one_eq_mod]
 have h1:=qpO 64 n
 have h2:(((BitVec.ofInt 64 n).toNat % 2 ^ k:Nat):Int)=n % (2 ^ k:Nat):=by
  rw[Int.natCast_emod,h1]
  exact Int.emod_emod_of_dvd n (by exact_mod_cast Nat.pow_dvd_pow 2 (show k≤64 by omega))
 rw[h2]
 have h3:(0:Int)≤n % (2 ^ k:Nat):=Int.emod_nonneg _ (by omega)
 have h4:n % (2 ^ k:Nat)<(2 ^ k:Nat):=Int.emod_lt_of_pos _ (by omega)
 exact wrap_i64 _ (by omega) (by omega)
theorem qvP (n:Int):qR .i64 n 65535=n % 65536:=qiR n 16 (by omega)
theorem qfL (n:Int) (k:Nat) (hk:k<64):qw .i64 n k=n / (2 ^ k:Nat):=by
 unfold qw
 have:min (k:Int).toNat IntKind.i64.bits=k:=by simp[IntKind.bits];omega
 rw[this,Int.fdiv_eq_ediv_of_nonneg _ (by exact_mod_cast Nat.zero_le _)]
 norm_cast
theorem qPx (n:Int):qw .i64 n 16=n / 65536:=qfL n 16 (by omega)
theorem qMO (a b:Int) (ha:0≤a):a.tmod b=a % b:=Int.tmod_eq_emod_of_nonneg ha
theorem qM5 (a b:Int) (ha:0≤a):a.tdiv b=a / b:=Int.tdiv_eq_ediv_of_nonneg ha
def Ty.cmp:Ty→Bool
 | .unit | .int _ | .bool | .str=>true
 | .func=>false
 | .pair a b=>a.cmp&&b.cmp
 | .arr _ e=>e.cmp
 | .sl _=>false
end Go.Av
end
