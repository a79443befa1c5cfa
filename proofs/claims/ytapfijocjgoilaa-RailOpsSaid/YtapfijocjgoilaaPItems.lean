/- Instructions and items, as the layers write them. -/
import Derived.Test.YtapfijocjgoilaaPSame
namespace Go.Av
open Go

def insI (op rd rn rm ra imm cond : Int) : tIns.den := (op, rd, rn, rm, ra, imm, cond, false, ())
def itI (i : tIns.den) : tItem.den := (0, 0, i, ())
def itL (n : Int) : tItem.den := (1, n, insI 0 0 0 0 0 0 0, ())
def itB (n : Int) : tItem.den := (2, n, insI 24 0 0 0 0 0 0, ())
def itC (c n : Int) : tItem.den := (2, n, insI 25 0 0 0 0 0 c, ())

/-- How the two write a number's lower and upper half: the program's way, and the document's. -/
def lo (ref : Bool) (n : Int) : Int := match ref with
  | false => band IntKind.i64 n 65535
  | true => w64 (Int.tmod (IntKind.wrap IntKind.u64 n) 65536)
def hi (ref : Bool) (n : Int) : Int := match ref with
  | false => band IntKind.i64 (ishr IntKind.i64 n 16) 65535
  | true => w64 (Int.tmod (IntKind.wrap IntKind.u64 (Int.tdiv (IntKind.wrap IntKind.u64 n) 65536)) 65536)

theorem lo_ref (n : Int) : lo true n = lo false n := by
  simp only [lo]
  rw [u64_wrap, tmod_pos _ _ (by omega), w64_id (by omega) (by omega), band_16]
  omega
theorem hi_ref (n : Int) : hi true n = hi false n := by
  simp only [hi]
  rw [u64_wrap, u64_wrap, tdiv_pos _ _ (by omega), tmod_pos _ _ (by omega), w64_id (by omega) (by omega), ishr_16, band_16]
  omega

def movw (rd imm : Int) : tIns.den := insI 3 rd 0 0 0 imm 0
def wordI (ref : Bool) (reg n : Int) : List tIns.den := [movw reg (lo ref n), insI 4 reg 0 0 0 (hi ref n) 0]
def addrI (ref : Bool) (reg base frm : Int) : List tIns.den := [movw reg 0, insI 4 reg 0 0 0 (hi ref base) 0, insI 18 reg frm 0 16 0 0]
def addI (d n m : Int) : tIns.den := insI 14 d n m 0 0 0
def cmpI (n m : Int) : tIns.den := insI 23 0 n m 0 0 0
def ldrI (d n : Int) : tIns.den := insI 19 d n 0 0 0 0
def strI (d n : Int) : tIns.den := insI 20 d n 0 0 0 0
def lslI (d m : Int) : tIns.den := insI 5 d 0 m 0 0 0
def bkptI : tIns.den := insI 2 0 0 0 0 0 0
def its (l : List tIns.den) : List tItem.den := l.map itI

theorem wordI_ref (reg n : Int) : wordI true reg n = wordI false reg n := by simp only [wordI, lo_ref, hi_ref]
theorem addrI_ref (reg base frm : Int) : addrI true reg base frm = addrI false reg base frm := by simp only [addrI, hi_ref]

abbrev A_tmpl_Word : List Ty := [tI, tI]
abbrev S_tmpl_Word : Sh := .osl 32 tIns
def T_tmpl_Word (x : dens A_tmpl_Word) : PO (List tIns.den) := .ite (decide (x.1 < 0) || decide (x.1 > 7)) (.ret []) (.ret (wordI false x.1 x.2))
def G_tmpl_Word (_ : dens A_tmpl_Word) : Bool := true
def V_tmpl_Word (x : dens A_tmpl_Word) : List tIns.den := bif decide (x.1 < 0) || decide (x.1 > 7) then [] else wordI false x.1 x.2
theorem ok_tmpl_Word (x : dens A_tmpl_Word) (_ : G_tmpl_Word x = true) : (T_tmpl_Word x).val = some (V_tmpl_Word x) := by
  unfold T_tmpl_Word V_tmpl_Word PO.val
  cases decide (x.1 < 0) || decide (x.1 > 7) <;> rfl
abbrev A_wipe_Address : List Ty := [tI, tI, tI]
abbrev S_wipe_Address : Sh := .osl 32 tIns
def T_wipe_Address (x : dens A_wipe_Address) : PO (List tIns.den) := .ite (decide (x.1 < 0) || (decide (x.1 > 7) || (decide (x.2.2 < 0) || (decide (x.2.2 > 12) || x.1 == x.2.2)))) (.ret []) (.ret (addrI false x.1 x.2.1 x.2.2))
def G_wipe_Address (_ : dens A_wipe_Address) : Bool := true
def V_wipe_Address (x : dens A_wipe_Address) : List tIns.den := bif decide (x.1 < 0) || (decide (x.1 > 7) || (decide (x.2.2 < 0) || (decide (x.2.2 > 12) || x.1 == x.2.2))) then [] else addrI false x.1 x.2.1 x.2.2
theorem ok_wipe_Address (x : dens A_wipe_Address) (_ : G_wipe_Address x = true) : (T_wipe_Address x).val = some (V_wipe_Address x) := by
  unfold T_wipe_Address V_wipe_Address PO.val
  cases decide (x.1 < 0) || (decide (x.1 > 7) || (decide (x.2.2 < 0) || (decide (x.2.2 > 12) || x.1 == x.2.2))) <;> rfl

abbrev A_hauberkref30_Address : List Ty := [tI, tI, tI]
abbrev S_hauberkref30_Address : Sh := .osl 32 tIns
def T_hauberkref30_Address (x : dens A_hauberkref30_Address) : PO (List tIns.den) := .ite (decide (x.1 < 0) || (decide (x.1 > 7) || (decide (x.2.2 < 0) || (decide (x.2.2 > 12) || x.1 == x.2.2)))) (.ret []) (.ret (addrI true x.1 x.2.1 x.2.2))
def G_hauberkref30_Address (_ : dens A_hauberkref30_Address) : Bool := true
def V_hauberkref30_Address (x : dens A_hauberkref30_Address) : List tIns.den := bif decide (x.1 < 0) || (decide (x.1 > 7) || (decide (x.2.2 < 0) || (decide (x.2.2 > 12) || x.1 == x.2.2))) then [] else addrI true x.1 x.2.1 x.2.2
theorem ok_hauberkref30_Address (x : dens A_hauberkref30_Address) (_ : G_hauberkref30_Address x = true) : (T_hauberkref30_Address x).val = some (V_hauberkref30_Address x) := by
  unfold T_hauberkref30_Address V_hauberkref30_Address PO.val
  cases decide (x.1 < 0) || (decide (x.1 > 7) || (decide (x.2.2 < 0) || (decide (x.2.2 > 12) || x.1 == x.2.2))) <;> rfl

/-- A test that comes up twice. -/
def two {α : Type} (b : Bool) (k : Bool → Bool → PO α) : PO α := .ite b (.ite b (k true true) (k true false)) (.ite b (k false true) (k false false))
theorem two_val {α : Type} (b : Bool) (k : Bool → Bool → PO α) : (two b k).val = (k b b).val := by cases b <;> rfl

/-- A loop's beginning and end. -/
def headL (ref : Bool) (n first : Int) : List tItem.den := its [movw 1 0] ++ [itL first] ++ its (wordI ref 2 n) ++ its [cmpI 1 2] ++ [itC 2 (w64 (first + 1))]
def tailL (first : Int) : List tItem.den := its [movw 3 4, addI 4 1 3, lslI 1 4] ++ [itB first, itL (w64 (first + 1))]
theorem headL_ref (n first : Int) : headL true n first = headL false n first := by simp only [headL, wordI_ref]
end Go.Av
