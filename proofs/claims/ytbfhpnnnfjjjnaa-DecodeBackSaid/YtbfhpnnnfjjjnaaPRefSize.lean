/- Layer 2: how many bytes an instruction has, by the document. -/
import Derived.Test.YtbfhpnnnfjjjnaaPEncS
import Derived.Test.YtbfhpnnnfjjjnaaPRef02Law
namespace Go.Av
open Go
/-- hauberkref02.Size -/
abbrev A_hauberkref02_Size : List Ty := [tIns]
abbrev S_hauberkref02_Size : Sh := Sh.ty (Ty.int IntKind.i64)
def T_hauberkref02_Size (x : dens A_hauberkref02_Size) : PO (Sh.den S_hauberkref02_Size) :=
  (.ite (G_hauberkref02_Check x)
   (.ite (V_hauberkref02_Check x != 0)
    (.ret (0))
    (.ret (w64 (Int.tdiv (lenI (V_hauberkref02_Bits (x.1, x.2.2.2.2.2.2.2.1))) 8))))
   .fail)
theorem ref_size_val (x : tIns.den) : (T_hauberkref02_Size x).val = some (bif V_thumb_Check x != 0 then 0 else bif isLong x.1 x.2.2.2.2.2.2.2.1 then 4 else 2) := by
  unfold T_hauberkref02_Size
  dsimp only [PO.val]
  rw [check_ok, ← check_same]
  cases hc : (V_thumb_Check x != (0 : Int))
  · obtain ⟨op, rd, rn, rm, ra, imm, cond, w, u⟩ := x
    have h : V_thumb_Check (op, rd, rn, rm, ra, imm, cond, w, ()) = 0 := by simpa using hc
    show some (w64 (Int.tdiv (lenI (V_hauberkref02_Bits (op, w))) 8)) = some (bif isLong op w then 4 else 2)
    rcases op_cases op with rfl | rfl | rfl | rfl | rfl | rfl | rfl | rfl | rfl | rfl | rfl | rfl | rfl | rfl | rfl | rfl | rfl | rfl | rfl | rfl | rfl | rfl | rfl | rfl | rfl | hop
    case inr.inr.inr.inr.inr.inr.inr.inr.inr.inr.inr.inr.inr.inr.inr.inr.inr.inr.inr.inr.inr.inr.inr.inr.inr =>
      exfalso
      have e := fun k hk => op_none (n := op) (k := k) hop hk
      simp [V_thumb_Check, T_thumb_Check, V_thumb_formOf, T_thumb_formOf, PO.getO, PO.val, e] at h
    all_goals
      have hw : w = false ∨ w = true := by cases w <;> simp
      rcases hw with rfl | rfl
      · rfl
      · first
        | (exfalso; simp [V_thumb_Check, T_thumb_Check, PO.getO, PO.val] at h; done)
        | rfl
  · rfl
def G_hauberkref02_Size (_ : dens A_hauberkref02_Size) : Bool := true
def V_hauberkref02_Size (x : dens A_hauberkref02_Size) : Sh.den S_hauberkref02_Size := bif V_thumb_Check x != 0 then 0 else bif isLong x.1 x.2.2.2.2.2.2.2.1 then 4 else 2
theorem ok_hauberkref02_Size (x : dens A_hauberkref02_Size) (_ : G_hauberkref02_Size x = true) : (T_hauberkref02_Size x).val = some (V_hauberkref02_Size x) := ref_size_val x
end Go.Av
