/- CpuCompares: the law, of the pieces. -/
import Derived.Test.YtapfijocjgoilaaPCpu5Law
import Derived.Test.YtapfijocjgoilaaPCpu7
namespace Go.Av
open Go

theorem c16_val (b0 : Bool) : LoopN.res L_hauberklaw08_CpuCompares_c16 (b0, true, true, true) () = some (0, true) := rfl

theorem c14_val (st : tState.den) (b0 : Bool) (c d : Int) (h10 : V_cpu_Holds (st, 10) = decide (c ≥ d)) (h11 : V_cpu_Holds (st, 11) = decide (c < d)) (h12 : V_cpu_Holds (st, 12) = decide (c > d)) (h13 : V_cpu_Holds (st, 13) = decide (c ≤ d)) :
    LoopN.res L_hauberklaw08_CpuCompares_c14 (b0, (), true, c, d, true) st = some (0, (true, st)) := by
  refine runL_out (c := 0) ?_
  refine (val_yes (show (bif V_cpu_Holds (st, 10) == decide (c ≥ d) then bif V_cpu_Holds (st, 11) == decide (c < d) then V_cpu_Holds (st, 12) == decide (c > d) || true else true else true) = true by rw [h10, h11]; simp)).trans ?_
  have e : K_hauberklaw08_CpuCompares_c14_0 (b0, (), true, c, d, true) st (b0, st) = some (0, true) := by
    unfold K_hauberklaw08_CpuCompares_c14_0
    simp only [h10, h11, h12, h13, beq_self_eq_true, Bool.and_self]
    exact c16_val b0
  exact (val_opt (r := _) e).trans rfl

theorem c12_val (st : tState.den) (b0 : Bool) (a b c d : Int) (h0 : V_cpu_Holds (st, 0) = (a == b)) (h1 : V_cpu_Holds (st, 1) = (a != b)) (h2 : V_cpu_Holds (st, 2) = decide (a ≥ b)) (h3 : V_cpu_Holds (st, 3) = decide (a < b)) (h8 : V_cpu_Holds (st, 8) = decide (a > b)) (h9 : V_cpu_Holds (st, 9) = decide (a ≤ b))
    (h10 : V_cpu_Holds (st, 10) = decide (c ≥ d)) (h11 : V_cpu_Holds (st, 11) = decide (c < d)) (h12 : V_cpu_Holds (st, 12) = decide (c > d)) (h13 : V_cpu_Holds (st, 13) = decide (c ≤ d)) :
    LoopN.res L_hauberklaw08_CpuCompares_c12 (b0, (), true, a, b, c, d) st = some (0, (true, st)) := by
  refine runL_out (c := 0) ?_
  refine (val_yes (show (bif V_cpu_Holds (st, 0) == (a == b) then bif V_cpu_Holds (st, 1) == (a != b) then bif V_cpu_Holds (st, 2) == decide (a ≥ b) then bif V_cpu_Holds (st, 3) == decide (a < b) then V_cpu_Holds (st, 8) == decide (a > b) || true else true else true else true else true) = true by rw [h0, h1, h2, h3]; simp)).trans ?_
  have e : K_hauberklaw08_CpuCompares_c12_0 (b0, (), true, a, b, c, d) st (b0, st) = some (0, (true, st)) := by
    unfold K_hauberklaw08_CpuCompares_c12_0
    simp only [h0, h1, h2, h3, h8, h9, beq_self_eq_true, Bool.and_self]
    exact c14_val st b0 c d h10 h11 h12 h13
  exact (val_opt (r := _) e).trans rfl

theorem compares_val (s : tState.den) (n m : Int) (hl : List.length s.1 = 15) : (T_hauberklaw08_CpuCompares (s, n, m)).val = some true := by
  cases hr : (decide (n < 0) || (decide (n > 7) || (decide (m < 0) || decide (m > 7))))
  · refine (val_no hr).trans ?_
    simp only [Bool.or_eq_false_iff, decide_eq_false_iff_not] at hr
    obtain ⟨n1, n2, m1, m2⟩ := hr
    have hck : V_thumb_Check (23, 0, n, m, 0, 0, 0, false, ()) = 0 := by
      have d1 : decide (0 ≤ n) = true := dec_true (by omega)
      have d2 : decide (n ≤ 7) = true := dec_true (by omega)
      have d3 : decide (0 ≤ m) = true := dec_true (by omega)
      have d4 : decide (m ≤ 7) = true := dec_true (by omega)
      simp [V_thumb_Check, T_thumb_Check, V_thumb_formOf, T_thumb_formOf, V_thumb_field, T_thumb_field, V_thumb_within, T_thumb_within, PO.getO, PO.val, d1, d2, d3, d4]
    have g1 : G_cpu_Step (s, (23, 0, n, m, 0, 0, 0, false, ()), 0) = true := dec_true hl
    have i1 : inRange n 15 = true := inR15 (by omega)
    have i2 : inRange m 15 = true := inR15 (by omega)
    have hn := wn_lt (rg s.1 n)
    have hm := wn_lt (rg s.1 m)
    have hcv := compare_val (wState s) (wn (rg s.1 n)) (wn (rg s.1 m)) hn hm
    have ev : ∃ pc : Int, V_cpu_Step (s, (23, 0, n, m, 0, 0, 0, false, ()), 0) = (((wState s).1, pc, decide (2147483648 ≤ wn ((wn (rg s.1 n) : Int) - wn (rg s.1 m))), wn (rg s.1 n) == wn (rg s.1 m), decide (wn (rg s.1 m) ≤ wn (rg s.1 n)), cmpV (wn (rg s.1 n)) (wn (rg s.1 m)), ()), true, ()) := by
      refine ⟨(wn (wn s.2.1 + farV (wState s) 23 0 0 false) : Int), ?_⟩
      show stepV (V_thumb_Check (23, 0, n, m, 0, 0, 0, false, ()) != 0) s 23 0 n m 0 0 0 false 0 = _
      rw [hck, show ((0 : Int) != 0) = false from rfl, stepV_ok _ _ _ _ _ _ _ _ _ _ (by omega)]
      have enx : nextS s 23 0 n m 0 0 0 = V_cpu_compare (wState s, (wn (rg s.1 n) : Int), (wn (rg s.1 m) : Int)) := by
        show V_cpu_compare (wState s, rg (wordR s.1) n, rg (wordR s.1) m) = _
        rw [wordR_reg, wordR_reg]
      rw [enx, hcv]
    obtain ⟨pc, ev⟩ := ev
    have hsn := signed_ge hn hm
    have hb1 : ∀ k : Int, band .i64 (List.getD s.1 (Int.toNat k) (Ty.dflt (Ty.int IntKind.i64))) 4294967295 = (wn (rg s.1 k) : Int) := fun k => band_wn _
    have hsi := sw_inj hn hm
    have s1 := law_signed hn
    have s2 := law_signed hm
    refine (val_yes (show G_cpu_Step (s, (23, 0, n, m, 0, 0, 0, false, ()), 0) = true from g1)).trans ((val_yes (show (inRange n 15 && inRange m 15) = true by rw [i1, i2]; rfl)).trans ?_)
    have e : K_hauberklaw08_CpuCompares_2 (s, n, m) = some (0, (true, ((wState s).1, pc, decide (2147483648 ≤ wn ((wn (rg s.1 n) : Int) - wn (rg s.1 m))), wn (rg s.1 n) == wn (rg s.1 m), decide (wn (rg s.1 m) ≤ wn (rg s.1 n)), cmpV (wn (rg s.1 n)) (wn (rg s.1 m)), ()))) := by
      unfold K_hauberklaw08_CpuCompares_2 K_hauberklaw08_CpuCompares_1
      dsimp only
      rw [ev]
      simp only [hb1, s1, s2]
      generalize wn (rg s.1 n) = a at *
      generalize wn (rg s.1 m) = b at *
      generalize decide (2147483648 ≤ wn ((a : Int) - b)) = fn at *
      generalize cmpV (a : Int) (b : Int) = fv at *
      have h0 : ((a : Int) == (b : Int)) = (a == b) := by rw [Bool.eq_iff_iff, beq_iff_eq, beq_iff_eq]; omega
      have h1 : ((a : Int) != (b : Int)) = !(a == b) := by rw [← h0]; rfl
      have h2 : decide ((a : Int) ≥ (b : Int)) = decide (b ≤ a) := decide_eq_decide.2 (by omega)
      have h3 : decide ((a : Int) < (b : Int)) = !decide (b ≤ a) := by rw [← decide_not]; exact decide_eq_decide.2 (by omega)
      have h8 : decide ((a : Int) > (b : Int)) = (decide (b ≤ a) && !(a == b)) := by rw [Bool.eq_iff_iff]; simp; omega
      have h9 : decide ((a : Int) ≤ (b : Int)) = (!decide (b ≤ a) || a == b) := by rw [Bool.eq_iff_iff]; simp; omega
      have g10 : decide (sw a ≥ sw b) = decide (sw b ≤ sw a) := rfl
      have g11 : decide (sw a < sw b) = !decide (sw b ≤ sw a) := by rw [← decide_not]; exact decide_eq_decide.2 (by omega)
      have g12 : decide (sw a > sw b) = (decide (sw b ≤ sw a) && !(a == b)) := by rw [Bool.eq_iff_iff]; simp; omega
      have g13 : decide (sw a ≤ sw b) = (!decide (sw b ≤ sw a) || a == b) := by rw [Bool.eq_iff_iff]; simp; omega
      have H := fun k => holds_val (wState s).1 pc fn (a == b) (decide (b ≤ a)) fv k
      refine c12_val _ false _ _ _ _ ?_ ?_ ?_ ?_ ?_ ?_ ?_ ?_ ?_ ?_
      · rw [h0]; exact (H 0).trans (by cases (a == b) <;> rfl)
      · rw [h1]; exact (H 1).trans (by cases (a == b) <;> rfl)
      · rw [h2]; exact (H 2).trans (by cases decide (b ≤ a) <;> rfl)
      · rw [h3]; exact (H 3).trans (by cases decide (b ≤ a) <;> rfl)
      · rw [h8]; exact (H 8).trans (by cases decide (b ≤ a) <;> cases (a == b) <;> rfl)
      · rw [h9]; exact (H 9).trans (by cases decide (b ≤ a) <;> cases (a == b) <;> rfl)
      · rw [g10, ← hsn]; exact (H 10).trans (by cases fn <;> cases fv <;> rfl)
      · rw [g11, ← hsn]; exact (H 11).trans (by cases fn <;> cases fv <;> rfl)
      · rw [g12, ← hsn]; exact (H 12).trans (by cases fn <;> cases fv <;> cases (a == b) <;> rfl)
      · rw [g13, ← hsn]; exact (H 13).trans (by cases fn <;> cases fv <;> cases (a == b) <;> rfl)
    exact (val_opt (r := _) e).trans rfl
  · exact (val_yes hr).trans rfl

theorem law_hauberklaw08_CpuCompares (x : dens A_hauberklaw08_CpuCompares) (h : fitsAll maxLen A_hauberklaw08_CpuCompares x) : (T_hauberklaw08_CpuCompares x).val = some true := by
  obtain ⟨s, n, m⟩ := x
  exact compares_val s n m (len15 h.1)
end Go.Av
