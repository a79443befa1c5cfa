/- Layer 27: which operations may be. -/
import Derived.Test.YtapfijocjgoilaaPTOpsLaw
namespace Go.Av
open Go
theorem kinds (k : Int) : k = 1 ∨ k = 2 ∨ k = 3 ∨ k = 4 ∨ k = 5 ∨ k = 6 ∨ k = 7 ∨ k = 8 ∨ k = 9 ∨ k = 10 ∨ k = 11 ∨ k = 12 ∨ k = 13 ∨ k = 14 ∨ k = 15 ∨ k = 16 ∨ k = 17 ∨ k = 18 ∨ k = 19 ∨ (k < 1 ∨ 19 < k) := by omega
abbrev opI (k d a b c i : Int) : tOp.den := (k, d, a, b, c, i, ())
theorem out_beq {k n : Int} (h : k < 1 ∨ 19 < k) (hn : 1 ≤ n ∧ n ≤ 19) : (k == n) = false := by rw [beq_eq_false_iff_ne]; omega
theorem uses_len (o : tOp.den) : (V_ir_Uses o).length ≤ 3 := by
  show (List.take _ [_, _, _]).length ≤ 3
  rw [List.length_take]
  exact Nat.min_le_right ..
theorem refs_same (k d a b c i : Int) (h : 1 ≤ k ∧ k ≤ 19) : G_hauberkref17_Uses (opI k d a b c i) = true ∧ V_hauberkref17_Uses (opI k d a b c i) = V_ir_Uses (opI k d a b c i) ∧ G_hauberkref17_Makes (opI k d a b c i) = true ∧ V_hauberkref17_Makes (opI k d a b c i) = V_ir_Makes (opI k d a b c i) := by
  rcases kinds k with rfl | rfl | rfl | rfl | rfl | rfl | rfl | rfl | rfl | rfl | rfl | rfl | rfl | rfl | rfl | rfl | rfl | rfl | rfl | h'
  all_goals first | (exfalso; omega) | exact ⟨by kernel_rfl, by kernel_rfl, by kernel_rfl, by kernel_rfl⟩
theorem out_kind (k d a b c i : Int) (h : k < 1 ∨ 19 < k) : V_ir_Uses (opI k d a b c i) = [] ∧ V_ir_Makes (opI k d a b c i) = false := by
  have e := fun n hn => out_beq (k := k) (n := n) h hn
  have hf : V_ir_formOf k = (false, 0, 0, 0, false, ()) := by simp [V_ir_formOf, T_ir_formOf, PO.getO, PO.val, e]
  constructor
  · show List.take (Int.toNat (V_ir_formOf k).2.1) _ = []
    rw [hf]
    rfl
  · show (V_ir_formOf k).1 = false
    rw [hf]
/-- The kind's own conditions. -/
def tailK (o : tOp.den) (s : tSpot.den) : Bool :=
  bif o.1 == 1 then decide (o.2.2.2.2.2.1 ≥ 0) && decide (o.2.2.2.2.2.1 ≤ 4294967295)
  else bif (bif o.1 == 11 then o.1 == 11 else bif o.1 == 12 then o.1 == 12 else o.1 == 13) then decide (o.2.2.2.2.2.1 ≥ 0) && decide (o.2.2.2.2.2.1 < 32)
  else bif (bif o.1 == 18 then o.1 == 18 else o.1 == 19) then V_tmpl_spot (o, s) else V_ir_Makes o
def tailR (o : tOp.den) (s : tSpot.den) : Bool :=
  bif o.1 == 1 then decide (o.2.2.2.2.2.1 ≥ 0) && decide (o.2.2.2.2.2.1 < 4294967296)
  else bif decide (o.1 ≥ 11) && decide (o.1 ≤ 13) then decide (o.2.2.2.2.2.1 ≥ 0) && decide (o.2.2.2.2.2.1 < 32)
  else bif o.1 == 18 || o.1 == 19 then (bif s.1 == 1 then decide (s.2.1 ≥ 0) && (decide (s.2.1 < 65536) && (!s.2.2.1 || o.1 == 18)) else s.1 == 4 && (decide (s.2.1 ≥ 0) && (decide (s.2.1 < 65536) && (!s.2.2.1 || o.1 == 18)))) else true
/-- May an operation be? -/
def okOp (o : tOp.den) (s : tSpot.den) (r : Int) : Bool :=
  bif (V_ir_Uses o).all tempOk then (bif (bif V_ir_Makes o then !tempOk o.2.1 || r != 0 && r != 1 else r != 0 && r != 1) then false else tailK o s) else false
theorem way_cases {c : Nat} {b : Bool} (h : way c = b) : way c = b := h
theorem may_T (o : tOp.den) (s : tSpot.den) (r : Int) : (T_tmpl_may (o, s, r)).val = some (okOp o s r) := by
  obtain ⟨c, j, h1, h2⟩ := tmpl_may_run r o s (V_ir_Uses o) (Nat.le_trans (uses_len o) (by omega)) false (V_ir_Uses o).length 0 (by omega) 5 (by have := uses_len o; omega)
  have h1 : LoopN.res L_tmpl_may_2 (r, (), (), false, V_ir_Uses o, lenI (V_ir_Uses o), 0) (o, s) = some (c, (bif ((V_ir_Uses o).drop 0).all tempOk then false else false), j, o, s) := h1
  rw [List.drop_zero] at h1 h2
  unfold T_tmpl_may okOp PO.val
  rw [h1]
  dsimp only [PO.val]
  rw [h2]
  cases (V_ir_Uses o).all tempOk
  · rfl
  · rw [temp_V]
    dsimp only [cond_true, PO.val]
    rw [Bool.or_true]
    dsimp only [cond_true, PO.val]
    cases (bif V_ir_Makes o then !tempOk o.2.1 || r != 0 && r != 1 else r != 0 && r != 1)
    · dsimp only [cond_false, PO.val]
      unfold tailK
      cases o.1 == 1
      · cases (bif o.1 == 11 then o.1 == 11 else bif o.1 == 12 then o.1 == 12 else o.1 == 13)
        · cases (bif o.1 == 18 then o.1 == 18 else o.1 == 19) <;> rfl
        · rfl
      · rfl
    · rfl
theorem may_G (o : tOp.den) (s : tSpot.den) (r : Int) : G_tmpl_may (o, s, r) = true := by unfold G_tmpl_may; rw [may_T]; rfl
theorem may_V (o : tOp.den) (s : tSpot.den) (r : Int) : V_tmpl_may (o, s, r) = okOp o s r := by unfold V_tmpl_may PO.getO; rw [may_T]; rfl
theorem tail_same (k d a b c i : Int) (s : tSpot.den) (h : 1 ≤ k ∧ k ≤ 19) : tailK (opI k d a b c i) s = tailR (opI k d a b c i) s := by
  have e1 : (decide (i ≥ 0) && decide (i ≤ 4294967295)) = (decide (i ≥ 0) && decide (i < 4294967296)) := by
    rw [Bool.eq_iff_iff, Bool.and_eq_true, Bool.and_eq_true, decide_eq_true_eq, decide_eq_true_eq, decide_eq_true_eq]
    omega
  have e2 : ∀ z : Int, decide (z ≤ 65535) = decide (z < 65536) := fun z => by rw [Bool.eq_iff_iff, decide_eq_true_eq, decide_eq_true_eq]; omega
  obtain ⟨el, off, inn, u⟩ := s
  rcases kinds k with rfl | rfl | rfl | rfl | rfl | rfl | rfl | rfl | rfl | rfl | rfl | rfl | rfl | rfl | rfl | rfl | rfl | rfl | rfl | h'
  case inr.inr.inr.inr.inr.inr.inr.inr.inr.inr.inr.inr.inr.inr.inr.inr.inr.inr.inr => exfalso; omega
  case inl => exact e1
  case inr.inr.inr.inr.inr.inr.inr.inr.inr.inr.inr.inr.inr.inr.inr.inr.inr.inl =>
    show (bif (el : Int) == 1 then decide ((off : Int) ≥ 0) && (decide ((off : Int) ≤ 65535) && bif inn then !((18 : Int) == 19) else true) else (el : Int) == 4 && (decide ((off : Int) ≥ 0) && (decide ((off : Int) ≤ 65535) && bif inn then !((18 : Int) == 19) else true)))
      = (bif (el : Int) == 1 then decide ((off : Int) ≥ 0) && (decide ((off : Int) < 65536) && (!inn || (18 : Int) == 18)) else (el : Int) == 4 && (decide ((off : Int) ≥ 0) && (decide ((off : Int) < 65536) && (!inn || (18 : Int) == 18))))
    rw [e2]
    cases (inn : Bool) <;> rfl
  case inr.inr.inr.inr.inr.inr.inr.inr.inr.inr.inr.inr.inr.inr.inr.inr.inr.inr.inl =>
    show (bif (el : Int) == 1 then decide ((off : Int) ≥ 0) && (decide ((off : Int) ≤ 65535) && bif inn then !((19 : Int) == 19) else true) else (el : Int) == 4 && (decide ((off : Int) ≥ 0) && (decide ((off : Int) ≤ 65535) && bif inn then !((19 : Int) == 19) else true)))
      = (bif (el : Int) == 1 then decide ((off : Int) ≥ 0) && (decide ((off : Int) < 65536) && (!inn || (19 : Int) == 18)) else (el : Int) == 4 && (decide ((off : Int) ≥ 0) && (decide ((off : Int) < 65536) && (!inn || (19 : Int) == 18))))
    rw [e2]
    cases (inn : Bool) <;> rfl
  all_goals rfl
theorem ok_kind {k d a b c i : Int} {s : tSpot.den} {r : Int} (h : okOp (opI k d a b c i) s r = true) : 1 ≤ k ∧ k ≤ 19 := by
  by_cases hk : 1 ≤ k ∧ k ≤ 19
  · exact hk
  · exfalso
    have hk : k < 1 ∨ 19 < k := by omega
    have e := fun n hn => out_beq (k := k) (n := n) hk hn
    obtain ⟨h1, h2⟩ := out_kind k d a b c i hk
    unfold okOp tailK at h
    rw [h1, h2] at h
    simp [e] at h
theorem ok_facts {o : tOp.den} {s : tSpot.den} {r : Int} (h : okOp o s r = true) : (V_ir_Uses o).all tempOk = true ∧ (r = 0 ∨ r = 1) ∧ (V_ir_Makes o = true → tempOk o.2.1 = true) ∧ tailK o s = true := by
  unfold okOp at h
  cases hu : (V_ir_Uses o).all tempOk
  · rw [hu] at h; cases h
  · rw [hu] at h
    dsimp only [cond_true] at h
    cases hm : V_ir_Makes o
    · rw [hm] at h
      dsimp only [cond_false] at h
      cases hr : (r != 0 && r != 1)
      · rw [hr] at h
        refine ⟨rfl, ?_, (fun e => Bool.noConfusion e), h⟩
        rw [Bool.and_eq_false_iff, bne_eq_false_iff_eq, bne_eq_false_iff_eq] at hr
        exact hr
      · rw [hr] at h; cases h
    · rw [hm] at h
      dsimp only [cond_true] at h
      cases hr : (!tempOk o.2.1 || r != 0 && r != 1)
      · rw [hr] at h
        rw [Bool.or_eq_false_iff, Bool.not_eq_false', Bool.and_eq_false_iff, bne_eq_false_iff_eq, bne_eq_false_iff_eq] at hr
        exact ⟨rfl, hr.2, fun _ => hr.1, h⟩
      · rw [hr] at h; cases h
theorem refmay_T (k d a b c i : Int) (s : tSpot.den) (r : Int) : (T_hauberkref27_May (opI k d a b c i, s, r)).val = some (okOp (opI k d a b c i) s r) := by
  unfold T_hauberkref27_May PO.val
  by_cases hk : 1 ≤ k ∧ k ≤ 19
  · by_cases hr : r = 0 ∨ r = 1
    · obtain ⟨g1, v1, g2, v2⟩ := refs_same k d a b c i hk
      have e0 : (decide (k < 1) || (decide (k > 19) || (decide (r < 0) || decide (r > 1)))) = false := by
        rw [dec_false (p := k < 1) (by omega), dec_false (p := k > 19) (by omega), dec_false (p := r < 0) (by omega), dec_false (p := r > 1) (by omega)]
        rfl
      have er : (r != 0 && r != 1) = false := by
        rcases hr with rfl | rfl <;> rfl
      dsimp only
      rw [e0]
      dsimp only [cond_false, PO.val]
      rw [g1, g2, v1, v2]
      dsimp only [cond_true, PO.val]
      unfold okOp
      have hul := uses_len (opI k d a b c i)
      have htl := tail_same k d a b c i s hk
      rw [er]
      cases hm : V_ir_Makes (opI k d a b c i)
      · obtain ⟨c1, j, h1, h2⟩ := ref_may_run (opI k d a b c i) s (V_ir_Uses (opI k d a b c i)) (by omega) false (V_ir_Uses (opI k d a b c i)).length 0 (by omega) 6 (by omega)
        have h1 : LoopN.res L_hauberkref27_May_7 ((), (), false, V_ir_Uses (opI k d a b c i), 0) (opI k d a b c i, s) = some (c1, (bif ((V_ir_Uses (opI k d a b c i)).drop 0).all tempOk then false else false), j, opI k d a b c i, s) := h1
        rw [List.drop_zero] at h1 h2
        dsimp only [cond_false, PO.val]
        rw [h1]
        dsimp only [PO.val]
        rw [h2, htl]
        cases (V_ir_Uses (opI k d a b c i)).all tempOk
        · rfl
        · unfold tailR
          dsimp only [cond_true, cond_false, PO.val]
          cases k == 1
          · cases (decide (k ≥ 11) && decide (k ≤ 13))
            · cases (k == 18 || k == 19) <;> rfl
            · rfl
          · rfl
      · obtain ⟨c1, j, h1, h2⟩ := ref_may_run (opI k d a b c i) s (V_ir_Uses (opI k d a b c i) ++ [d]) (by rw [List.length_append]; show _ + 1 ≤ 4; omega) false (V_ir_Uses (opI k d a b c i) ++ [d]).length 0 (by omega) 6 (by rw [List.length_append]; show _ + 1 < 6; omega)
        have h1 : LoopN.res L_hauberkref27_May_7 ((), (), false, V_ir_Uses (opI k d a b c i) ++ [d], 0) (opI k d a b c i, s) = some (c1, (bif ((V_ir_Uses (opI k d a b c i) ++ [d]).drop 0).all tempOk then false else false), j, opI k d a b c i, s) := h1
        rw [List.drop_zero] at h1 h2
        dsimp only [cond_true, PO.val]
        rw [Nat.ble_eq_true_of_le (show ((V_ir_Uses (opI k d a b c i)).length + [d].length) * 8 ≤ 140737488355328 by simp only [List.length_singleton]; omega)]
        dsimp only [cond_true, PO.val]
        rw [h1]
        dsimp only [PO.val]
        rw [h2, htl, List.all_append]
        cases (V_ir_Uses (opI k d a b c i)).all tempOk
        · rfl
        · show (bif true && (tempOk d && true) then _ else _) = _
          rw [Bool.and_true, Bool.true_and]
          cases tempOk d
          · cases [d].all tempOk <;> rfl
          · unfold tailR
            dsimp only [cond_true, cond_false, PO.val, Bool.not_true, Bool.false_or]
            cases k == 1
            · cases (decide (k ≥ 11) && decide (k ≤ 13))
              · cases (k == 18 || k == 19) <;> rfl
              · rfl
            · rfl
    · have e0 : (decide (r < 0) || decide (r > 1)) = true := by
        rw [Bool.or_eq_true, decide_eq_true_eq, decide_eq_true_eq]
        omega
      dsimp only
      rw [e0, Bool.or_true, Bool.or_true]
      cases hok : okOp (opI k d a b c i) s r
      · rfl
      · exact absurd (ok_facts hok).2.1 hr
  · have e0 : (decide (k < 1) || (decide (k > 19) || (decide (r < 0) || decide (r > 1)))) = true := by
      rw [Bool.or_eq_true, Bool.or_eq_true, decide_eq_true_eq, decide_eq_true_eq]
      by_cases h1 : k < 1
      · exact .inl h1
      · exact .inr (.inl (by omega))
    dsimp only
    rw [e0]
    cases hok : okOp (opI k d a b c i) s r
    · rfl
    · exact absurd (ok_kind hok) hk
end Go.Av
