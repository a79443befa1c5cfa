/- All faults at any step, and the skips at each, are as the document says: proved of what the functions compute. -/
import Derived.Test.YtfdnniopghcngaaPCamp
namespace Go.Av
open Go
theorem rows_flat (k : Int) : ∀ r : Nat, rowsTo k r = (List.range (32 * r)).map fun i => flipF k (i / 32) (i % 32)
  | 0 => rfl
  | r + 1 => by
    rw [rowsTo_succ, rows_flat k r, show 32 * (r + 1) = 32 * r + 32 by omega, List.range_add, List.map_append, List.map_map]
    congr 1
    unfold flipsTo
    refine List.map_congr_left (fun b hb => ?_)
    rw [List.mem_range] at hb
    simp only [Function.comp]
    rw [show (32 * r + b) / 32 = r by omega, show (32 * r + b) % 32 = b by omega]
theorem ref_at (k : Int) : G_hauberkref34_At k = true ∧ V_hauberkref34_At k = V_campaign_At k := by
  have key : ∀ b : Bool, b = false ∨ b = true := by decide
  have hT : (T_hauberkref34_At k).val = some (V_campaign_At k) := by
    unfold V_campaign_At
    rcases key (decide (k < 0)) with h | h
    · have l1 := runL_count (turn := L_hauberkref34_At_5.turn (k, [skipF k], 0) ()) (fun i => ([skipF k] ++ (List.range i).map fun i => flipF k (i / 32) (i % 32), (i : Int))) (0, ([skipF k] ++ rowsTo k 15, 480)) (n := 480) (fun i hi => ?_) ?_ 480 0 (by omega) 481 (by omega)
      · have l1' : LoopN.res L_hauberkref34_At_5 (k, [skipF k], 0) () = some (0, [skipF k] ++ rowsTo k 15, 480) := by
          unfold LoopN.res
          exact l1
        have l2 := runL_count (turn := L_hauberkref34_At_9.turn (k, [skipF k] ++ rowsTo k 15, 0) ()) (fun i => ([skipF k] ++ rowsTo k 15 ++ flagsTo k i, (i : Int))) (0, (atL k, 4)) (n := 4) (fun i hi => ?_) ?_ 4 0 (by omega) 5 (by omega)
        · have l2' : LoopN.res L_hauberkref34_At_9 (k, [skipF k] ++ rowsTo k 15, 0) () = some (0, atL k, 4) := by
            unfold LoopN.res
            have e : [skipF k] ++ rowsTo k 15 ++ flagsTo k 0 = [skipF k] ++ rowsTo k 15 := List.append_nil _
            rw [e] at l2
            exact l2
          refine (val_no h).trans ((val_opt l1').trans ((val_opt l2').trans ?_))
          rw [h]; rfl
        · refine (val_yes (dec_true (p := (i : Int) < 4) (by omega))).trans ((val_yes ?_).trans ?_)
          · rw [List.length_append, List.length_append, rowsTo_len, flagsTo_len]
            exact Nat.ble_eq_true_of_le (by simp; omega)
          · rw [w64_id (by omega) (by omega), flagsTo_succ, ← List.append_assoc]
            rfl
        · exact (val_no (dec_false (p := ((4 : Nat) : Int) < 4) (by omega))).trans rfl
      · have h1 : w64 (Int.tdiv (i : Int) 32) = ((i / 32 : Nat) : Int) := by
          rw [Int.tdiv_eq_ediv_of_nonneg (by omega), w64_id (by omega) (by omega)]
          omega
        have h2 : Int.tmod (i : Int) 32 = ((i % 32 : Nat) : Int) := by
          rw [Int.tmod_eq_emod_of_nonneg (by omega)]
          omega
        refine (val_yes (dec_true (p := (i : Int) < 480) (by omega))).trans ((val_yes ?_).trans ?_)
        · rw [List.length_append, List.length_map, List.length_range]
          exact Nat.ble_eq_true_of_le (by simp; omega)
        · dsimp only
          rw [h1, h2, w64_id (n := (i : Int) + 1) (by omega) (by omega), List.range_succ, List.map_append, ← List.append_assoc]
          rfl
      · rw [rows_flat]
        exact (val_no (dec_false (p := ((480 : Nat) : Int) < 480) (by omega))).trans rfl
    · refine (val_yes h).trans ?_
      rw [h]
      rfl
  exact ⟨by unfold G_hauberkref34_At; rw [hT]; rfl, by unfold V_hauberkref34_At PO.getO; rw [hT]; rfl⟩
def skipsTo (n : Nat) : List tFault.den := (List.range n).map fun i : Nat => skipF (i : Int)
theorem skips_val (n : Int) (h : n ≤ 5000) : G_campaign_Skips n = true ∧ V_campaign_Skips n = skipsTo n.toNat := by
  obtain ⟨m, hm⟩ : ∃ m : Nat, imax 0 (imin n 4194304) = (m : Int) ∧ m = n.toNat := by
    refine ⟨n.toNat, ?_, rfl⟩
    unfold imax imin
    rw [dec_false (p := (4194304 : Int) < n) (by omega), cond_false]
    cases hd : decide (n > 0)
    · have := of_decide_eq_false hd
      rw [cond_false]
      omega
    · have := of_decide_eq_true hd
      rw [cond_true]
      omega
  obtain ⟨h1, h2⟩ := hm
  have hb : m ≤ 5000 := by omega
  have l1 := runL_count (turn := L_campaign_Skips_3.turn ([], (m : Int), 0) ()) (fun i => (skipsTo i, (i : Int))) (0, (skipsTo m, (m : Int))) (n := m) (fun i hi => ?_) ?_ m 0 (by omega) (Int.toNat (m : Int) + 1) (by omega)
  · have hT : (T_campaign_Skips n).val = some (skipsTo n.toNat) := by
      refine (val_opt (k := fun p0 => .ret p0.2.1) (r := (0, (skipsTo m, (m : Int)))) ?_).trans ?_
      · rw [h1]
        show runL (L_campaign_Skips_3.turn ([], (m : Int), 0) ()) (Int.toNat (m : Int) + 1) (skipsTo 0, ((0 : Nat) : Int)) = _
        exact l1
      · rw [← h2]
        rfl
    exact ⟨by unfold G_campaign_Skips; rw [hT]; rfl, by unfold V_campaign_Skips PO.getO; rw [hT]; rfl⟩
  · refine (val_yes (dec_true (p := (i : Int) < (m : Int)) (by omega))).trans ((val_yes ?_).trans ?_)
    · unfold skipsTo
      rw [List.length_map, List.length_range]
      exact Nat.ble_eq_true_of_le (by simp; omega)
    · rw [w64_id (by omega) (by omega)]
      unfold skipsTo
      rw [List.range_succ, List.map_append]
      rfl
  · exact (val_no (dec_false (p := (m : Int) < (m : Int)) (by omega))).trans rfl
theorem at_law (k n : Int) : (T_hauberklaw34_CampaignAt (k, n)).val = some true := by
  have key : ∀ b : Bool, b = false ∨ b = true := by decide
  obtain ⟨g, v⟩ := ref_at k
  refine (val_yes g).trans ?_
  dsimp only
  rw [v]
  have hl : (V_campaign_At k).length ≤ 485 := by
    unfold V_campaign_At
    cases decide (k < 0)
    · rw [cond_false, atL_len]; exact Nat.le_refl _
    · exact Nat.zero_le _
  generalize V_campaign_At k = a at hl
  refine (val_no (by simp)).trans ?_
  have l1 := runL_count (turn := L_hauberklaw34_CampaignAt_5.turn (n, false, a, a, 0) ()) (fun i => (false, (i : Int))) (0, (false, (a.length : Int))) (n := a.length) (fun i hi => ?_) ?_ a.length 0 (by omega) (a.length + 1) (by omega)
  · refine (val_opt l1).trans ((val_yes rfl).trans ?_)
    rcases key (decide (n > 5000)) with h | h
    · have h' : n ≤ 5000 := by have := of_decide_eq_false h; omega
      obtain ⟨g2, v2⟩ := skips_val n h'
      refine (val_no h).trans ((val_yes g2).trans ?_)
      dsimp only
      rw [v2]
      have hlen : (skipsTo n.toNat).length = n.toNat := by unfold skipsTo; rw [List.length_map, List.length_range]
      have l2 := runL_count (turn := L_hauberklaw34_CampaignAt_13.turn (n, false, skipsTo n.toNat, 0) ()) (fun i => (false, (i : Int))) (0, (false, (n.toNat : Int))) (n := n.toNat) (fun i hi => ?_) ?_ n.toNat 0 (by omega) ((skipsTo n.toNat).length + 1) (by omega)
      · have hmax : imax 0 n = (n.toNat : Int) := by
          unfold imax
          cases hd : decide (n > 0)
          · have := of_decide_eq_false hd
            rw [cond_false]
            omega
          · have := of_decide_eq_true hd
            rw [cond_true]
            omega
        refine (val_opt l2).trans ((val_yes rfl).trans ?_)
        have he : (lenI (skipsTo n.toNat) == imax 0 n) = true := by
          rw [hmax]
          simp only [lenI, hlen, beq_self_eq_true]
        rw [he]
        rfl
      · have hg : (skipsTo n.toNat).getD (Int.toNat (i : Int)) (Ty.dflt tFault) = (1, (i : Int), 0, 0, ()) := by
          rw [Int.toNat_natCast, getD_in _ _ (by rw [hlen]; exact hi)]
          have : (skipsTo n.toNat)[i]'(by rw [hlen]; exact hi) = skipF (i : Int) := by
            unfold skipsTo
            rw [List.getElem_map, List.getElem_range]
          exact this
        refine (val_yes (dec_true (p := (i : Int) < lenI (skipsTo n.toNat)) (by simp only [lenI, hlen]; omega))).trans ((val_yes (inR (by rw [hlen]; exact hi))).trans ((val_no ?_).trans ?_))
        · dsimp only
          rw [hg, eqb_refl]
          rfl
        · rw [w64_id (by omega) (by omega)]
          rfl
      · exact (val_no (dec_false (p := (n.toNat : Int) < lenI (skipsTo n.toNat)) (by simp only [lenI, hlen]; omega))).trans rfl
    · exact (val_yes h).trans rfl
  · refine (val_yes (dec_true (p := (i : Int) < lenI a) (by simp only [lenI]; omega))).trans ((val_yes (by rw [inR hi]; rfl)).trans ((val_no (by rw [eqb_refl]; rfl)).trans ?_))
    rw [w64_id (by omega) (by omega)]
    rfl
  · exact (val_no (dec_false (p := (a.length : Int) < lenI a) (by simp only [lenI]; omega))).trans rfl
theorem law_hauberklaw34_CampaignAt (x : dens A_hauberklaw34_CampaignAt) (_ : fitsAll maxLen A_hauberklaw34_CampaignAt x) : (T_hauberklaw34_CampaignAt x).val = some true := at_law x.1 x.2
theorem law_hauberklaw34_CampaignAdds (x : dens A_hauberklaw34_CampaignAdds) (h : fitsAll maxLen A_hauberklaw34_CampaignAdds x) : (T_hauberklaw34_CampaignAdds x).val = some true := by
  obtain ⟨⟨a1, a2, a3, a4, a5, a6, a7, u⟩, b⟩ := x
  obtain ⟨h1, h2, h3, h4, h5, h6, h7, _⟩ := h.1
  have e1 : V_campaign_Add ((a1, a2, a3, a4, a5, a6, a7, u), b) = V_hauberkref34_Add ((a1, a2, a3, a4, a5, a6, a7, u), b) := rfl
  have e2 : V_campaign_Add ((a1, a2, a3, a4, a5, a6, a7, u), 0, 0, 0, 0, 0, 0, 0, ()) = (a1, a2, a3, a4, a5, a6, a7, u) := by
    have key : ∀ n : Int, (Lit.int .i64 n).wf = true → w64 (n + 0) = n := fun n hn => by
      rw [Int.add_zero]
      simp only [Lit.wf, Bool.and_eq_true, decide_eq_true_eq] at hn
      have h1 : (-9223372036854775808 : Int) ≤ n := hn.1
      have h2 : n ≤ (9223372036854775807 : Int) := hn.2
      exact w64_id h1 (by omega)
    show (w64 (a1 + 0), w64 (a2 + 0), w64 (a3 + 0), w64 (a4 + 0), w64 (a5 + 0), w64 (a6 + 0), w64 (a7 + 0), u) = _
    rw [key a1 h1, key a2 h2, key a3 h3, key a4 h4, key a5 h5, key a6 h6, key a7 h7]
  have e3 : Ty.eqb tCounts (V_hauberkref34_Add ((a1, a2, a3, a4, a5, a6, a7, u), b)) (V_hauberkref34_Add ((a1, a2, a3, a4, a5, a6, a7, u), b)) = true := eqb_refl ..
  unfold T_hauberklaw34_CampaignAdds
  dsimp only
  rw [e1, e2, e3, eqb_refl]
  rfl
end Go.Av
