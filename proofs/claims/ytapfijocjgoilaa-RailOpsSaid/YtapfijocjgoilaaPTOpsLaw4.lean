/- Layer 27: the document's operations as instructions. -/
import Derived.Test.YtapfijocjgoilaaPTOpsLaw3
namespace Go.Av
open Go
theorem put_ref {d r : Int} (h : tempOk d = true) (hr : r = 0 ∨ r = 1) : V_hauberkref27_Put (V_hauberkref26_Temp d, r, 3) = putI (4 * (d + 1), r, 3) := by
  have hb := tempOk_iff.1 h
  rw [temp_26 hb.1 hb.2]
  have e : ∀ z : Int, 0 ≤ z → z ≤ 65535 → V_hauberkref27_moved (20, z, r, 3) = putI (z, r, 3) := by
    intro z h1 h2
    have hv : V_hauberkref27_moved (20, z, r, 3) = ((T_hauberkref27_moved (20, z, r, 3)).val).getD [] := rfl
    rw [hv]
    unfold T_hauberkref27_moved PO.val
    dsimp only
    rw [dec_false (p := z < 0) (by omega), dec_false (p := z > 65535) (by omega), dec_false (p := r < 0) (by omega), dec_false (p := r > 1) (by omega)]
    rcases hr with rfl | rfl <;> rfl
  exact e _ (by omega) (by omega)
theorem room2 {a b : List tIns.den} (ha : a.length ≤ 1000) (hb : b.length ≤ 1000) : Nat.ble ((List.length a + List.length b) * 64) 140737488355328 = true := ble_room (by omega)
theorem refop_T (k d a b c i : Int) (s : tSpot.den) (r : Int) : (T_hauberkref27_Op (opI k d a b c i, s, r)).val = some (bif okOp (opI k d a b c i) s r then (opL (opI k d a b c i) s r, 0, ()) else ([], 2, ())) := by
  have hm := refmay_T k d a b c i s r
  have hmg : G_hauberkref27_May (opI k d a b c i, s, r) = true := by unfold G_hauberkref27_May; rw [hm]; rfl
  have hmv : V_hauberkref27_May (opI k d a b c i, s, r) = okOp (opI k d a b c i) s r := by unfold V_hauberkref27_May PO.getO; rw [hm]; rfl
  unfold T_hauberkref27_Op PO.val
  dsimp only
  rw [show (G_hauberkref27_May ((k, d, a, b, c, i, ()), s, r)) = true from hmg, show V_hauberkref27_May ((k, d, a, b, c, i, ()), s, r) = _ from hmv]
  cases hok : okOp (opI k d a b c i) s r
  · rfl
  · obtain ⟨hall, hr, hmk, _⟩ := ok_facts hok
    obtain ⟨g1, v1, g2, v2⟩ := refs_same k d a b c i (ok_kind hok)
    obtain ⟨i1, i2⟩ := inner_same k d a b c i s r hok
    have hul := uses_len (opI k d a b c i)
    have hg := ref_gets_run r hr (opI k d a b c i) s (V_ir_Uses (opI k d a b c i)) (by omega) hall (V_ir_Uses (opI k d a b c i)).length 0 [] (by omega) rfl 5 (by omega)
    rw [List.drop_zero, List.nil_append] at hg
    have hg : LoopN.res L_hauberkref27_Op_6 (r, (), (), [], V_ir_Uses (opI k d a b c i), 0) (opI k d a b c i, s) = some (0, gets r (V_ir_Uses (opI k d a b c i)) 0, ((V_ir_Uses (opI k d a b c i)).length : Int), opI k d a b c i, s) := hg
    have hl := gets_len r (V_ir_Uses (opI k d a b c i)) 0
    have hi := inner_len (opI k d a b c i, s, r)
    have hgl : (gets r (V_ir_Uses (opI k d a b c i)) 0).length ≤ 500 := by omega
    have hp : ∀ z, (putI (z, r, 3)).length = 3 := fun _ => rfl
    rw [← i2] at hi
    unfold opL
    rw [← i2]
    dsimp only [cond_true, cond_false, PO.val, Bool.not_true]
    rw [g1, v1]
    dsimp only [cond_true, PO.val]
    rw [hg]
    dsimp only [PO.val]
    unfold refInner refG at *
    rw [g2, v2]
    cases h1 : k == 1
    · cases h6 : k == 6
      · cases h18 : (bif k == 18 then k == 18 else k == 19)
        · simp only [h1, h6, h18, cond_false] at hi i1 ⊢
          rw [i1, room2 (by omega) (by omega)]
          dsimp only [cond_true, PO.val]
          cases hmm : V_ir_Makes (opI k d a b c i)
          · dsimp only [cond_false, PO.val]
            rw [List.append_nil]
            rfl
          · rw [put_ref (hmk hmm) hr]
            dsimp only [cond_true, PO.val]
            rw [room2 (by rw [List.length_append]; omega) (by rw [hp]; omega), List.append_assoc]
            rfl
        · simp only [h1, h6, h18, cond_false, cond_true] at hi i1 ⊢
          rw [room2 (by omega) (by omega)]
          dsimp only [cond_true, PO.val]
          cases hmm : V_ir_Makes (opI k d a b c i)
          · dsimp only [cond_false, PO.val]
            rw [List.append_nil]
            rfl
          · rw [put_ref (hmk hmm) hr]
            dsimp only [cond_true, PO.val]
            rw [room2 (by rw [List.length_append]; omega) (by rw [hp]; omega), List.append_assoc]
            rfl
      · simp only [h1, h6, cond_false, cond_true] at hi i1 ⊢
        cases hmm : V_ir_Makes (opI k d a b c i)
        · simp only [List.length_cons, List.length_nil, cond_false, cond_true, Bool.not_true]
          rw [ble_room (by omega), List.append_nil]
          rfl
        · rw [put_ref (hmk hmm) hr]
          simp only [List.length_append, List.length_cons, List.length_nil, cond_false, cond_true, Bool.not_true, hp]
          rw [ble_room (by omega), ble_room (by omega), List.append_assoc]
          rfl
    · simp only [h1, cond_true] at hi i1 ⊢
      rw [room2 (by omega) (by omega)]
      dsimp only [cond_true, PO.val]
      cases hmm : V_ir_Makes (opI k d a b c i)
      · dsimp only [cond_false, PO.val]
        rw [List.append_nil]
        rfl
      · rw [put_ref (hmk hmm) hr]
        dsimp only [cond_true, PO.val]
        rw [room2 (by rw [List.length_append]; omega) (by rw [hp]; omega), List.append_assoc]
        rfl
theorem refop_G (o : tOp.den) (s : tSpot.den) (r : Int) : G_hauberkref27_Op (o, s, r) = true := by
  obtain ⟨k, d, a, b, c, i, u⟩ := o
  unfold G_hauberkref27_Op
  rw [show T_hauberkref27_Op ((k, d, a, b, c, i, u), s, r) = T_hauberkref27_Op (opI k d a b c i, s, r) from rfl, refop_T]
  rfl
theorem refop_V (o : tOp.den) (s : tSpot.den) (r : Int) : V_hauberkref27_Op (o, s, r) = (bif okOp o s r then (opL o s r, 0, ()) else ([], 2, ())) := by
  obtain ⟨k, d, a, b, c, i, u⟩ := o
  unfold V_hauberkref27_Op PO.getO
  rw [show T_hauberkref27_Op ((k, d, a, b, c, i, u), s, r) = T_hauberkref27_Op (opI k d a b c i, s, r) from rfl, refop_T]
  rfl
end Go.Av
