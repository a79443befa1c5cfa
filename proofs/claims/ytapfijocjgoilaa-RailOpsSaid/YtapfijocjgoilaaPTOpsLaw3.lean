/- Layer 27: operations as instructions, program and document. -/
import Derived.Test.YtapfijocjgoilaaPTOpsLaw2
namespace Go.Av
open Go
def len7 (o : Option (List tIns.den)) : Prop := (o.getD []).length ≤ 7
theorem len7_cond {c : Bool} {a b : Option (List tIns.den)} (h1 : len7 a) (h2 : len7 b) : len7 (bif c then a else b) := by cases c <;> assumption
theorem array_len (x : dens A_tmpl_array) : len7 (T_tmpl_array x).val := by
  unfold T_tmpl_array
  simp only [PO.val]
  repeat' (first | refine len7_cond ?_ ?_ | exact Nat.le_of_ble_eq_true rfl)
theorem inner_ok (x : dens A_tmpl_inner) : len7 (T_tmpl_inner x).val := by
  have ha := array_len (x.1, x.2.1, x.2.2)
  unfold T_tmpl_inner
  simp only [PO.val]
  repeat' (first | refine len7_cond ?_ ?_ | exact ha | exact Nat.le_of_ble_eq_true rfl)
theorem inner_len (x : dens A_tmpl_inner) : (V_tmpl_inner x).length ≤ 7 := inner_ok x
/-- An operation's instructions. -/
def opL (o : tOp.den) (s : tSpot.den) (r : Int) : List tIns.den := gets r (V_ir_Uses o) 0 ++ (V_tmpl_inner (o, s, r) ++ bif V_ir_Makes o then putI (4 * (o.2.1 + 1), r, 3) else [])
theorem op_T (o : tOp.den) (s : tSpot.den) (r : Int) : (T_tmpl_Op (o, s, r)).val = some (bif okOp o s r then (opL o s r, 0, ()) else ([], 2, ())) := by
  unfold T_tmpl_Op PO.val
  dsimp only
  rw [may_G, may_V]
  cases hok : okOp o s r
  · rfl
  · obtain ⟨hall, hr, hmk, _⟩ := ok_facts hok
    have hul := uses_len o
    have hg := tmpl_gets_run r hr o s (V_ir_Uses o) (by omega) hall (V_ir_Uses o).length 0 [] (by omega) rfl 5 (by omega)
    rw [List.drop_zero, List.nil_append] at hg
    have hg : LoopN.res L_tmpl_Op_5 (r, (), (), [], V_ir_Uses o, lenI (V_ir_Uses o), 0) (o, s) = some (0, gets r (V_ir_Uses o) 0, ((V_ir_Uses o).length : Int), o, s) := hg
    have hl := gets_len r (V_ir_Uses o) 0
    have hi := inner_len (o, s, r)
    dsimp only [cond_true, cond_false, PO.val, Bool.not_true]
    rw [hg]
    dsimp only [PO.val]
    rw [List.nil_append, ble_room (show ([] : List tIns.den).length + (gets r (V_ir_Uses o) 0).length ≤ 1000000 by simp only [List.length_nil]; omega),
      ble_room (show (gets r (V_ir_Uses o) 0).length + (V_tmpl_inner (o, s, r)).length ≤ 1000000 by omega)]
    unfold opL
    cases hm : V_ir_Makes o
    · dsimp only [cond_true, cond_false, PO.val]
      rw [List.append_nil]
      rfl
    · have ht := hmk hm
      have hb := tempOk_iff.1 ht
      have hg2 : G_tmpl_Put (V_frame_Temp o.2.1, r, 3) = true := by rw [temp_fr _ hb.1 hb.2]; exact getG_temp ht hr (by omega) (by omega)
      have hv2 : V_tmpl_Put (V_frame_Temp o.2.1, r, 3) = putI (4 * (o.2.1 + 1), r, 3) := by rw [temp_fr _ hb.1 hb.2]; rfl
      have hp : (putI (4 * (o.2.1 + 1), r, 3)).length = 3 := rfl
      dsimp only [cond_true, cond_false, PO.val]
      rw [hg2, hv2]
      dsimp only [cond_true, PO.val]
      rw [List.nil_append, ble_room (show ([] : List tIns.den).length + (gets r (V_ir_Uses o) 0 ++ V_tmpl_inner (o, s, r)).length ≤ 1000000 by simp only [List.length_nil, List.length_append]; omega),
        ble_room (show (gets r (V_ir_Uses o) 0 ++ V_tmpl_inner (o, s, r)).length + (putI (4 * (o.2.1 + 1), r, 3)).length ≤ 1000000 by simp only [List.length_append, hp]; omega)]
      dsimp only [cond_true, PO.val]
      rw [List.append_assoc]
      rfl
theorem op_G (o : tOp.den) (s : tSpot.den) (r : Int) : G_tmpl_Op (o, s, r) = true := by unfold G_tmpl_Op; rw [op_T]; rfl
theorem op_V (o : tOp.den) (s : tSpot.den) (r : Int) : V_tmpl_Op (o, s, r) = (bif okOp o s r then (opL o s r, 0, ()) else ([], 2, ())) := by unfold V_tmpl_Op PO.getO; rw [op_T]; rfl

/-! ### The document's instructions -/

/-- A turn, with what is asked of the number as a test. -/
def oneZ (z : Bool) (x : shDens L_hauberkref27_one_3.ss) (s : L_hauberkref27_one_3.σ) : PO (TL L_hauberkref27_one_3.σ) :=
  (.ite (decide (s.1 < lenI x.1))
   (.opt (LoopN.res L_hauberkref27_one_7 (x.1, x.2.1, (), (), s.1, 0, 0) (s.2.1, s.2.2)) fun p0 =>
    (.ite (inRange s.1 (List.length x.1))
     (.ite (List.getD x.1 (Int.toNat s.1) (Ty.dflt Ty.str) == [115])
      (.ite z
       (.ite (s.1 == 1)
        (.ret (.on (w64 (s.1 + 1), p0.2.2.2.1, (5, x.2.1, p0.2.2.2.2.2.2))))
        (.ite (s.1 == 2)
         (.ret (.on (w64 (s.1 + 1), p0.2.2.2.1, (5, p0.2.2.2.2.2.1, x.2.1, p0.2.2.2.2.2.2.2))))
         (.ite (s.1 == 3)
          (.ret (.on (w64 (s.1 + 1), p0.2.2.2.1, (5, p0.2.2.2.2.2.1, p0.2.2.2.2.2.2.1, x.2.1, p0.2.2.2.2.2.2.2.2))))
          (.ret (.on (w64 (s.1 + 1), p0.2.2.2.1, (5, p0.2.2.2.2.2.1, p0.2.2.2.2.2.2.1, p0.2.2.2.2.2.2.2.1, p0.2.2.2.2.2.2.2.2.1, x.2.1, p0.2.2.2.2.2.2.2.2.2.2)))))))
       (.ite (s.1 == 1)
        (.ret (.on (w64 (s.1 + 1), p0.2.2.2.1, (p0.2.2.2.2.1, x.2.1, p0.2.2.2.2.2.2))))
        (.ite (s.1 == 2)
         (.ret (.on (w64 (s.1 + 1), p0.2.2.2.1, (p0.2.2.2.2.1, p0.2.2.2.2.2.1, x.2.1, p0.2.2.2.2.2.2.2))))
         (.ite (s.1 == 3)
          (.ret (.on (w64 (s.1 + 1), p0.2.2.2.1, (p0.2.2.2.2.1, p0.2.2.2.2.2.1, p0.2.2.2.2.2.2.1, x.2.1, p0.2.2.2.2.2.2.2.2))))
          (.ret (.on (w64 (s.1 + 1), p0.2.2.2.1, (p0.2.2.2.2.1, p0.2.2.2.2.2.1, p0.2.2.2.2.2.2.1, p0.2.2.2.2.2.2.2.1, p0.2.2.2.2.2.2.2.2.1, x.2.1, p0.2.2.2.2.2.2.2.2.2.2))))))))
      (.ite (s.1 == 1)
       (.ret (.on (w64 (s.1 + 1), p0.2.2.2.1, (p0.2.2.2.2.1, p0.2.1, p0.2.2.2.2.2.2))))
       (.ite (s.1 == 2)
        (.ret (.on (w64 (s.1 + 1), p0.2.2.2.1, (p0.2.2.2.2.1, p0.2.2.2.2.2.1, p0.2.1, p0.2.2.2.2.2.2.2))))
        (.ite (s.1 == 3)
         (.ret (.on (w64 (s.1 + 1), p0.2.2.2.1, (p0.2.2.2.2.1, p0.2.2.2.2.2.1, p0.2.2.2.2.2.2.1, p0.2.1, p0.2.2.2.2.2.2.2.2))))
         (.ret (.on (w64 (s.1 + 1), p0.2.2.2.1, (p0.2.2.2.2.1, p0.2.2.2.2.2.1, p0.2.2.2.2.2.2.1, p0.2.2.2.2.2.2.2.1, p0.2.2.2.2.2.2.2.2.1, p0.2.1, p0.2.2.2.2.2.2.2.2.2.2))))))))
     .fail))
   (.ret (.out 0 (s.1, s.2.1, s.2.2))))
theorem oneZ_run {w0 : List UInt8} (z : Bool) (n i : Int) : runL (oneZ z ([w0, [51], [46], [48], [115]], i, (), (), 1)) 10 (1, (0, 0, 0, 0, 0, 0, 0, false, ()), (n, 0, 0, 0, 0, 0, 0, false, ())) = some (0, 5, (0, 0, 0, 0, 0, 0, 0, false, ()), (bif z then 5 else n, 3, 0, 0, 0, i, 0, false, ())) := by
  cases z <;> kernel_rfl
theorem one_s (w0 : List UInt8) (i : Int) : (T_hauberkref27_one ([w0, [51], [46], [48], [115]], i)).val = some (bif i == 0 then 5 else V_hauberkref27_op w0, 3, 0, 0, 0, i, 0, false, ()) := by
  have h : LoopN.res L_hauberkref27_one_3 ([w0, [51], [46], [48], [115]], i, (), (), 1) ((0, 0, 0, 0, 0, 0, 0, false, ()), (V_hauberkref27_op w0, 0, 0, 0, 0, 0, 0, false, ())) = some (0, 5, (0, 0, 0, 0, 0, 0, 0, false, ()), (bif i == 0 then 5 else V_hauberkref27_op w0, 3, 0, 0, 0, i, 0, false, ())) := oneZ_run (i == 0) (V_hauberkref27_op w0) i
  unfold T_hauberkref27_one
  dsimp only [PO.val]
  rw [show inRange 0 (List.length [w0, [51], [46], [48], [115]]) = true from rfl, show List.getD [w0, [51], [46], [48], [115]] (Int.toNat 0) (Ty.dflt Ty.str) = w0 from rfl, h]
  rfl
theorem one_sV (w0 : List UInt8) (i : Int) : G_hauberkref27_one ([w0, [51], [46], [48], [115]], i) = true ∧ V_hauberkref27_one ([w0, [51], [46], [48], [115]], i) = (bif i == 0 then 5 else V_hauberkref27_op w0, 3, 0, 0, 0, i, 0, false, ()) := by
  constructor
  · unfold G_hauberkref27_one; rw [one_s]; rfl
  · unfold V_hauberkref27_one PO.getO; rw [one_s]; rfl
/-- A reader's turn, with one's word and worth as parameters. -/
def readZ (g : List (List UInt8) → Bool) (v : List (List UInt8) → tIns.den) (x : shDens L_hauberkref27_read_5.ss) (s : L_hauberkref27_read_5.σ) : PO (TL L_hauberkref27_read_5.σ) :=
  (.ite (decide (s.2.2.2 < lenI x.1))
   (.ite (inRange s.2.2.2 (List.length x.1) && bif u8I (List.getD x.1 (Int.toNat s.2.2.2) 0) != 32 then inRange s.2.2.2 (List.length x.1) else true)
    (.ite (u8I (List.getD x.1 (Int.toNat s.2.2.2) 0) != 32 && u8I (List.getD x.1 (Int.toNat s.2.2.2) 0) != 59)
     (.ite (decide (0 ≤ w64 (s.2.2.2 + 1)) && decide (w64 (s.2.2.2 + 1) ≤ lenI x.1) && decide (0 ≤ s.2.2.2) && decide (s.2.2.2 ≤ w64 (s.2.2.2 + 1)) && Nat.ble (List.length s.2.2.1 + List.length (List.drop (Int.toNat s.2.2.2) (List.take (Int.toNat (w64 (s.2.2.2 + 1))) x.1))) 9223372036854775807)
      (.ret (.on (s.1, s.2.1, s.2.2.1 ++ List.drop (Int.toNat s.2.2.2) (List.take (Int.toNat (w64 (s.2.2.2 + 1))) x.1), w64 (s.2.2.2 + 1))))
      .fail)
     (.ite (Nat.ble ((List.length s.2.1 + List.length [s.2.2.1]) * 16) 140737488355328)
      (.ite (inRange s.2.2.2 (List.length x.1))
       (.ite (u8I (List.getD x.1 (Int.toNat s.2.2.2) 0) == 59)
        (.ite (g (s.2.1 ++ [s.2.2.1]))
         (.ite (Nat.ble ((List.length s.1 + List.length [v (s.2.1 ++ [s.2.2.1])]) * 64) 140737488355328)
          (.ret (.on (s.1 ++ [v (s.2.1 ++ [s.2.2.1])], [], [], w64 (s.2.2.2 + 1))))
          .fail)
         .fail)
        (.ret (.on (s.1, s.2.1 ++ [s.2.2.1], [], w64 (s.2.2.2 + 1)))))
       .fail)
      .fail))
    .fail)
   (.ret (.out 0 (s.1, s.2.1, s.2.2.1, s.2.2.2))))
theorem read_line (g : List (List UInt8) → Bool) (v : List (List UInt8) → tIns.den) (a b c : UInt8) (ha : a = 108 ∧ b = 115 ∧ (c = 108 ∨ c = 114) ∨ a = 114 ∧ b = 111 ∧ c = 114) (i : Int) (hg : g [[a, b, c], [51], [46], [48], [115]] = true) : runL (readZ g v ([a, b, c, 32, 51, 32, 46, 32, 48, 32, 115, 59], i, [], [], [], 0)) 200 ([], [], [], 0) = some (0, [v [[a, b, c], [51], [46], [48], [115]]], [], [], 12) := by
  have h1 : runL (readZ g v ([a, b, c, 32, 51, 32, 46, 32, 48, 32, 115, 59], i, [], [], [], 0)) 200 ([], [], [], 0) = runL (readZ g v ([a, b, c, 32, 51, 32, 46, 32, 48, 32, 115, 59], i, [], [], [], 0)) 189 ([], [[a, b, c], [51], [46], [48]], [115], 11) := by
    rcases ha with ⟨rfl, rfl, rfl | rfl⟩ | ⟨rfl, rfl, rfl⟩ <;> exact Eq.symm (Eq.symm (by kernel_rfl))
  have h2 : (readZ g v ([a, b, c, 32, 51, 32, 46, 32, 48, 32, 115, 59], i, [], [], [], 0) ([], [[a, b, c], [51], [46], [48]], [115], 11)).val = (bif g [[a, b, c], [51], [46], [48], [115]] then some (TL.on ([v [[a, b, c], [51], [46], [48], [115]]], [], [], 12)) else none) := by
    rcases ha with ⟨rfl, rfl, rfl | rfl⟩ | ⟨rfl, rfl, rfl⟩ <;> exact Eq.symm (Eq.symm (by kernel_rfl))
  rw [hg] at h2
  have h3 : runL (readZ g v ([a, b, c, 32, 51, 32, 46, 32, 48, 32, 115, 59], i, [], [], [], 0)) 188 ([v [[a, b, c], [51], [46], [48], [115]]], [], [], 12) = some (0, [v [[a, b, c], [51], [46], [48], [115]]], [], [], 12) := by
    rcases ha with ⟨rfl, rfl, rfl | rfl⟩ | ⟨rfl, rfl, rfl⟩ <;> exact Eq.symm (Eq.symm (by kernel_rfl))
  rw [h1]
  exact (runL_on h2).trans h3
theorem read_T (a b c : UInt8) (ha : a = 108 ∧ b = 115 ∧ (c = 108 ∨ c = 114) ∨ a = 114 ∧ b = 111 ∧ c = 114) (i : Int) : (T_hauberkref27_read ([a, b, c, 32, 51, 32, 46, 32, 48, 32, 115, 59], i)).val = some [(bif i == 0 then 5 else V_hauberkref27_op [a, b, c], 3, 0, 0, 0, i, 0, false, ())] := by
  obtain ⟨g1, v1⟩ := one_sV [a, b, c] i
  have h : LoopN.res L_hauberkref27_read_5 ([a, b, c, 32, 51, 32, 46, 32, 48, 32, 115, 59], i, [], [], [], 0) () = some (0, [V_hauberkref27_one ([[a, b, c], [51], [46], [48], [115]], i)], [], [], 12) :=
    read_line (fun w => G_hauberkref27_one (w, i)) (fun w => V_hauberkref27_one (w, i)) a b c ha i g1
  unfold T_hauberkref27_read
  dsimp only [PO.val]
  rw [h, v1]
  rfl

/-! ### Program and document alike -/

/-- What the document has between getting and putting. -/
def refInner (o : tOp.den) (s : tSpot.den) (r : Int) : List tIns.den :=
  bif o.1 == 1 then V_hauberkref27_Word (3, o.2.2.2.2.2.1) else bif o.1 == 6 then [(17, 4, 0, 1, 3, 0, 0, false, ())]
  else bif (bif o.1 == 18 then o.1 == 18 else o.1 == 19) then V_hauberkref27_element (o, s, r) else V_hauberkref27_read (V_hauberkref27_lines o.1, o.2.2.2.2.2.1)
def refG (o : tOp.den) : Bool := bif o.1 == 1 then true else bif o.1 == 6 then true else bif (bif o.1 == 18 then o.1 == 18 else o.1 == 19) then true else G_hauberkref27_read (V_hauberkref27_lines o.1, o.2.2.2.2.2.1)
theorem shift_V (op d m n : Int) : V_tmpl_shift (op, d, m, n) = (bif n == 0 then 5 else op, d, 0, m, 0, n, 0, false, ()) := rfl
theorem inner_same (k d a b c i : Int) (s : tSpot.den) (r : Int) (h : okOp (opI k d a b c i) s r = true) : refG (opI k d a b c i) = true ∧ refInner (opI k d a b c i) s r = V_tmpl_inner (opI k d a b c i, s, r) := by
  have hk := ok_kind h
  obtain ⟨_, hr, _, ht⟩ := ok_facts h
  have hsh : ∀ (x y z : UInt8) (ha : x = 108 ∧ y = 115 ∧ (z = 108 ∨ z = 114) ∨ x = 114 ∧ y = 111 ∧ z = 114), G_hauberkref27_read ([x, y, z, 32, 51, 32, 46, 32, 48, 32, 115, 59], i) = true ∧ V_hauberkref27_read ([x, y, z, 32, 51, 32, 46, 32, 48, 32, 115, 59], i) = [(bif i == 0 then 5 else V_hauberkref27_op [x, y, z], 3, 0, 0, 0, i, 0, false, ())] := fun x y z ha => by
    have := read_T x y z ha i
    exact ⟨by unfold G_hauberkref27_read; rw [this]; rfl, by unfold V_hauberkref27_read PO.getO; rw [this]; rfl⟩
  have mm : ∀ p q : List tIns.den, p = q → p = q := fun _ _ e => e
  rcases kinds k with rfl | rfl | rfl | rfl | rfl | rfl | rfl | rfl | rfl | rfl | rfl | rfl | rfl | rfl | rfl | rfl | rfl | rfl | rfl | h'
  case inr.inr.inr.inr.inr.inr.inr.inr.inr.inr.inr.inr.inr.inr.inr.inr.inr.inr.inr => exfalso; omega
  case inl => exact ⟨rfl, wordI_ref 3 i⟩
  case inr.inr.inr.inr.inr.inr.inr.inr.inr.inr.inl =>
    obtain ⟨q1, q2⟩ := hsh 108 115 108 (.inl ⟨rfl, rfl, .inl rfl⟩)
    have w1 : refG (opI 11 d a b c i) = G_hauberkref27_read ([108, 115, 108, 32, 51, 32, 46, 32, 48, 32, 115, 59], i) := by kernel_rfl
    have w2 : refInner (opI 11 d a b c i) s r = V_hauberkref27_read ([108, 115, 108, 32, 51, 32, 46, 32, 48, 32, 115, 59], i) := by kernel_rfl
    have w3 : V_tmpl_inner (opI 11 d a b c i, s, r) = [(bif i == 0 then 5 else 5, 3, 0, 0, 0, i, 0, false, ())] := by kernel_rfl
    have w4 : V_hauberkref27_op [108, 115, 108] = 5 := by kernel_rfl
    rw [w1, w2, w3, q1, q2, w4]
    exact ⟨rfl, rfl⟩
  case inr.inr.inr.inr.inr.inr.inr.inr.inr.inr.inr.inl =>
    obtain ⟨q1, q2⟩ := hsh 108 115 114 (.inl ⟨rfl, rfl, .inr rfl⟩)
    have w1 : refG (opI 12 d a b c i) = G_hauberkref27_read ([108, 115, 114, 32, 51, 32, 46, 32, 48, 32, 115, 59], i) := by kernel_rfl
    have w2 : refInner (opI 12 d a b c i) s r = V_hauberkref27_read ([108, 115, 114, 32, 51, 32, 46, 32, 48, 32, 115, 59], i) := by kernel_rfl
    have w3 : V_tmpl_inner (opI 12 d a b c i, s, r) = [(bif i == 0 then 5 else 6, 3, 0, 0, 0, i, 0, false, ())] := by kernel_rfl
    have w4 : V_hauberkref27_op [108, 115, 114] = 6 := by kernel_rfl
    rw [w1, w2, w3, q1, q2, w4]
    exact ⟨rfl, rfl⟩
  case inr.inr.inr.inr.inr.inr.inr.inr.inr.inr.inr.inr.inl =>
    obtain ⟨q1, q2⟩ := hsh 114 111 114 (.inr ⟨rfl, rfl, rfl⟩)
    have w1 : refG (opI 13 d a b c i) = G_hauberkref27_read ([114, 111, 114, 32, 51, 32, 46, 32, 48, 32, 115, 59], i) := by kernel_rfl
    have w2 : refInner (opI 13 d a b c i) s r = V_hauberkref27_read ([114, 111, 114, 32, 51, 32, 46, 32, 48, 32, 115, 59], i) := by kernel_rfl
    have w3 : V_tmpl_inner (opI 13 d a b c i, s, r) = [(bif i == 0 then 5 else 8, 3, 0, 0, 0, i, 0, false, ())] := by kernel_rfl
    have w4 : V_hauberkref27_op [114, 111, 114] = 8 := by kernel_rfl
    rw [w1, w2, w3, q1, q2, w4]
    exact ⟨rfl, rfl⟩
  case inr.inr.inr.inr.inr.inr.inr.inr.inr.inr.inr.inr.inr.inr.inr.inr.inr.inl =>
    obtain ⟨el, off, inn, u⟩ := s
    have he : (el : Int) = 1 ∨ (el : Int) = 4 := by
      have ht : V_tmpl_spot (opI 18 d a b c i, (el, off, inn, u)) = true := ht
      have ht : (bif (el : Int) == 1 then (decide ((off : Int) ≥ 0) && (decide ((off : Int) ≤ 65535) && bif inn then !((18 : Int) == 19) else true)) else ((el : Int) == 4 && (decide ((off : Int) ≥ 0) && (decide ((off : Int) ≤ 65535) && bif inn then !((18 : Int) == 19) else true)))) = true := ht
      cases h1 : ((el : Int) == 1)
      · rw [h1] at ht
        simp only [cond_false, Bool.and_eq_true, beq_iff_eq] at ht
        exact .inr ht.1
      · exact .inl (by simpa using h1)
    refine ⟨rfl, ?_⟩
    rcases hr with rfl | rfl <;> rcases he with rfl | rfl <;> (cases (inn : Bool)) <;> exact Eq.symm (Eq.symm (by kernel_rfl))
  case inr.inr.inr.inr.inr.inr.inr.inr.inr.inr.inr.inr.inr.inr.inr.inr.inr.inr.inl =>
    obtain ⟨el, off, inn, u⟩ := s
    have he : (el : Int) = 1 ∨ (el : Int) = 4 := by
      have ht : V_tmpl_spot (opI 19 d a b c i, (el, off, inn, u)) = true := ht
      have ht : (bif (el : Int) == 1 then (decide ((off : Int) ≥ 0) && (decide ((off : Int) ≤ 65535) && bif inn then !((19 : Int) == 19) else true)) else ((el : Int) == 4 && (decide ((off : Int) ≥ 0) && (decide ((off : Int) ≤ 65535) && bif inn then !((19 : Int) == 19) else true)))) = true := ht
      cases h1 : ((el : Int) == 1)
      · rw [h1] at ht
        simp only [cond_false, Bool.and_eq_true, beq_iff_eq] at ht
        exact .inr ht.1
      · exact .inl (by simpa using h1)
    refine ⟨rfl, ?_⟩
    rcases hr with rfl | rfl <;> rcases he with rfl | rfl <;> (cases (inn : Bool)) <;> exact Eq.symm (Eq.symm (by kernel_rfl))
  all_goals exact ⟨by kernel_rfl, by kernel_rfl⟩
end Go.Av
