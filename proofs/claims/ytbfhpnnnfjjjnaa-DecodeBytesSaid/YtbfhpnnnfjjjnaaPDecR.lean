/- Layer 3: the document's reader of a row's letters, as a fold. Written by wip/tools/decref.py. Layer 3: the document's reader: what it comes to. Layer 3: what the document reads of a row has just these bits. Written by wip/tools/decsnd.py. Layer 3: the document's decoder is the program's. Written by wip/tools/decbytes.py. -/
import Derived.Test.YtbfhpnnnfjjjnaaPDecLaw2
/-! Layer 3: the document's reader of a row's letters, as a fold. Written by wip/tools/decref.py. -/
namespace Go.Av
open Go
def Rd.num (s : Rd) (op : Int) (w : Bool) (k : Nat) : L_hauberkref03_read_8.σ := (false, bN s.x, bN s.y, bN s.t, (k : Int), zI, (op, H s.d, H s.n, H s.m, H s.a, ((immN s.imm : Nat) : Int), H s.c, w, ()), H s.w)
/-- Is a fixed letter another one than the bit? -/
def fx (c : UInt8) (b : Bool) : Bool := bif c == 48 then b else c == 49 && !b
structure Rd.Ok (s : Rd) (k : Nat) : Prop where
  d : s.d.length ≤ k
  n : s.n.length ≤ k
  m : s.m.length ≤ k
  a : s.a.length ≤ k
  c : s.c.length ≤ k
  w : s.w.length ≤ k
  imm : immN s.imm ≤ k * 16777216
theorem H_step {l : List Bool} (h : l.length ≤ 40) (b : Bool) : w64 (w64 (2 * H l) + bN b) = H (l ++ [b]) := by
  have h1 := H_nonneg l
  have h2 := H_lt h
  have p : (2 ^ 40 : Nat) = 1099511627776 := by decide
  rw [p] at h2
  have e : H (l ++ [b]) = 2 * H l + bN b := by
    unfold H bN
    rw [hb_append]
    have : hb [b] 0 = b.toNat := by cases b <;> rfl
    rw [this]
    rw [List.length_singleton, Nat.pow_one]
    omega
  have hb : 0 ≤ bN b ∧ bN b ≤ 1 := by cases b <;> exact ⟨by decide, by decide⟩
  rw [e, w64_id (n := 2 * H l) (by omega) (by omega), w64_id (by omega) (by omega)]
theorem step_ok {s : Rd} {k : Nat} (h : s.Ok k) (c : UInt8) (b : Bool) : (s.step c b).Ok (k + 1) := by
  have one : ∀ (z : Bool) (l : List Bool), l.length ≤ k → (bif z then l ++ [b] else l).length ≤ k + 1 := by
    intro z l hl
    cases z
    · exact Nat.le_succ_of_le hl
    · show (l ++ [b]).length ≤ k + 1
      rw [List.length_append, List.length_singleton]
      omega
  refine ⟨one _ _ h.d, one _ _ h.n, one _ _ h.m, one _ _ h.a, one _ _ h.c, one _ _ h.w, ?_⟩
  show immN (bif isBig c then s.imm ++ [(c.toNat - 65, b)] else s.imm) ≤ (k + 1) * 16777216
  have hi := h.imm
  rw [Nat.succ_mul]
  generalize k * 16777216 = K at hi ⊢
  cases hc : isBig c
  · show immN s.imm ≤ K + 16777216
    omega
  · show immN (s.imm ++ [(c.toNat - 65, b)]) ≤ K + 16777216
    rw [immN_append]
    unfold isBig at hc
    rw [Bool.and_eq_true, Nat.ble_eq, Nat.ble_eq] at hc
    have hp : 2 ^ (c.toNat - 65) ≤ 2 ^ 24 := pow_lt (by omega)
    have h1 : b.toNat * 2 ^ (c.toNat - 65) ≤ 1 * 2 ^ 24 := Nat.mul_le_mul (by cases b <;> decide) hp
    have : 1 * 2 ^ 24 = 16777216 := rfl
    omega
theorem digit_of (b : Bool) : w64 (IntKind.wrap IntKind.u8 (u8I (bif b then 49 else 48) - 48)) = bN b := by cases b <;> rfl
theorem tx_get (l : List Bool) (k : Nat) (h : k < l.length) : (tx l).getD k 0 = (bif l[k] then 49 else 48) := by
  unfold tx
  rw [List.getD_eq_getElem?_getD, List.getElem?_map, List.getElem?_eq_getElem h]
  rfl
section
variable (op : Int) (w : Bool) (p : List UInt8) (l : List Bool) (hl : p.length = l.length) (h32 : p.length ≤ 32) (hrow : rowOf p = true)
include hl h32 hrow
theorem read_turn (s : Rd) (k : Nat) (hk : k < p.length) (ho : s.Ok k) : ∃ st : L_hauberkref03_read_8.σ, st.1 = false ∧ st.2.2.2.2.2.1 = zI ∧
    (L_hauberkref03_read_8.turn (op, w, tx l, (), false, p, (), (), 0, 0, 0, 0) (zI, (op, 0, 0, 0, 0, 0, 0, w, ()), 0) (s.num op w k)).val = (bif fx p[k] l[k] then some (TL.out 1 st) else some (TL.on ((s.step p[k] l[k]).num op w (k + 1)))) := by
  have hk2 : k < l.length := by omega
  have hk3 : k < (tx l).length := by rw [tx_len]; exact hk2
  have hw : w64 ((k : Int) + 1) = ((k + 1 : Nat) : Int) := by rw [w64_id (by omega) (by omega)]; omega
  have hlet : isLetter (u8I p[k]) = true := List.all_eq_true.1 hrow _ (List.getElem_mem hk)
  have hd := H_step (l := s.d) (Nat.le_trans ho.d (by omega)) l[k]
  have hn := H_step (l := s.n) (Nat.le_trans ho.n (by omega)) l[k]
  have hm := H_step (l := s.m) (Nat.le_trans ho.m (by omega)) l[k]
  have ha := H_step (l := s.a) (Nat.le_trans ho.a (by omega)) l[k]
  have hc := H_step (l := s.c) (Nat.le_trans ho.c (by omega)) l[k]
  have hww := H_step (l := s.w) (Nat.le_trans ho.w (by omega)) l[k]
  have hi := ho.imm
  refine ⟨(false, bN s.x, bN s.y, bN s.t, (k : Int), zI, (op, H s.d, H s.n, H s.m, H s.a, ((immN s.imm : Nat) : Int), H s.c, w, ()), H s.w), rfl, rfl, ?_⟩
  unfold Rd.num
  dsimp only [L_hauberkref03_read_8, PO.val]
  rw [dec_true (p := (k : Int) < lenI p) (by simp only [lenI]; omega), inR hk, inR hk3, getD_nat, getD_nat, getD_in p _ hk, tx_get l k hk2, hw, digit_of]
  generalize l[k] = b at hd hn hm ha hc hww ⊢
  generalize p[k] = c at hlet ⊢
  have e8 : ∀ v : UInt8, c ≠ v → (c == v) = false := fun v h => beq_eq_false_iff_ne.2 h
  have key : c = 48 ∨ c = 49 ∨ c = 100 ∨ c = 110 ∨ c = 109 ∨ c = 97 ∨ c = 99 ∨ c = 119 ∨ c = 120 ∨ c = 121 ∨ (65 ≤ c.toNat ∧ c.toNat ≤ 89) := by
    have t : ∀ v : UInt8, (u8I c == u8I v) = true → c = v := fun v h => by
      rw [u8_eq, beq_iff_eq] at h; exact h
    simp only [isLetter, Bool.or_eq_true, Bool.and_eq_true, decide_eq_true_eq] at hlet
    rcases hlet with h | h | h | h | h | h | h | h | h | h | ⟨h1, h2⟩
    · exact .inl (t 48 h)
    · exact .inr (.inl (t 49 h))
    · exact .inr (.inr (.inl (t 100 h)))
    · exact .inr (.inr (.inr (.inl (t 110 h))))
    · exact .inr (.inr (.inr (.inr (.inl (t 109 h)))))
    · exact .inr (.inr (.inr (.inr (.inr (.inl (t 97 h))))))
    · exact .inr (.inr (.inr (.inr (.inr (.inr (.inl (t 99 h)))))))
    · exact .inr (.inr (.inr (.inr (.inr (.inr (.inr (.inl (t 119 h))))))))
    · exact .inr (.inr (.inr (.inr (.inr (.inr (.inr (.inr (.inl (t 120 h)))))))))
    · exact .inr (.inr (.inr (.inr (.inr (.inr (.inr (.inr (.inr (.inl (t 121 h))))))))))
    · exact .inr (.inr (.inr (.inr (.inr (.inr (.inr (.inr (.inr (.inr ⟨by unfold u8I at h1; omega, by unfold u8I at h2; omega⟩)))))))))
  rcases key with rfl | rfl | rfl | rfl | rfl | rfl | rfl | rfl | rfl | rfl | ⟨h1, h2⟩
  · cases b <;> rfl
  · cases b <;> rfl
  · rw [hd]; rfl
  · rw [hn]; rfl
  · rw [hm]; rfl
  · rw [ha]; rfl
  · rw [hc]; rfl
  · rw [hww]; rfl
  · rfl
  · rfl
  · have f : ∀ v : Int, v < 65 ∨ 89 < v → (u8I c == v) = false := fun v h => by
      rw [beq_eq_false_iff_ne]; unfold u8I; omega
    have g : ∀ v : UInt8, v.toNat < 65 ∨ 89 < v.toNat → (c == v) = false := fun v h => by
      rw [beq_eq_false_iff_ne]; rintro rfl; omega
    have hbig : isBig c = true := by unfold isBig; rw [Bool.and_eq_true, Nat.ble_eq, Nat.ble_eq]; exact ⟨h1, h2⟩
    have hsub : w64 (IntKind.wrap IntKind.u8 (u8I c - 65)) = ((c.toNat - 65 : Nat) : Int) := by
      have : IntKind.wrap IntKind.u8 (u8I c - 65) = ((c.toNat - 65 : Nat) : Int) := by
        show (u8I c - 65) % 256 = _
        unfold u8I
        omega
      rw [this, w64_id (by omega) (by omega)]
    have hpow : G_hauberkref03_power ((c.toNat - 65 : Nat) : Int) = true := by
      simp only [G_hauberkref03_power, Bool.and_eq_true, decide_eq_true_eq]
      exact ⟨by show (0 : Int) ≤ ((c.toNat - 65 : Nat) : Int); omega, by show ((c.toNat - 65 : Nat) : Int) ≤ 62; omega⟩
    have hpv : V_hauberkref03_power ((c.toNat - 65 : Nat) : Int) = ((2 ^ (c.toNat - 65) : Nat) : Int) := by
      show ((2 ^ (((c.toNat - 65 : Nat) : Int)).toNat : Nat) : Int) = _
      rw [Int.toNat_natCast]
    have hp : 2 ^ (c.toNat - 65) ≤ 2 ^ 24 := pow_lt (by omega)
    have hsum : w64 (((immN s.imm : Nat) : Int) + w64 (bN b * ((2 ^ (c.toNat - 65) : Nat) : Int))) = ((immN (s.imm ++ [(c.toNat - 65, b)]) : Nat) : Int) := by
      rw [immN_append]
      have e : bN b * ((2 ^ (c.toNat - 65) : Nat) : Int) = ((b.toNat * 2 ^ (c.toNat - 65) : Nat) : Int) := by unfold bN; rw [Int.natCast_mul]
      have h3 : b.toNat * 2 ^ (c.toNat - 65) ≤ 1 * 2 ^ 24 := Nat.mul_le_mul (by cases b <;> decide) hp
      have h4 : 1 * 2 ^ 24 = 16777216 := rfl
      rw [e]
      generalize b.toNat * 2 ^ (c.toNat - 65) = q at *
      rw [w64_id (n := (q : Int)) (by omega) (by omega), w64_id (by omega) (by omega)]
      omega
    have hb89 : (u8I c == 89) = (c == 89) := u8_eq c 89
    rw [f 48 (by omega), f 49 (by omega), f 100 (by omega), f 110 (by omega), f 109 (by omega), f 97 (by omega), f 99 (by omega), f 119 (by omega), f 120 (by omega), f 121 (by omega), hsub, hpow, hpv, hb89]
    unfold fx Rd.step
    rw [g 48 (by decide), g 49 (by decide), g 120 (by decide), g 121 (by decide), g 100 (by decide), g 110 (by decide), g 109 (by decide), g 97 (by decide), g 99 (by decide), g 119 (by decide), hbig]
    dsimp only [cond_true, cond_false, Bool.and_true, Bool.true_and, Bool.false_and]
    rw [hsum]
    cases c == 89 <;> rfl
/-- All letters read, or a fixed one that is unlike. -/
theorem read_run : ∀ (m k : Nat) (s : Rd), k + m = p.length → s.Ok k → ∀ f, m < f →
    ∃ st : L_hauberkref03_read_8.σ, runL (L_hauberkref03_read_8.turn (op, w, tx l, (), false, p, (), (), 0, 0, 0, 0) (zI, (op, 0, 0, 0, 0, 0, 0, w, ()), 0)) f (s.num op w k) = some (bif ((p.drop k).zip (l.drop k)).any (fun q => fx q.1 q.2) then (1, st) else (0, (((p.drop k).zip (l.drop k)).foldl (fun s q => s.step q.1 q.2) s).num op w p.length)) ∧ st.1 = false ∧ st.2.2.2.2.2.1 = zI
  | 0, k, s, h, ho, f, hf => by
    obtain ⟨f, rfl⟩ : ∃ g, f = g + 1 := ⟨f - 1, by omega⟩
    refine ⟨s.num op w k, ?_, rfl, rfl⟩
    rw [List.drop_of_length_le (by omega), List.drop_of_length_le (by omega)]
    refine (runL_out (c := 0) (s' := s.num op w k) ?_).trans (by rw [show k = p.length by omega]; rfl)
    unfold Rd.num
    dsimp only [L_hauberkref03_read_8, PO.val]
    rw [dec_false (p := (k : Int) < lenI p) (by simp only [lenI]; omega)]
    rfl
  | m + 1, k, s, h, ho, f, hf => by
    obtain ⟨f, rfl⟩ : ∃ g, f = g + 1 := ⟨f - 1, by omega⟩
    have hk : k < p.length := by omega
    obtain ⟨st, s1, s2, e⟩ := read_turn op w p l hl h32 hrow s k hk ho
    rw [List.drop_eq_getElem_cons hk, List.drop_eq_getElem_cons (show k < l.length by omega), List.zip_cons_cons, List.any_cons, List.foldl_cons]
    cases hfx : fx p[k] l[k]
    · rw [hfx] at e
      obtain ⟨st2, h2, h3, h4⟩ := read_run m (k + 1) (s.step p[k] l[k]) (by omega) (step_ok ho _ _) f (by omega)
      exact ⟨st2, (runL_on e).trans h2, h3, h4⟩
    · rw [hfx] at e
      exact ⟨st, runL_out e, s1, s2⟩
end
end Go.Av
/-! Layer 3: the document's reader: what it comes to. -/
namespace Go.Av
open Go
theorem rows_ok (op : Int) (w : Bool) : rowOf (V_hauberkref02_Bits (op, w)) = true ∧ (V_hauberkref02_Bits (op, w)).length ≤ 32 := by
  rcases op_cases op with rfl | rfl | rfl | rfl | rfl | rfl | rfl | rfl | rfl | rfl | rfl | rfl | rfl | rfl | rfl | rfl | rfl | rfl | rfl | rfl | rfl | rfl | rfl | rfl | rfl | hop
  case inr.inr.inr.inr.inr.inr.inr.inr.inr.inr.inr.inr.inr.inr.inr.inr.inr.inr.inr.inr.inr.inr.inr.inr.inr =>
    rw [bits_none hop]
    exact ⟨rfl, Nat.zero_le _⟩
  all_goals cases w <;> exact ⟨rfl, Nat.le_of_ble_eq_true rfl⟩
/-- Has a row a fixed letter that is unlike? -/
def badR (op : Int) (w : Bool) (l : List Bool) : Bool := ((V_hauberkref02_Bits (op, w)).zip l).any fun q => fx q.1 q.2
theorem gsign {z : Int} {n : Nat} (hn : n ≤ 24) (h1 : -4294967296 ≤ z) (h2 : z < 4294967296) : G_hauberkref03_sign (z, (n : Int)) = true := by
  show (decide ((0 : Int) ≤ (n : Int)) && (decide ((n : Int) ≤ 24) && (decide ((-4294967296 : Int) ≤ z) && decide (z < 4294967296)))) = true
  rw [dec_true (by omega), dec_true (by omega), dec_true h1, dec_true h2]
  rfl
theorem fold_ok : ∀ (q : List (UInt8 × Bool)) (s : Rd) (k : Nat), s.Ok k → (q.foldl (fun s q => s.step q.1 q.2) s).Ok (k + q.length)
  | [], _, _, h => h
  | a :: q, s, k, h => by
    have := fold_ok q (s.step a.1 a.2) (k + 1) (step_ok h _ _)
    rw [List.length_cons, show k + (q.length + 1) = k + 1 + q.length by omega]
    exact this
theorem bN_val (b : Bool) : bN b = 0 ∨ bN b = 1 := by cases b <;> simp [bN]
theorem val_yes {α : Type} {b : Bool} {p q : PO α} (h : b = true) : (PO.ite b p q).val = p.val := by subst h; rfl
theorem val_no {α : Type} {b : Bool} {p q : PO α} (h : b = false) : (PO.ite b p q).val = q.val := by subst h; rfl
theorem val_opt {α β : Type} {o : Option β} {r : β} {k : β → PO α} (h : o = some r) : (PO.opt o k).val = (k r).val := by subst h; rfl
theorem sign24 (s : Rd) (himm : immN s.imm ≤ 536870912) : G_hauberkref03_sign (w64 (w64 (((immN s.imm : Nat) : Int) + w64 (Int.tmod (w64 (w64 (bN s.x + bN s.t) + 1)) 2 * V_hauberkref03_power 23)) + w64 (Int.tmod (w64 (w64 (bN s.y + bN s.t) + 1)) 2 * V_hauberkref03_power 22)), 24) = true := by
  have p1 : ∀ a b : Bool, w64 (Int.tmod (w64 (w64 (bN a + bN b) + 1)) 2 * V_hauberkref03_power 23) = 0 ∨ w64 (Int.tmod (w64 (w64 (bN a + bN b) + 1)) 2 * V_hauberkref03_power 23) = 8388608 := by
    intro a b
    cases a <;> cases b <;> first | exact .inl rfl | exact .inr rfl
  have p2 : ∀ a b : Bool, w64 (Int.tmod (w64 (w64 (bN a + bN b) + 1)) 2 * V_hauberkref03_power 22) = 0 ∨ w64 (Int.tmod (w64 (w64 (bN a + bN b) + 1)) 2 * V_hauberkref03_power 22) = 4194304 := by
    intro a b
    cases a <;> cases b <;> first | exact .inl rfl | exact .inr rfl
  have q1 := p1 s.x s.t
  have q2 := p2 s.y s.t
  generalize w64 (Int.tmod (w64 (w64 (bN s.x + bN s.t) + 1)) 2 * V_hauberkref03_power 23) = u at *
  generalize w64 (Int.tmod (w64 (w64 (bN s.y + bN s.t) + 1)) 2 * V_hauberkref03_power 22) = v at *
  rw [w64_id (n := ((immN s.imm : Nat) : Int) + u) (by omega) (by omega), w64_id (n := ((immN s.imm : Nat) : Int) + u + v) (by omega) (by omega)]
  exact gsign (n := 24) (by omega) (by omega) (by omega)
/-- The document's reader. -/
theorem refread_T (op : Int) (w : Bool) (l : List Bool) (hlen : (V_hauberkref02_Bits (op, w)).length = l.length) (hne : V_hauberkref02_Bits (op, w) ≠ []) :
    (T_hauberkref03_read (op, w, tx l)).val = some (bif badR op w l then (zI, false, ()) else (iRow op w l, V_hauberkref02_Check (iRow op w l) == 0, ())) := by
  obtain ⟨hrow, h32⟩ := rows_ok op w
  obtain ⟨st, h1, h2, h3⟩ := read_run op w (V_hauberkref02_Bits (op, w)) l hlen h32 hrow (V_hauberkref02_Bits (op, w)).length 0 Rd.zero (by omega) ⟨Nat.zero_le _, Nat.zero_le _, Nat.zero_le _, Nat.zero_le _, Nat.zero_le _, Nat.zero_le _, Nat.zero_le _⟩ 40 (by omega)
  have hok := fold_ok ((V_hauberkref02_Bits (op, w)).zip l) Rd.zero 0 ⟨Nat.zero_le _, Nat.zero_le _, Nat.zero_le _, Nat.zero_le _, Nat.zero_le _, Nat.zero_le _, Nat.zero_le _⟩
  rw [List.drop_zero, List.drop_zero] at h1
  have himm := hok.imm
  rw [Nat.zero_add, List.length_zip] at himm
  have h1 : LoopN.res L_hauberkref03_read_8 (op, w, tx l, (), false, V_hauberkref02_Bits (op, w), (), (), 0, 0, 0, 0) (zI, (op, 0, 0, 0, 0, 0, 0, w, ()), 0) = some (bif badR op w l then (1, st) else (0, (foldR (V_hauberkref02_Bits (op, w)) l).num op w (V_hauberkref02_Bits (op, w)).length)) := h1
  have himm : immN (foldR (V_hauberkref02_Bits (op, w)) l).imm ≤ 536870912 := by
    have hm : min (V_hauberkref02_Bits (op, w)).length l.length ≤ 32 := Nat.le_trans (Nat.min_le_left ..) h32
    unfold foldR
    generalize immN _ = I at himm ⊢
    generalize min (V_hauberkref02_Bits (op, w)).length l.length = M at *
    omega
  have c1 : (lenI (V_hauberkref02_Bits (op, w)) != lenI (tx l) || V_hauberkref02_Bits (op, w) == []) = false := by
    rw [Bool.or_eq_false_iff]
    refine ⟨?_, beq_eq_false_iff_ne.2 hne⟩
    simp only [lenI, tx_len, hlen, bne_self_eq_false]
  have hg := fun x => check_ok x
  have key : ∀ b : Bool, b = false ∨ b = true := by decide
  unfold T_hauberkref03_read
  dsimp only
  refine (val_no c1).trans ((val_opt h1).trans ?_)
  rcases key (badR op w l) with hb | hb
  · rw [hb]
    refine (val_yes (rfl : way 0 = true)).trans ?_
    have hi : iRow op w l = finR op w (foldR (V_hauberkref02_Bits (op, w)) l) := rfl
    rw [hi]
    generalize foldR (V_hauberkref02_Bits (op, w)) l = s at himm
    have s24 := sign24 s himm
    have s11 : G_hauberkref03_sign (((immN s.imm : Nat) : Int), 11) = true := gsign (n := 11) (by omega) (by omega) (by omega)
    have s20 : G_hauberkref03_sign (((immN s.imm : Nat) : Int), 20) = true := gsign (n := 20) (by omega) (by omega) (by omega)
    have s8 : G_hauberkref03_sign (((immN s.imm : Nat) : Int), 8) = true := gsign (n := 8) (by omega) (by omega) (by omega)
    rcases key (op == 18) with h18 | h18
    · refine (val_no h18).trans ?_
      rcases key ((op == 24 && w)) with h24w | h24w
      · refine (val_no h24w).trans ?_
        rcases key (op == 24) with h24 | h24
        · refine (val_no h24).trans ?_
          rcases key ((op == 25 && w)) with h25w | h25w
          · refine (val_no h25w).trans ?_
            rcases key (op == 25) with h25 | h25
            · refine (val_no h25).trans ((val_yes (hg _)).trans ?_)
              unfold finR
              rw [h18, h24w, h24, h25w, h25]
              rfl
            · refine (val_yes h25).trans ((val_yes s8).trans ((val_yes (hg _)).trans ?_))
              unfold finR
              rw [h18, h24w, h24, h25w, h25]
              rfl
          · refine (val_yes h25w).trans ((val_yes s20).trans ((val_yes (hg _)).trans ?_))
            unfold finR
            rw [h18, h24w, h24, h25w]
            rfl
        · refine (val_yes h24).trans ((val_yes s11).trans ((val_yes (hg _)).trans ?_))
          unfold finR
          rw [h18, h24w, h24]
          rfl
      · refine (val_yes h24w).trans ((val_yes (rfl : G_hauberkref03_power 23 = true)).trans ((val_yes (rfl : G_hauberkref03_power 22 = true)).trans ((val_yes s24).trans ((val_yes (hg _)).trans ?_))))
        unfold finR
        rw [h18, h24w]
        rfl
    · refine (val_yes h18).trans ((val_yes (hg _)).trans ?_)
      unfold finR
      rw [h18]
      rfl
  · rw [hb]
    refine (val_no (rfl : way 1 = false)).trans ?_
    show some (st.2.2.2.2.2.1, st.1, ()) = _
    rw [h2, h3]
    rfl
theorem refread_none (op : Int) (w : Bool) (l : List Bool) (h : (V_hauberkref02_Bits (op, w)).length ≠ l.length ∨ V_hauberkref02_Bits (op, w) = []) : (T_hauberkref03_read (op, w, tx l)).val = some (zI, false, ()) := by
  have c1 : (lenI (V_hauberkref02_Bits (op, w)) != lenI (tx l) || V_hauberkref02_Bits (op, w) == []) = true := by
    rw [Bool.or_eq_true]
    rcases h with h | h
    · left
      rw [bne_iff_ne]
      simp only [lenI, tx_len]
      omega
    · right
      rw [h]
      rfl
  unfold T_hauberkref03_read PO.val
  dsimp only
  rw [c1]
  rfl
theorem fx48 {x : Bool} (h : fx 48 x = false) : x = false := h
theorem fx49 {x : Bool} (h : fx 49 x = false) : x = true := by cases x
                                                               · cases h
                                                               · rfl
/-- Bits that have a row's fixed letters are like them. -/
theorem bad_hl {g : UInt8 → Nat → Bool} (h0 : ∀ f, g 48 f = false) (h1 : ∀ f, g 49 f = true) : ∀ p : List UInt8, (p.zip (hl g p)).any (fun q => fx q.1 q.2) = false
  | [] => rfl
  | c :: p => by
    show (fx c (g c (fol c p)) || (p.zip (hl g p)).any (fun q => fx q.1 q.2)) = false
    rw [bad_hl h0 h1 p, Bool.or_false]
    unfold fx
    cases hc : c == 48
    · cases hc1 : c == 49
      · rfl
      · have : c = 49 := by simpa using hc1
        rw [this, h1]
        rfl
    · have : c = 48 := by simpa using hc
      rw [this, h0]
      rfl
end Go.Av
/-! Layer 3: what the document reads of a row has just these bits. Written by wip/tools/decsnd.py. -/
namespace Go.Av
open Go
theorem row_facts {op rd rn rm ra imm cond : Int} {w : Bool} (h : V_hauberkref02_Check (op, rd, rn, rm, ra, imm, cond, w, ()) = 0) :
    le12 rd = true ∧ le12 rn = true ∧ le12 rm = true ∧ (op = 17 → le12 ra = true ∧ rd ≠ ra) ∧ (op = 18 → ra ≥ 1) ∧ (6 ≤ op → op ≤ 8 → imm > 0) ∧ (op = 25 → cond ≤ 13) := by
  rw [← check_same] at h
  obtain ⟨_, ⟨_, h1⟩, ⟨_, h2⟩, ⟨_, h3⟩, h4, _, _, h5, h6⟩ := check_bounds h
  refine ⟨dec_true h1, dec_true h2, dec_true h3, fun e => ⟨dec_true (h4 e).2.1, fun e2 => (h4 e).2.2 e2.symm⟩, fun e => (h5 e).1, fun a b => by have := h6 a b; omega, fun e => ?_⟩
  subst e
  have hk := (check_iff 25 rd rn rm ra imm cond w).1 h
  have hk : (rd == 0 && (rn == 0 && (rm == 0 && (ra == 0 && (bw cond 0 13 && (imm % 2 == 0 && bif w then bw imm (-1048576) 1048574 else bw imm (-256) 254)))))) = true := hk
  simp only [Bool.and_eq_true, decide_eq_true_eq] at hk
  exact hk.2.2.2.2.1.2
theorem sd_1 (x0 x1 x2 x3 x4 x5 x6 x7 x8 x9 x10 x11 x12 x13 x14 x15 : Bool) (hb : badR 1 false [x0, x1, x2, x3, x4, x5, x6, x7, x8, x9, x10, x11, x12, x13, x14, x15] = false) (hc : V_hauberkref02_Check (iRow 1 false [x0, x1, x2, x3, x4, x5, x6, x7, x8, x9, x10, x11, x12, x13, x14, x15]) = 0) : Enc1 (iRow 1 false [x0, x1, x2, x3, x4, x5, x6, x7, x8, x9, x10, x11, x12, x13, x14, x15]) [x0, x1, x2, x3, x4, x5, x6, x7, x8, x9, x10, x11, x12, x13, x14, x15] ∧ (iRow 1 false [x0, x1, x2, x3, x4, x5, x6, x7, x8, x9, x10, x11, x12, x13, x14, x15]).1 = 1 ∧ (iRow 1 false [x0, x1, x2, x3, x4, x5, x6, x7, x8, x9, x10, x11, x12, x13, x14, x15]).2.2.2.2.2.2.2.1 = false := by
  have hb : (fx 49 x0 || (fx 48 x1 || (fx 49 x2 || (fx 49 x3 || (fx 49 x4 || (fx 49 x5 || (fx 49 x6 || (fx 49 x7 || (fx 48 x8 || (fx 48 x9 || (fx 48 x10 || (fx 48 x11 || (fx 48 x12 || (fx 48 x13 || (fx 48 x14 || (fx 48 x15 || false)))))))))))))))) = false := hb
  simp only [Bool.or_eq_false_iff] at hb
  obtain ⟨h0, h1, h2, h3, h4, h5, h6, h7, h8, h9, h10, h11, h12, h13, h14, h15, _⟩ := hb
  obtain rfl := fx49 h0
  obtain rfl := fx48 h1
  obtain rfl := fx49 h2
  obtain rfl := fx49 h3
  obtain rfl := fx49 h4
  obtain rfl := fx49 h5
  obtain rfl := fx49 h6
  obtain rfl := fx49 h7
  obtain rfl := fx48 h8
  obtain rfl := fx48 h9
  obtain rfl := fx48 h10
  obtain rfl := fx48 h11
  obtain rfl := fx48 h12
  obtain rfl := fx48 h13
  obtain rfl := fx48 h14
  obtain rfl := fx48 h15
  have q := rr_1 
  rw [q] at hc
  have f := row_facts hc
  rw [q]
  exact ⟨⟨1, _, _, _, _, _, _, false, rfl, q, fw_1  ⟩, rfl, rfl⟩
theorem sd_2 (x0 x1 x2 x3 x4 x5 x6 x7 x8 x9 x10 x11 x12 x13 x14 x15 : Bool) (hb : badR 2 false [x0, x1, x2, x3, x4, x5, x6, x7, x8, x9, x10, x11, x12, x13, x14, x15] = false) (hc : V_hauberkref02_Check (iRow 2 false [x0, x1, x2, x3, x4, x5, x6, x7, x8, x9, x10, x11, x12, x13, x14, x15]) = 0) : Enc1 (iRow 2 false [x0, x1, x2, x3, x4, x5, x6, x7, x8, x9, x10, x11, x12, x13, x14, x15]) [x0, x1, x2, x3, x4, x5, x6, x7, x8, x9, x10, x11, x12, x13, x14, x15] ∧ (iRow 2 false [x0, x1, x2, x3, x4, x5, x6, x7, x8, x9, x10, x11, x12, x13, x14, x15]).1 = 2 ∧ (iRow 2 false [x0, x1, x2, x3, x4, x5, x6, x7, x8, x9, x10, x11, x12, x13, x14, x15]).2.2.2.2.2.2.2.1 = false := by
  have hb : (fx 49 x0 || (fx 48 x1 || (fx 49 x2 || (fx 49 x3 || (fx 49 x4 || (fx 49 x5 || (fx 49 x6 || (fx 48 x7 || (fx 72 x8 || (fx 71 x9 || (fx 70 x10 || (fx 69 x11 || (fx 68 x12 || (fx 67 x13 || (fx 66 x14 || (fx 65 x15 || false)))))))))))))))) = false := hb
  simp only [Bool.or_eq_false_iff] at hb
  obtain ⟨h0, h1, h2, h3, h4, h5, h6, h7, _, _, _, _, _, _, _, _, _⟩ := hb
  obtain rfl := fx49 h0
  obtain rfl := fx48 h1
  obtain rfl := fx49 h2
  obtain rfl := fx49 h3
  obtain rfl := fx49 h4
  obtain rfl := fx49 h5
  obtain rfl := fx49 h6
  obtain rfl := fx48 h7
  have q := rr_2 x8 x9 x10 x11 x12 x13 x14 x15
  rw [q] at hc
  have f := row_facts hc
  rw [q]
  exact ⟨⟨2, _, _, _, _, _, _, false, rfl, q, fw_2 x8 x9 x10 x11 x12 x13 x14 x15 ⟩, rfl, rfl⟩
theorem sd_3 (x0 x1 x2 x3 x4 x5 x6 x7 x8 x9 x10 x11 x12 x13 x14 x15 y0 y1 y2 y3 y4 y5 y6 y7 y8 y9 y10 y11 y12 y13 y14 y15 : Bool) (hb : badR 3 false [x0, x1, x2, x3, x4, x5, x6, x7, x8, x9, x10, x11, x12, x13, x14, x15, y0, y1, y2, y3, y4, y5, y6, y7, y8, y9, y10, y11, y12, y13, y14, y15] = false) (hc : V_hauberkref02_Check (iRow 3 false [x0, x1, x2, x3, x4, x5, x6, x7, x8, x9, x10, x11, x12, x13, x14, x15, y0, y1, y2, y3, y4, y5, y6, y7, y8, y9, y10, y11, y12, y13, y14, y15]) = 0) : Enc2 (iRow 3 false [x0, x1, x2, x3, x4, x5, x6, x7, x8, x9, x10, x11, x12, x13, x14, x15, y0, y1, y2, y3, y4, y5, y6, y7, y8, y9, y10, y11, y12, y13, y14, y15]) [x0, x1, x2, x3, x4, x5, x6, x7, x8, x9, x10, x11, x12, x13, x14, x15] [y0, y1, y2, y3, y4, y5, y6, y7, y8, y9, y10, y11, y12, y13, y14, y15] ∧ (iRow 3 false [x0, x1, x2, x3, x4, x5, x6, x7, x8, x9, x10, x11, x12, x13, x14, x15, y0, y1, y2, y3, y4, y5, y6, y7, y8, y9, y10, y11, y12, y13, y14, y15]).1 = 3 ∧ (iRow 3 false [x0, x1, x2, x3, x4, x5, x6, x7, x8, x9, x10, x11, x12, x13, x14, x15, y0, y1, y2, y3, y4, y5, y6, y7, y8, y9, y10, y11, y12, y13, y14, y15]).2.2.2.2.2.2.2.1 = false := by
  have hb : (fx 49 x0 || (fx 49 x1 || (fx 49 x2 || (fx 49 x3 || (fx 48 x4 || (fx 76 x5 || (fx 49 x6 || (fx 48 x7 || (fx 48 x8 || (fx 49 x9 || (fx 48 x10 || (fx 48 x11 || (fx 80 x12 || (fx 79 x13 || (fx 78 x14 || (fx 77 x15 || (fx 48 y0 || (fx 75 y1 || (fx 74 y2 || (fx 73 y3 || (fx 100 y4 || (fx 100 y5 || (fx 100 y6 || (fx 100 y7 || (fx 72 y8 || (fx 71 y9 || (fx 70 y10 || (fx 69 y11 || (fx 68 y12 || (fx 67 y13 || (fx 66 y14 || (fx 65 y15 || false)))))))))))))))))))))))))))))))) = false := hb
  simp only [Bool.or_eq_false_iff] at hb
  obtain ⟨h0, h1, h2, h3, h4, _, h6, h7, h8, h9, h10, h11, _, _, _, _, h16, _, _, _, _, _, _, _, _, _, _, _, _, _, _, _, _⟩ := hb
  obtain rfl := fx49 h0
  obtain rfl := fx49 h1
  obtain rfl := fx49 h2
  obtain rfl := fx49 h3
  obtain rfl := fx48 h4
  obtain rfl := fx49 h6
  obtain rfl := fx48 h7
  obtain rfl := fx48 h8
  obtain rfl := fx49 h9
  obtain rfl := fx48 h10
  obtain rfl := fx48 h11
  obtain rfl := fx48 h16
  have q := rr_3 x5 x12 x13 x14 x15 y1 y2 y3 y4 y5 y6 y7 y8 y9 y10 y11 y12 y13 y14 y15
  rw [q] at hc
  have f := row_facts hc
  rw [q]
  exact ⟨⟨3, _, _, _, _, _, _, false, rfl, q, fw_3 x5 x12 x13 x14 x15 y1 y2 y3 y4 y5 y6 y7 y8 y9 y10 y11 y12 y13 y14 y15 f.1⟩, rfl, rfl⟩
theorem sd_4 (x0 x1 x2 x3 x4 x5 x6 x7 x8 x9 x10 x11 x12 x13 x14 x15 y0 y1 y2 y3 y4 y5 y6 y7 y8 y9 y10 y11 y12 y13 y14 y15 : Bool) (hb : badR 4 false [x0, x1, x2, x3, x4, x5, x6, x7, x8, x9, x10, x11, x12, x13, x14, x15, y0, y1, y2, y3, y4, y5, y6, y7, y8, y9, y10, y11, y12, y13, y14, y15] = false) (hc : V_hauberkref02_Check (iRow 4 false [x0, x1, x2, x3, x4, x5, x6, x7, x8, x9, x10, x11, x12, x13, x14, x15, y0, y1, y2, y3, y4, y5, y6, y7, y8, y9, y10, y11, y12, y13, y14, y15]) = 0) : Enc2 (iRow 4 false [x0, x1, x2, x3, x4, x5, x6, x7, x8, x9, x10, x11, x12, x13, x14, x15, y0, y1, y2, y3, y4, y5, y6, y7, y8, y9, y10, y11, y12, y13, y14, y15]) [x0, x1, x2, x3, x4, x5, x6, x7, x8, x9, x10, x11, x12, x13, x14, x15] [y0, y1, y2, y3, y4, y5, y6, y7, y8, y9, y10, y11, y12, y13, y14, y15] ∧ (iRow 4 false [x0, x1, x2, x3, x4, x5, x6, x7, x8, x9, x10, x11, x12, x13, x14, x15, y0, y1, y2, y3, y4, y5, y6, y7, y8, y9, y10, y11, y12, y13, y14, y15]).1 = 4 ∧ (iRow 4 false [x0, x1, x2, x3, x4, x5, x6, x7, x8, x9, x10, x11, x12, x13, x14, x15, y0, y1, y2, y3, y4, y5, y6, y7, y8, y9, y10, y11, y12, y13, y14, y15]).2.2.2.2.2.2.2.1 = false := by
  have hb : (fx 49 x0 || (fx 49 x1 || (fx 49 x2 || (fx 49 x3 || (fx 48 x4 || (fx 76 x5 || (fx 49 x6 || (fx 48 x7 || (fx 49 x8 || (fx 49 x9 || (fx 48 x10 || (fx 48 x11 || (fx 80 x12 || (fx 79 x13 || (fx 78 x14 || (fx 77 x15 || (fx 48 y0 || (fx 75 y1 || (fx 74 y2 || (fx 73 y3 || (fx 100 y4 || (fx 100 y5 || (fx 100 y6 || (fx 100 y7 || (fx 72 y8 || (fx 71 y9 || (fx 70 y10 || (fx 69 y11 || (fx 68 y12 || (fx 67 y13 || (fx 66 y14 || (fx 65 y15 || false)))))))))))))))))))))))))))))))) = false := hb
  simp only [Bool.or_eq_false_iff] at hb
  obtain ⟨h0, h1, h2, h3, h4, _, h6, h7, h8, h9, h10, h11, _, _, _, _, h16, _, _, _, _, _, _, _, _, _, _, _, _, _, _, _, _⟩ := hb
  obtain rfl := fx49 h0
  obtain rfl := fx49 h1
  obtain rfl := fx49 h2
  obtain rfl := fx49 h3
  obtain rfl := fx48 h4
  obtain rfl := fx49 h6
  obtain rfl := fx48 h7
  obtain rfl := fx49 h8
  obtain rfl := fx49 h9
  obtain rfl := fx48 h10
  obtain rfl := fx48 h11
  obtain rfl := fx48 h16
  have q := rr_4 x5 x12 x13 x14 x15 y1 y2 y3 y4 y5 y6 y7 y8 y9 y10 y11 y12 y13 y14 y15
  rw [q] at hc
  have f := row_facts hc
  rw [q]
  exact ⟨⟨4, _, _, _, _, _, _, false, rfl, q, fw_4 x5 x12 x13 x14 x15 y1 y2 y3 y4 y5 y6 y7 y8 y9 y10 y11 y12 y13 y14 y15 f.1⟩, rfl, rfl⟩
theorem sd_5 (x0 x1 x2 x3 x4 x5 x6 x7 x8 x9 x10 x11 x12 x13 x14 x15 y0 y1 y2 y3 y4 y5 y6 y7 y8 y9 y10 y11 y12 y13 y14 y15 : Bool) (hb : badR 5 false [x0, x1, x2, x3, x4, x5, x6, x7, x8, x9, x10, x11, x12, x13, x14, x15, y0, y1, y2, y3, y4, y5, y6, y7, y8, y9, y10, y11, y12, y13, y14, y15] = false) (hc : V_hauberkref02_Check (iRow 5 false [x0, x1, x2, x3, x4, x5, x6, x7, x8, x9, x10, x11, x12, x13, x14, x15, y0, y1, y2, y3, y4, y5, y6, y7, y8, y9, y10, y11, y12, y13, y14, y15]) = 0) : Enc2 (iRow 5 false [x0, x1, x2, x3, x4, x5, x6, x7, x8, x9, x10, x11, x12, x13, x14, x15, y0, y1, y2, y3, y4, y5, y6, y7, y8, y9, y10, y11, y12, y13, y14, y15]) [x0, x1, x2, x3, x4, x5, x6, x7, x8, x9, x10, x11, x12, x13, x14, x15] [y0, y1, y2, y3, y4, y5, y6, y7, y8, y9, y10, y11, y12, y13, y14, y15] ∧ (iRow 5 false [x0, x1, x2, x3, x4, x5, x6, x7, x8, x9, x10, x11, x12, x13, x14, x15, y0, y1, y2, y3, y4, y5, y6, y7, y8, y9, y10, y11, y12, y13, y14, y15]).1 = 5 ∧ (iRow 5 false [x0, x1, x2, x3, x4, x5, x6, x7, x8, x9, x10, x11, x12, x13, x14, x15, y0, y1, y2, y3, y4, y5, y6, y7, y8, y9, y10, y11, y12, y13, y14, y15]).2.2.2.2.2.2.2.1 = false := by
  have hb : (fx 49 x0 || (fx 49 x1 || (fx 49 x2 || (fx 48 x3 || (fx 49 x4 || (fx 48 x5 || (fx 49 x6 || (fx 48 x7 || (fx 48 x8 || (fx 49 x9 || (fx 48 x10 || (fx 48 x11 || (fx 49 x12 || (fx 49 x13 || (fx 49 x14 || (fx 49 x15 || (fx 48 y0 || (fx 69 y1 || (fx 68 y2 || (fx 67 y3 || (fx 100 y4 || (fx 100 y5 || (fx 100 y6 || (fx 100 y7 || (fx 66 y8 || (fx 65 y9 || (fx 48 y10 || (fx 48 y11 || (fx 109 y12 || (fx 109 y13 || (fx 109 y14 || (fx 109 y15 || false)))))))))))))))))))))))))))))))) = false := hb
  simp only [Bool.or_eq_false_iff] at hb
  obtain ⟨h0, h1, h2, h3, h4, h5, h6, h7, h8, h9, h10, h11, h12, h13, h14, h15, h16, _, _, _, _, _, _, _, _, _, h26, h27, _, _, _, _, _⟩ := hb
  obtain rfl := fx49 h0
  obtain rfl := fx49 h1
  obtain rfl := fx49 h2
  obtain rfl := fx48 h3
  obtain rfl := fx49 h4
  obtain rfl := fx48 h5
  obtain rfl := fx49 h6
  obtain rfl := fx48 h7
  obtain rfl := fx48 h8
  obtain rfl := fx49 h9
  obtain rfl := fx48 h10
  obtain rfl := fx48 h11
  obtain rfl := fx49 h12
  obtain rfl := fx49 h13
  obtain rfl := fx49 h14
  obtain rfl := fx49 h15
  obtain rfl := fx48 h16
  obtain rfl := fx48 h26
  obtain rfl := fx48 h27
  have q := rr_5 y1 y2 y3 y4 y5 y6 y7 y8 y9 y12 y13 y14 y15
  rw [q] at hc
  have f := row_facts hc
  rw [q]
  exact ⟨⟨5, _, _, _, _, _, _, false, rfl, q, fw_5 y1 y2 y3 y4 y5 y6 y7 y8 y9 y12 y13 y14 y15 f.1 f.2.2.1⟩, rfl, rfl⟩
theorem sd_6 (x0 x1 x2 x3 x4 x5 x6 x7 x8 x9 x10 x11 x12 x13 x14 x15 y0 y1 y2 y3 y4 y5 y6 y7 y8 y9 y10 y11 y12 y13 y14 y15 : Bool) (hb : badR 6 false [x0, x1, x2, x3, x4, x5, x6, x7, x8, x9, x10, x11, x12, x13, x14, x15, y0, y1, y2, y3, y4, y5, y6, y7, y8, y9, y10, y11, y12, y13, y14, y15] = false) (hc : V_hauberkref02_Check (iRow 6 false [x0, x1, x2, x3, x4, x5, x6, x7, x8, x9, x10, x11, x12, x13, x14, x15, y0, y1, y2, y3, y4, y5, y6, y7, y8, y9, y10, y11, y12, y13, y14, y15]) = 0) : Enc2 (iRow 6 false [x0, x1, x2, x3, x4, x5, x6, x7, x8, x9, x10, x11, x12, x13, x14, x15, y0, y1, y2, y3, y4, y5, y6, y7, y8, y9, y10, y11, y12, y13, y14, y15]) [x0, x1, x2, x3, x4, x5, x6, x7, x8, x9, x10, x11, x12, x13, x14, x15] [y0, y1, y2, y3, y4, y5, y6, y7, y8, y9, y10, y11, y12, y13, y14, y15] ∧ (iRow 6 false [x0, x1, x2, x3, x4, x5, x6, x7, x8, x9, x10, x11, x12, x13, x14, x15, y0, y1, y2, y3, y4, y5, y6, y7, y8, y9, y10, y11, y12, y13, y14, y15]).1 = 6 ∧ (iRow 6 false [x0, x1, x2, x3, x4, x5, x6, x7, x8, x9, x10, x11, x12, x13, x14, x15, y0, y1, y2, y3, y4, y5, y6, y7, y8, y9, y10, y11, y12, y13, y14, y15]).2.2.2.2.2.2.2.1 = false := by
  have hb : (fx 49 x0 || (fx 49 x1 || (fx 49 x2 || (fx 48 x3 || (fx 49 x4 || (fx 48 x5 || (fx 49 x6 || (fx 48 x7 || (fx 48 x8 || (fx 49 x9 || (fx 48 x10 || (fx 48 x11 || (fx 49 x12 || (fx 49 x13 || (fx 49 x14 || (fx 49 x15 || (fx 48 y0 || (fx 69 y1 || (fx 68 y2 || (fx 67 y3 || (fx 100 y4 || (fx 100 y5 || (fx 100 y6 || (fx 100 y7 || (fx 66 y8 || (fx 65 y9 || (fx 48 y10 || (fx 49 y11 || (fx 109 y12 || (fx 109 y13 || (fx 109 y14 || (fx 109 y15 || false)))))))))))))))))))))))))))))))) = false := hb
  simp only [Bool.or_eq_false_iff] at hb
  obtain ⟨h0, h1, h2, h3, h4, h5, h6, h7, h8, h9, h10, h11, h12, h13, h14, h15, h16, _, _, _, _, _, _, _, _, _, h26, h27, _, _, _, _, _⟩ := hb
  obtain rfl := fx49 h0
  obtain rfl := fx49 h1
  obtain rfl := fx49 h2
  obtain rfl := fx48 h3
  obtain rfl := fx49 h4
  obtain rfl := fx48 h5
  obtain rfl := fx49 h6
  obtain rfl := fx48 h7
  obtain rfl := fx48 h8
  obtain rfl := fx49 h9
  obtain rfl := fx48 h10
  obtain rfl := fx48 h11
  obtain rfl := fx49 h12
  obtain rfl := fx49 h13
  obtain rfl := fx49 h14
  obtain rfl := fx49 h15
  obtain rfl := fx48 h16
  obtain rfl := fx48 h26
  obtain rfl := fx49 h27
  have q := rr_6 y1 y2 y3 y4 y5 y6 y7 y8 y9 y12 y13 y14 y15
  rw [q] at hc
  have f := row_facts hc
  rw [q]
  exact ⟨⟨6, _, _, _, _, _, _, false, rfl, q, fw_6 y1 y2 y3 y4 y5 y6 y7 y8 y9 y12 y13 y14 y15 f.1 f.2.2.1 (f.2.2.2.2.2.1 (by omega) (by omega))⟩, rfl, rfl⟩
theorem sd_7 (x0 x1 x2 x3 x4 x5 x6 x7 x8 x9 x10 x11 x12 x13 x14 x15 y0 y1 y2 y3 y4 y5 y6 y7 y8 y9 y10 y11 y12 y13 y14 y15 : Bool) (hb : badR 7 false [x0, x1, x2, x3, x4, x5, x6, x7, x8, x9, x10, x11, x12, x13, x14, x15, y0, y1, y2, y3, y4, y5, y6, y7, y8, y9, y10, y11, y12, y13, y14, y15] = false) (hc : V_hauberkref02_Check (iRow 7 false [x0, x1, x2, x3, x4, x5, x6, x7, x8, x9, x10, x11, x12, x13, x14, x15, y0, y1, y2, y3, y4, y5, y6, y7, y8, y9, y10, y11, y12, y13, y14, y15]) = 0) : Enc2 (iRow 7 false [x0, x1, x2, x3, x4, x5, x6, x7, x8, x9, x10, x11, x12, x13, x14, x15, y0, y1, y2, y3, y4, y5, y6, y7, y8, y9, y10, y11, y12, y13, y14, y15]) [x0, x1, x2, x3, x4, x5, x6, x7, x8, x9, x10, x11, x12, x13, x14, x15] [y0, y1, y2, y3, y4, y5, y6, y7, y8, y9, y10, y11, y12, y13, y14, y15] ∧ (iRow 7 false [x0, x1, x2, x3, x4, x5, x6, x7, x8, x9, x10, x11, x12, x13, x14, x15, y0, y1, y2, y3, y4, y5, y6, y7, y8, y9, y10, y11, y12, y13, y14, y15]).1 = 7 ∧ (iRow 7 false [x0, x1, x2, x3, x4, x5, x6, x7, x8, x9, x10, x11, x12, x13, x14, x15, y0, y1, y2, y3, y4, y5, y6, y7, y8, y9, y10, y11, y12, y13, y14, y15]).2.2.2.2.2.2.2.1 = false := by
  have hb : (fx 49 x0 || (fx 49 x1 || (fx 49 x2 || (fx 48 x3 || (fx 49 x4 || (fx 48 x5 || (fx 49 x6 || (fx 48 x7 || (fx 48 x8 || (fx 49 x9 || (fx 48 x10 || (fx 48 x11 || (fx 49 x12 || (fx 49 x13 || (fx 49 x14 || (fx 49 x15 || (fx 48 y0 || (fx 69 y1 || (fx 68 y2 || (fx 67 y3 || (fx 100 y4 || (fx 100 y5 || (fx 100 y6 || (fx 100 y7 || (fx 66 y8 || (fx 65 y9 || (fx 49 y10 || (fx 48 y11 || (fx 109 y12 || (fx 109 y13 || (fx 109 y14 || (fx 109 y15 || false)))))))))))))))))))))))))))))))) = false := hb
  simp only [Bool.or_eq_false_iff] at hb
  obtain ⟨h0, h1, h2, h3, h4, h5, h6, h7, h8, h9, h10, h11, h12, h13, h14, h15, h16, _, _, _, _, _, _, _, _, _, h26, h27, _, _, _, _, _⟩ := hb
  obtain rfl := fx49 h0
  obtain rfl := fx49 h1
  obtain rfl := fx49 h2
  obtain rfl := fx48 h3
  obtain rfl := fx49 h4
  obtain rfl := fx48 h5
  obtain rfl := fx49 h6
  obtain rfl := fx48 h7
  obtain rfl := fx48 h8
  obtain rfl := fx49 h9
  obtain rfl := fx48 h10
  obtain rfl := fx48 h11
  obtain rfl := fx49 h12
  obtain rfl := fx49 h13
  obtain rfl := fx49 h14
  obtain rfl := fx49 h15
  obtain rfl := fx48 h16
  obtain rfl := fx49 h26
  obtain rfl := fx48 h27
  have q := rr_7 y1 y2 y3 y4 y5 y6 y7 y8 y9 y12 y13 y14 y15
  rw [q] at hc
  have f := row_facts hc
  rw [q]
  exact ⟨⟨7, _, _, _, _, _, _, false, rfl, q, fw_7 y1 y2 y3 y4 y5 y6 y7 y8 y9 y12 y13 y14 y15 f.1 f.2.2.1 (f.2.2.2.2.2.1 (by omega) (by omega))⟩, rfl, rfl⟩
theorem sd_8 (x0 x1 x2 x3 x4 x5 x6 x7 x8 x9 x10 x11 x12 x13 x14 x15 y0 y1 y2 y3 y4 y5 y6 y7 y8 y9 y10 y11 y12 y13 y14 y15 : Bool) (hb : badR 8 false [x0, x1, x2, x3, x4, x5, x6, x7, x8, x9, x10, x11, x12, x13, x14, x15, y0, y1, y2, y3, y4, y5, y6, y7, y8, y9, y10, y11, y12, y13, y14, y15] = false) (hc : V_hauberkref02_Check (iRow 8 false [x0, x1, x2, x3, x4, x5, x6, x7, x8, x9, x10, x11, x12, x13, x14, x15, y0, y1, y2, y3, y4, y5, y6, y7, y8, y9, y10, y11, y12, y13, y14, y15]) = 0) : Enc2 (iRow 8 false [x0, x1, x2, x3, x4, x5, x6, x7, x8, x9, x10, x11, x12, x13, x14, x15, y0, y1, y2, y3, y4, y5, y6, y7, y8, y9, y10, y11, y12, y13, y14, y15]) [x0, x1, x2, x3, x4, x5, x6, x7, x8, x9, x10, x11, x12, x13, x14, x15] [y0, y1, y2, y3, y4, y5, y6, y7, y8, y9, y10, y11, y12, y13, y14, y15] ∧ (iRow 8 false [x0, x1, x2, x3, x4, x5, x6, x7, x8, x9, x10, x11, x12, x13, x14, x15, y0, y1, y2, y3, y4, y5, y6, y7, y8, y9, y10, y11, y12, y13, y14, y15]).1 = 8 ∧ (iRow 8 false [x0, x1, x2, x3, x4, x5, x6, x7, x8, x9, x10, x11, x12, x13, x14, x15, y0, y1, y2, y3, y4, y5, y6, y7, y8, y9, y10, y11, y12, y13, y14, y15]).2.2.2.2.2.2.2.1 = false := by
  have hb : (fx 49 x0 || (fx 49 x1 || (fx 49 x2 || (fx 48 x3 || (fx 49 x4 || (fx 48 x5 || (fx 49 x6 || (fx 48 x7 || (fx 48 x8 || (fx 49 x9 || (fx 48 x10 || (fx 48 x11 || (fx 49 x12 || (fx 49 x13 || (fx 49 x14 || (fx 49 x15 || (fx 48 y0 || (fx 69 y1 || (fx 68 y2 || (fx 67 y3 || (fx 100 y4 || (fx 100 y5 || (fx 100 y6 || (fx 100 y7 || (fx 66 y8 || (fx 65 y9 || (fx 49 y10 || (fx 49 y11 || (fx 109 y12 || (fx 109 y13 || (fx 109 y14 || (fx 109 y15 || false)))))))))))))))))))))))))))))))) = false := hb
  simp only [Bool.or_eq_false_iff] at hb
  obtain ⟨h0, h1, h2, h3, h4, h5, h6, h7, h8, h9, h10, h11, h12, h13, h14, h15, h16, _, _, _, _, _, _, _, _, _, h26, h27, _, _, _, _, _⟩ := hb
  obtain rfl := fx49 h0
  obtain rfl := fx49 h1
  obtain rfl := fx49 h2
  obtain rfl := fx48 h3
  obtain rfl := fx49 h4
  obtain rfl := fx48 h5
  obtain rfl := fx49 h6
  obtain rfl := fx48 h7
  obtain rfl := fx48 h8
  obtain rfl := fx49 h9
  obtain rfl := fx48 h10
  obtain rfl := fx48 h11
  obtain rfl := fx49 h12
  obtain rfl := fx49 h13
  obtain rfl := fx49 h14
  obtain rfl := fx49 h15
  obtain rfl := fx48 h16
  obtain rfl := fx49 h26
  obtain rfl := fx49 h27
  have q := rr_8 y1 y2 y3 y4 y5 y6 y7 y8 y9 y12 y13 y14 y15
  rw [q] at hc
  have f := row_facts hc
  rw [q]
  exact ⟨⟨8, _, _, _, _, _, _, false, rfl, q, fw_8 y1 y2 y3 y4 y5 y6 y7 y8 y9 y12 y13 y14 y15 f.1 f.2.2.1 (f.2.2.2.2.2.1 (by omega) (by omega))⟩, rfl, rfl⟩
theorem sd_9 (x0 x1 x2 x3 x4 x5 x6 x7 x8 x9 x10 x11 x12 x13 x14 x15 y0 y1 y2 y3 y4 y5 y6 y7 y8 y9 y10 y11 y12 y13 y14 y15 : Bool) (hb : badR 9 false [x0, x1, x2, x3, x4, x5, x6, x7, x8, x9, x10, x11, x12, x13, x14, x15, y0, y1, y2, y3, y4, y5, y6, y7, y8, y9, y10, y11, y12, y13, y14, y15] = false) (hc : V_hauberkref02_Check (iRow 9 false [x0, x1, x2, x3, x4, x5, x6, x7, x8, x9, x10, x11, x12, x13, x14, x15, y0, y1, y2, y3, y4, y5, y6, y7, y8, y9, y10, y11, y12, y13, y14, y15]) = 0) : Enc2 (iRow 9 false [x0, x1, x2, x3, x4, x5, x6, x7, x8, x9, x10, x11, x12, x13, x14, x15, y0, y1, y2, y3, y4, y5, y6, y7, y8, y9, y10, y11, y12, y13, y14, y15]) [x0, x1, x2, x3, x4, x5, x6, x7, x8, x9, x10, x11, x12, x13, x14, x15] [y0, y1, y2, y3, y4, y5, y6, y7, y8, y9, y10, y11, y12, y13, y14, y15] ∧ (iRow 9 false [x0, x1, x2, x3, x4, x5, x6, x7, x8, x9, x10, x11, x12, x13, x14, x15, y0, y1, y2, y3, y4, y5, y6, y7, y8, y9, y10, y11, y12, y13, y14, y15]).1 = 9 ∧ (iRow 9 false [x0, x1, x2, x3, x4, x5, x6, x7, x8, x9, x10, x11, x12, x13, x14, x15, y0, y1, y2, y3, y4, y5, y6, y7, y8, y9, y10, y11, y12, y13, y14, y15]).2.2.2.2.2.2.2.1 = false := by
  have hb : (fx 49 x0 || (fx 49 x1 || (fx 49 x2 || (fx 48 x3 || (fx 49 x4 || (fx 48 x5 || (fx 49 x6 || (fx 48 x7 || (fx 48 x8 || (fx 49 x9 || (fx 49 x10 || (fx 48 x11 || (fx 49 x12 || (fx 49 x13 || (fx 49 x14 || (fx 49 x15 || (fx 48 y0 || (fx 48 y1 || (fx 48 y2 || (fx 48 y3 || (fx 100 y4 || (fx 100 y5 || (fx 100 y6 || (fx 100 y7 || (fx 48 y8 || (fx 48 y9 || (fx 48 y10 || (fx 48 y11 || (fx 109 y12 || (fx 109 y13 || (fx 109 y14 || (fx 109 y15 || false)))))))))))))))))))))))))))))))) = false := hb
  simp only [Bool.or_eq_false_iff] at hb
  obtain ⟨h0, h1, h2, h3, h4, h5, h6, h7, h8, h9, h10, h11, h12, h13, h14, h15, h16, h17, h18, h19, _, _, _, _, h24, h25, h26, h27, _, _, _, _, _⟩ := hb
  obtain rfl := fx49 h0
  obtain rfl := fx49 h1
  obtain rfl := fx49 h2
  obtain rfl := fx48 h3
  obtain rfl := fx49 h4
  obtain rfl := fx48 h5
  obtain rfl := fx49 h6
  obtain rfl := fx48 h7
  obtain rfl := fx48 h8
  obtain rfl := fx49 h9
  obtain rfl := fx49 h10
  obtain rfl := fx48 h11
  obtain rfl := fx49 h12
  obtain rfl := fx49 h13
  obtain rfl := fx49 h14
  obtain rfl := fx49 h15
  obtain rfl := fx48 h16
  obtain rfl := fx48 h17
  obtain rfl := fx48 h18
  obtain rfl := fx48 h19
  obtain rfl := fx48 h24
  obtain rfl := fx48 h25
  obtain rfl := fx48 h26
  obtain rfl := fx48 h27
  have q := rr_9 y4 y5 y6 y7 y12 y13 y14 y15
  rw [q] at hc
  have f := row_facts hc
  rw [q]
  exact ⟨⟨9, _, _, _, _, _, _, false, rfl, q, fw_9 y4 y5 y6 y7 y12 y13 y14 y15 f.1 f.2.2.1⟩, rfl, rfl⟩
theorem sd_10 (x0 x1 x2 x3 x4 x5 x6 x7 x8 x9 x10 x11 x12 x13 x14 x15 y0 y1 y2 y3 y4 y5 y6 y7 y8 y9 y10 y11 y12 y13 y14 y15 : Bool) (hb : badR 10 false [x0, x1, x2, x3, x4, x5, x6, x7, x8, x9, x10, x11, x12, x13, x14, x15, y0, y1, y2, y3, y4, y5, y6, y7, y8, y9, y10, y11, y12, y13, y14, y15] = false) (hc : V_hauberkref02_Check (iRow 10 false [x0, x1, x2, x3, x4, x5, x6, x7, x8, x9, x10, x11, x12, x13, x14, x15, y0, y1, y2, y3, y4, y5, y6, y7, y8, y9, y10, y11, y12, y13, y14, y15]) = 0) : Enc2 (iRow 10 false [x0, x1, x2, x3, x4, x5, x6, x7, x8, x9, x10, x11, x12, x13, x14, x15, y0, y1, y2, y3, y4, y5, y6, y7, y8, y9, y10, y11, y12, y13, y14, y15]) [x0, x1, x2, x3, x4, x5, x6, x7, x8, x9, x10, x11, x12, x13, x14, x15] [y0, y1, y2, y3, y4, y5, y6, y7, y8, y9, y10, y11, y12, y13, y14, y15] ∧ (iRow 10 false [x0, x1, x2, x3, x4, x5, x6, x7, x8, x9, x10, x11, x12, x13, x14, x15, y0, y1, y2, y3, y4, y5, y6, y7, y8, y9, y10, y11, y12, y13, y14, y15]).1 = 10 ∧ (iRow 10 false [x0, x1, x2, x3, x4, x5, x6, x7, x8, x9, x10, x11, x12, x13, x14, x15, y0, y1, y2, y3, y4, y5, y6, y7, y8, y9, y10, y11, y12, y13, y14, y15]).2.2.2.2.2.2.2.1 = false := by
  have hb : (fx 49 x0 || (fx 49 x1 || (fx 49 x2 || (fx 48 x3 || (fx 49 x4 || (fx 48 x5 || (fx 49 x6 || (fx 48 x7 || (fx 48 x8 || (fx 48 x9 || (fx 48 x10 || (fx 48 x11 || (fx 110 x12 || (fx 110 x13 || (fx 110 x14 || (fx 110 x15 || (fx 48 y0 || (fx 48 y1 || (fx 48 y2 || (fx 48 y3 || (fx 100 y4 || (fx 100 y5 || (fx 100 y6 || (fx 100 y7 || (fx 48 y8 || (fx 48 y9 || (fx 48 y10 || (fx 48 y11 || (fx 109 y12 || (fx 109 y13 || (fx 109 y14 || (fx 109 y15 || false)))))))))))))))))))))))))))))))) = false := hb
  simp only [Bool.or_eq_false_iff] at hb
  obtain ⟨h0, h1, h2, h3, h4, h5, h6, h7, h8, h9, h10, h11, _, _, _, _, h16, h17, h18, h19, _, _, _, _, h24, h25, h26, h27, _, _, _, _, _⟩ := hb
  obtain rfl := fx49 h0
  obtain rfl := fx49 h1
  obtain rfl := fx49 h2
  obtain rfl := fx48 h3
  obtain rfl := fx49 h4
  obtain rfl := fx48 h5
  obtain rfl := fx49 h6
  obtain rfl := fx48 h7
  obtain rfl := fx48 h8
  obtain rfl := fx48 h9
  obtain rfl := fx48 h10
  obtain rfl := fx48 h11
  obtain rfl := fx48 h16
  obtain rfl := fx48 h17
  obtain rfl := fx48 h18
  obtain rfl := fx48 h19
  obtain rfl := fx48 h24
  obtain rfl := fx48 h25
  obtain rfl := fx48 h26
  obtain rfl := fx48 h27
  have q := rr_10 x12 x13 x14 x15 y4 y5 y6 y7 y12 y13 y14 y15
  rw [q] at hc
  have f := row_facts hc
  rw [q]
  exact ⟨⟨10, _, _, _, _, _, _, false, rfl, q, fw_10 x12 x13 x14 x15 y4 y5 y6 y7 y12 y13 y14 y15 f.1 f.2.1 f.2.2.1⟩, rfl, rfl⟩
theorem sd_11 (x0 x1 x2 x3 x4 x5 x6 x7 x8 x9 x10 x11 x12 x13 x14 x15 y0 y1 y2 y3 y4 y5 y6 y7 y8 y9 y10 y11 y12 y13 y14 y15 : Bool) (hb : badR 11 false [x0, x1, x2, x3, x4, x5, x6, x7, x8, x9, x10, x11, x12, x13, x14, x15, y0, y1, y2, y3, y4, y5, y6, y7, y8, y9, y10, y11, y12, y13, y14, y15] = false) (hc : V_hauberkref02_Check (iRow 11 false [x0, x1, x2, x3, x4, x5, x6, x7, x8, x9, x10, x11, x12, x13, x14, x15, y0, y1, y2, y3, y4, y5, y6, y7, y8, y9, y10, y11, y12, y13, y14, y15]) = 0) : Enc2 (iRow 11 false [x0, x1, x2, x3, x4, x5, x6, x7, x8, x9, x10, x11, x12, x13, x14, x15, y0, y1, y2, y3, y4, y5, y6, y7, y8, y9, y10, y11, y12, y13, y14, y15]) [x0, x1, x2, x3, x4, x5, x6, x7, x8, x9, x10, x11, x12, x13, x14, x15] [y0, y1, y2, y3, y4, y5, y6, y7, y8, y9, y10, y11, y12, y13, y14, y15] ∧ (iRow 11 false [x0, x1, x2, x3, x4, x5, x6, x7, x8, x9, x10, x11, x12, x13, x14, x15, y0, y1, y2, y3, y4, y5, y6, y7, y8, y9, y10, y11, y12, y13, y14, y15]).1 = 11 ∧ (iRow 11 false [x0, x1, x2, x3, x4, x5, x6, x7, x8, x9, x10, x11, x12, x13, x14, x15, y0, y1, y2, y3, y4, y5, y6, y7, y8, y9, y10, y11, y12, y13, y14, y15]).2.2.2.2.2.2.2.1 = false := by
  have hb : (fx 49 x0 || (fx 49 x1 || (fx 49 x2 || (fx 48 x3 || (fx 49 x4 || (fx 48 x5 || (fx 49 x6 || (fx 48 x7 || (fx 48 x8 || (fx 48 x9 || (fx 49 x10 || (fx 48 x11 || (fx 110 x12 || (fx 110 x13 || (fx 110 x14 || (fx 110 x15 || (fx 48 y0 || (fx 48 y1 || (fx 48 y2 || (fx 48 y3 || (fx 100 y4 || (fx 100 y5 || (fx 100 y6 || (fx 100 y7 || (fx 48 y8 || (fx 48 y9 || (fx 48 y10 || (fx 48 y11 || (fx 109 y12 || (fx 109 y13 || (fx 109 y14 || (fx 109 y15 || false)))))))))))))))))))))))))))))))) = false := hb
  simp only [Bool.or_eq_false_iff] at hb
  obtain ⟨h0, h1, h2, h3, h4, h5, h6, h7, h8, h9, h10, h11, _, _, _, _, h16, h17, h18, h19, _, _, _, _, h24, h25, h26, h27, _, _, _, _, _⟩ := hb
  obtain rfl := fx49 h0
  obtain rfl := fx49 h1
  obtain rfl := fx49 h2
  obtain rfl := fx48 h3
  obtain rfl := fx49 h4
  obtain rfl := fx48 h5
  obtain rfl := fx49 h6
  obtain rfl := fx48 h7
  obtain rfl := fx48 h8
  obtain rfl := fx48 h9
  obtain rfl := fx49 h10
  obtain rfl := fx48 h11
  obtain rfl := fx48 h16
  obtain rfl := fx48 h17
  obtain rfl := fx48 h18
  obtain rfl := fx48 h19
  obtain rfl := fx48 h24
  obtain rfl := fx48 h25
  obtain rfl := fx48 h26
  obtain rfl := fx48 h27
  have q := rr_11 x12 x13 x14 x15 y4 y5 y6 y7 y12 y13 y14 y15
  rw [q] at hc
  have f := row_facts hc
  rw [q]
  exact ⟨⟨11, _, _, _, _, _, _, false, rfl, q, fw_11 x12 x13 x14 x15 y4 y5 y6 y7 y12 y13 y14 y15 f.1 f.2.1 f.2.2.1⟩, rfl, rfl⟩
theorem sd_12 (x0 x1 x2 x3 x4 x5 x6 x7 x8 x9 x10 x11 x12 x13 x14 x15 y0 y1 y2 y3 y4 y5 y6 y7 y8 y9 y10 y11 y12 y13 y14 y15 : Bool) (hb : badR 12 false [x0, x1, x2, x3, x4, x5, x6, x7, x8, x9, x10, x11, x12, x13, x14, x15, y0, y1, y2, y3, y4, y5, y6, y7, y8, y9, y10, y11, y12, y13, y14, y15] = false) (hc : V_hauberkref02_Check (iRow 12 false [x0, x1, x2, x3, x4, x5, x6, x7, x8, x9, x10, x11, x12, x13, x14, x15, y0, y1, y2, y3, y4, y5, y6, y7, y8, y9, y10, y11, y12, y13, y14, y15]) = 0) : Enc2 (iRow 12 false [x0, x1, x2, x3, x4, x5, x6, x7, x8, x9, x10, x11, x12, x13, x14, x15, y0, y1, y2, y3, y4, y5, y6, y7, y8, y9, y10, y11, y12, y13, y14, y15]) [x0, x1, x2, x3, x4, x5, x6, x7, x8, x9, x10, x11, x12, x13, x14, x15] [y0, y1, y2, y3, y4, y5, y6, y7, y8, y9, y10, y11, y12, y13, y14, y15] ∧ (iRow 12 false [x0, x1, x2, x3, x4, x5, x6, x7, x8, x9, x10, x11, x12, x13, x14, x15, y0, y1, y2, y3, y4, y5, y6, y7, y8, y9, y10, y11, y12, y13, y14, y15]).1 = 12 ∧ (iRow 12 false [x0, x1, x2, x3, x4, x5, x6, x7, x8, x9, x10, x11, x12, x13, x14, x15, y0, y1, y2, y3, y4, y5, y6, y7, y8, y9, y10, y11, y12, y13, y14, y15]).2.2.2.2.2.2.2.1 = false := by
  have hb : (fx 49 x0 || (fx 49 x1 || (fx 49 x2 || (fx 48 x3 || (fx 49 x4 || (fx 48 x5 || (fx 49 x6 || (fx 48 x7 || (fx 48 x8 || (fx 49 x9 || (fx 48 x10 || (fx 48 x11 || (fx 110 x12 || (fx 110 x13 || (fx 110 x14 || (fx 110 x15 || (fx 48 y0 || (fx 48 y1 || (fx 48 y2 || (fx 48 y3 || (fx 100 y4 || (fx 100 y5 || (fx 100 y6 || (fx 100 y7 || (fx 48 y8 || (fx 48 y9 || (fx 48 y10 || (fx 48 y11 || (fx 109 y12 || (fx 109 y13 || (fx 109 y14 || (fx 109 y15 || false)))))))))))))))))))))))))))))))) = false := hb
  simp only [Bool.or_eq_false_iff] at hb
  obtain ⟨h0, h1, h2, h3, h4, h5, h6, h7, h8, h9, h10, h11, _, _, _, _, h16, h17, h18, h19, _, _, _, _, h24, h25, h26, h27, _, _, _, _, _⟩ := hb
  obtain rfl := fx49 h0
  obtain rfl := fx49 h1
  obtain rfl := fx49 h2
  obtain rfl := fx48 h3
  obtain rfl := fx49 h4
  obtain rfl := fx48 h5
  obtain rfl := fx49 h6
  obtain rfl := fx48 h7
  obtain rfl := fx48 h8
  obtain rfl := fx49 h9
  obtain rfl := fx48 h10
  obtain rfl := fx48 h11
  obtain rfl := fx48 h16
  obtain rfl := fx48 h17
  obtain rfl := fx48 h18
  obtain rfl := fx48 h19
  obtain rfl := fx48 h24
  obtain rfl := fx48 h25
  obtain rfl := fx48 h26
  obtain rfl := fx48 h27
  have q := rr_12 x12 x13 x14 x15 y4 y5 y6 y7 y12 y13 y14 y15
  rw [q] at hc
  have f := row_facts hc
  rw [q]
  exact ⟨⟨12, _, _, _, _, _, _, false, rfl, q, fw_12 x12 x13 x14 x15 y4 y5 y6 y7 y12 y13 y14 y15 f.1 f.2.1 f.2.2.1⟩, rfl, rfl⟩
theorem sd_13 (x0 x1 x2 x3 x4 x5 x6 x7 x8 x9 x10 x11 x12 x13 x14 x15 y0 y1 y2 y3 y4 y5 y6 y7 y8 y9 y10 y11 y12 y13 y14 y15 : Bool) (hb : badR 13 false [x0, x1, x2, x3, x4, x5, x6, x7, x8, x9, x10, x11, x12, x13, x14, x15, y0, y1, y2, y3, y4, y5, y6, y7, y8, y9, y10, y11, y12, y13, y14, y15] = false) (hc : V_hauberkref02_Check (iRow 13 false [x0, x1, x2, x3, x4, x5, x6, x7, x8, x9, x10, x11, x12, x13, x14, x15, y0, y1, y2, y3, y4, y5, y6, y7, y8, y9, y10, y11, y12, y13, y14, y15]) = 0) : Enc2 (iRow 13 false [x0, x1, x2, x3, x4, x5, x6, x7, x8, x9, x10, x11, x12, x13, x14, x15, y0, y1, y2, y3, y4, y5, y6, y7, y8, y9, y10, y11, y12, y13, y14, y15]) [x0, x1, x2, x3, x4, x5, x6, x7, x8, x9, x10, x11, x12, x13, x14, x15] [y0, y1, y2, y3, y4, y5, y6, y7, y8, y9, y10, y11, y12, y13, y14, y15] ∧ (iRow 13 false [x0, x1, x2, x3, x4, x5, x6, x7, x8, x9, x10, x11, x12, x13, x14, x15, y0, y1, y2, y3, y4, y5, y6, y7, y8, y9, y10, y11, y12, y13, y14, y15]).1 = 13 ∧ (iRow 13 false [x0, x1, x2, x3, x4, x5, x6, x7, x8, x9, x10, x11, x12, x13, x14, x15, y0, y1, y2, y3, y4, y5, y6, y7, y8, y9, y10, y11, y12, y13, y14, y15]).2.2.2.2.2.2.2.1 = false := by
  have hb : (fx 49 x0 || (fx 49 x1 || (fx 49 x2 || (fx 48 x3 || (fx 49 x4 || (fx 48 x5 || (fx 49 x6 || (fx 48 x7 || (fx 49 x8 || (fx 48 x9 || (fx 48 x10 || (fx 48 x11 || (fx 110 x12 || (fx 110 x13 || (fx 110 x14 || (fx 110 x15 || (fx 48 y0 || (fx 48 y1 || (fx 48 y2 || (fx 48 y3 || (fx 100 y4 || (fx 100 y5 || (fx 100 y6 || (fx 100 y7 || (fx 48 y8 || (fx 48 y9 || (fx 48 y10 || (fx 48 y11 || (fx 109 y12 || (fx 109 y13 || (fx 109 y14 || (fx 109 y15 || false)))))))))))))))))))))))))))))))) = false := hb
  simp only [Bool.or_eq_false_iff] at hb
  obtain ⟨h0, h1, h2, h3, h4, h5, h6, h7, h8, h9, h10, h11, _, _, _, _, h16, h17, h18, h19, _, _, _, _, h24, h25, h26, h27, _, _, _, _, _⟩ := hb
  obtain rfl := fx49 h0
  obtain rfl := fx49 h1
  obtain rfl := fx49 h2
  obtain rfl := fx48 h3
  obtain rfl := fx49 h4
  obtain rfl := fx48 h5
  obtain rfl := fx49 h6
  obtain rfl := fx48 h7
  obtain rfl := fx49 h8
  obtain rfl := fx48 h9
  obtain rfl := fx48 h10
  obtain rfl := fx48 h11
  obtain rfl := fx48 h16
  obtain rfl := fx48 h17
  obtain rfl := fx48 h18
  obtain rfl := fx48 h19
  obtain rfl := fx48 h24
  obtain rfl := fx48 h25
  obtain rfl := fx48 h26
  obtain rfl := fx48 h27
  have q := rr_13 x12 x13 x14 x15 y4 y5 y6 y7 y12 y13 y14 y15
  rw [q] at hc
  have f := row_facts hc
  rw [q]
  exact ⟨⟨13, _, _, _, _, _, _, false, rfl, q, fw_13 x12 x13 x14 x15 y4 y5 y6 y7 y12 y13 y14 y15 f.1 f.2.1 f.2.2.1⟩, rfl, rfl⟩
theorem sd_14 (x0 x1 x2 x3 x4 x5 x6 x7 x8 x9 x10 x11 x12 x13 x14 x15 y0 y1 y2 y3 y4 y5 y6 y7 y8 y9 y10 y11 y12 y13 y14 y15 : Bool) (hb : badR 14 false [x0, x1, x2, x3, x4, x5, x6, x7, x8, x9, x10, x11, x12, x13, x14, x15, y0, y1, y2, y3, y4, y5, y6, y7, y8, y9, y10, y11, y12, y13, y14, y15] = false) (hc : V_hauberkref02_Check (iRow 14 false [x0, x1, x2, x3, x4, x5, x6, x7, x8, x9, x10, x11, x12, x13, x14, x15, y0, y1, y2, y3, y4, y5, y6, y7, y8, y9, y10, y11, y12, y13, y14, y15]) = 0) : Enc2 (iRow 14 false [x0, x1, x2, x3, x4, x5, x6, x7, x8, x9, x10, x11, x12, x13, x14, x15, y0, y1, y2, y3, y4, y5, y6, y7, y8, y9, y10, y11, y12, y13, y14, y15]) [x0, x1, x2, x3, x4, x5, x6, x7, x8, x9, x10, x11, x12, x13, x14, x15] [y0, y1, y2, y3, y4, y5, y6, y7, y8, y9, y10, y11, y12, y13, y14, y15] ∧ (iRow 14 false [x0, x1, x2, x3, x4, x5, x6, x7, x8, x9, x10, x11, x12, x13, x14, x15, y0, y1, y2, y3, y4, y5, y6, y7, y8, y9, y10, y11, y12, y13, y14, y15]).1 = 14 ∧ (iRow 14 false [x0, x1, x2, x3, x4, x5, x6, x7, x8, x9, x10, x11, x12, x13, x14, x15, y0, y1, y2, y3, y4, y5, y6, y7, y8, y9, y10, y11, y12, y13, y14, y15]).2.2.2.2.2.2.2.1 = false := by
  have hb : (fx 49 x0 || (fx 49 x1 || (fx 49 x2 || (fx 48 x3 || (fx 49 x4 || (fx 48 x5 || (fx 49 x6 || (fx 49 x7 || (fx 48 x8 || (fx 48 x9 || (fx 48 x10 || (fx 48 x11 || (fx 110 x12 || (fx 110 x13 || (fx 110 x14 || (fx 110 x15 || (fx 48 y0 || (fx 48 y1 || (fx 48 y2 || (fx 48 y3 || (fx 100 y4 || (fx 100 y5 || (fx 100 y6 || (fx 100 y7 || (fx 48 y8 || (fx 48 y9 || (fx 48 y10 || (fx 48 y11 || (fx 109 y12 || (fx 109 y13 || (fx 109 y14 || (fx 109 y15 || false)))))))))))))))))))))))))))))))) = false := hb
  simp only [Bool.or_eq_false_iff] at hb
  obtain ⟨h0, h1, h2, h3, h4, h5, h6, h7, h8, h9, h10, h11, _, _, _, _, h16, h17, h18, h19, _, _, _, _, h24, h25, h26, h27, _, _, _, _, _⟩ := hb
  obtain rfl := fx49 h0
  obtain rfl := fx49 h1
  obtain rfl := fx49 h2
  obtain rfl := fx48 h3
  obtain rfl := fx49 h4
  obtain rfl := fx48 h5
  obtain rfl := fx49 h6
  obtain rfl := fx49 h7
  obtain rfl := fx48 h8
  obtain rfl := fx48 h9
  obtain rfl := fx48 h10
  obtain rfl := fx48 h11
  obtain rfl := fx48 h16
  obtain rfl := fx48 h17
  obtain rfl := fx48 h18
  obtain rfl := fx48 h19
  obtain rfl := fx48 h24
  obtain rfl := fx48 h25
  obtain rfl := fx48 h26
  obtain rfl := fx48 h27
  have q := rr_14 x12 x13 x14 x15 y4 y5 y6 y7 y12 y13 y14 y15
  rw [q] at hc
  have f := row_facts hc
  rw [q]
  exact ⟨⟨14, _, _, _, _, _, _, false, rfl, q, fw_14 x12 x13 x14 x15 y4 y5 y6 y7 y12 y13 y14 y15 f.1 f.2.1 f.2.2.1⟩, rfl, rfl⟩
theorem sd_15 (x0 x1 x2 x3 x4 x5 x6 x7 x8 x9 x10 x11 x12 x13 x14 x15 y0 y1 y2 y3 y4 y5 y6 y7 y8 y9 y10 y11 y12 y13 y14 y15 : Bool) (hb : badR 15 false [x0, x1, x2, x3, x4, x5, x6, x7, x8, x9, x10, x11, x12, x13, x14, x15, y0, y1, y2, y3, y4, y5, y6, y7, y8, y9, y10, y11, y12, y13, y14, y15] = false) (hc : V_hauberkref02_Check (iRow 15 false [x0, x1, x2, x3, x4, x5, x6, x7, x8, x9, x10, x11, x12, x13, x14, x15, y0, y1, y2, y3, y4, y5, y6, y7, y8, y9, y10, y11, y12, y13, y14, y15]) = 0) : Enc2 (iRow 15 false [x0, x1, x2, x3, x4, x5, x6, x7, x8, x9, x10, x11, x12, x13, x14, x15, y0, y1, y2, y3, y4, y5, y6, y7, y8, y9, y10, y11, y12, y13, y14, y15]) [x0, x1, x2, x3, x4, x5, x6, x7, x8, x9, x10, x11, x12, x13, x14, x15] [y0, y1, y2, y3, y4, y5, y6, y7, y8, y9, y10, y11, y12, y13, y14, y15] ∧ (iRow 15 false [x0, x1, x2, x3, x4, x5, x6, x7, x8, x9, x10, x11, x12, x13, x14, x15, y0, y1, y2, y3, y4, y5, y6, y7, y8, y9, y10, y11, y12, y13, y14, y15]).1 = 15 ∧ (iRow 15 false [x0, x1, x2, x3, x4, x5, x6, x7, x8, x9, x10, x11, x12, x13, x14, x15, y0, y1, y2, y3, y4, y5, y6, y7, y8, y9, y10, y11, y12, y13, y14, y15]).2.2.2.2.2.2.2.1 = false := by
  have hb : (fx 49 x0 || (fx 49 x1 || (fx 49 x2 || (fx 48 x3 || (fx 49 x4 || (fx 48 x5 || (fx 49 x6 || (fx 49 x7 || (fx 49 x8 || (fx 48 x9 || (fx 49 x10 || (fx 48 x11 || (fx 110 x12 || (fx 110 x13 || (fx 110 x14 || (fx 110 x15 || (fx 48 y0 || (fx 48 y1 || (fx 48 y2 || (fx 48 y3 || (fx 100 y4 || (fx 100 y5 || (fx 100 y6 || (fx 100 y7 || (fx 48 y8 || (fx 48 y9 || (fx 48 y10 || (fx 48 y11 || (fx 109 y12 || (fx 109 y13 || (fx 109 y14 || (fx 109 y15 || false)))))))))))))))))))))))))))))))) = false := hb
  simp only [Bool.or_eq_false_iff] at hb
  obtain ⟨h0, h1, h2, h3, h4, h5, h6, h7, h8, h9, h10, h11, _, _, _, _, h16, h17, h18, h19, _, _, _, _, h24, h25, h26, h27, _, _, _, _, _⟩ := hb
  obtain rfl := fx49 h0
  obtain rfl := fx49 h1
  obtain rfl := fx49 h2
  obtain rfl := fx48 h3
  obtain rfl := fx49 h4
  obtain rfl := fx48 h5
  obtain rfl := fx49 h6
  obtain rfl := fx49 h7
  obtain rfl := fx49 h8
  obtain rfl := fx48 h9
  obtain rfl := fx49 h10
  obtain rfl := fx48 h11
  obtain rfl := fx48 h16
  obtain rfl := fx48 h17
  obtain rfl := fx48 h18
  obtain rfl := fx48 h19
  obtain rfl := fx48 h24
  obtain rfl := fx48 h25
  obtain rfl := fx48 h26
  obtain rfl := fx48 h27
  have q := rr_15 x12 x13 x14 x15 y4 y5 y6 y7 y12 y13 y14 y15
  rw [q] at hc
  have f := row_facts hc
  rw [q]
  exact ⟨⟨15, _, _, _, _, _, _, false, rfl, q, fw_15 x12 x13 x14 x15 y4 y5 y6 y7 y12 y13 y14 y15 f.1 f.2.1 f.2.2.1⟩, rfl, rfl⟩
theorem sd_16 (x0 x1 x2 x3 x4 x5 x6 x7 x8 x9 x10 x11 x12 x13 x14 x15 y0 y1 y2 y3 y4 y5 y6 y7 y8 y9 y10 y11 y12 y13 y14 y15 : Bool) (hb : badR 16 false [x0, x1, x2, x3, x4, x5, x6, x7, x8, x9, x10, x11, x12, x13, x14, x15, y0, y1, y2, y3, y4, y5, y6, y7, y8, y9, y10, y11, y12, y13, y14, y15] = false) (hc : V_hauberkref02_Check (iRow 16 false [x0, x1, x2, x3, x4, x5, x6, x7, x8, x9, x10, x11, x12, x13, x14, x15, y0, y1, y2, y3, y4, y5, y6, y7, y8, y9, y10, y11, y12, y13, y14, y15]) = 0) : Enc2 (iRow 16 false [x0, x1, x2, x3, x4, x5, x6, x7, x8, x9, x10, x11, x12, x13, x14, x15, y0, y1, y2, y3, y4, y5, y6, y7, y8, y9, y10, y11, y12, y13, y14, y15]) [x0, x1, x2, x3, x4, x5, x6, x7, x8, x9, x10, x11, x12, x13, x14, x15] [y0, y1, y2, y3, y4, y5, y6, y7, y8, y9, y10, y11, y12, y13, y14, y15] ∧ (iRow 16 false [x0, x1, x2, x3, x4, x5, x6, x7, x8, x9, x10, x11, x12, x13, x14, x15, y0, y1, y2, y3, y4, y5, y6, y7, y8, y9, y10, y11, y12, y13, y14, y15]).1 = 16 ∧ (iRow 16 false [x0, x1, x2, x3, x4, x5, x6, x7, x8, x9, x10, x11, x12, x13, x14, x15, y0, y1, y2, y3, y4, y5, y6, y7, y8, y9, y10, y11, y12, y13, y14, y15]).2.2.2.2.2.2.2.1 = false := by
  have hb : (fx 49 x0 || (fx 49 x1 || (fx 49 x2 || (fx 49 x3 || (fx 49 x4 || (fx 48 x5 || (fx 49 x6 || (fx 49 x7 || (fx 48 x8 || (fx 48 x9 || (fx 48 x10 || (fx 48 x11 || (fx 110 x12 || (fx 110 x13 || (fx 110 x14 || (fx 110 x15 || (fx 49 y0 || (fx 49 y1 || (fx 49 y2 || (fx 49 y3 || (fx 100 y4 || (fx 100 y5 || (fx 100 y6 || (fx 100 y7 || (fx 48 y8 || (fx 48 y9 || (fx 48 y10 || (fx 48 y11 || (fx 109 y12 || (fx 109 y13 || (fx 109 y14 || (fx 109 y15 || false)))))))))))))))))))))))))))))))) = false := hb
  simp only [Bool.or_eq_false_iff] at hb
  obtain ⟨h0, h1, h2, h3, h4, h5, h6, h7, h8, h9, h10, h11, _, _, _, _, h16, h17, h18, h19, _, _, _, _, h24, h25, h26, h27, _, _, _, _, _⟩ := hb
  obtain rfl := fx49 h0
  obtain rfl := fx49 h1
  obtain rfl := fx49 h2
  obtain rfl := fx49 h3
  obtain rfl := fx49 h4
  obtain rfl := fx48 h5
  obtain rfl := fx49 h6
  obtain rfl := fx49 h7
  obtain rfl := fx48 h8
  obtain rfl := fx48 h9
  obtain rfl := fx48 h10
  obtain rfl := fx48 h11
  obtain rfl := fx49 h16
  obtain rfl := fx49 h17
  obtain rfl := fx49 h18
  obtain rfl := fx49 h19
  obtain rfl := fx48 h24
  obtain rfl := fx48 h25
  obtain rfl := fx48 h26
  obtain rfl := fx48 h27
  have q := rr_16 x12 x13 x14 x15 y4 y5 y6 y7 y12 y13 y14 y15
  rw [q] at hc
  have f := row_facts hc
  rw [q]
  exact ⟨⟨16, _, _, _, _, _, _, false, rfl, q, fw_16 x12 x13 x14 x15 y4 y5 y6 y7 y12 y13 y14 y15 f.1 f.2.1 f.2.2.1⟩, rfl, rfl⟩
theorem sd_17 (x0 x1 x2 x3 x4 x5 x6 x7 x8 x9 x10 x11 x12 x13 x14 x15 y0 y1 y2 y3 y4 y5 y6 y7 y8 y9 y10 y11 y12 y13 y14 y15 : Bool) (hb : badR 17 false [x0, x1, x2, x3, x4, x5, x6, x7, x8, x9, x10, x11, x12, x13, x14, x15, y0, y1, y2, y3, y4, y5, y6, y7, y8, y9, y10, y11, y12, y13, y14, y15] = false) (hc : V_hauberkref02_Check (iRow 17 false [x0, x1, x2, x3, x4, x5, x6, x7, x8, x9, x10, x11, x12, x13, x14, x15, y0, y1, y2, y3, y4, y5, y6, y7, y8, y9, y10, y11, y12, y13, y14, y15]) = 0) : Enc2 (iRow 17 false [x0, x1, x2, x3, x4, x5, x6, x7, x8, x9, x10, x11, x12, x13, x14, x15, y0, y1, y2, y3, y4, y5, y6, y7, y8, y9, y10, y11, y12, y13, y14, y15]) [x0, x1, x2, x3, x4, x5, x6, x7, x8, x9, x10, x11, x12, x13, x14, x15] [y0, y1, y2, y3, y4, y5, y6, y7, y8, y9, y10, y11, y12, y13, y14, y15] ∧ (iRow 17 false [x0, x1, x2, x3, x4, x5, x6, x7, x8, x9, x10, x11, x12, x13, x14, x15, y0, y1, y2, y3, y4, y5, y6, y7, y8, y9, y10, y11, y12, y13, y14, y15]).1 = 17 ∧ (iRow 17 false [x0, x1, x2, x3, x4, x5, x6, x7, x8, x9, x10, x11, x12, x13, x14, x15, y0, y1, y2, y3, y4, y5, y6, y7, y8, y9, y10, y11, y12, y13, y14, y15]).2.2.2.2.2.2.2.1 = false := by
  have hb : (fx 49 x0 || (fx 49 x1 || (fx 49 x2 || (fx 49 x3 || (fx 49 x4 || (fx 48 x5 || (fx 49 x6 || (fx 49 x7 || (fx 49 x8 || (fx 48 x9 || (fx 49 x10 || (fx 48 x11 || (fx 110 x12 || (fx 110 x13 || (fx 110 x14 || (fx 110 x15 || (fx 100 y0 || (fx 100 y1 || (fx 100 y2 || (fx 100 y3 || (fx 97 y4 || (fx 97 y5 || (fx 97 y6 || (fx 97 y7 || (fx 48 y8 || (fx 48 y9 || (fx 48 y10 || (fx 48 y11 || (fx 109 y12 || (fx 109 y13 || (fx 109 y14 || (fx 109 y15 || false)))))))))))))))))))))))))))))))) = false := hb
  simp only [Bool.or_eq_false_iff] at hb
  obtain ⟨h0, h1, h2, h3, h4, h5, h6, h7, h8, h9, h10, h11, _, _, _, _, _, _, _, _, _, _, _, _, h24, h25, h26, h27, _, _, _, _, _⟩ := hb
  obtain rfl := fx49 h0
  obtain rfl := fx49 h1
  obtain rfl := fx49 h2
  obtain rfl := fx49 h3
  obtain rfl := fx49 h4
  obtain rfl := fx48 h5
  obtain rfl := fx49 h6
  obtain rfl := fx49 h7
  obtain rfl := fx49 h8
  obtain rfl := fx48 h9
  obtain rfl := fx49 h10
  obtain rfl := fx48 h11
  obtain rfl := fx48 h24
  obtain rfl := fx48 h25
  obtain rfl := fx48 h26
  obtain rfl := fx48 h27
  have q := rr_17 x12 x13 x14 x15 y0 y1 y2 y3 y4 y5 y6 y7 y12 y13 y14 y15
  rw [q] at hc
  have f := row_facts hc
  rw [q]
  exact ⟨⟨17, _, _, _, _, _, _, false, rfl, q, fw_17 x12 x13 x14 x15 y0 y1 y2 y3 y4 y5 y6 y7 y12 y13 y14 y15 f.1 f.2.1 f.2.2.1 (f.2.2.2.1 rfl).1 (f.2.2.2.1 rfl).2⟩, rfl, rfl⟩
theorem sd_18 (x0 x1 x2 x3 x4 x5 x6 x7 x8 x9 x10 x11 x12 x13 x14 x15 y0 y1 y2 y3 y4 y5 y6 y7 y8 y9 y10 y11 y12 y13 y14 y15 : Bool) (hb : badR 18 false [x0, x1, x2, x3, x4, x5, x6, x7, x8, x9, x10, x11, x12, x13, x14, x15, y0, y1, y2, y3, y4, y5, y6, y7, y8, y9, y10, y11, y12, y13, y14, y15] = false) (hc : V_hauberkref02_Check (iRow 18 false [x0, x1, x2, x3, x4, x5, x6, x7, x8, x9, x10, x11, x12, x13, x14, x15, y0, y1, y2, y3, y4, y5, y6, y7, y8, y9, y10, y11, y12, y13, y14, y15]) = 0) : Enc2 (iRow 18 false [x0, x1, x2, x3, x4, x5, x6, x7, x8, x9, x10, x11, x12, x13, x14, x15, y0, y1, y2, y3, y4, y5, y6, y7, y8, y9, y10, y11, y12, y13, y14, y15]) [x0, x1, x2, x3, x4, x5, x6, x7, x8, x9, x10, x11, x12, x13, x14, x15] [y0, y1, y2, y3, y4, y5, y6, y7, y8, y9, y10, y11, y12, y13, y14, y15] ∧ (iRow 18 false [x0, x1, x2, x3, x4, x5, x6, x7, x8, x9, x10, x11, x12, x13, x14, x15, y0, y1, y2, y3, y4, y5, y6, y7, y8, y9, y10, y11, y12, y13, y14, y15]).1 = 18 ∧ (iRow 18 false [x0, x1, x2, x3, x4, x5, x6, x7, x8, x9, x10, x11, x12, x13, x14, x15, y0, y1, y2, y3, y4, y5, y6, y7, y8, y9, y10, y11, y12, y13, y14, y15]).2.2.2.2.2.2.2.1 = false := by
  have hb : (fx 49 x0 || (fx 49 x1 || (fx 49 x2 || (fx 49 x3 || (fx 48 x4 || (fx 48 x5 || (fx 49 x6 || (fx 49 x7 || (fx 48 x8 || (fx 49 x9 || (fx 49 x10 || (fx 48 x11 || (fx 110 x12 || (fx 110 x13 || (fx 110 x14 || (fx 110 x15 || (fx 48 y0 || (fx 69 y1 || (fx 68 y2 || (fx 67 y3 || (fx 100 y4 || (fx 100 y5 || (fx 100 y6 || (fx 100 y7 || (fx 66 y8 || (fx 65 y9 || (fx 48 y10 || (fx 119 y11 || (fx 119 y12 || (fx 119 y13 || (fx 119 y14 || (fx 119 y15 || false)))))))))))))))))))))))))))))))) = false := hb
  simp only [Bool.or_eq_false_iff] at hb
  obtain ⟨h0, h1, h2, h3, h4, h5, h6, h7, h8, h9, h10, h11, _, _, _, _, h16, _, _, _, _, _, _, _, _, _, h26, _, _, _, _, _, _⟩ := hb
  obtain rfl := fx49 h0
  obtain rfl := fx49 h1
  obtain rfl := fx49 h2
  obtain rfl := fx49 h3
  obtain rfl := fx48 h4
  obtain rfl := fx48 h5
  obtain rfl := fx49 h6
  obtain rfl := fx49 h7
  obtain rfl := fx48 h8
  obtain rfl := fx49 h9
  obtain rfl := fx49 h10
  obtain rfl := fx48 h11
  obtain rfl := fx48 h16
  obtain rfl := fx48 h26
  have q := rr_18 x12 x13 x14 x15 y1 y2 y3 y4 y5 y6 y7 y8 y9 y11 y12 y13 y14 y15
  rw [q] at hc
  have f := row_facts hc
  rw [q]
  exact ⟨⟨18, _, _, _, _, _, _, false, rfl, q, fw_18 x12 x13 x14 x15 y1 y2 y3 y4 y5 y6 y7 y8 y9 y11 y12 y13 y14 y15 f.1 f.2.1 (f.2.2.2.2.1 rfl)⟩, rfl, rfl⟩
theorem sd_19 (x0 x1 x2 x3 x4 x5 x6 x7 x8 x9 x10 x11 x12 x13 x14 x15 : Bool) (hb : badR 19 false [x0, x1, x2, x3, x4, x5, x6, x7, x8, x9, x10, x11, x12, x13, x14, x15] = false) (hc : V_hauberkref02_Check (iRow 19 false [x0, x1, x2, x3, x4, x5, x6, x7, x8, x9, x10, x11, x12, x13, x14, x15]) = 0) : Enc1 (iRow 19 false [x0, x1, x2, x3, x4, x5, x6, x7, x8, x9, x10, x11, x12, x13, x14, x15]) [x0, x1, x2, x3, x4, x5, x6, x7, x8, x9, x10, x11, x12, x13, x14, x15] ∧ (iRow 19 false [x0, x1, x2, x3, x4, x5, x6, x7, x8, x9, x10, x11, x12, x13, x14, x15]).1 = 19 ∧ (iRow 19 false [x0, x1, x2, x3, x4, x5, x6, x7, x8, x9, x10, x11, x12, x13, x14, x15]).2.2.2.2.2.2.2.1 = false := by
  have hb : (fx 48 x0 || (fx 49 x1 || (fx 49 x2 || (fx 48 x3 || (fx 49 x4 || (fx 48 x5 || (fx 48 x6 || (fx 48 x7 || (fx 48 x8 || (fx 48 x9 || (fx 110 x10 || (fx 110 x11 || (fx 110 x12 || (fx 100 x13 || (fx 100 x14 || (fx 100 x15 || false)))))))))))))))) = false := hb
  simp only [Bool.or_eq_false_iff] at hb
  obtain ⟨h0, h1, h2, h3, h4, h5, h6, h7, h8, h9, _, _, _, _, _, _, _⟩ := hb
  obtain rfl := fx48 h0
  obtain rfl := fx49 h1
  obtain rfl := fx49 h2
  obtain rfl := fx48 h3
  obtain rfl := fx49 h4
  obtain rfl := fx48 h5
  obtain rfl := fx48 h6
  obtain rfl := fx48 h7
  obtain rfl := fx48 h8
  obtain rfl := fx48 h9
  have q := rr_19 x10 x11 x12 x13 x14 x15
  rw [q] at hc
  have f := row_facts hc
  rw [q]
  exact ⟨⟨19, _, _, _, _, _, _, false, rfl, q, fw_19 x10 x11 x12 x13 x14 x15 ⟩, rfl, rfl⟩
theorem sd_20 (x0 x1 x2 x3 x4 x5 x6 x7 x8 x9 x10 x11 x12 x13 x14 x15 : Bool) (hb : badR 20 false [x0, x1, x2, x3, x4, x5, x6, x7, x8, x9, x10, x11, x12, x13, x14, x15] = false) (hc : V_hauberkref02_Check (iRow 20 false [x0, x1, x2, x3, x4, x5, x6, x7, x8, x9, x10, x11, x12, x13, x14, x15]) = 0) : Enc1 (iRow 20 false [x0, x1, x2, x3, x4, x5, x6, x7, x8, x9, x10, x11, x12, x13, x14, x15]) [x0, x1, x2, x3, x4, x5, x6, x7, x8, x9, x10, x11, x12, x13, x14, x15] ∧ (iRow 20 false [x0, x1, x2, x3, x4, x5, x6, x7, x8, x9, x10, x11, x12, x13, x14, x15]).1 = 20 ∧ (iRow 20 false [x0, x1, x2, x3, x4, x5, x6, x7, x8, x9, x10, x11, x12, x13, x14, x15]).2.2.2.2.2.2.2.1 = false := by
  have hb : (fx 48 x0 || (fx 49 x1 || (fx 49 x2 || (fx 48 x3 || (fx 48 x4 || (fx 48 x5 || (fx 48 x6 || (fx 48 x7 || (fx 48 x8 || (fx 48 x9 || (fx 110 x10 || (fx 110 x11 || (fx 110 x12 || (fx 100 x13 || (fx 100 x14 || (fx 100 x15 || false)))))))))))))))) = false := hb
  simp only [Bool.or_eq_false_iff] at hb
  obtain ⟨h0, h1, h2, h3, h4, h5, h6, h7, h8, h9, _, _, _, _, _, _, _⟩ := hb
  obtain rfl := fx48 h0
  obtain rfl := fx49 h1
  obtain rfl := fx49 h2
  obtain rfl := fx48 h3
  obtain rfl := fx48 h4
  obtain rfl := fx48 h5
  obtain rfl := fx48 h6
  obtain rfl := fx48 h7
  obtain rfl := fx48 h8
  obtain rfl := fx48 h9
  have q := rr_20 x10 x11 x12 x13 x14 x15
  rw [q] at hc
  have f := row_facts hc
  rw [q]
  exact ⟨⟨20, _, _, _, _, _, _, false, rfl, q, fw_20 x10 x11 x12 x13 x14 x15 ⟩, rfl, rfl⟩
theorem sd_21 (x0 x1 x2 x3 x4 x5 x6 x7 x8 x9 x10 x11 x12 x13 x14 x15 : Bool) (hb : badR 21 false [x0, x1, x2, x3, x4, x5, x6, x7, x8, x9, x10, x11, x12, x13, x14, x15] = false) (hc : V_hauberkref02_Check (iRow 21 false [x0, x1, x2, x3, x4, x5, x6, x7, x8, x9, x10, x11, x12, x13, x14, x15]) = 0) : Enc1 (iRow 21 false [x0, x1, x2, x3, x4, x5, x6, x7, x8, x9, x10, x11, x12, x13, x14, x15]) [x0, x1, x2, x3, x4, x5, x6, x7, x8, x9, x10, x11, x12, x13, x14, x15] ∧ (iRow 21 false [x0, x1, x2, x3, x4, x5, x6, x7, x8, x9, x10, x11, x12, x13, x14, x15]).1 = 21 ∧ (iRow 21 false [x0, x1, x2, x3, x4, x5, x6, x7, x8, x9, x10, x11, x12, x13, x14, x15]).2.2.2.2.2.2.2.1 = false := by
  have hb : (fx 48 x0 || (fx 49 x1 || (fx 49 x2 || (fx 49 x3 || (fx 49 x4 || (fx 48 x5 || (fx 48 x6 || (fx 48 x7 || (fx 48 x8 || (fx 48 x9 || (fx 110 x10 || (fx 110 x11 || (fx 110 x12 || (fx 100 x13 || (fx 100 x14 || (fx 100 x15 || false)))))))))))))))) = false := hb
  simp only [Bool.or_eq_false_iff] at hb
  obtain ⟨h0, h1, h2, h3, h4, h5, h6, h7, h8, h9, _, _, _, _, _, _, _⟩ := hb
  obtain rfl := fx48 h0
  obtain rfl := fx49 h1
  obtain rfl := fx49 h2
  obtain rfl := fx49 h3
  obtain rfl := fx49 h4
  obtain rfl := fx48 h5
  obtain rfl := fx48 h6
  obtain rfl := fx48 h7
  obtain rfl := fx48 h8
  obtain rfl := fx48 h9
  have q := rr_21 x10 x11 x12 x13 x14 x15
  rw [q] at hc
  have f := row_facts hc
  rw [q]
  exact ⟨⟨21, _, _, _, _, _, _, false, rfl, q, fw_21 x10 x11 x12 x13 x14 x15 ⟩, rfl, rfl⟩
theorem sd_22 (x0 x1 x2 x3 x4 x5 x6 x7 x8 x9 x10 x11 x12 x13 x14 x15 : Bool) (hb : badR 22 false [x0, x1, x2, x3, x4, x5, x6, x7, x8, x9, x10, x11, x12, x13, x14, x15] = false) (hc : V_hauberkref02_Check (iRow 22 false [x0, x1, x2, x3, x4, x5, x6, x7, x8, x9, x10, x11, x12, x13, x14, x15]) = 0) : Enc1 (iRow 22 false [x0, x1, x2, x3, x4, x5, x6, x7, x8, x9, x10, x11, x12, x13, x14, x15]) [x0, x1, x2, x3, x4, x5, x6, x7, x8, x9, x10, x11, x12, x13, x14, x15] ∧ (iRow 22 false [x0, x1, x2, x3, x4, x5, x6, x7, x8, x9, x10, x11, x12, x13, x14, x15]).1 = 22 ∧ (iRow 22 false [x0, x1, x2, x3, x4, x5, x6, x7, x8, x9, x10, x11, x12, x13, x14, x15]).2.2.2.2.2.2.2.1 = false := by
  have hb : (fx 48 x0 || (fx 49 x1 || (fx 49 x2 || (fx 49 x3 || (fx 48 x4 || (fx 48 x5 || (fx 48 x6 || (fx 48 x7 || (fx 48 x8 || (fx 48 x9 || (fx 110 x10 || (fx 110 x11 || (fx 110 x12 || (fx 100 x13 || (fx 100 x14 || (fx 100 x15 || false)))))))))))))))) = false := hb
  simp only [Bool.or_eq_false_iff] at hb
  obtain ⟨h0, h1, h2, h3, h4, h5, h6, h7, h8, h9, _, _, _, _, _, _, _⟩ := hb
  obtain rfl := fx48 h0
  obtain rfl := fx49 h1
  obtain rfl := fx49 h2
  obtain rfl := fx49 h3
  obtain rfl := fx48 h4
  obtain rfl := fx48 h5
  obtain rfl := fx48 h6
  obtain rfl := fx48 h7
  obtain rfl := fx48 h8
  obtain rfl := fx48 h9
  have q := rr_22 x10 x11 x12 x13 x14 x15
  rw [q] at hc
  have f := row_facts hc
  rw [q]
  exact ⟨⟨22, _, _, _, _, _, _, false, rfl, q, fw_22 x10 x11 x12 x13 x14 x15 ⟩, rfl, rfl⟩
theorem sd_23 (x0 x1 x2 x3 x4 x5 x6 x7 x8 x9 x10 x11 x12 x13 x14 x15 : Bool) (hb : badR 23 false [x0, x1, x2, x3, x4, x5, x6, x7, x8, x9, x10, x11, x12, x13, x14, x15] = false) (hc : V_hauberkref02_Check (iRow 23 false [x0, x1, x2, x3, x4, x5, x6, x7, x8, x9, x10, x11, x12, x13, x14, x15]) = 0) : Enc1 (iRow 23 false [x0, x1, x2, x3, x4, x5, x6, x7, x8, x9, x10, x11, x12, x13, x14, x15]) [x0, x1, x2, x3, x4, x5, x6, x7, x8, x9, x10, x11, x12, x13, x14, x15] ∧ (iRow 23 false [x0, x1, x2, x3, x4, x5, x6, x7, x8, x9, x10, x11, x12, x13, x14, x15]).1 = 23 ∧ (iRow 23 false [x0, x1, x2, x3, x4, x5, x6, x7, x8, x9, x10, x11, x12, x13, x14, x15]).2.2.2.2.2.2.2.1 = false := by
  have hb : (fx 48 x0 || (fx 49 x1 || (fx 48 x2 || (fx 48 x3 || (fx 48 x4 || (fx 48 x5 || (fx 49 x6 || (fx 48 x7 || (fx 49 x8 || (fx 48 x9 || (fx 109 x10 || (fx 109 x11 || (fx 109 x12 || (fx 110 x13 || (fx 110 x14 || (fx 110 x15 || false)))))))))))))))) = false := hb
  simp only [Bool.or_eq_false_iff] at hb
  obtain ⟨h0, h1, h2, h3, h4, h5, h6, h7, h8, h9, _, _, _, _, _, _, _⟩ := hb
  obtain rfl := fx48 h0
  obtain rfl := fx49 h1
  obtain rfl := fx48 h2
  obtain rfl := fx48 h3
  obtain rfl := fx48 h4
  obtain rfl := fx48 h5
  obtain rfl := fx49 h6
  obtain rfl := fx48 h7
  obtain rfl := fx49 h8
  obtain rfl := fx48 h9
  have q := rr_23 x10 x11 x12 x13 x14 x15
  rw [q] at hc
  have f := row_facts hc
  rw [q]
  exact ⟨⟨23, _, _, _, _, _, _, false, rfl, q, fw_23 x10 x11 x12 x13 x14 x15 ⟩, rfl, rfl⟩
theorem sd_24 (x0 x1 x2 x3 x4 x5 x6 x7 x8 x9 x10 x11 x12 x13 x14 x15 : Bool) (hb : badR 24 false [x0, x1, x2, x3, x4, x5, x6, x7, x8, x9, x10, x11, x12, x13, x14, x15] = false) (hc : V_hauberkref02_Check (iRow 24 false [x0, x1, x2, x3, x4, x5, x6, x7, x8, x9, x10, x11, x12, x13, x14, x15]) = 0) : Enc1 (iRow 24 false [x0, x1, x2, x3, x4, x5, x6, x7, x8, x9, x10, x11, x12, x13, x14, x15]) [x0, x1, x2, x3, x4, x5, x6, x7, x8, x9, x10, x11, x12, x13, x14, x15] ∧ (iRow 24 false [x0, x1, x2, x3, x4, x5, x6, x7, x8, x9, x10, x11, x12, x13, x14, x15]).1 = 24 ∧ (iRow 24 false [x0, x1, x2, x3, x4, x5, x6, x7, x8, x9, x10, x11, x12, x13, x14, x15]).2.2.2.2.2.2.2.1 = false := by
  have hb : (fx 49 x0 || (fx 49 x1 || (fx 49 x2 || (fx 48 x3 || (fx 48 x4 || (fx 76 x5 || (fx 75 x6 || (fx 74 x7 || (fx 73 x8 || (fx 72 x9 || (fx 71 x10 || (fx 70 x11 || (fx 69 x12 || (fx 68 x13 || (fx 67 x14 || (fx 66 x15 || false)))))))))))))))) = false := hb
  simp only [Bool.or_eq_false_iff] at hb
  obtain ⟨h0, h1, h2, h3, h4, _, _, _, _, _, _, _, _, _, _, _, _⟩ := hb
  obtain rfl := fx49 h0
  obtain rfl := fx49 h1
  obtain rfl := fx49 h2
  obtain rfl := fx48 h3
  obtain rfl := fx48 h4
  have q := rr_24 x5 x6 x7 x8 x9 x10 x11 x12 x13 x14 x15
  rw [q] at hc
  have f := row_facts hc
  rw [q]
  exact ⟨⟨24, _, _, _, _, _, _, false, rfl, q, fw_24 x5 x6 x7 x8 x9 x10 x11 x12 x13 x14 x15 ⟩, rfl, rfl⟩
theorem sd_24w (x0 x1 x2 x3 x4 x5 x6 x7 x8 x9 x10 x11 x12 x13 x14 x15 y0 y1 y2 y3 y4 y5 y6 y7 y8 y9 y10 y11 y12 y13 y14 y15 : Bool) (hb : badR 24 true [x0, x1, x2, x3, x4, x5, x6, x7, x8, x9, x10, x11, x12, x13, x14, x15, y0, y1, y2, y3, y4, y5, y6, y7, y8, y9, y10, y11, y12, y13, y14, y15] = false) (hc : V_hauberkref02_Check (iRow 24 true [x0, x1, x2, x3, x4, x5, x6, x7, x8, x9, x10, x11, x12, x13, x14, x15, y0, y1, y2, y3, y4, y5, y6, y7, y8, y9, y10, y11, y12, y13, y14, y15]) = 0) : Enc2 (iRow 24 true [x0, x1, x2, x3, x4, x5, x6, x7, x8, x9, x10, x11, x12, x13, x14, x15, y0, y1, y2, y3, y4, y5, y6, y7, y8, y9, y10, y11, y12, y13, y14, y15]) [x0, x1, x2, x3, x4, x5, x6, x7, x8, x9, x10, x11, x12, x13, x14, x15] [y0, y1, y2, y3, y4, y5, y6, y7, y8, y9, y10, y11, y12, y13, y14, y15] ∧ (iRow 24 true [x0, x1, x2, x3, x4, x5, x6, x7, x8, x9, x10, x11, x12, x13, x14, x15, y0, y1, y2, y3, y4, y5, y6, y7, y8, y9, y10, y11, y12, y13, y14, y15]).1 = 24 ∧ (iRow 24 true [x0, x1, x2, x3, x4, x5, x6, x7, x8, x9, x10, x11, x12, x13, x14, x15, y0, y1, y2, y3, y4, y5, y6, y7, y8, y9, y10, y11, y12, y13, y14, y15]).2.2.2.2.2.2.2.1 = true := by
  have hb : (fx 49 x0 || (fx 49 x1 || (fx 49 x2 || (fx 49 x3 || (fx 48 x4 || (fx 89 x5 || (fx 86 x6 || (fx 85 x7 || (fx 84 x8 || (fx 83 x9 || (fx 82 x10 || (fx 81 x11 || (fx 80 x12 || (fx 79 x13 || (fx 78 x14 || (fx 77 x15 || (fx 49 y0 || (fx 48 y1 || (fx 120 y2 || (fx 49 y3 || (fx 121 y4 || (fx 76 y5 || (fx 75 y6 || (fx 74 y7 || (fx 73 y8 || (fx 72 y9 || (fx 71 y10 || (fx 70 y11 || (fx 69 y12 || (fx 68 y13 || (fx 67 y14 || (fx 66 y15 || false)))))))))))))))))))))))))))))))) = false := hb
  simp only [Bool.or_eq_false_iff] at hb
  obtain ⟨h0, h1, h2, h3, h4, _, _, _, _, _, _, _, _, _, _, _, h16, h17, _, h19, _, _, _, _, _, _, _, _, _, _, _, _, _⟩ := hb
  obtain rfl := fx49 h0
  obtain rfl := fx49 h1
  obtain rfl := fx49 h2
  obtain rfl := fx49 h3
  obtain rfl := fx48 h4
  obtain rfl := fx49 h16
  obtain rfl := fx48 h17
  obtain rfl := fx49 h19
  have q := rr_24w x5 x6 x7 x8 x9 x10 x11 x12 x13 x14 x15 y2 y4 y5 y6 y7 y8 y9 y10 y11 y12 y13 y14 y15
  rw [q] at hc
  have f := row_facts hc
  rw [q]
  exact ⟨⟨24, _, _, _, _, _, _, true, rfl, q, fw_24w x5 x6 x7 x8 x9 x10 x11 x12 x13 x14 x15 y2 y4 y5 y6 y7 y8 y9 y10 y11 y12 y13 y14 y15 ⟩, rfl, rfl⟩
theorem sd_25 (x0 x1 x2 x3 x4 x5 x6 x7 x8 x9 x10 x11 x12 x13 x14 x15 : Bool) (hb : badR 25 false [x0, x1, x2, x3, x4, x5, x6, x7, x8, x9, x10, x11, x12, x13, x14, x15] = false) (hc : V_hauberkref02_Check (iRow 25 false [x0, x1, x2, x3, x4, x5, x6, x7, x8, x9, x10, x11, x12, x13, x14, x15]) = 0) : Enc1 (iRow 25 false [x0, x1, x2, x3, x4, x5, x6, x7, x8, x9, x10, x11, x12, x13, x14, x15]) [x0, x1, x2, x3, x4, x5, x6, x7, x8, x9, x10, x11, x12, x13, x14, x15] ∧ (iRow 25 false [x0, x1, x2, x3, x4, x5, x6, x7, x8, x9, x10, x11, x12, x13, x14, x15]).1 = 25 ∧ (iRow 25 false [x0, x1, x2, x3, x4, x5, x6, x7, x8, x9, x10, x11, x12, x13, x14, x15]).2.2.2.2.2.2.2.1 = false := by
  have hb : (fx 49 x0 || (fx 49 x1 || (fx 48 x2 || (fx 49 x3 || (fx 99 x4 || (fx 99 x5 || (fx 99 x6 || (fx 99 x7 || (fx 73 x8 || (fx 72 x9 || (fx 71 x10 || (fx 70 x11 || (fx 69 x12 || (fx 68 x13 || (fx 67 x14 || (fx 66 x15 || false)))))))))))))))) = false := hb
  simp only [Bool.or_eq_false_iff] at hb
  obtain ⟨h0, h1, h2, h3, _, _, _, _, _, _, _, _, _, _, _, _, _⟩ := hb
  obtain rfl := fx49 h0
  obtain rfl := fx49 h1
  obtain rfl := fx48 h2
  obtain rfl := fx49 h3
  have q := rr_25 x4 x5 x6 x7 x8 x9 x10 x11 x12 x13 x14 x15
  rw [q] at hc
  have f := row_facts hc
  rw [q]
  exact ⟨⟨25, _, _, _, _, _, _, false, rfl, q, fw_25 x4 x5 x6 x7 x8 x9 x10 x11 x12 x13 x14 x15 (f.2.2.2.2.2.2 rfl)⟩, rfl, rfl⟩
theorem sd_25w (x0 x1 x2 x3 x4 x5 x6 x7 x8 x9 x10 x11 x12 x13 x14 x15 y0 y1 y2 y3 y4 y5 y6 y7 y8 y9 y10 y11 y12 y13 y14 y15 : Bool) (hb : badR 25 true [x0, x1, x2, x3, x4, x5, x6, x7, x8, x9, x10, x11, x12, x13, x14, x15, y0, y1, y2, y3, y4, y5, y6, y7, y8, y9, y10, y11, y12, y13, y14, y15] = false) (hc : V_hauberkref02_Check (iRow 25 true [x0, x1, x2, x3, x4, x5, x6, x7, x8, x9, x10, x11, x12, x13, x14, x15, y0, y1, y2, y3, y4, y5, y6, y7, y8, y9, y10, y11, y12, y13, y14, y15]) = 0) : Enc2 (iRow 25 true [x0, x1, x2, x3, x4, x5, x6, x7, x8, x9, x10, x11, x12, x13, x14, x15, y0, y1, y2, y3, y4, y5, y6, y7, y8, y9, y10, y11, y12, y13, y14, y15]) [x0, x1, x2, x3, x4, x5, x6, x7, x8, x9, x10, x11, x12, x13, x14, x15] [y0, y1, y2, y3, y4, y5, y6, y7, y8, y9, y10, y11, y12, y13, y14, y15] ∧ (iRow 25 true [x0, x1, x2, x3, x4, x5, x6, x7, x8, x9, x10, x11, x12, x13, x14, x15, y0, y1, y2, y3, y4, y5, y6, y7, y8, y9, y10, y11, y12, y13, y14, y15]).1 = 25 ∧ (iRow 25 true [x0, x1, x2, x3, x4, x5, x6, x7, x8, x9, x10, x11, x12, x13, x14, x15, y0, y1, y2, y3, y4, y5, y6, y7, y8, y9, y10, y11, y12, y13, y14, y15]).2.2.2.2.2.2.2.1 = true := by
  have hb : (fx 49 x0 || (fx 49 x1 || (fx 49 x2 || (fx 49 x3 || (fx 48 x4 || (fx 85 x5 || (fx 99 x6 || (fx 99 x7 || (fx 99 x8 || (fx 99 x9 || (fx 82 x10 || (fx 81 x11 || (fx 80 x12 || (fx 79 x13 || (fx 78 x14 || (fx 77 x15 || (fx 49 y0 || (fx 48 y1 || (fx 83 y2 || (fx 48 y3 || (fx 84 y4 || (fx 76 y5 || (fx 75 y6 || (fx 74 y7 || (fx 73 y8 || (fx 72 y9 || (fx 71 y10 || (fx 70 y11 || (fx 69 y12 || (fx 68 y13 || (fx 67 y14 || (fx 66 y15 || false)))))))))))))))))))))))))))))))) = false := hb
  simp only [Bool.or_eq_false_iff] at hb
  obtain ⟨h0, h1, h2, h3, h4, _, _, _, _, _, _, _, _, _, _, _, h16, h17, _, h19, _, _, _, _, _, _, _, _, _, _, _, _, _⟩ := hb
  obtain rfl := fx49 h0
  obtain rfl := fx49 h1
  obtain rfl := fx49 h2
  obtain rfl := fx49 h3
  obtain rfl := fx48 h4
  obtain rfl := fx49 h16
  obtain rfl := fx48 h17
  obtain rfl := fx48 h19
  have q := rr_25w x5 x6 x7 x8 x9 x10 x11 x12 x13 x14 x15 y2 y4 y5 y6 y7 y8 y9 y10 y11 y12 y13 y14 y15
  rw [q] at hc
  have f := row_facts hc
  rw [q]
  exact ⟨⟨25, _, _, _, _, _, _, true, rfl, q, fw_25w x5 x6 x7 x8 x9 x10 x11 x12 x13 x14 x15 y2 y4 y5 y6 y7 y8 y9 y10 y11 y12 y13 y14 y15 (f.2.2.2.2.2.2 rfl)⟩, rfl, rfl⟩
end Go.Av
/-! Layer 3: the document's decoder is the program's. Written by wip/tools/decbytes.py. -/
namespace Go.Av
open Go
theorem of_found {op : Int} {w : Bool} {l : List Bool} (hlen : (V_hauberkref02_Bits (op, w)).length = l.length) (hne : V_hauberkref02_Bits (op, w) ≠ []) (h : (V_hauberkref03_read (op, w, tx l)).2.1 = true) :
    badR op w l = false ∧ V_hauberkref02_Check (iRow op w l) = 0 ∧ (V_hauberkref03_read (op, w, tx l)).1 = iRow op w l := by
  have ht := refread_T op w l hlen hne
  have hv : V_hauberkref03_read (op, w, tx l) = (bif badR op w l then (zI, false, ()) else (iRow op w l, V_hauberkref02_Check (iRow op w l) == 0, ())) := by unfold V_hauberkref03_read PO.getO; rw [ht]; rfl
  rw [hv] at h ⊢
  cases hb : badR op w l
  · rw [hb] at h
    have h : (V_hauberkref02_Check (iRow op w l) == (0 : Int)) = true := h
    exact ⟨rfl, by simpa using h, rfl⟩
  · rw [hb] at h
    cases h
theorem not_found {op : Int} {w : Bool} {l : List Bool} (h : (V_hauberkref02_Bits (op, w)).length ≠ l.length ∨ V_hauberkref02_Bits (op, w) = []) : (V_hauberkref03_read (op, w, tx l)).2.1 = false := by
  have ht := refread_none op w l h
  unfold V_hauberkref03_read PO.getO
  rw [ht]
  rfl
theorem read_G (op : Int) (w : Bool) (l : List Bool) : G_hauberkref03_read (op, w, tx l) = true := by
  unfold G_hauberkref03_read
  by_cases h : (V_hauberkref02_Bits (op, w)).length = l.length ∧ V_hauberkref02_Bits (op, w) ≠ []
  · rw [refread_T op w l h.1 h.2]; rfl
  · rw [refread_none op w l (by
      by_cases h1 : (V_hauberkref02_Bits (op, w)).length = l.length
      · right
        exact Classical.not_not.1 (fun h2 => h ⟨h1, h2⟩)
      · exact .inl h1)]
    rfl
theorem found16 (x0 x1 x2 x3 x4 x5 x6 x7 x8 x9 x10 x11 x12 x13 x14 x15 : Bool) (op : Int) (w : Bool) (h : (V_hauberkref03_read (op, w, tx [x0, x1, x2, x3, x4, x5, x6, x7, x8, x9, x10, x11, x12, x13, x14, x15])).2.1 = true) :
    Enc1 (V_hauberkref03_read (op, w, tx [x0, x1, x2, x3, x4, x5, x6, x7, x8, x9, x10, x11, x12, x13, x14, x15])).1 [x0, x1, x2, x3, x4, x5, x6, x7, x8, x9, x10, x11, x12, x13, x14, x15] ∧ (V_hauberkref03_read (op, w, tx [x0, x1, x2, x3, x4, x5, x6, x7, x8, x9, x10, x11, x12, x13, x14, x15])).1.1 = op ∧ (V_hauberkref03_read (op, w, tx [x0, x1, x2, x3, x4, x5, x6, x7, x8, x9, x10, x11, x12, x13, x14, x15])).1.2.2.2.2.2.2.2.1 = w := by
  rcases op_cases op with rfl | rfl | rfl | rfl | rfl | rfl | rfl | rfl | rfl | rfl | rfl | rfl | rfl | rfl | rfl | rfl | rfl | rfl | rfl | rfl | rfl | rfl | rfl | rfl | rfl | hop
  case inr.inr.inr.inr.inr.inr.inr.inr.inr.inr.inr.inr.inr.inr.inr.inr.inr.inr.inr.inr.inr.inr.inr.inr.inr => exact Bool.noConfusion ((not_found (.inr (bits_none hop w))).symm.trans h)
  all_goals cases w
  · obtain ⟨b, c, e⟩ := of_found (op := 1) (w := false) rfl (by decide) h
    obtain ⟨s1, s2, s3⟩ := sd_1 _ _ _ _ _ _ _ _ _ _ _ _ _ _ _ _ b c
    rw [e]
    exact ⟨s1, s2, s3⟩
  · exact Bool.noConfusion ((not_found (op := 1) (w := true) (l := [x0, x1, x2, x3, x4, x5, x6, x7, x8, x9, x10, x11, x12, x13, x14, x15]) (.inr rfl)).symm.trans h)
  · obtain ⟨b, c, e⟩ := of_found (op := 2) (w := false) rfl (by decide) h
    obtain ⟨s1, s2, s3⟩ := sd_2 _ _ _ _ _ _ _ _ _ _ _ _ _ _ _ _ b c
    rw [e]
    exact ⟨s1, s2, s3⟩
  · exact Bool.noConfusion ((not_found (op := 2) (w := true) (l := [x0, x1, x2, x3, x4, x5, x6, x7, x8, x9, x10, x11, x12, x13, x14, x15]) (.inr rfl)).symm.trans h)
  · exact Bool.noConfusion ((not_found (op := 3) (w := false) (l := [x0, x1, x2, x3, x4, x5, x6, x7, x8, x9, x10, x11, x12, x13, x14, x15]) (.inl (show (32 : Nat) ≠ 16 by decide))).symm.trans h)
  · exact Bool.noConfusion ((not_found (op := 3) (w := true) (l := [x0, x1, x2, x3, x4, x5, x6, x7, x8, x9, x10, x11, x12, x13, x14, x15]) (.inr rfl)).symm.trans h)
  · exact Bool.noConfusion ((not_found (op := 4) (w := false) (l := [x0, x1, x2, x3, x4, x5, x6, x7, x8, x9, x10, x11, x12, x13, x14, x15]) (.inl (show (32 : Nat) ≠ 16 by decide))).symm.trans h)
  · exact Bool.noConfusion ((not_found (op := 4) (w := true) (l := [x0, x1, x2, x3, x4, x5, x6, x7, x8, x9, x10, x11, x12, x13, x14, x15]) (.inr rfl)).symm.trans h)
  · exact Bool.noConfusion ((not_found (op := 5) (w := false) (l := [x0, x1, x2, x3, x4, x5, x6, x7, x8, x9, x10, x11, x12, x13, x14, x15]) (.inl (show (32 : Nat) ≠ 16 by decide))).symm.trans h)
  · exact Bool.noConfusion ((not_found (op := 5) (w := true) (l := [x0, x1, x2, x3, x4, x5, x6, x7, x8, x9, x10, x11, x12, x13, x14, x15]) (.inr rfl)).symm.trans h)
  · exact Bool.noConfusion ((not_found (op := 6) (w := false) (l := [x0, x1, x2, x3, x4, x5, x6, x7, x8, x9, x10, x11, x12, x13, x14, x15]) (.inl (show (32 : Nat) ≠ 16 by decide))).symm.trans h)
  · exact Bool.noConfusion ((not_found (op := 6) (w := true) (l := [x0, x1, x2, x3, x4, x5, x6, x7, x8, x9, x10, x11, x12, x13, x14, x15]) (.inr rfl)).symm.trans h)
  · exact Bool.noConfusion ((not_found (op := 7) (w := false) (l := [x0, x1, x2, x3, x4, x5, x6, x7, x8, x9, x10, x11, x12, x13, x14, x15]) (.inl (show (32 : Nat) ≠ 16 by decide))).symm.trans h)
  · exact Bool.noConfusion ((not_found (op := 7) (w := true) (l := [x0, x1, x2, x3, x4, x5, x6, x7, x8, x9, x10, x11, x12, x13, x14, x15]) (.inr rfl)).symm.trans h)
  · exact Bool.noConfusion ((not_found (op := 8) (w := false) (l := [x0, x1, x2, x3, x4, x5, x6, x7, x8, x9, x10, x11, x12, x13, x14, x15]) (.inl (show (32 : Nat) ≠ 16 by decide))).symm.trans h)
  · exact Bool.noConfusion ((not_found (op := 8) (w := true) (l := [x0, x1, x2, x3, x4, x5, x6, x7, x8, x9, x10, x11, x12, x13, x14, x15]) (.inr rfl)).symm.trans h)
  · exact Bool.noConfusion ((not_found (op := 9) (w := false) (l := [x0, x1, x2, x3, x4, x5, x6, x7, x8, x9, x10, x11, x12, x13, x14, x15]) (.inl (show (32 : Nat) ≠ 16 by decide))).symm.trans h)
  · exact Bool.noConfusion ((not_found (op := 9) (w := true) (l := [x0, x1, x2, x3, x4, x5, x6, x7, x8, x9, x10, x11, x12, x13, x14, x15]) (.inr rfl)).symm.trans h)
  · exact Bool.noConfusion ((not_found (op := 10) (w := false) (l := [x0, x1, x2, x3, x4, x5, x6, x7, x8, x9, x10, x11, x12, x13, x14, x15]) (.inl (show (32 : Nat) ≠ 16 by decide))).symm.trans h)
  · exact Bool.noConfusion ((not_found (op := 10) (w := true) (l := [x0, x1, x2, x3, x4, x5, x6, x7, x8, x9, x10, x11, x12, x13, x14, x15]) (.inr rfl)).symm.trans h)
  · exact Bool.noConfusion ((not_found (op := 11) (w := false) (l := [x0, x1, x2, x3, x4, x5, x6, x7, x8, x9, x10, x11, x12, x13, x14, x15]) (.inl (show (32 : Nat) ≠ 16 by decide))).symm.trans h)
  · exact Bool.noConfusion ((not_found (op := 11) (w := true) (l := [x0, x1, x2, x3, x4, x5, x6, x7, x8, x9, x10, x11, x12, x13, x14, x15]) (.inr rfl)).symm.trans h)
  · exact Bool.noConfusion ((not_found (op := 12) (w := false) (l := [x0, x1, x2, x3, x4, x5, x6, x7, x8, x9, x10, x11, x12, x13, x14, x15]) (.inl (show (32 : Nat) ≠ 16 by decide))).symm.trans h)
  · exact Bool.noConfusion ((not_found (op := 12) (w := true) (l := [x0, x1, x2, x3, x4, x5, x6, x7, x8, x9, x10, x11, x12, x13, x14, x15]) (.inr rfl)).symm.trans h)
  · exact Bool.noConfusion ((not_found (op := 13) (w := false) (l := [x0, x1, x2, x3, x4, x5, x6, x7, x8, x9, x10, x11, x12, x13, x14, x15]) (.inl (show (32 : Nat) ≠ 16 by decide))).symm.trans h)
  · exact Bool.noConfusion ((not_found (op := 13) (w := true) (l := [x0, x1, x2, x3, x4, x5, x6, x7, x8, x9, x10, x11, x12, x13, x14, x15]) (.inr rfl)).symm.trans h)
  · exact Bool.noConfusion ((not_found (op := 14) (w := false) (l := [x0, x1, x2, x3, x4, x5, x6, x7, x8, x9, x10, x11, x12, x13, x14, x15]) (.inl (show (32 : Nat) ≠ 16 by decide))).symm.trans h)
  · exact Bool.noConfusion ((not_found (op := 14) (w := true) (l := [x0, x1, x2, x3, x4, x5, x6, x7, x8, x9, x10, x11, x12, x13, x14, x15]) (.inr rfl)).symm.trans h)
  · exact Bool.noConfusion ((not_found (op := 15) (w := false) (l := [x0, x1, x2, x3, x4, x5, x6, x7, x8, x9, x10, x11, x12, x13, x14, x15]) (.inl (show (32 : Nat) ≠ 16 by decide))).symm.trans h)
  · exact Bool.noConfusion ((not_found (op := 15) (w := true) (l := [x0, x1, x2, x3, x4, x5, x6, x7, x8, x9, x10, x11, x12, x13, x14, x15]) (.inr rfl)).symm.trans h)
  · exact Bool.noConfusion ((not_found (op := 16) (w := false) (l := [x0, x1, x2, x3, x4, x5, x6, x7, x8, x9, x10, x11, x12, x13, x14, x15]) (.inl (show (32 : Nat) ≠ 16 by decide))).symm.trans h)
  · exact Bool.noConfusion ((not_found (op := 16) (w := true) (l := [x0, x1, x2, x3, x4, x5, x6, x7, x8, x9, x10, x11, x12, x13, x14, x15]) (.inr rfl)).symm.trans h)
  · exact Bool.noConfusion ((not_found (op := 17) (w := false) (l := [x0, x1, x2, x3, x4, x5, x6, x7, x8, x9, x10, x11, x12, x13, x14, x15]) (.inl (show (32 : Nat) ≠ 16 by decide))).symm.trans h)
  · exact Bool.noConfusion ((not_found (op := 17) (w := true) (l := [x0, x1, x2, x3, x4, x5, x6, x7, x8, x9, x10, x11, x12, x13, x14, x15]) (.inr rfl)).symm.trans h)
  · exact Bool.noConfusion ((not_found (op := 18) (w := false) (l := [x0, x1, x2, x3, x4, x5, x6, x7, x8, x9, x10, x11, x12, x13, x14, x15]) (.inl (show (32 : Nat) ≠ 16 by decide))).symm.trans h)
  · exact Bool.noConfusion ((not_found (op := 18) (w := true) (l := [x0, x1, x2, x3, x4, x5, x6, x7, x8, x9, x10, x11, x12, x13, x14, x15]) (.inr rfl)).symm.trans h)
  · obtain ⟨b, c, e⟩ := of_found (op := 19) (w := false) rfl (by decide) h
    obtain ⟨s1, s2, s3⟩ := sd_19 _ _ _ _ _ _ _ _ _ _ _ _ _ _ _ _ b c
    rw [e]
    exact ⟨s1, s2, s3⟩
  · exact Bool.noConfusion ((not_found (op := 19) (w := true) (l := [x0, x1, x2, x3, x4, x5, x6, x7, x8, x9, x10, x11, x12, x13, x14, x15]) (.inr rfl)).symm.trans h)
  · obtain ⟨b, c, e⟩ := of_found (op := 20) (w := false) rfl (by decide) h
    obtain ⟨s1, s2, s3⟩ := sd_20 _ _ _ _ _ _ _ _ _ _ _ _ _ _ _ _ b c
    rw [e]
    exact ⟨s1, s2, s3⟩
  · exact Bool.noConfusion ((not_found (op := 20) (w := true) (l := [x0, x1, x2, x3, x4, x5, x6, x7, x8, x9, x10, x11, x12, x13, x14, x15]) (.inr rfl)).symm.trans h)
  · obtain ⟨b, c, e⟩ := of_found (op := 21) (w := false) rfl (by decide) h
    obtain ⟨s1, s2, s3⟩ := sd_21 _ _ _ _ _ _ _ _ _ _ _ _ _ _ _ _ b c
    rw [e]
    exact ⟨s1, s2, s3⟩
  · exact Bool.noConfusion ((not_found (op := 21) (w := true) (l := [x0, x1, x2, x3, x4, x5, x6, x7, x8, x9, x10, x11, x12, x13, x14, x15]) (.inr rfl)).symm.trans h)
  · obtain ⟨b, c, e⟩ := of_found (op := 22) (w := false) rfl (by decide) h
    obtain ⟨s1, s2, s3⟩ := sd_22 _ _ _ _ _ _ _ _ _ _ _ _ _ _ _ _ b c
    rw [e]
    exact ⟨s1, s2, s3⟩
  · exact Bool.noConfusion ((not_found (op := 22) (w := true) (l := [x0, x1, x2, x3, x4, x5, x6, x7, x8, x9, x10, x11, x12, x13, x14, x15]) (.inr rfl)).symm.trans h)
  · obtain ⟨b, c, e⟩ := of_found (op := 23) (w := false) rfl (by decide) h
    obtain ⟨s1, s2, s3⟩ := sd_23 _ _ _ _ _ _ _ _ _ _ _ _ _ _ _ _ b c
    rw [e]
    exact ⟨s1, s2, s3⟩
  · exact Bool.noConfusion ((not_found (op := 23) (w := true) (l := [x0, x1, x2, x3, x4, x5, x6, x7, x8, x9, x10, x11, x12, x13, x14, x15]) (.inr rfl)).symm.trans h)
  · obtain ⟨b, c, e⟩ := of_found (op := 24) (w := false) rfl (by decide) h
    obtain ⟨s1, s2, s3⟩ := sd_24 _ _ _ _ _ _ _ _ _ _ _ _ _ _ _ _ b c
    rw [e]
    exact ⟨s1, s2, s3⟩
  · exact Bool.noConfusion ((not_found (op := 24) (w := true) (l := [x0, x1, x2, x3, x4, x5, x6, x7, x8, x9, x10, x11, x12, x13, x14, x15]) (.inl (show (32 : Nat) ≠ 16 by decide))).symm.trans h)
  · obtain ⟨b, c, e⟩ := of_found (op := 25) (w := false) rfl (by decide) h
    obtain ⟨s1, s2, s3⟩ := sd_25 _ _ _ _ _ _ _ _ _ _ _ _ _ _ _ _ b c
    rw [e]
    exact ⟨s1, s2, s3⟩
  · exact Bool.noConfusion ((not_found (op := 25) (w := true) (l := [x0, x1, x2, x3, x4, x5, x6, x7, x8, x9, x10, x11, x12, x13, x14, x15]) (.inl (show (32 : Nat) ≠ 16 by decide))).symm.trans h)

theorem found32 (x0 x1 x2 x3 x4 x5 x6 x7 x8 x9 x10 x11 x12 x13 x14 x15 y0 y1 y2 y3 y4 y5 y6 y7 y8 y9 y10 y11 y12 y13 y14 y15 : Bool) (op : Int) (w : Bool) (h : (V_hauberkref03_read (op, w, tx [x0, x1, x2, x3, x4, x5, x6, x7, x8, x9, x10, x11, x12, x13, x14, x15, y0, y1, y2, y3, y4, y5, y6, y7, y8, y9, y10, y11, y12, y13, y14, y15])).2.1 = true) :
    Enc2 (V_hauberkref03_read (op, w, tx [x0, x1, x2, x3, x4, x5, x6, x7, x8, x9, x10, x11, x12, x13, x14, x15, y0, y1, y2, y3, y4, y5, y6, y7, y8, y9, y10, y11, y12, y13, y14, y15])).1 [x0, x1, x2, x3, x4, x5, x6, x7, x8, x9, x10, x11, x12, x13, x14, x15] [y0, y1, y2, y3, y4, y5, y6, y7, y8, y9, y10, y11, y12, y13, y14, y15] ∧ (V_hauberkref03_read (op, w, tx [x0, x1, x2, x3, x4, x5, x6, x7, x8, x9, x10, x11, x12, x13, x14, x15, y0, y1, y2, y3, y4, y5, y6, y7, y8, y9, y10, y11, y12, y13, y14, y15])).1.1 = op ∧ (V_hauberkref03_read (op, w, tx [x0, x1, x2, x3, x4, x5, x6, x7, x8, x9, x10, x11, x12, x13, x14, x15, y0, y1, y2, y3, y4, y5, y6, y7, y8, y9, y10, y11, y12, y13, y14, y15])).1.2.2.2.2.2.2.2.1 = w := by
  rcases op_cases op with rfl | rfl | rfl | rfl | rfl | rfl | rfl | rfl | rfl | rfl | rfl | rfl | rfl | rfl | rfl | rfl | rfl | rfl | rfl | rfl | rfl | rfl | rfl | rfl | rfl | hop
  case inr.inr.inr.inr.inr.inr.inr.inr.inr.inr.inr.inr.inr.inr.inr.inr.inr.inr.inr.inr.inr.inr.inr.inr.inr => exact Bool.noConfusion ((not_found (.inr (bits_none hop w))).symm.trans h)
  all_goals cases w
  · exact Bool.noConfusion ((not_found (op := 1) (w := false) (l := [x0, x1, x2, x3, x4, x5, x6, x7, x8, x9, x10, x11, x12, x13, x14, x15, y0, y1, y2, y3, y4, y5, y6, y7, y8, y9, y10, y11, y12, y13, y14, y15]) (.inl (show (16 : Nat) ≠ 32 by decide))).symm.trans h)
  · exact Bool.noConfusion ((not_found (op := 1) (w := true) (l := [x0, x1, x2, x3, x4, x5, x6, x7, x8, x9, x10, x11, x12, x13, x14, x15, y0, y1, y2, y3, y4, y5, y6, y7, y8, y9, y10, y11, y12, y13, y14, y15]) (.inr rfl)).symm.trans h)
  · exact Bool.noConfusion ((not_found (op := 2) (w := false) (l := [x0, x1, x2, x3, x4, x5, x6, x7, x8, x9, x10, x11, x12, x13, x14, x15, y0, y1, y2, y3, y4, y5, y6, y7, y8, y9, y10, y11, y12, y13, y14, y15]) (.inl (show (16 : Nat) ≠ 32 by decide))).symm.trans h)
  · exact Bool.noConfusion ((not_found (op := 2) (w := true) (l := [x0, x1, x2, x3, x4, x5, x6, x7, x8, x9, x10, x11, x12, x13, x14, x15, y0, y1, y2, y3, y4, y5, y6, y7, y8, y9, y10, y11, y12, y13, y14, y15]) (.inr rfl)).symm.trans h)
  · obtain ⟨b, c, e⟩ := of_found (op := 3) (w := false) rfl (by decide) h
    obtain ⟨s1, s2, s3⟩ := sd_3 _ _ _ _ _ _ _ _ _ _ _ _ _ _ _ _ _ _ _ _ _ _ _ _ _ _ _ _ _ _ _ _ b c
    rw [e]
    exact ⟨s1, s2, s3⟩
  · exact Bool.noConfusion ((not_found (op := 3) (w := true) (l := [x0, x1, x2, x3, x4, x5, x6, x7, x8, x9, x10, x11, x12, x13, x14, x15, y0, y1, y2, y3, y4, y5, y6, y7, y8, y9, y10, y11, y12, y13, y14, y15]) (.inr rfl)).symm.trans h)
  · obtain ⟨b, c, e⟩ := of_found (op := 4) (w := false) rfl (by decide) h
    obtain ⟨s1, s2, s3⟩ := sd_4 _ _ _ _ _ _ _ _ _ _ _ _ _ _ _ _ _ _ _ _ _ _ _ _ _ _ _ _ _ _ _ _ b c
    rw [e]
    exact ⟨s1, s2, s3⟩
  · exact Bool.noConfusion ((not_found (op := 4) (w := true) (l := [x0, x1, x2, x3, x4, x5, x6, x7, x8, x9, x10, x11, x12, x13, x14, x15, y0, y1, y2, y3, y4, y5, y6, y7, y8, y9, y10, y11, y12, y13, y14, y15]) (.inr rfl)).symm.trans h)
  · obtain ⟨b, c, e⟩ := of_found (op := 5) (w := false) rfl (by decide) h
    obtain ⟨s1, s2, s3⟩ := sd_5 _ _ _ _ _ _ _ _ _ _ _ _ _ _ _ _ _ _ _ _ _ _ _ _ _ _ _ _ _ _ _ _ b c
    rw [e]
    exact ⟨s1, s2, s3⟩
  · exact Bool.noConfusion ((not_found (op := 5) (w := true) (l := [x0, x1, x2, x3, x4, x5, x6, x7, x8, x9, x10, x11, x12, x13, x14, x15, y0, y1, y2, y3, y4, y5, y6, y7, y8, y9, y10, y11, y12, y13, y14, y15]) (.inr rfl)).symm.trans h)
  · obtain ⟨b, c, e⟩ := of_found (op := 6) (w := false) rfl (by decide) h
    obtain ⟨s1, s2, s3⟩ := sd_6 _ _ _ _ _ _ _ _ _ _ _ _ _ _ _ _ _ _ _ _ _ _ _ _ _ _ _ _ _ _ _ _ b c
    rw [e]
    exact ⟨s1, s2, s3⟩
  · exact Bool.noConfusion ((not_found (op := 6) (w := true) (l := [x0, x1, x2, x3, x4, x5, x6, x7, x8, x9, x10, x11, x12, x13, x14, x15, y0, y1, y2, y3, y4, y5, y6, y7, y8, y9, y10, y11, y12, y13, y14, y15]) (.inr rfl)).symm.trans h)
  · obtain ⟨b, c, e⟩ := of_found (op := 7) (w := false) rfl (by decide) h
    obtain ⟨s1, s2, s3⟩ := sd_7 _ _ _ _ _ _ _ _ _ _ _ _ _ _ _ _ _ _ _ _ _ _ _ _ _ _ _ _ _ _ _ _ b c
    rw [e]
    exact ⟨s1, s2, s3⟩
  · exact Bool.noConfusion ((not_found (op := 7) (w := true) (l := [x0, x1, x2, x3, x4, x5, x6, x7, x8, x9, x10, x11, x12, x13, x14, x15, y0, y1, y2, y3, y4, y5, y6, y7, y8, y9, y10, y11, y12, y13, y14, y15]) (.inr rfl)).symm.trans h)
  · obtain ⟨b, c, e⟩ := of_found (op := 8) (w := false) rfl (by decide) h
    obtain ⟨s1, s2, s3⟩ := sd_8 _ _ _ _ _ _ _ _ _ _ _ _ _ _ _ _ _ _ _ _ _ _ _ _ _ _ _ _ _ _ _ _ b c
    rw [e]
    exact ⟨s1, s2, s3⟩
  · exact Bool.noConfusion ((not_found (op := 8) (w := true) (l := [x0, x1, x2, x3, x4, x5, x6, x7, x8, x9, x10, x11, x12, x13, x14, x15, y0, y1, y2, y3, y4, y5, y6, y7, y8, y9, y10, y11, y12, y13, y14, y15]) (.inr rfl)).symm.trans h)
  · obtain ⟨b, c, e⟩ := of_found (op := 9) (w := false) rfl (by decide) h
    obtain ⟨s1, s2, s3⟩ := sd_9 _ _ _ _ _ _ _ _ _ _ _ _ _ _ _ _ _ _ _ _ _ _ _ _ _ _ _ _ _ _ _ _ b c
    rw [e]
    exact ⟨s1, s2, s3⟩
  · exact Bool.noConfusion ((not_found (op := 9) (w := true) (l := [x0, x1, x2, x3, x4, x5, x6, x7, x8, x9, x10, x11, x12, x13, x14, x15, y0, y1, y2, y3, y4, y5, y6, y7, y8, y9, y10, y11, y12, y13, y14, y15]) (.inr rfl)).symm.trans h)
  · obtain ⟨b, c, e⟩ := of_found (op := 10) (w := false) rfl (by decide) h
    obtain ⟨s1, s2, s3⟩ := sd_10 _ _ _ _ _ _ _ _ _ _ _ _ _ _ _ _ _ _ _ _ _ _ _ _ _ _ _ _ _ _ _ _ b c
    rw [e]
    exact ⟨s1, s2, s3⟩
  · exact Bool.noConfusion ((not_found (op := 10) (w := true) (l := [x0, x1, x2, x3, x4, x5, x6, x7, x8, x9, x10, x11, x12, x13, x14, x15, y0, y1, y2, y3, y4, y5, y6, y7, y8, y9, y10, y11, y12, y13, y14, y15]) (.inr rfl)).symm.trans h)
  · obtain ⟨b, c, e⟩ := of_found (op := 11) (w := false) rfl (by decide) h
    obtain ⟨s1, s2, s3⟩ := sd_11 _ _ _ _ _ _ _ _ _ _ _ _ _ _ _ _ _ _ _ _ _ _ _ _ _ _ _ _ _ _ _ _ b c
    rw [e]
    exact ⟨s1, s2, s3⟩
  · exact Bool.noConfusion ((not_found (op := 11) (w := true) (l := [x0, x1, x2, x3, x4, x5, x6, x7, x8, x9, x10, x11, x12, x13, x14, x15, y0, y1, y2, y3, y4, y5, y6, y7, y8, y9, y10, y11, y12, y13, y14, y15]) (.inr rfl)).symm.trans h)
  · obtain ⟨b, c, e⟩ := of_found (op := 12) (w := false) rfl (by decide) h
    obtain ⟨s1, s2, s3⟩ := sd_12 _ _ _ _ _ _ _ _ _ _ _ _ _ _ _ _ _ _ _ _ _ _ _ _ _ _ _ _ _ _ _ _ b c
    rw [e]
    exact ⟨s1, s2, s3⟩
  · exact Bool.noConfusion ((not_found (op := 12) (w := true) (l := [x0, x1, x2, x3, x4, x5, x6, x7, x8, x9, x10, x11, x12, x13, x14, x15, y0, y1, y2, y3, y4, y5, y6, y7, y8, y9, y10, y11, y12, y13, y14, y15]) (.inr rfl)).symm.trans h)
  · obtain ⟨b, c, e⟩ := of_found (op := 13) (w := false) rfl (by decide) h
    obtain ⟨s1, s2, s3⟩ := sd_13 _ _ _ _ _ _ _ _ _ _ _ _ _ _ _ _ _ _ _ _ _ _ _ _ _ _ _ _ _ _ _ _ b c
    rw [e]
    exact ⟨s1, s2, s3⟩
  · exact Bool.noConfusion ((not_found (op := 13) (w := true) (l := [x0, x1, x2, x3, x4, x5, x6, x7, x8, x9, x10, x11, x12, x13, x14, x15, y0, y1, y2, y3, y4, y5, y6, y7, y8, y9, y10, y11, y12, y13, y14, y15]) (.inr rfl)).symm.trans h)
  · obtain ⟨b, c, e⟩ := of_found (op := 14) (w := false) rfl (by decide) h
    obtain ⟨s1, s2, s3⟩ := sd_14 _ _ _ _ _ _ _ _ _ _ _ _ _ _ _ _ _ _ _ _ _ _ _ _ _ _ _ _ _ _ _ _ b c
    rw [e]
    exact ⟨s1, s2, s3⟩
  · exact Bool.noConfusion ((not_found (op := 14) (w := true) (l := [x0, x1, x2, x3, x4, x5, x6, x7, x8, x9, x10, x11, x12, x13, x14, x15, y0, y1, y2, y3, y4, y5, y6, y7, y8, y9, y10, y11, y12, y13, y14, y15]) (.inr rfl)).symm.trans h)
  · obtain ⟨b, c, e⟩ := of_found (op := 15) (w := false) rfl (by decide) h
    obtain ⟨s1, s2, s3⟩ := sd_15 _ _ _ _ _ _ _ _ _ _ _ _ _ _ _ _ _ _ _ _ _ _ _ _ _ _ _ _ _ _ _ _ b c
    rw [e]
    exact ⟨s1, s2, s3⟩
  · exact Bool.noConfusion ((not_found (op := 15) (w := true) (l := [x0, x1, x2, x3, x4, x5, x6, x7, x8, x9, x10, x11, x12, x13, x14, x15, y0, y1, y2, y3, y4, y5, y6, y7, y8, y9, y10, y11, y12, y13, y14, y15]) (.inr rfl)).symm.trans h)
  · obtain ⟨b, c, e⟩ := of_found (op := 16) (w := false) rfl (by decide) h
    obtain ⟨s1, s2, s3⟩ := sd_16 _ _ _ _ _ _ _ _ _ _ _ _ _ _ _ _ _ _ _ _ _ _ _ _ _ _ _ _ _ _ _ _ b c
    rw [e]
    exact ⟨s1, s2, s3⟩
  · exact Bool.noConfusion ((not_found (op := 16) (w := true) (l := [x0, x1, x2, x3, x4, x5, x6, x7, x8, x9, x10, x11, x12, x13, x14, x15, y0, y1, y2, y3, y4, y5, y6, y7, y8, y9, y10, y11, y12, y13, y14, y15]) (.inr rfl)).symm.trans h)
  · obtain ⟨b, c, e⟩ := of_found (op := 17) (w := false) rfl (by decide) h
    obtain ⟨s1, s2, s3⟩ := sd_17 _ _ _ _ _ _ _ _ _ _ _ _ _ _ _ _ _ _ _ _ _ _ _ _ _ _ _ _ _ _ _ _ b c
    rw [e]
    exact ⟨s1, s2, s3⟩
  · exact Bool.noConfusion ((not_found (op := 17) (w := true) (l := [x0, x1, x2, x3, x4, x5, x6, x7, x8, x9, x10, x11, x12, x13, x14, x15, y0, y1, y2, y3, y4, y5, y6, y7, y8, y9, y10, y11, y12, y13, y14, y15]) (.inr rfl)).symm.trans h)
  · obtain ⟨b, c, e⟩ := of_found (op := 18) (w := false) rfl (by decide) h
    obtain ⟨s1, s2, s3⟩ := sd_18 _ _ _ _ _ _ _ _ _ _ _ _ _ _ _ _ _ _ _ _ _ _ _ _ _ _ _ _ _ _ _ _ b c
    rw [e]
    exact ⟨s1, s2, s3⟩
  · exact Bool.noConfusion ((not_found (op := 18) (w := true) (l := [x0, x1, x2, x3, x4, x5, x6, x7, x8, x9, x10, x11, x12, x13, x14, x15, y0, y1, y2, y3, y4, y5, y6, y7, y8, y9, y10, y11, y12, y13, y14, y15]) (.inr rfl)).symm.trans h)
  · exact Bool.noConfusion ((not_found (op := 19) (w := false) (l := [x0, x1, x2, x3, x4, x5, x6, x7, x8, x9, x10, x11, x12, x13, x14, x15, y0, y1, y2, y3, y4, y5, y6, y7, y8, y9, y10, y11, y12, y13, y14, y15]) (.inl (show (16 : Nat) ≠ 32 by decide))).symm.trans h)
  · exact Bool.noConfusion ((not_found (op := 19) (w := true) (l := [x0, x1, x2, x3, x4, x5, x6, x7, x8, x9, x10, x11, x12, x13, x14, x15, y0, y1, y2, y3, y4, y5, y6, y7, y8, y9, y10, y11, y12, y13, y14, y15]) (.inr rfl)).symm.trans h)
  · exact Bool.noConfusion ((not_found (op := 20) (w := false) (l := [x0, x1, x2, x3, x4, x5, x6, x7, x8, x9, x10, x11, x12, x13, x14, x15, y0, y1, y2, y3, y4, y5, y6, y7, y8, y9, y10, y11, y12, y13, y14, y15]) (.inl (show (16 : Nat) ≠ 32 by decide))).symm.trans h)
  · exact Bool.noConfusion ((not_found (op := 20) (w := true) (l := [x0, x1, x2, x3, x4, x5, x6, x7, x8, x9, x10, x11, x12, x13, x14, x15, y0, y1, y2, y3, y4, y5, y6, y7, y8, y9, y10, y11, y12, y13, y14, y15]) (.inr rfl)).symm.trans h)
  · exact Bool.noConfusion ((not_found (op := 21) (w := false) (l := [x0, x1, x2, x3, x4, x5, x6, x7, x8, x9, x10, x11, x12, x13, x14, x15, y0, y1, y2, y3, y4, y5, y6, y7, y8, y9, y10, y11, y12, y13, y14, y15]) (.inl (show (16 : Nat) ≠ 32 by decide))).symm.trans h)
  · exact Bool.noConfusion ((not_found (op := 21) (w := true) (l := [x0, x1, x2, x3, x4, x5, x6, x7, x8, x9, x10, x11, x12, x13, x14, x15, y0, y1, y2, y3, y4, y5, y6, y7, y8, y9, y10, y11, y12, y13, y14, y15]) (.inr rfl)).symm.trans h)
  · exact Bool.noConfusion ((not_found (op := 22) (w := false) (l := [x0, x1, x2, x3, x4, x5, x6, x7, x8, x9, x10, x11, x12, x13, x14, x15, y0, y1, y2, y3, y4, y5, y6, y7, y8, y9, y10, y11, y12, y13, y14, y15]) (.inl (show (16 : Nat) ≠ 32 by decide))).symm.trans h)
  · exact Bool.noConfusion ((not_found (op := 22) (w := true) (l := [x0, x1, x2, x3, x4, x5, x6, x7, x8, x9, x10, x11, x12, x13, x14, x15, y0, y1, y2, y3, y4, y5, y6, y7, y8, y9, y10, y11, y12, y13, y14, y15]) (.inr rfl)).symm.trans h)
  · exact Bool.noConfusion ((not_found (op := 23) (w := false) (l := [x0, x1, x2, x3, x4, x5, x6, x7, x8, x9, x10, x11, x12, x13, x14, x15, y0, y1, y2, y3, y4, y5, y6, y7, y8, y9, y10, y11, y12, y13, y14, y15]) (.inl (show (16 : Nat) ≠ 32 by decide))).symm.trans h)
  · exact Bool.noConfusion ((not_found (op := 23) (w := true) (l := [x0, x1, x2, x3, x4, x5, x6, x7, x8, x9, x10, x11, x12, x13, x14, x15, y0, y1, y2, y3, y4, y5, y6, y7, y8, y9, y10, y11, y12, y13, y14, y15]) (.inr rfl)).symm.trans h)
  · exact Bool.noConfusion ((not_found (op := 24) (w := false) (l := [x0, x1, x2, x3, x4, x5, x6, x7, x8, x9, x10, x11, x12, x13, x14, x15, y0, y1, y2, y3, y4, y5, y6, y7, y8, y9, y10, y11, y12, y13, y14, y15]) (.inl (show (16 : Nat) ≠ 32 by decide))).symm.trans h)
  · obtain ⟨b, c, e⟩ := of_found (op := 24) (w := true) rfl (by decide) h
    obtain ⟨s1, s2, s3⟩ := sd_24w _ _ _ _ _ _ _ _ _ _ _ _ _ _ _ _ _ _ _ _ _ _ _ _ _ _ _ _ _ _ _ _ b c
    rw [e]
    exact ⟨s1, s2, s3⟩
  · exact Bool.noConfusion ((not_found (op := 25) (w := false) (l := [x0, x1, x2, x3, x4, x5, x6, x7, x8, x9, x10, x11, x12, x13, x14, x15, y0, y1, y2, y3, y4, y5, y6, y7, y8, y9, y10, y11, y12, y13, y14, y15]) (.inl (show (16 : Nat) ≠ 32 by decide))).symm.trans h)
  · obtain ⟨b, c, e⟩ := of_found (op := 25) (w := true) rfl (by decide) h
    obtain ⟨s1, s2, s3⟩ := sd_25w _ _ _ _ _ _ _ _ _ _ _ _ _ _ _ _ _ _ _ _ _ _ _ _ _ _ _ _ _ _ _ _ b c
    rw [e]
    exact ⟨s1, s2, s3⟩

theorem enc1_dec {i : tIns.den} {l : List Bool} (h : Enc1 i l) : dNarrow l = some i := by
  obtain ⟨op, rd, rn, rm, ra, imm, cond, w, rfl, _, hok, hlen, hl⟩ := h
  have e : e1 op rd rn rm ra imm cond w = l := by
    unfold e1
    rw [List.take_of_length_le (by omega)]
    exact hl
  rcases two_ok op rd rn rm ra imm cond w hok with ⟨_, _, h3⟩ | ⟨h1, _, _⟩
  · rw [← e]; exact h3
  · omega
theorem enc2_dec {i : tIns.den} {lx ly : List Bool} (h : Enc2 i lx ly) : dLong lx ly = some i := by
  obtain ⟨op, rd, rn, rm, ra, imm, cond, w, rfl, _, hok, hlen, hl, hl2⟩ := h
  have e : e1 op rd rn rm ra imm cond w = lx := hl
  have f : e2 op rd rn rm ra imm cond w = ly := hl2
  rcases two_ok op rd rn rm ra imm cond w hok with ⟨h1, _, _⟩ | ⟨_, _, h3⟩
  · omega
  · rw [← e, ← f]; exact h3
theorem bits_ne {op : Int} {w : Bool} {n : Nat} (h : (V_hauberkref02_Bits (op, w)).length = n + 1) : V_hauberkref02_Bits (op, w) ≠ [] := fun e => by rw [e] at h; cases h
theorem conv_any {op rd rn rm ra imm cond : Int} {w : Bool} {l : List Bool} (hr : iRow op w l = (op, rd, rn, rm, ra, imm, cond, w, ())) (hok : okB op rd rn rm ra imm cond w = true) (hlen : (V_hauberkref02_Bits (op, w)).length = l.length) (hb : badR op w l = false) (hne : V_hauberkref02_Bits (op, w) ≠ []) :
    V_hauberkref03_read (op, w, tx l) = ((op, rd, rn, rm, ra, imm, cond, w, ()), true, ()) := by
  have hc : V_hauberkref02_Check (op, rd, rn, rm, ra, imm, cond, w, ()) = 0 := by rw [← check_same]; exact (check_iff op rd rn rm ra imm cond w).2 hok
  unfold V_hauberkref03_read PO.getO
  rw [refread_T op w l hlen hne, hb, hr, hc]
  rfl
theorem ok_op {op rd rn rm ra imm cond : Int} {w : Bool} (h : okB op rd rn rm ra imm cond w = true) : 1 ≤ op ∧ op ≤ 25 := (check_bounds ((check_iff op rd rn rm ra imm cond w).2 h)).1

/-! ### The document's loop over all operations -/
section
variable (t : List UInt8) (n : Int) (hG : ∀ (op : Int) (w : Bool), G_hauberkref03_read (op, w, t) = true)
include hG
theorem ref_step (op : Int) (h1 : op ≤ 25) (h0 : 0 ≤ op) (hf : ∀ w, (V_hauberkref03_read (op, w, t)).2.1 = false) : (L_hauberkref03_Decode_8.turn ((), 0, 0, n, t, 1) zI (0, 0, op, zI)).val = some (.on (0, 0, op + 1, zI)) := by
  dsimp only [L_hauberkref03_Decode_8]
  refine (val_yes (dec_true h1)).trans ((val_yes (hG op false)).trans ((val_no (hf false)).trans ((val_yes (hG op true)).trans ((val_no (hf true)).trans ?_))))
  rw [w64_id (n := op + 1) (by omega) (by omega)]
  rfl
theorem ref_none (hf : ∀ (op : Int) (w : Bool), (V_hauberkref03_read (op, w, t)).2.1 = false) : ∀ (k : Nat) (op : Int), op + k = 26 → 1 ≤ op → ∀ f, k < f → runL (L_hauberkref03_Decode_8.turn ((), 0, 0, n, t, 1) zI) f (0, 0, op, zI) = some (0, 0, 0, 26, zI)
  | 0, op, h, _, f, hf' => by
    obtain ⟨f, rfl⟩ : ∃ g, f = g + 1 := ⟨f - 1, by omega⟩
    refine (runL_out (c := 0) (s' := (0, 0, op, zI)) ?_).trans (by rw [show op = 26 by omega])
    dsimp only [L_hauberkref03_Decode_8]
    exact (val_no (dec_false (p := op ≤ 25) (by omega))).trans rfl
  | k + 1, op, h, h1, f, hf' => by
    obtain ⟨f, rfl⟩ : ∃ g, f = g + 1 := ⟨f - 1, by omega⟩
    exact (runL_on (ref_step t n hG op (by omega) (by omega) (hf op))).trans (ref_none hf k (op + 1) (by omega) (by omega) f (by omega))
theorem ref_some {op0 : Int} {w0 : Bool} {i0 : tIns.den} (h25 : op0 ≤ 25) (hu : ∀ (op : Int) (w : Bool), (V_hauberkref03_read (op, w, t)).2.1 = true → op = op0 ∧ w = w0) (hi : V_hauberkref03_read (op0, w0, t) = (i0, true, ())) :
    ∀ (k : Nat) (op : Int), op + k = op0 → 1 ≤ op → ∀ f, k < f → runL (L_hauberkref03_Decode_8.turn ((), 0, 0, n, t, 1) zI) f (0, 0, op, zI) = some (1, n, 0, op0, i0)
  | 0, op, h, _, f, hf' => by
    obtain ⟨f, rfl⟩ : ∃ g, f = g + 1 := ⟨f - 1, by omega⟩
    obtain rfl : op = op0 := by omega
    refine runL_out (c := 1) (s' := (n, 0, op, i0)) ?_
    dsimp only [L_hauberkref03_Decode_8]
    refine (val_yes (dec_true h25)).trans ((val_yes (hG op false)).trans ?_)
    cases w0
    · refine (val_yes (by rw [hi])).trans ?_
      rw [hi]
      rfl
    · have hn : (V_hauberkref03_read (op, false, t)).2.1 = false := by
        cases e : (V_hauberkref03_read (op, false, t)).2.1
        · rfl
        · exact Bool.noConfusion (hu op false e).2
      refine (val_no hn).trans ((val_yes (hG op true)).trans ((val_yes (by rw [hi])).trans ?_))
      rw [hi]
      rfl
  | k + 1, op, h, h1, f, hf' => by
    obtain ⟨f, rfl⟩ : ∃ g, f = g + 1 := ⟨f - 1, by omega⟩
    have hf : ∀ w, (V_hauberkref03_read (op, w, t)).2.1 = false := fun w => by
      cases e : (V_hauberkref03_read (op, w, t)).2.1
      · rfl
      · have := (hu op w e).1
        omega
    exact (runL_on (ref_step t n hG op (by omega) (by omega) hf)).trans (ref_some h25 hu hi k (op + 1) (by omega) (by omega) f (by omega))
end
/-- The loop's end, where the program decodes. -/
theorem loop16 (l : List Bool) (hl : l.length = 16) : LoopN.res L_hauberkref03_Decode_8 ((), 0, 0, 2, tx l, 1) zI = (match dNarrow l with | some i => some (1, 2, 0, i.1, i) | none => some (0, 0, 0, 26, zI)) := by
  have hG := fun op w => read_G op w l
  have huniq : ∀ (op : Int) (w : Bool), (V_hauberkref03_read (op, w, tx l)).2.1 = true → dNarrow l = some (V_hauberkref03_read (op, w, tx l)).1 ∧ (V_hauberkref03_read (op, w, tx l)).1.1 = op ∧ (V_hauberkref03_read (op, w, tx l)).1.2.2.2.2.2.2.2.1 = w := by
    obtain ⟨x0, x1, x2, x3, x4, x5, x6, x7, x8, x9, x10, x11, x12, x13, x14, x15, rfl⟩ := len16 hl
    intro op w h
    obtain ⟨a, b, c⟩ := found16 x0 x1 x2 x3 x4 x5 x6 x7 x8 x9 x10 x11 x12 x13 x14 x15 op w h
    exact ⟨enc1_dec a, b, c⟩
  cases hd : dNarrow l with
  | none =>
    refine ref_none (tx l) 2 hG (fun op w => ?_) 25 1 (by omega) (by omega) 30 (by omega)
    cases e : (V_hauberkref03_read (op, w, tx l)).2.1
    · rfl
    · have := (huniq op w e).1
      rw [hd] at this
      cases this
  | some i =>
    obtain ⟨op, rd, rn, rm, ra, imm, cond, w, rfl, hr, hok, hlen, hh⟩ := narrow_enc hl hd
    have hb := ok_op hok
    refine ref_some (tx l) 2 hG hb.2 (fun op' w' e => ?_) (conv_any hr hok (by rw [← hh, hl_len]) (by unfold badR; rw [← hh]; exact bad_hl (fun _ => rfl) (fun _ => rfl) _) (bits_ne hlen)) (op - 1).toNat 1 (by omega) (by omega) 30 (by omega)
    obtain ⟨a, b, c⟩ := huniq op' w' e
    rw [hd] at a
    have a := Option.some.inj a
    rw [← a] at b c
    exact ⟨b.symm, c.symm⟩
theorem loop32 (lx ly : List Bool) (hx : lx.length = 16) (hy : ly.length = 16) : LoopN.res L_hauberkref03_Decode_8 ((), 0, 0, 4, tx lx ++ tx ly, 1) zI = (match dLong lx ly with | some i => some (1, 4, 0, i.1, i) | none => some (0, 0, 0, 26, zI)) := by
  have htx : tx lx ++ tx ly = tx (lx ++ ly) := (List.map_append ..).symm
  rw [htx]
  have hG := fun op w => read_G op w (lx ++ ly)
  have huniq : ∀ (op : Int) (w : Bool), (V_hauberkref03_read (op, w, tx (lx ++ ly))).2.1 = true → dLong lx ly = some (V_hauberkref03_read (op, w, tx (lx ++ ly))).1 ∧ (V_hauberkref03_read (op, w, tx (lx ++ ly))).1.1 = op ∧ (V_hauberkref03_read (op, w, tx (lx ++ ly))).1.2.2.2.2.2.2.2.1 = w := by
    obtain ⟨x0, x1, x2, x3, x4, x5, x6, x7, x8, x9, x10, x11, x12, x13, x14, x15, rfl⟩ := len16 hx
    obtain ⟨y0, y1, y2, y3, y4, y5, y6, y7, y8, y9, y10, y11, y12, y13, y14, y15, rfl⟩ := len16 hy
    intro op w h
    obtain ⟨a, b, c⟩ := found32 x0 x1 x2 x3 x4 x5 x6 x7 x8 x9 x10 x11 x12 x13 x14 x15 y0 y1 y2 y3 y4 y5 y6 y7 y8 y9 y10 y11 y12 y13 y14 y15 op w h
    exact ⟨enc2_dec a, b, c⟩
  cases hd : dLong lx ly with
  | none =>
    refine ref_none (tx (lx ++ ly)) 4 hG (fun op w => ?_) 25 1 (by omega) (by omega) 30 (by omega)
    cases e : (V_hauberkref03_read (op, w, tx (lx ++ ly))).2.1
    · rfl
    · have := (huniq op w e).1
      rw [hd] at this
      cases this
  | some i =>
    obtain ⟨op, rd, rn, rm, ra, imm, cond, w, rfl, hr, hok, hlen, hh, hh2⟩ := long_enc hx hy hd
    have hb := ok_op hok
    have hbad : badR op w (lx ++ ly) = false := by
      unfold badR
      rw [show (V_hauberkref02_Bits (op, w)) = (V_hauberkref02_Bits (op, w)).take 16 ++ (V_hauberkref02_Bits (op, w)).drop 16 from (List.take_append_drop ..).symm, List.zip_append (by rw [List.length_take, hx]; omega), List.any_append, ← hh, ← hh2,
        bad_hl (fun _ => rfl) (fun _ => rfl) _, bad_hl (fun _ => rfl) (fun _ => rfl) _]
      rfl
    refine ref_some (tx (lx ++ ly)) 4 hG hb.2 (fun op' w' e => ?_) (conv_any hr hok (by rw [List.length_append]; omega) hbad (bits_ne hlen)) (op - 1).toNat 1 (by omega) (by omega) 30 (by omega)
    obtain ⟨a, b, c⟩ := huniq op' w' e
    rw [hd] at a
    have a := Option.some.inj a
    rw [← a] at b c
    exact ⟨b.symm, c.symm⟩
end Go.Av
