/- Texts of the proof, one behind the other. -/
import Derived.Test.YtbfhpnnnfjjjnaaDecodeRowK3
import Derived.RangeFuncNested
import Derived.RangeFuncCalls
import Derived.RangeFuncLeaves
import Derived.OwnWalkIn
import Derived.Test.YtbfhpnnnfjjjnaaAvApp
import Derived.RangeFuncBound
import Derived.RangeFuncBox
import Derived.Shelf.Abstract
import Derived.Shelf.RegionOpen
import Derived.WalkKit
import Derived.TacticsInMore
import Derived.LoopNIn
import Derived.LoopIn
import Derived.Maps.AppendAt
import Derived.Test.YtbfhpnnnfjjjnaaProg
import Derived.Test.YtbfhpnnnfjjjnaaDecodeRowK1
import Derived.Test.YtbfhpnnnfjjjnaaDecodeRowK2
/-! Layer 3: the document's reader of a row's letters, as a fold. Written by wip/tools/decref.py. Layer 3: the document's reader: what it comes to. Layer 3: what the document reads of a row has just these bits. Written by wip/tools/decsnd.py. Layer 3: the document's decoder is the program's. Written by wip/tools/decbytes.py. -/
section
/-! Layer 3: the document's reader of a row's letters, as a fold. Written by wip/tools/decref.py. -/
namespace Go.Av
open Go
def Rd.num (s : Rd) (op : Int) (w : Bool) (k : Nat) : L_hauberkref03_read_8.σ := (false, bN s.x, bN s.y, bN s.t, (k : Int), zI, (op, H s.d, H s.n, H s.m, H s.a, ((immN s.imm : Nat) : Int), H s.c, w, ()), H s.w)
/-- Is a fixed letter another one than the bit? -/
def fx (c : UInt8) (b : Bool) : Bool := bif c == 48 then b else c == 49 && !b
structure Rd.Ok (s : Rd) (k : Nat) : Prop where
  d : s.d.length ≤ k
  n : s.n.length ≤ k
  m : s.m.length ≤ k
  a : s.a.length ≤ k
  c : s.c.length ≤ k
  w : s.w.length ≤ k
  imm : immN s.imm ≤ k * 16777216
theorem H_step {l : List Bool} (h : l.length ≤ 40) (b : Bool) : w64 (w64 (2 * H l) + bN b) = H (l ++ [b]) := by
  have h1 := H_nonneg l
  have h2 := H_lt h
  have p : (2 ^ 40 : Nat) = 1099511627776 := by decide
  rw [p] at h2
  have e : H (l ++ [b]) = 2 * H l + bN b := by
    unfold H bN
    rw [hb_append]
    have : hb [b] 0 = b.toNat := by cases b <;> rfl
    rw [this]
    rw [List.length_singleton, Nat.pow_one]
    omega
  have hb : 0 ≤ bN b ∧ bN b ≤ 1 := by cases b <;> exact ⟨by decide, by decide⟩
  rw [e, w64_id (n := 2 * H l) (by omega) (by omega), w64_id (by omega) (by omega)]
theorem step_ok {s : Rd} {k : Nat} (h : s.Ok k) (c : UInt8) (b : Bool) : (s.step c b).Ok (k + 1) := by
  have one : ∀ (z : Bool) (l : List Bool), l.length ≤ k → (bif z then l ++ [b] else l).length ≤ k + 1 := by
    intro z l hl
    cases z
    · exact Nat.le_succ_of_le hl
    · show (l ++ [b]).length ≤ k + 1
      rw [List.length_append, List.length_singleton]
      omega
  refine ⟨one _ _ h.d, one _ _ h.n, one _ _ h.m, one _ _ h.a, one _ _ h.c, one _ _ h.w, ?_⟩
  show immN (bif isBig c then s.imm ++ [(c.toNat - 65, b)] else s.imm) ≤ (k + 1) * 16777216
  have hi := h.imm
  rw [Nat.succ_mul]
  generalize k * 16777216 = K at hi ⊢
  cases hc : isBig c
  · show immN s.imm ≤ K + 16777216
    omega
  · show immN (s.imm ++ [(c.toNat - 65, b)]) ≤ K + 16777216
    rw [immN_append]
    unfold isBig at hc
    rw [Bool.and_eq_true, Nat.ble_eq, Nat.ble_eq] at hc
    have hp : 2 ^ (c.toNat - 65) ≤ 2 ^ 24 := pow_lt (by omega)
    have h1 : b.toNat * 2 ^ (c.toNat - 65) ≤ 1 * 2 ^ 24 := Nat.mul_le_mul (by cases b <;> decide) hp
    have : 1 * 2 ^ 24 = 16777216 := rfl
    omega
theorem digit_of (b : Bool) : w64 (IntKind.wrap IntKind.u8 (u8I (bif b then 49 else 48) - 48)) = bN b := by cases b <;> rfl
theorem tx_get (l : List Bool) (k : Nat) (h : k < l.length) : (tx l).getD k 0 = (bif l[k] then 49 else 48) := by
  unfold tx
  rw [List.getD_eq_getElem?_getD, List.getElem?_map, List.getElem?_eq_getElem h]
  rfl
section
variable (op : Int) (w : Bool) (p : List UInt8) (l : List Bool) (hl : p.length = l.length) (h32 : p.length ≤ 32) (hrow : rowOf p = true)
include hl h32 hrow
theorem read_turn (s : Rd) (k : Nat) (hk : k < p.length) (ho : s.Ok k) : ∃ st : L_hauberkref03_read_8.σ, st.1 = false ∧ st.2.2.2.2.2.1 = zI ∧
    (L_hauberkref03_read_8.turn (op, w, tx l, (), false, p, (), (), 0, 0, 0, 0) (zI, (op, 0, 0, 0, 0, 0, 0, w, ()), 0) (s.num op w k)).val = (bif fx p[k] l[k] then some (TL.out 1 st) else some (TL.on ((s.step p[k] l[k]).num op w (k + 1)))) := by
  have hk2 : k < l.length := by omega
  have hk3 : k < (tx l).length := by rw [tx_len]; exact hk2
  have hw : w64 ((k : Int) + 1) = ((k + 1 : Nat) : Int) := by rw [w64_id (by omega) (by omega)]; omega
  have hlet : isLetter (u8I p[k]) = true := List.all_eq_true.1 hrow _ (List.getElem_mem hk)
  have hd := H_step (l := s.d) (Nat.le_trans ho.d (by omega)) l[k]
  have hn := H_step (l := s.n) (Nat.le_trans ho.n (by omega)) l[k]
  have hm := H_step (l := s.m) (Nat.le_trans ho.m (by omega)) l[k]
  have ha := H_step (l := s.a) (Nat.le_trans ho.a (by omega)) l[k]
  have hc := H_step (l := s.c) (Nat.le_trans ho.c (by omega)) l[k]
  have hww := H_step (l := s.w) (Nat.le_trans ho.w (by omega)) l[k]
  have hi := ho.imm
  refine ⟨(false, bN s.x, bN s.y, bN s.t, (k : Int), zI, (op, H s.d, H s.n, H s.m, H s.a, ((immN s.imm : Nat) : Int), H s.c, w, ()), H s.w), rfl, rfl, ?_⟩
  unfold Rd.num
  dsimp only [L_hauberkref03_read_8, PO.val]
  rw [dec_true (p := (k : Int) < lenI p) (by simp only [lenI]; omega), inR hk, inR hk3, getD_nat, getD_nat, getD_in p _ hk, tx_get l k hk2, hw, digit_of]
  generalize l[k] = b at hd hn hm ha hc hww ⊢
  generalize p[k] = c at hlet ⊢
  have e8 : ∀ v : UInt8, c ≠ v → (c == v) = false := fun v h => beq_eq_false_iff_ne.2 h
  have key : c = 48 ∨ c = 49 ∨ c = 100 ∨ c = 110 ∨ c = 109 ∨ c = 97 ∨ c = 99 ∨ c = 119 ∨ c = 120 ∨ c = 121 ∨ (65 ≤ c.toNat ∧ c.toNat ≤ 89) := by
    have t : ∀ v : UInt8, (u8I c == u8I v) = true → c = v := fun v h => by
      rw [u8_eq, beq_iff_eq] at h; exact h
    simp only [isLetter, Bool.or_eq_true, Bool.and_eq_true, decide_eq_true_eq] at hlet
    rcases hlet with h | h | h | h | h | h | h | h | h | h | ⟨h1, h2⟩
    · exact .inl (t 48 h)
    · exact .inr (.inl (t 49 h))
    · exact .inr (.inr (.inl (t 100 h)))
    · exact .inr (.inr (.inr (.inl (t 110 h))))
    · exact .inr (.inr (.inr (.inr (.inl (t 109 h)))))
    · exact .inr (.inr (.inr (.inr (.inr (.inl (t 97 h))))))
    · exact .inr (.inr (.inr (.inr (.inr (.inr (.inl (t 99 h)))))))
    · exact .inr (.inr (.inr (.inr (.inr (.inr (.inr (.inl (t 119 h))))))))
    · exact .inr (.inr (.inr (.inr (.inr (.inr (.inr (.inr (.inl (t 120 h)))))))))
    · exact .inr (.inr (.inr (.inr (.inr (.inr (.inr (.inr (.inr (.inl (t 121 h))))))))))
    · exact .inr (.inr (.inr (.inr (.inr (.inr (.inr (.inr (.inr (.inr ⟨by unfold u8I at h1; omega, by unfold u8I at h2; omega⟩)))))))))
  rcases key with rfl | rfl | rfl | rfl | rfl | rfl | rfl | rfl | rfl | rfl | ⟨h1, h2⟩
  · cases b <;> rfl
  · cases b <;> rfl
  · rw [hd]; rfl
  · rw [hn]; rfl
  · rw [hm]; rfl
  · rw [ha]; rfl
  · rw [hc]; rfl
  · rw [hww]; rfl
  · rfl
  · rfl
  · have f : ∀ v : Int, v < 65 ∨ 89 < v → (u8I c == v) = false := fun v h => by
      rw [beq_eq_false_iff_ne]; unfold u8I; omega
    have g : ∀ v : UInt8, v.toNat < 65 ∨ 89 < v.toNat → (c == v) = false := fun v h => by
      rw [beq_eq_false_iff_ne]; rintro rfl; omega
    have hbig : isBig c = true := by unfold isBig; rw [Bool.and_eq_true, Nat.ble_eq, Nat.ble_eq]; exact ⟨h1, h2⟩
    have hsub : w64 (IntKind.wrap IntKind.u8 (u8I c - 65)) = ((c.toNat - 65 : Nat) : Int) := by
      have : IntKind.wrap IntKind.u8 (u8I c - 65) = ((c.toNat - 65 : Nat) : Int) := by
        show (u8I c - 65) % 256 = _
        unfold u8I
        omega
      rw [this, w64_id (by omega) (by omega)]
    have hpow : G_hauberkref03_power ((c.toNat - 65 : Nat) : Int) = true := by
      simp only [G_hauberkref03_power, Bool.and_eq_true, decide_eq_true_eq]
      exact ⟨by show (0 : Int) ≤ ((c.toNat - 65 : Nat) : Int); omega, by show ((c.toNat - 65 : Nat) : Int) ≤ 62; omega⟩
    have hpv : V_hauberkref03_power ((c.toNat - 65 : Nat) : Int) = ((2 ^ (c.toNat - 65) : Nat) : Int) := by
      show ((2 ^ (((c.toNat - 65 : Nat) : Int)).toNat : Nat) : Int) = _
      rw [Int.toNat_natCast]
    have hp : 2 ^ (c.toNat - 65) ≤ 2 ^ 24 := pow_lt (by omega)
    have hsum : w64 (((immN s.imm : Nat) : Int) + w64 (bN b * ((2 ^ (c.toNat - 65) : Nat) : Int))) = ((immN (s.imm ++ [(c.toNat - 65, b)]) : Nat) : Int) := by
      rw [immN_append]
      have e : bN b * ((2 ^ (c.toNat - 65) : Nat) : Int) = ((b.toNat * 2 ^ (c.toNat - 65) : Nat) : Int) := by unfold bN; rw [Int.natCast_mul]
      have h3 : b.toNat * 2 ^ (c.toNat - 65) ≤ 1 * 2 ^ 24 := Nat.mul_le_mul (by cases b <;> decide) hp
      have h4 : 1 * 2 ^ 24 = 16777216 := rfl
      rw [e]
      generalize b.toNat * 2 ^ (c.toNat - 65) = q at *
      rw [w64_id (n := (q : Int)) (by omega) (by omega), w64_id (by omega) (by omega)]
      omega
    have hb89 : (u8I c == 89) = (c == 89) := u8_eq c 89
    rw [f 48 (by omega), f 49 (by omega), f 100 (by omega), f 110 (by omega), f 109 (by omega), f 97 (by omega), f 99 (by omega), f 119 (by omega), f 120 (by omega), f 121 (by omega), hsub, hpow, hpv, hb89]
    unfold fx Rd.step
    rw [g 48 (by decide), g 49 (by decide), g 120 (by decide), g 121 (by decide), g 100 (by decide), g 110 (by decide), g 109 (by decide), g 97 (by decide), g 99 (by decide), g 119 (by decide), hbig]
    dsimp only [cond_true, cond_false, Bool.and_true, Bool.true_and, Bool.false_and]
    rw [hsum]
    cases c == 89 <;> rfl
/-- All letters read, or a fixed one that is unlike. -/
theorem read_run : ∀ (m k : Nat) (s : Rd), k + m = p.length → s.Ok k → ∀ f, m < f →
    ∃ st : L_hauberkref03_read_8.σ, runL (L_hauberkref03_read_8.turn (op, w, tx l, (), false, p, (), (), 0, 0, 0, 0) (zI, (op, 0, 0, 0, 0, 0, 0, w, ()), 0)) f (s.num op w k) = some (bif ((p.drop k).zip (l.drop k)).any (fun q => fx q.1 q.2) then (1, st) else (0, (((p.drop k).zip (l.drop k)).foldl (fun s q => s.step q.1 q.2) s).num op w p.length)) ∧ st.1 = false ∧ st.2.2.2.2.2.1 = zI
  | 0, k, s, h, ho, f, hf => by
    obtain ⟨f, rfl⟩ : ∃ g, f = g + 1 := ⟨f - 1, by omega⟩
    refine ⟨s.num op w k, ?_, rfl, rfl⟩
    rw [List.drop_of_length_le (by omega), List.drop_of_length_le (by omega)]
    refine (runL_out (c := 0) (s' := s.num op w k) ?_).trans (by rw [show k = p.length by omega]; rfl)
    unfold Rd.num
    dsimp only [L_hauberkref03_read_8, PO.val]
    rw [dec_false (p := (k : Int) < lenI p) (by simp only [lenI]; omega)]
    rfl
  | m + 1, k, s, h, ho, f, hf => by
    obtain ⟨f, rfl⟩ : ∃ g, f = g + 1 := ⟨f - 1, by omega⟩
    have hk : k < p.length := by omega
    obtain ⟨st, s1, s2, e⟩ := read_turn op w p l hl h32 hrow s k hk ho
    rw [List.drop_eq_getElem_cons hk, List.drop_eq_getElem_cons (show k < l.length by omega), List.zip_cons_cons, List.any_cons, List.foldl_cons]
    cases hfx : fx p[k] l[k]
    · rw [hfx] at e
      obtain ⟨st2, h2, h3, h4⟩ := read_run m (k + 1) (s.step p[k] l[k]) (by omega) (step_ok ho _ _) f (by omega)
      exact ⟨st2, (runL_on e).trans h2, h3, h4⟩
    · rw [hfx] at e
      exact ⟨st, runL_out e, s1, s2⟩
end
end Go.Av
/-! Layer 3: the document's reader: what it comes to. -/
namespace Go.Av
open Go
theorem rows_ok (op : Int) (w : Bool) : rowOf (V_hauberkref02_Bits (op, w)) = true ∧ (V_hauberkref02_Bits (op, w)).length ≤ 32 := by
  rcases op_cases op with rfl | rfl | rfl | rfl | rfl | rfl | rfl | rfl | rfl | rfl | rfl | rfl | rfl | rfl | rfl | rfl | rfl | rfl | rfl | rfl | rfl | rfl | rfl | rfl | rfl | hop
  case inr.inr.inr.inr.inr.inr.inr.inr.inr.inr.inr.inr.inr.inr.inr.inr.inr.inr.inr.inr.inr.inr.inr.inr.inr =>
    rw [bits_none hop]
    exact ⟨rfl, Nat.zero_le _⟩
  all_goals cases w <;> exact ⟨rfl, Nat.le_of_ble_eq_true rfl⟩
/-- Has a row a fixed letter that is unlike? -/
def badR (op : Int) (w : Bool) (l : List Bool) : Bool := ((V_hauberkref02_Bits (op, w)).zip l).any fun q => fx q.1 q.2
theorem gsign {z : Int} {n : Nat} (hn : n ≤ 24) (h1 : -4294967296 ≤ z) (h2 : z < 4294967296) : G_hauberkref03_sign (z, (n : Int)) = true := by
  show (decide ((0 : Int) ≤ (n : Int)) && (decide ((n : Int) ≤ 24) && (decide ((-4294967296 : Int) ≤ z) && decide (z < 4294967296)))) = true
  rw [dec_true (by omega), dec_true (by omega), dec_true h1, dec_true h2]
  rfl
theorem fold_ok : ∀ (q : List (UInt8 × Bool)) (s : Rd) (k : Nat), s.Ok k → (q.foldl (fun s q => s.step q.1 q.2) s).Ok (k + q.length)
  | [], _, _, h => h
  | a :: q, s, k, h => by
    have := fold_ok q (s.step a.1 a.2) (k + 1) (step_ok h _ _)
    rw [List.length_cons, show k + (q.length + 1) = k + 1 + q.length by omega]
    exact this
theorem bN_val (b : Bool) : bN b = 0 ∨ bN b = 1 := by cases b <;> simp [bN]
theorem val_yes {α : Type} {b : Bool} {p q : PO α} (h : b = true) : (PO.ite b p q).val = p.val := by subst h; rfl
theorem val_no {α : Type} {b : Bool} {p q : PO α} (h : b = false) : (PO.ite b p q).val = q.val := by subst h; rfl
theorem val_opt {α β : Type} {o : Option β} {r : β} {k : β → PO α} (h : o = some r) : (PO.opt o k).val = (k r).val := by subst h; rfl
theorem sign24 (s : Rd) (himm : immN s.imm ≤ 536870912) : G_hauberkref03_sign (w64 (w64 (((immN s.imm : Nat) : Int) + w64 (Int.tmod (w64 (w64 (bN s.x + bN s.t) + 1)) 2 * V_hauberkref03_power 23)) + w64 (Int.tmod (w64 (w64 (bN s.y + bN s.t) + 1)) 2 * V_hauberkref03_power 22)), 24) = true := by
  have p1 : ∀ a b : Bool, w64 (Int.tmod (w64 (w64 (bN a + bN b) + 1)) 2 * V_hauberkref03_power 23) = 0 ∨ w64 (Int.tmod (w64 (w64 (bN a + bN b) + 1)) 2 * V_hauberkref03_power 23) = 8388608 := by
    intro a b
    cases a <;> cases b <;> first | exact .inl rfl | exact .inr rfl
  have p2 : ∀ a b : Bool, w64 (Int.tmod (w64 (w64 (bN a + bN b) + 1)) 2 * V_hauberkref03_power 22) = 0 ∨ w64 (Int.tmod (w64 (w64 (bN a + bN b) + 1)) 2 * V_hauberkref03_power 22) = 4194304 := by
    intro a b
    cases a <;> cases b <;> first | exact .inl rfl | exact .inr rfl
  have q1 := p1 s.x s.t
  have q2 := p2 s.y s.t
  generalize w64 (Int.tmod (w64 (w64 (bN s.x + bN s.t) + 1)) 2 * V_hauberkref03_power 23) = u at *
  generalize w64 (Int.tmod (w64 (w64 (bN s.y + bN s.t) + 1)) 2 * V_hauberkref03_power 22) = v at *
  rw [w64_id (n := ((immN s.imm : Nat) : Int) + u) (by omega) (by omega), w64_id (n := ((immN s.imm : Nat) : Int) + u + v) (by omega) (by omega)]
  exact gsign (n := 24) (by omega) (by omega) (by omega)
/-- The document's reader. -/
theorem refread_T (op : Int) (w : Bool) (l : List Bool) (hlen : (V_hauberkref02_Bits (op, w)).length = l.length) (hne : V_hauberkref02_Bits (op, w) ≠ []) :
    (T_hauberkref03_read (op, w, tx l)).val = some (bif badR op w l then (zI, false, ()) else (iRow op w l, V_hauberkref02_Check (iRow op w l) == 0, ())) := by
  obtain ⟨hrow, h32⟩ := rows_ok op w
  obtain ⟨st, h1, h2, h3⟩ := read_run op w (V_hauberkref02_Bits (op, w)) l hlen h32 hrow (V_hauberkref02_Bits (op, w)).length 0 Rd.zero (by omega) ⟨Nat.zero_le _, Nat.zero_le _, Nat.zero_le _, Nat.zero_le _, Nat.zero_le _, Nat.zero_le _, Nat.zero_le _⟩ 40 (by omega)
  have hok := fold_ok ((V_hauberkref02_Bits (op, w)).zip l) Rd.zero 0 ⟨Nat.zero_le _, Nat.zero_le _, Nat.zero_le _, Nat.zero_le _, Nat.zero_le _, Nat.zero_le _, Nat.zero_le _⟩
  rw [List.drop_zero, List.drop_zero] at h1
  have himm := hok.imm
  rw [Nat.zero_add, List.length_zip] at himm
  have h1 : LoopN.res L_hauberkref03_read_8 (op, w, tx l, (), false, V_hauberkref02_Bits (op, w), (), (), 0, 0, 0, 0) (zI, (op, 0, 0, 0, 0, 0, 0, w, ()), 0) = some (bif badR op w l then (1, st) else (0, (foldR (V_hauberkref02_Bits (op, w)) l).num op w (V_hauberkref02_Bits (op, w)).length)) := h1
  have himm : immN (foldR (V_hauberkref02_Bits (op, w)) l).imm ≤ 536870912 := by
    have hm : min (V_hauberkref02_Bits (op, w)).length l.length ≤ 32 := Nat.le_trans (Nat.min_le_left ..) h32
    unfold foldR
    generalize immN _ = I at himm ⊢
    generalize min (V_hauberkref02_Bits (op, w)).length l.length = M at *
    omega
  have c1 : (lenI (V_hauberkref02_Bits (op, w)) != lenI (tx l) || V_hauberkref02_Bits (op, w) == []) = false := by
    rw [Bool.or_eq_false_iff]
    refine ⟨?_, beq_eq_false_iff_ne.2 hne⟩
    simp only [lenI, tx_len, hlen, bne_self_eq_false]
  have hg := fun x => check_ok x
  have key : ∀ b : Bool, b = false ∨ b = true := by decide
  unfold T_hauberkref03_read
  dsimp only
  refine (val_no c1).trans ((val_opt h1).trans ?_)
  rcases key (badR op w l) with hb | hb
  · rw [hb]
    refine (val_yes (rfl : way 0 = true)).trans ?_
    have hi : iRow op w l = finR op w (foldR (V_hauberkref02_Bits (op, w)) l) := rfl
    rw [hi]
    generalize foldR (V_hauberkref02_Bits (op, w)) l = s at himm
    have s24 := sign24 s himm
    have s11 : G_hauberkref03_sign (((immN s.imm : Nat) : Int), 11) = true := gsign (n := 11) (by omega) (by omega) (by omega)
    have s20 : G_hauberkref03_sign (((immN s.imm : Nat) : Int), 20) = true := gsign (n := 20) (by omega) (by omega) (by omega)
    have s8 : G_hauberkref03_sign (((immN s.imm : Nat) : Int), 8) = true := gsign (n := 8) (by omega) (by omega) (by omega)
    rcases key (op == 18) with h18 | h18
    · refine (val_no h18).trans ?_
      rcases key ((op == 24 && w)) with h24w | h24w
      · refine (val_no h24w).trans ?_
        rcases key (op == 24) with h24 | h24
        · refine (val_no h24).trans ?_
          rcases key ((op == 25 && w)) with h25w | h25w
          · refine (val_no h25w).trans ?_
            rcases key (op == 25) with h25 | h25
            · refine (val_no h25).trans ((val_yes (hg _)).trans ?_)
              unfold finR
              rw [h18, h24w, h24, h25w, h25]
              rfl
            · refine (val_yes h25).trans ((val_yes s8).trans ((val_yes (hg _)).trans ?_))
              unfold finR
              rw [h18, h24w, h24, h25w, h25]
              rfl
          · refine (val_yes h25w).trans ((val_yes s20).trans ((val_yes (hg _)).trans ?_))
            unfold finR
            rw [h18, h24w, h24, h25w]
            rfl
        · refine (val_yes h24).trans ((val_yes s11).trans ((val_yes (hg _)).trans ?_))
          unfold finR
          rw [h18, h24w, h24]
          rfl
      · refine (val_yes h24w).trans ((val_yes (rfl : G_hauberkref03_power 23 = true)).trans ((val_yes (rfl : G_hauberkref03_power 22 = true)).trans ((val_yes s24).trans ((val_yes (hg _)).trans ?_))))
        unfold finR
        rw [h18, h24w]
        rfl
    · refine (val_yes h18).trans ((val_yes (hg _)).trans ?_)
      unfold finR
      rw [h18]
      rfl
  · rw [hb]
    refine (val_no (rfl : way 1 = false)).trans ?_
    show some (st.2.2.2.2.2.1, st.1, ()) = _
    rw [h2, h3]
    rfl
theorem refread_none (op : Int) (w : Bool) (l : List Bool) (h : (V_hauberkref02_Bits (op, w)).length ≠ l.length ∨ V_hauberkref02_Bits (op, w) = []) : (T_hauberkref03_read (op, w, tx l)).val = some (zI, false, ()) := by
  have c1 : (lenI (V_hauberkref02_Bits (op, w)) != lenI (tx l) || V_hauberkref02_Bits (op, w) == []) = true := by
    rw [Bool.or_eq_true]
    rcases h with h | h
    · left
      rw [bne_iff_ne]
      simp only [lenI, tx_len]
      omega
    · right
      rw [h]
      rfl
  unfold T_hauberkref03_read PO.val
  dsimp only
  rw [c1]
  rfl
theorem fx48 {x : Bool} (h : fx 48 x = false) : x = false := h
theorem fx49 {x : Bool} (h : fx 49 x = false) : x = true := by cases x
                                                               · cases h
                                                               · rfl
/-- Bits that have a row's fixed letters are like them. -/
theorem bad_hl {g : UInt8 → Nat → Bool} (h0 : ∀ f, g 48 f = false) (h1 : ∀ f, g 49 f = true) : ∀ p : List UInt8, (p.zip (hl g p)).any (fun q => fx q.1 q.2) = false
  | [] => rfl
  | c :: p => by
    show (fx c (g c (fol c p)) || (p.zip (hl g p)).any (fun q => fx q.1 q.2)) = false
    rw [bad_hl h0 h1 p, Bool.or_false]
    unfold fx
    cases hc : c == 48
    · cases hc1 : c == 49
      · rfl
      · have : c = 49 := by simpa using hc1
        rw [this, h1]
        rfl
    · have : c = 48 := by simpa using hc
      rw [this, h0]
      rfl
end Go.Av
/-! Layer 3: what the document reads of a row has just these bits. Written by wip/tools/decsnd.py. -/
namespace Go.Av
open Go
theorem row_facts {op rd rn rm ra imm cond : Int} {w : Bool} (h : V_hauberkref02_Check (op, rd, rn, rm, ra, imm, cond, w, ()) = 0) :
    le12 rd = true ∧ le12 rn = true ∧ le12 rm = true ∧ (op = 17 → le12 ra = true ∧ rd ≠ ra) ∧ (op = 18 → ra ≥ 1) ∧ (6 ≤ op → op ≤ 8 → imm > 0) ∧ (op = 25 → cond ≤ 13) := by
  rw [← check_same] at h
  obtain ⟨_, ⟨_, h1⟩, ⟨_, h2⟩, ⟨_, h3⟩, h4, _, _, h5, h6⟩ := check_bounds h
  refine ⟨dec_true h1, dec_true h2, dec_true h3, fun e => ⟨dec_true (h4 e).2.1, fun e2 => (h4 e).2.2 e2.symm⟩, fun e => (h5 e).1, fun a b => by have := h6 a b; omega, fun e => ?_⟩
  subst e
  have hk := (check_iff 25 rd rn rm ra imm cond w).1 h
  have hk : (rd == 0 && (rn == 0 && (rm == 0 && (ra == 0 && (bw cond 0 13 && (imm % 2 == 0 && bif w then bw imm (-1048576) 1048574 else bw imm (-256) 254)))))) = true := hk
  simp only [Bool.and_eq_true, decide_eq_true_eq] at hk
  exact hk.2.2.2.2.1.2
theorem sd_1 (x0 x1 x2 x3 x4 x5 x6 x7 x8 x9 x10 x11 x12 x13 x14 x15 : Bool) (hb : badR 1 false [x0, x1, x2, x3, x4, x5, x6, x7, x8, x9, x10, x11, x12, x13, x14, x15] = false) (hc : V_hauberkref02_Check (iRow 1 false [x0, x1, x2, x3, x4, x5, x6, x7, x8, x9, x10, x11, x12, x13, x14, x15]) = 0) : Enc1 (iRow 1 false [x0, x1, x2, x3, x4, x5, x6, x7, x8, x9, x10, x11, x12, x13, x14, x15]) [x0, x1, x2, x3, x4, x5, x6, x7, x8, x9, x10, x11, x12, x13, x14, x15] ∧ (iRow 1 false [x0, x1, x2, x3, x4, x5, x6, x7, x8, x9, x10, x11, x12, x13, x14, x15]).1 = 1 ∧ (iRow 1 false [x0, x1, x2, x3, x4, x5, x6, x7, x8, x9, x10, x11, x12, x13, x14, x15]).2.2.2.2.2.2.2.1 = false := by
  have hb : (fx 49 x0 || (fx 48 x1 || (fx 49 x2 || (fx 49 x3 || (fx 49 x4 || (fx 49 x5 || (fx 49 x6 || (fx 49 x7 || (fx 48 x8 || (fx 48 x9 || (fx 48 x10 || (fx 48 x11 || (fx 48 x12 || (fx 48 x13 || (fx 48 x14 || (fx 48 x15 || false)))))))))))))))) = false := hb
  simp only [Bool.or_eq_false_iff] at hb
  obtain ⟨h0, h1, h2, h3, h4, h5, h6, h7, h8, h9, h10, h11, h12, h13, h14, h15, _⟩ := hb
  obtain rfl := fx49 h0
  obtain rfl := fx48 h1
  obtain rfl := fx49 h2
  obtain rfl := fx49 h3
  obtain rfl := fx49 h4
  obtain rfl := fx49 h5
  obtain rfl := fx49 h6
  obtain rfl := fx49 h7
  obtain rfl := fx48 h8
  obtain rfl := fx48 h9
  obtain rfl := fx48 h10
  obtain rfl := fx48 h11
  obtain rfl := fx48 h12
  obtain rfl := fx48 h13
  obtain rfl := fx48 h14
  obtain rfl := fx48 h15
  have q := rr_1 
  rw [q] at hc
  have f := row_facts hc
  rw [q]
  exact ⟨⟨1, _, _, _, _, _, _, false, rfl, q, fw_1  ⟩, rfl, rfl⟩
theorem sd_2 (x0 x1 x2 x3 x4 x5 x6 x7 x8 x9 x10 x11 x12 x13 x14 x15 : Bool) (hb : badR 2 false [x0, x1, x2, x3, x4, x5, x6, x7, x8, x9, x10, x11, x12, x13, x14, x15] = false) (hc : V_hauberkref02_Check (iRow 2 false [x0, x1, x2, x3, x4, x5, x6, x7, x8, x9, x10, x11, x12, x13, x14, x15]) = 0) : Enc1 (iRow 2 false [x0, x1, x2, x3, x4, x5, x6, x7, x8, x9, x10, x11, x12, x13, x14, x15]) [x0, x1, x2, x3, x4, x5, x6, x7, x8, x9, x10, x11, x12, x13, x14, x15] ∧ (iRow 2 false [x0, x1, x2, x3, x4, x5, x6, x7, x8, x9, x10, x11, x12, x13, x14, x15]).1 = 2 ∧ (iRow 2 false [x0, x1, x2, x3, x4, x5, x6, x7, x8, x9, x10, x11, x12, x13, x14, x15]).2.2.2.2.2.2.2.1 = false := by
  have hb : (fx 49 x0 || (fx 48 x1 || (fx 49 x2 || (fx 49 x3 || (fx 49 x4 || (fx 49 x5 || (fx 49 x6 || (fx 48 x7 || (fx 72 x8 || (fx 71 x9 || (fx 70 x10 || (fx 69 x11 || (fx 68 x12 || (fx 67 x13 || (fx 66 x14 || (fx 65 x15 || false)))))))))))))))) = false := hb
  simp only [Bool.or_eq_false_iff] at hb
  obtain ⟨h0, h1, h2, h3, h4, h5, h6, h7, _, _, _, _, _, _, _, _, _⟩ := hb
  obtain rfl := fx49 h0
  obtain rfl := fx48 h1
  obtain rfl := fx49 h2
  obtain rfl := fx49 h3
  obtain rfl := fx49 h4
  obtain rfl := fx49 h5
  obtain rfl := fx49 h6
  obtain rfl := fx48 h7
  have q := rr_2 x8 x9 x10 x11 x12 x13 x14 x15
  rw [q] at hc
  have f := row_facts hc
  rw [q]
  exact ⟨⟨2, _, _, _, _, _, _, false, rfl, q, fw_2 x8 x9 x10 x11 x12 x13 x14 x15 ⟩, rfl, rfl⟩
theorem sd_3 (x0 x1 x2 x3 x4 x5 x6 x7 x8 x9 x10 x11 x12 x13 x14 x15 y0 y1 y2 y3 y4 y5 y6 y7 y8 y9 y10 y11 y12 y13 y14 y15 : Bool) (hb : badR 3 false [x0, x1, x2, x3, x4, x5, x6, x7, x8, x9, x10, x11, x12, x13, x14, x15, y0, y1, y2, y3, y4, y5, y6, y7, y8, y9, y10, y11, y12, y13, y14, y15] = false) (hc : V_hauberkref02_Check (iRow 3 false [x0, x1, x2, x3, x4, x5, x6, x7, x8, x9, x10, x11, x12, x13, x14, x15, y0, y1, y2, y3, y4, y5, y6, y7, y8, y9, y10, y11, y12, y13, y14, y15]) = 0) : Enc2 (iRow 3 false [x0, x1, x2, x3, x4, x5, x6, x7, x8, x9, x10, x11, x12, x13, x14, x15, y0, y1, y2, y3, y4, y5, y6, y7, y8, y9, y10, y11, y12, y13, y14, y15]) [x0, x1, x2, x3, x4, x5, x6, x7, x8, x9, x10, x11, x12, x13, x14, x15] [y0, y1, y2, y3, y4, y5, y6, y7, y8, y9, y10, y11, y12, y13, y14, y15] ∧ (iRow 3 false [x0, x1, x2, x3, x4, x5, x6, x7, x8, x9, x10, x11, x12, x13, x14, x15, y0, y1, y2, y3, y4, y5, y6, y7, y8, y9, y10, y11, y12, y13, y14, y15]).1 = 3 ∧ (iRow 3 false [x0, x1, x2, x3, x4, x5, x6, x7, x8, x9, x10, x11, x12, x13, x14, x15, y0, y1, y2, y3, y4, y5, y6, y7, y8, y9, y10, y11, y12, y13, y14, y15]).2.2.2.2.2.2.2.1 = false := by
  have hb : (fx 49 x0 || (fx 49 x1 || (fx 49 x2 || (fx 49 x3 || (fx 48 x4 || (fx 76 x5 || (fx 49 x6 || (fx 48 x7 || (fx 48 x8 || (fx 49 x9 || (fx 48 x10 || (fx 48 x11 || (fx 80 x12 || (fx 79 x13 || (fx 78 x14 || (fx 77 x15 || (fx 48 y0 || (fx 75 y1 || (fx 74 y2 || (fx 73 y3 || (fx 100 y4 || (fx 100 y5 || (fx 100 y6 || (fx 100 y7 || (fx 72 y8 || (fx 71 y9 || (fx 70 y10 || (fx 69 y11 || (fx 68 y12 || (fx 67 y13 || (fx 66 y14 || (fx 65 y15 || false)))))))))))))))))))))))))))))))) = false := hb
  simp only [Bool.or_eq_false_iff] at hb
  obtain ⟨h0, h1, h2, h3, h4, _, h6, h7, h8, h9, h10, h11, _, _, _, _, h16, _, _, _, _, _, _, _, _, _, _, _, _, _, _, _, _⟩ := hb
  obtain rfl := fx49 h0
  obtain rfl := fx49 h1
  obtain rfl := fx49 h2
  obtain rfl := fx49 h3
  obtain rfl := fx48 h4
  obtain rfl := fx49 h6
  obtain rfl := fx48 h7
  obtain rfl := fx48 h8
  obtain rfl := fx49 h9
  obtain rfl := fx48 h10
  obtain rfl := fx48 h11
  obtain rfl := fx48 h16
  have q := rr_3 x5 x12 x13 x14 x15 y1 y2 y3 y4 y5 y6 y7 y8 y9 y10 y11 y12 y13 y14 y15
  rw [q] at hc
  have f := row_facts hc
  rw [q]
  exact ⟨⟨3, _, _, _, _, _, _, false, rfl, q, fw_3 x5 x12 x13 x14 x15 y1 y2 y3 y4 y5 y6 y7 y8 y9 y10 y11 y12 y13 y14 y15 f.1⟩, rfl, rfl⟩
theorem sd_4 (x0 x1 x2 x3 x4 x5 x6 x7 x8 x9 x10 x11 x12 x13 x14 x15 y0 y1 y2 y3 y4 y5 y6 y7 y8 y9 y10 y11 y12 y13 y14 y15 : Bool) (hb : badR 4 false [x0, x1, x2, x3, x4, x5, x6, x7, x8, x9, x10, x11, x12, x13, x14, x15, y0, y1, y2, y3, y4, y5, y6, y7, y8, y9, y10, y11, y12, y13, y14, y15] = false) (hc : V_hauberkref02_Check (iRow 4 false [x0, x1, x2, x3, x4, x5, x6, x7, x8, x9, x10, x11, x12, x13, x14, x15, y0, y1, y2, y3, y4, y5, y6, y7, y8, y9, y10, y11, y12, y13, y14, y15]) = 0) : Enc2 (iRow 4 false [x0, x1, x2, x3, x4, x5, x6, x7, x8, x9, x10, x11, x12, x13, x14, x15, y0, y1, y2, y3, y4, y5, y6, y7, y8, y9, y10, y11, y12, y13, y14, y15]) [x0, x1, x2, x3, x4, x5, x6, x7, x8, x9, x10, x11, x12, x13, x14, x15] [y0, y1, y2, y3, y4, y5, y6, y7, y8, y9, y10, y11, y12, y13, y14, y15] ∧ (iRow 4 false [x0, x1, x2, x3, x4, x5, x6, x7, x8, x9, x10, x11, x12, x13, x14, x15, y0, y1, y2, y3, y4, y5, y6, y7, y8, y9, y10, y11, y12, y13, y14, y15]).1 = 4 ∧ (iRow 4 false [x0, x1, x2, x3, x4, x5, x6, x7, x8, x9, x10, x11, x12, x13, x14, x15, y0, y1, y2, y3, y4, y5, y6, y7, y8, y9, y10, y11, y12, y13, y14, y15]).2.2.2.2.2.2.2.1 = false := by
  have hb : (fx 49 x0 || (fx 49 x1 || (fx 49 x2 || (fx 49 x3 || (fx 48 x4 || (fx 76 x5 || (fx 49 x6 || (fx 48 x7 || (fx 49 x8 || (fx 49 x9 || (fx 48 x10 || (fx 48 x11 || (fx 80 x12 || (fx 79 x13 || (fx 78 x14 || (fx 77 x15 || (fx 48 y0 || (fx 75 y1 || (fx 74 y2 || (fx 73 y3 || (fx 100 y4 || (fx 100 y5 || (fx 100 y6 || (fx 100 y7 || (fx 72 y8 || (fx 71 y9 || (fx 70 y10 || (fx 69 y11 || (fx 68 y12 || (fx 67 y13 || (fx 66 y14 || (fx 65 y15 || false)))))))))))))))))))))))))))))))) = false := hb
  simp only [Bool.or_eq_false_iff] at hb
  obtain ⟨h0, h1, h2, h3, h4, _, h6, h7, h8, h9, h10, h11, _, _, _, _, h16, _, _, _, _, _, _, _, _, _, _, _, _, _, _, _, _⟩ := hb
  obtain rfl := fx49 h0
  obtain rfl := fx49 h1
  obtain rfl := fx49 h2
  obtain rfl := fx49 h3
  obtain rfl := fx48 h4
  obtain rfl := fx49 h6
  obtain rfl := fx48 h7
  obtain rfl := fx49 h8
  obtain rfl := fx49 h9
  obtain rfl := fx48 h10
  obtain rfl := fx48 h11
  obtain rfl := fx48 h16
  have q := rr_4 x5 x12 x13 x14 x15 y1 y2 y3 y4 y5 y6 y7 y8 y9 y10 y11 y12 y13 y14 y15
  rw [q] at hc
  have f := row_facts hc
  rw [q]
  exact ⟨⟨4, _, _, _, _, _, _, false, rfl, q, fw_4 x5 x12 x13 x14 x15 y1 y2 y3 y4 y5 y6 y7 y8 y9 y10 y11 y12 y13 y14 y15 f.1⟩, rfl, rfl⟩
theorem sd_5 (x0 x1 x2 x3 x4 x5 x6 x7 x8 x9 x10 x11 x12 x13 x14 x15 y0 y1 y2 y3 y4 y5 y6 y7 y8 y9 y10 y11 y12 y13 y14 y15 : Bool) (hb : badR 5 false [x0, x1, x2, x3, x4, x5, x6, x7, x8, x9, x10, x11, x12, x13, x14, x15, y0, y1, y2, y3, y4, y5, y6, y7, y8, y9, y10, y11, y12, y13, y14, y15] = false) (hc : V_hauberkref02_Check (iRow 5 false [x0, x1, x2, x3, x4, x5, x6, x7, x8, x9, x10, x11, x12, x13, x14, x15, y0, y1, y2, y3, y4, y5, y6, y7, y8, y9, y10, y11, y12, y13, y14, y15]) = 0) : Enc2 (iRow 5 false [x0, x1, x2, x3, x4, x5, x6, x7, x8, x9, x10, x11, x12, x13, x14, x15, y0, y1, y2, y3, y4, y5, y6, y7, y8, y9, y10, y11, y12, y13, y14, y15]) [x0, x1, x2, x3, x4, x5, x6, x7, x8, x9, x10, x11, x12, x13, x14, x15] [y0, y1, y2, y3, y4, y5, y6, y7, y8, y9, y10, y11, y12, y13, y14, y15] ∧ (iRow 5 false [x0, x1, x2, x3, x4, x5, x6, x7, x8, x9, x10, x11, x12, x13, x14, x15, y0, y1, y2, y3, y4, y5, y6, y7, y8, y9, y10, y11, y12, y13, y14, y15]).1 = 5 ∧ (iRow 5 false [x0, x1, x2, x3, x4, x5, x6, x7, x8, x9, x10, x11, x12, x13, x14, x15, y0, y1, y2, y3, y4, y5, y6, y7, y8, y9, y10, y11, y12, y13, y14, y15]).2.2.2.2.2.2.2.1 = false := by
  have hb : (fx 49 x0 || (fx 49 x1 || (fx 49 x2 || (fx 48 x3 || (fx 49 x4 || (fx 48 x5 || (fx 49 x6 || (fx 48 x7 || (fx 48 x8 || (fx 49 x9 || (fx 48 x10 || (fx 48 x11 || (fx 49 x12 || (fx 49 x13 || (fx 49 x14 || (fx 49 x15 || (fx 48 y0 || (fx 69 y1 || (fx 68 y2 || (fx 67 y3 || (fx 100 y4 || (fx 100 y5 || (fx 100 y6 || (fx 100 y7 || (fx 66 y8 || (fx 65 y9 || (fx 48 y10 || (fx 48 y11 || (fx 109 y12 || (fx 109 y13 || (fx 109 y14 || (fx 109 y15 || false)))))))))))))))))))))))))))))))) = false := hb
  simp only [Bool.or_eq_false_iff] at hb
  obtain ⟨h0, h1, h2, h3, h4, h5, h6, h7, h8, h9, h10, h11, h12, h13, h14, h15, h16, _, _, _, _, _, _, _, _, _, h26, h27, _, _, _, _, _⟩ := hb
  obtain rfl := fx49 h0
  obtain rfl := fx49 h1
  obtain rfl := fx49 h2
  obtain rfl := fx48 h3
  obtain rfl := fx49 h4
  obtain rfl := fx48 h5
  obtain rfl := fx49 h6
  obtain rfl := fx48 h7
  obtain rfl := fx48 h8
  obtain rfl := fx49 h9
  obtain rfl := fx48 h10
  obtain rfl := fx48 h11
  obtain rfl := fx49 h12
  obtain rfl := fx49 h13
  obtain rfl := fx49 h14
  obtain rfl := fx49 h15
  obtain rfl := fx48 h16
  obtain rfl := fx48 h26
  obtain rfl := fx48 h27
  have q := rr_5 y1 y2 y3 y4 y5 y6 y7 y8 y9 y12 y13 y14 y15
  rw [q] at hc
  have f := row_facts hc
  rw [q]
  exact ⟨⟨5, _, _, _, _, _, _, false, rfl, q, fw_5 y1 y2 y3 y4 y5 y6 y7 y8 y9 y12 y13 y14 y15 f.1 f.2.2.1⟩, rfl, rfl⟩
theorem sd_6 (x0 x1 x2 x3 x4 x5 x6 x7 x8 x9 x10 x11 x12 x13 x14 x15 y0 y1 y2 y3 y4 y5 y6 y7 y8 y9 y10 y11 y12 y13 y14 y15 : Bool) (hb : badR 6 false [x0, x1, x2, x3, x4, x5, x6, x7, x8, x9, x10, x11, x12, x13, x14, x15, y0, y1, y2, y3, y4, y5, y6, y7, y8, y9, y10, y11, y12, y13, y14, y15] = false) (hc : V_hauberkref02_Check (iRow 6 false [x0, x1, x2, x3, x4, x5, x6, x7, x8, x9, x10, x11, x12, x13, x14, x15, y0, y1, y2, y3, y4, y5, y6, y7, y8, y9, y10, y11, y12, y13, y14, y15]) = 0) : Enc2 (iRow 6 false [x0, x1, x2, x3, x4, x5, x6, x7, x8, x9, x10, x11, x12, x13, x14, x15, y0, y1, y2, y3, y4, y5, y6, y7, y8, y9, y10, y11, y12, y13, y14, y15]) [x0, x1, x2, x3, x4, x5, x6, x7, x8, x9, x10, x11, x12, x13, x14, x15] [y0, y1, y2, y3, y4, y5, y6, y7, y8, y9, y10, y11, y12, y13, y14, y15] ∧ (iRow 6 false [x0, x1, x2, x3, x4, x5, x6, x7, x8, x9, x10, x11, x12, x13, x14, x15, y0, y1, y2, y3, y4, y5, y6, y7, y8, y9, y10, y11, y12, y13, y14, y15]).1 = 6 ∧ (iRow 6 false [x0, x1, x2, x3, x4, x5, x6, x7, x8, x9, x10, x11, x12, x13, x14, x15, y0, y1, y2, y3, y4, y5, y6, y7, y8, y9, y10, y11, y12, y13, y14, y15]).2.2.2.2.2.2.2.1 = false := by
  have hb : (fx 49 x0 || (fx 49 x1 || (fx 49 x2 || (fx 48 x3 || (fx 49 x4 || (fx 48 x5 || (fx 49 x6 || (fx 48 x7 || (fx 48 x8 || (fx 49 x9 || (fx 48 x10 || (fx 48 x11 || (fx 49 x12 || (fx 49 x13 || (fx 49 x14 || (fx 49 x15 || (fx 48 y0 || (fx 69 y1 || (fx 68 y2 || (fx 67 y3 || (fx 100 y4 || (fx 100 y5 || (fx 100 y6 || (fx 100 y7 || (fx 66 y8 || (fx 65 y9 || (fx 48 y10 || (fx 49 y11 || (fx 109 y12 || (fx 109 y13 || (fx 109 y14 || (fx 109 y15 || false)))))))))))))))))))))))))))))))) = false := hb
  simp only [Bool.or_eq_false_iff] at hb
  obtain ⟨h0, h1, h2, h3, h4, h5, h6, h7, h8, h9, h10, h11, h12, h13, h14, h15, h16, _, _, _, _, _, _, _, _, _, h26, h27, _, _, _, _, _⟩ := hb
  obtain rfl := fx49 h0
  obtain rfl := fx49 h1
  obtain rfl := fx49 h2
  obtain rfl := fx48 h3
  obtain rfl := fx49 h4
  obtain rfl := fx48 h5
  obtain rfl := fx49 h6
  obtain rfl := fx48 h7
  obtain rfl := fx48 h8
  obtain rfl := fx49 h9
  obtain rfl := fx48 h10
  obtain rfl := fx48 h11
  obtain rfl := fx49 h12
  obtain rfl := fx49 h13
  obtain rfl := fx49 h14
  obtain rfl := fx49 h15
  obtain rfl := fx48 h16
  obtain rfl := fx48 h26
  obtain rfl := fx49 h27
  have q := rr_6 y1 y2 y3 y4 y5 y6 y7 y8 y9 y12 y13 y14 y15
  rw [q] at hc
  have f := row_facts hc
  rw [q]
  exact ⟨⟨6, _, _, _, _, _, _, false, rfl, q, fw_6 y1 y2 y3 y4 y5 y6 y7 y8 y9 y12 y13 y14 y15 f.1 f.2.2.1 (f.2.2.2.2.2.1 (by omega) (by omega))⟩, rfl, rfl⟩
theorem sd_7 (x0 x1 x2 x3 x4 x5 x6 x7 x8 x9 x10 x11 x12 x13 x14 x15 y0 y1 y2 y3 y4 y5 y6 y7 y8 y9 y10 y11 y12 y13 y14 y15 : Bool) (hb : badR 7 false [x0, x1, x2, x3, x4, x5, x6, x7, x8, x9, x10, x11, x12, x13, x14, x15, y0, y1, y2, y3, y4, y5, y6, y7, y8, y9, y10, y11, y12, y13, y14, y15] = false) (hc : V_hauberkref02_Check (iRow 7 false [x0, x1, x2, x3, x4, x5, x6, x7, x8, x9, x10, x11, x12, x13, x14, x15, y0, y1, y2, y3, y4, y5, y6, y7, y8, y9, y10, y11, y12, y13, y14, y15]) = 0) : Enc2 (iRow 7 false [x0, x1, x2, x3, x4, x5, x6, x7, x8, x9, x10, x11, x12, x13, x14, x15, y0, y1, y2, y3, y4, y5, y6, y7, y8, y9, y10, y11, y12, y13, y14, y15]) [x0, x1, x2, x3, x4, x5, x6, x7, x8, x9, x10, x11, x12, x13, x14, x15] [y0, y1, y2, y3, y4, y5, y6, y7, y8, y9, y10, y11, y12, y13, y14, y15] ∧ (iRow 7 false [x0, x1, x2, x3, x4, x5, x6, x7, x8, x9, x10, x11, x12, x13, x14, x15, y0, y1, y2, y3, y4, y5, y6, y7, y8, y9, y10, y11, y12, y13, y14, y15]).1 = 7 ∧ (iRow 7 false [x0, x1, x2, x3, x4, x5, x6, x7, x8, x9, x10, x11, x12, x13, x14, x15, y0, y1, y2, y3, y4, y5, y6, y7, y8, y9, y10, y11, y12, y13, y14, y15]).2.2.2.2.2.2.2.1 = false := by
  have hb : (fx 49 x0 || (fx 49 x1 || (fx 49 x2 || (fx 48 x3 || (fx 49 x4 || (fx 48 x5 || (fx 49 x6 || (fx 48 x7 || (fx 48 x8 || (fx 49 x9 || (fx 48 x10 || (fx 48 x11 || (fx 49 x12 || (fx 49 x13 || (fx 49 x14 || (fx 49 x15 || (fx 48 y0 || (fx 69 y1 || (fx 68 y2 || (fx 67 y3 || (fx 100 y4 || (fx 100 y5 || (fx 100 y6 || (fx 100 y7 || (fx 66 y8 || (fx 65 y9 || (fx 49 y10 || (fx 48 y11 || (fx 109 y12 || (fx 109 y13 || (fx 109 y14 || (fx 109 y15 || false)))))))))))))))))))))))))))))))) = false := hb
  simp only [Bool.or_eq_false_iff] at hb
  obtain ⟨h0, h1, h2, h3, h4, h5, h6, h7, h8, h9, h10, h11, h12, h13, h14, h15, h16, _, _, _, _, _, _, _, _, _, h26, h27, _, _, _, _, _⟩ := hb
  obtain rfl := fx49 h0
  obtain rfl := fx49 h1
  obtain rfl := fx49 h2
  obtain rfl := fx48 h3
  obtain rfl := fx49 h4
  obtain rfl := fx48 h5
  obtain rfl := fx49 h6
  obtain rfl := fx48 h7
  obtain rfl := fx48 h8
  obtain rfl := fx49 h9
  obtain rfl := fx48 h10
  obtain rfl := fx48 h11
  obtain rfl := fx49 h12
  obtain rfl := fx49 h13
  obtain rfl := fx49 h14
  obtain rfl := fx49 h15
  obtain rfl := fx48 h16
  obtain rfl := fx49 h26
  obtain rfl := fx48 h27
  have q := rr_7 y1 y2 y3 y4 y5 y6 y7 y8 y9 y12 y13 y14 y15
  rw [q] at hc
  have f := row_facts hc
  rw [q]
  exact ⟨⟨7, _, _, _, _, _, _, false, rfl, q, fw_7 y1 y2 y3 y4 y5 y6 y7 y8 y9 y12 y13 y14 y15 f.1 f.2.2.1 (f.2.2.2.2.2.1 (by omega) (by omega))⟩, rfl, rfl⟩
theorem sd_8 (x0 x1 x2 x3 x4 x5 x6 x7 x8 x9 x10 x11 x12 x13 x14 x15 y0 y1 y2 y3 y4 y5 y6 y7 y8 y9 y10 y11 y12 y13 y14 y15 : Bool) (hb : badR 8 false [x0, x1, x2, x3, x4, x5, x6, x7, x8, x9, x10, x11, x12, x13, x14, x15, y0, y1, y2, y3, y4, y5, y6, y7, y8, y9, y10, y11, y12, y13, y14, y15] = false) (hc : V_hauberkref02_Check (iRow 8 false [x0, x1, x2, x3, x4, x5, x6, x7, x8, x9, x10, x11, x12, x13, x14, x15, y0, y1, y2, y3, y4, y5, y6, y7, y8, y9, y10, y11, y12, y13, y14, y15]) = 0) : Enc2 (iRow 8 false [x0, x1, x2, x3, x4, x5, x6, x7, x8, x9, x10, x11, x12, x13, x14, x15, y0, y1, y2, y3, y4, y5, y6, y7, y8, y9, y10, y11, y12, y13, y14, y15]) [x0, x1, x2, x3, x4, x5, x6, x7, x8, x9, x10, x11, x12, x13, x14, x15] [y0, y1, y2, y3, y4, y5, y6, y7, y8, y9, y10, y11, y12, y13, y14, y15] ∧ (iRow 8 false [x0, x1, x2, x3, x4, x5, x6, x7, x8, x9, x10, x11, x12, x13, x14, x15, y0, y1, y2, y3, y4, y5, y6, y7, y8, y9, y10, y11, y12, y13, y14, y15]).1 = 8 ∧ (iRow 8 false [x0, x1, x2, x3, x4, x5, x6, x7, x8, x9, x10, x11, x12, x13, x14, x15, y0, y1, y2, y3, y4, y5, y6, y7, y8, y9, y10, y11, y12, y13, y14, y15]).2.2.2.2.2.2.2.1 = false := by
  have hb : (fx 49 x0 || (fx 49 x1 || (fx 49 x2 || (fx 48 x3 || (fx 49 x4 || (fx 48 x5 || (fx 49 x6 || (fx 48 x7 || (fx 48 x8 || (fx 49 x9 || (fx 48 x10 || (fx 48 x11 || (fx 49 x12 || (fx 49 x13 || (fx 49 x14 || (fx 49 x15 || (fx 48 y0 || (fx 69 y1 || (fx 68 y2 || (fx 67 y3 || (fx 100 y4 || (fx 100 y5 || (fx 100 y6 || (fx 100 y7 || (fx 66 y8 || (fx 65 y9 || (fx 49 y10 || (fx 49 y11 || (fx 109 y12 || (fx 109 y13 || (fx 109 y14 || (fx 109 y15 || false)))))))))))))))))))))))))))))))) = false := hb
  simp only [Bool.or_eq_false_iff] at hb
  obtain ⟨h0, h1, h2, h3, h4, h5, h6, h7, h8, h9, h10, h11, h12, h13, h14, h15, h16, _, _, _, _, _, _, _, _, _, h26, h27, _, _, _, _, _⟩ := hb
  obtain rfl := fx49 h0
  obtain rfl := fx49 h1
  obtain rfl := fx49 h2
  obtain rfl := fx48 h3
  obtain rfl := fx49 h4
  obtain rfl := fx48 h5
  obtain rfl := fx49 h6
  obtain rfl := fx48 h7
  obtain rfl := fx48 h8
  obtain rfl := fx49 h9
  obtain rfl := fx48 h10
  obtain rfl := fx48 h11
  obtain rfl := fx49 h12
  obtain rfl := fx49 h13
  obtain rfl := fx49 h14
  obtain rfl := fx49 h15
  obtain rfl := fx48 h16
  obtain rfl := fx49 h26
  obtain rfl := fx49 h27
  have q := rr_8 y1 y2 y3 y4 y5 y6 y7 y8 y9 y12 y13 y14 y15
  rw [q] at hc
  have f := row_facts hc
  rw [q]
  exact ⟨⟨8, _, _, _, _, _, _, false, rfl, q, fw_8 y1 y2 y3 y4 y5 y6 y7 y8 y9 y12 y13 y14 y15 f.1 f.2.2.1 (f.2.2.2.2.2.1 (by omega) (by omega))⟩, rfl, rfl⟩
theorem sd_9 (x0 x1 x2 x3 x4 x5 x6 x7 x8 x9 x10 x11 x12 x13 x14 x15 y0 y1 y2 y3 y4 y5 y6 y7 y8 y9 y10 y11 y12 y13 y14 y15 : Bool) (hb : badR 9 false [x0, x1, x2, x3, x4, x5, x6, x7, x8, x9, x10, x11, x12, x13, x14, x15, y0, y1, y2, y3, y4, y5, y6, y7, y8, y9, y10, y11, y12, y13, y14, y15] = false) (hc : V_hauberkref02_Check (iRow 9 false [x0, x1, x2, x3, x4, x5, x6, x7, x8, x9, x10, x11, x12, x13, x14, x15, y0, y1, y2, y3, y4, y5, y6, y7, y8, y9, y10, y11, y12, y13, y14, y15]) = 0) : Enc2 (iRow 9 false [x0, x1, x2, x3, x4, x5, x6, x7, x8, x9, x10, x11, x12, x13, x14, x15, y0, y1, y2, y3, y4, y5, y6, y7, y8, y9, y10, y11, y12, y13, y14, y15]) [x0, x1, x2, x3, x4, x5, x6, x7, x8, x9, x10, x11, x12, x13, x14, x15] [y0, y1, y2, y3, y4, y5, y6, y7, y8, y9, y10, y11, y12, y13, y14, y15] ∧ (iRow 9 false [x0, x1, x2, x3, x4, x5, x6, x7, x8, x9, x10, x11, x12, x13, x14, x15, y0, y1, y2, y3, y4, y5, y6, y7, y8, y9, y10, y11, y12, y13, y14, y15]).1 = 9 ∧ (iRow 9 false [x0, x1, x2, x3, x4, x5, x6, x7, x8, x9, x10, x11, x12, x13, x14, x15, y0, y1, y2, y3, y4, y5, y6, y7, y8, y9, y10, y11, y12, y13, y14, y15]).2.2.2.2.2.2.2.1 = false := by
  have hb : (fx 49 x0 || (fx 49 x1 || (fx 49 x2 || (fx 48 x3 || (fx 49 x4 || (fx 48 x5 || (fx 49 x6 || (fx 48 x7 || (fx 48 x8 || (fx 49 x9 || (fx 49 x10 || (fx 48 x11 || (fx 49 x12 || (fx 49 x13 || (fx 49 x14 || (fx 49 x15 || (fx 48 y0 || (fx 48 y1 || (fx 48 y2 || (fx 48 y3 || (fx 100 y4 || (fx 100 y5 || (fx 100 y6 || (fx 100 y7 || (fx 48 y8 || (fx 48 y9 || (fx 48 y10 || (fx 48 y11 || (fx 109 y12 || (fx 109 y13 || (fx 109 y14 || (fx 109 y15 || false)))))))))))))))))))))))))))))))) = false := hb
  simp only [Bool.or_eq_false_iff] at hb
  obtain ⟨h0, h1, h2, h3, h4, h5, h6, h7, h8, h9, h10, h11, h12, h13, h14, h15, h16, h17, h18, h19, _, _, _, _, h24, h25, h26, h27, _, _, _, _, _⟩ := hb
  obtain rfl := fx49 h0
  obtain rfl := fx49 h1
  obtain rfl := fx49 h2
  obtain rfl := fx48 h3
  obtain rfl := fx49 h4
  obtain rfl := fx48 h5
  obtain rfl := fx49 h6
  obtain rfl := fx48 h7
  obtain rfl := fx48 h8
  obtain rfl := fx49 h9
  obtain rfl := fx49 h10
  obtain rfl := fx48 h11
  obtain rfl := fx49 h12
  obtain rfl := fx49 h13
  obtain rfl := fx49 h14
  obtain rfl := fx49 h15
  obtain rfl := fx48 h16
  obtain rfl := fx48 h17
  obtain rfl := fx48 h18
  obtain rfl := fx48 h19
  obtain rfl := fx48 h24
  obtain rfl := fx48 h25
  obtain rfl := fx48 h26
  obtain rfl := fx48 h27
  have q := rr_9 y4 y5 y6 y7 y12 y13 y14 y15
  rw [q] at hc
  have f := row_facts hc
  rw [q]
  exact ⟨⟨9, _, _, _, _, _, _, false, rfl, q, fw_9 y4 y5 y6 y7 y12 y13 y14 y15 f.1 f.2.2.1⟩, rfl, rfl⟩
theorem sd_10 (x0 x1 x2 x3 x4 x5 x6 x7 x8 x9 x10 x11 x12 x13 x14 x15 y0 y1 y2 y3 y4 y5 y6 y7 y8 y9 y10 y11 y12 y13 y14 y15 : Bool) (hb : badR 10 false [x0, x1, x2, x3, x4, x5, x6, x7, x8, x9, x10, x11, x12, x13, x14, x15, y0, y1, y2, y3, y4, y5, y6, y7, y8, y9, y10, y11, y12, y13, y14, y15] = false) (hc : V_hauberkref02_Check (iRow 10 false [x0, x1, x2, x3, x4, x5, x6, x7, x8, x9, x10, x11, x12, x13, x14, x15, y0, y1, y2, y3, y4, y5, y6, y7, y8, y9, y10, y11, y12, y13, y14, y15]) = 0) : Enc2 (iRow 10 false [x0, x1, x2, x3, x4, x5, x6, x7, x8, x9, x10, x11, x12, x13, x14, x15, y0, y1, y2, y3, y4, y5, y6, y7, y8, y9, y10, y11, y12, y13, y14, y15]) [x0, x1, x2, x3, x4, x5, x6, x7, x8, x9, x10, x11, x12, x13, x14, x15] [y0, y1, y2, y3, y4, y5, y6, y7, y8, y9, y10, y11, y12, y13, y14, y15] ∧ (iRow 10 false [x0, x1, x2, x3, x4, x5, x6, x7, x8, x9, x10, x11, x12, x13, x14, x15, y0, y1, y2, y3, y4, y5, y6, y7, y8, y9, y10, y11, y12, y13, y14, y15]).1 = 10 ∧ (iRow 10 false [x0, x1, x2, x3, x4, x5, x6, x7, x8, x9, x10, x11, x12, x13, x14, x15, y0, y1, y2, y3, y4, y5, y6, y7, y8, y9, y10, y11, y12, y13, y14, y15]).2.2.2.2.2.2.2.1 = false := by
  have hb : (fx 49 x0 || (fx 49 x1 || (fx 49 x2 || (fx 48 x3 || (fx 49 x4 || (fx 48 x5 || (fx 49 x6 || (fx 48 x7 || (fx 48 x8 || (fx 48 x9 || (fx 48 x10 || (fx 48 x11 || (fx 110 x12 || (fx 110 x13 || (fx 110 x14 || (fx 110 x15 || (fx 48 y0 || (fx 48 y1 || (fx 48 y2 || (fx 48 y3 || (fx 100 y4 || (fx 100 y5 || (fx 100 y6 || (fx 100 y7 || (fx 48 y8 || (fx 48 y9 || (fx 48 y10 || (fx 48 y11 || (fx 109 y12 || (fx 109 y13 || (fx 109 y14 || (fx 109 y15 || false)))))))))))))))))))))))))))))))) = false := hb
  simp only [Bool.or_eq_false_iff] at hb
  obtain ⟨h0, h1, h2, h3, h4, h5, h6, h7, h8, h9, h10, h11, _, _, _, _, h16, h17, h18, h19, _, _, _, _, h24, h25, h26, h27, _, _, _, _, _⟩ := hb
  obtain rfl := fx49 h0
  obtain rfl := fx49 h1
  obtain rfl := fx49 h2
  obtain rfl := fx48 h3
  obtain rfl := fx49 h4
  obtain rfl := fx48 h5
  obtain rfl := fx49 h6
  obtain rfl := fx48 h7
  obtain rfl := fx48 h8
  obtain rfl := fx48 h9
  obtain rfl := fx48 h10
  obtain rfl := fx48 h11
  obtain rfl := fx48 h16
  obtain rfl := fx48 h17
  obtain rfl := fx48 h18
  obtain rfl := fx48 h19
  obtain rfl := fx48 h24
  obtain rfl := fx48 h25
  obtain rfl := fx48 h26
  obtain rfl := fx48 h27
  have q := rr_10 x12 x13 x14 x15 y4 y5 y6 y7 y12 y13 y14 y15
  rw [q] at hc
  have f := row_facts hc
  rw [q]
  exact ⟨⟨10, _, _, _, _, _, _, false, rfl, q, fw_10 x12 x13 x14 x15 y4 y5 y6 y7 y12 y13 y14 y15 f.1 f.2.1 f.2.2.1⟩, rfl, rfl⟩
theorem sd_11 (x0 x1 x2 x3 x4 x5 x6 x7 x8 x9 x10 x11 x12 x13 x14 x15 y0 y1 y2 y3 y4 y5 y6 y7 y8 y9 y10 y11 y12 y13 y14 y15 : Bool) (hb : badR 11 false [x0, x1, x2, x3, x4, x5, x6, x7, x8, x9, x10, x11, x12, x13, x14, x15, y0, y1, y2, y3, y4, y5, y6, y7, y8, y9, y10, y11, y12, y13, y14, y15] = false) (hc : V_hauberkref02_Check (iRow 11 false [x0, x1, x2, x3, x4, x5, x6, x7, x8, x9, x10, x11, x12, x13, x14, x15, y0, y1, y2, y3, y4, y5, y6, y7, y8, y9, y10, y11, y12, y13, y14, y15]) = 0) : Enc2 (iRow 11 false [x0, x1, x2, x3, x4, x5, x6, x7, x8, x9, x10, x11, x12, x13, x14, x15, y0, y1, y2, y3, y4, y5, y6, y7, y8, y9, y10, y11, y12, y13, y14, y15]) [x0, x1, x2, x3, x4, x5, x6, x7, x8, x9, x10, x11, x12, x13, x14, x15] [y0, y1, y2, y3, y4, y5, y6, y7, y8, y9, y10, y11, y12, y13, y14, y15] ∧ (iRow 11 false [x0, x1, x2, x3, x4, x5, x6, x7, x8, x9, x10, x11, x12, x13, x14, x15, y0, y1, y2, y3, y4, y5, y6, y7, y8, y9, y10, y11, y12, y13, y14, y15]).1 = 11 ∧ (iRow 11 false [x0, x1, x2, x3, x4, x5, x6, x7, x8, x9, x10, x11, x12, x13, x14, x15, y0, y1, y2, y3, y4, y5, y6, y7, y8, y9, y10, y11, y12, y13, y14, y15]).2.2.2.2.2.2.2.1 = false := by
  have hb : (fx 49 x0 || (fx 49 x1 || (fx 49 x2 || (fx 48 x3 || (fx 49 x4 || (fx 48 x5 || (fx 49 x6 || (fx 48 x7 || (fx 48 x8 || (fx 48 x9 || (fx 49 x10 || (fx 48 x11 || (fx 110 x12 || (fx 110 x13 || (fx 110 x14 || (fx 110 x15 || (fx 48 y0 || (fx 48 y1 || (fx 48 y2 || (fx 48 y3 || (fx 100 y4 || (fx 100 y5 || (fx 100 y6 || (fx 100 y7 || (fx 48 y8 || (fx 48 y9 || (fx 48 y10 || (fx 48 y11 || (fx 109 y12 || (fx 109 y13 || (fx 109 y14 || (fx 109 y15 || false)))))))))))))))))))))))))))))))) = false := hb
  simp only [Bool.or_eq_false_iff] at hb
  obtain ⟨h0, h1, h2, h3, h4, h5, h6, h7, h8, h9, h10, h11, _, _, _, _, h16, h17, h18, h19, _, _, _, _, h24, h25, h26, h27, _, _, _, _, _⟩ := hb
  obtain rfl := fx49 h0
  obtain rfl := fx49 h1
  obtain rfl := fx49 h2
  obtain rfl := fx48 h3
  obtain rfl := fx49 h4
  obtain rfl := fx48 h5
  obtain rfl := fx49 h6
  obtain rfl := fx48 h7
  obtain rfl := fx48 h8
  obtain rfl := fx48 h9
  obtain rfl := fx49 h10
  obtain rfl := fx48 h11
  obtain rfl := fx48 h16
  obtain rfl := fx48 h17
  obtain rfl := fx48 h18
  obtain rfl := fx48 h19
  obtain rfl := fx48 h24
  obtain rfl := fx48 h25
  obtain rfl := fx48 h26
  obtain rfl := fx48 h27
  have q := rr_11 x12 x13 x14 x15 y4 y5 y6 y7 y12 y13 y14 y15
  rw [q] at hc
  have f := row_facts hc
  rw [q]
  exact ⟨⟨11, _, _, _, _, _, _, false, rfl, q, fw_11 x12 x13 x14 x15 y4 y5 y6 y7 y12 y13 y14 y15 f.1 f.2.1 f.2.2.1⟩, rfl, rfl⟩
theorem sd_12 (x0 x1 x2 x3 x4 x5 x6 x7 x8 x9 x10 x11 x12 x13 x14 x15 y0 y1 y2 y3 y4 y5 y6 y7 y8 y9 y10 y11 y12 y13 y14 y15 : Bool) (hb : badR 12 false [x0, x1, x2, x3, x4, x5, x6, x7, x8, x9, x10, x11, x12, x13, x14, x15, y0, y1, y2, y3, y4, y5, y6, y7, y8, y9, y10, y11, y12, y13, y14, y15] = false) (hc : V_hauberkref02_Check (iRow 12 false [x0, x1, x2, x3, x4, x5, x6, x7, x8, x9, x10, x11, x12, x13, x14, x15, y0, y1, y2, y3, y4, y5, y6, y7, y8, y9, y10, y11, y12, y13, y14, y15]) = 0) : Enc2 (iRow 12 false [x0, x1, x2, x3, x4, x5, x6, x7, x8, x9, x10, x11, x12, x13, x14, x15, y0, y1, y2, y3, y4, y5, y6, y7, y8, y9, y10, y11, y12, y13, y14, y15]) [x0, x1, x2, x3, x4, x5, x6, x7, x8, x9, x10, x11, x12, x13, x14, x15] [y0, y1, y2, y3, y4, y5, y6, y7, y8, y9, y10, y11, y12, y13, y14, y15] ∧ (iRow 12 false [x0, x1, x2, x3, x4, x5, x6, x7, x8, x9, x10, x11, x12, x13, x14, x15, y0, y1, y2, y3, y4, y5, y6, y7, y8, y9, y10, y11, y12, y13, y14, y15]).1 = 12 ∧ (iRow 12 false [x0, x1, x2, x3, x4, x5, x6, x7, x8, x9, x10, x11, x12, x13, x14, x15, y0, y1, y2, y3, y4, y5, y6, y7, y8, y9, y10, y11, y12, y13, y14, y15]).2.2.2.2.2.2.2.1 = false := by
  have hb : (fx 49 x0 || (fx 49 x1 || (fx 49 x2 || (fx 48 x3 || (fx 49 x4 || (fx 48 x5 || (fx 49 x6 || (fx 48 x7 || (fx 48 x8 || (fx 49 x9 || (fx 48 x10 || (fx 48 x11 || (fx 110 x12 || (fx 110 x13 || (fx 110 x14 || (fx 110 x15 || (fx 48 y0 || (fx 48 y1 || (fx 48 y2 || (fx 48 y3 || (fx 100 y4 || (fx 100 y5 || (fx 100 y6 || (fx 100 y7 || (fx 48 y8 || (fx 48 y9 || (fx 48 y10 || (fx 48 y11 || (fx 109 y12 || (fx 109 y13 || (fx 109 y14 || (fx 109 y15 || false)))))))))))))))))))))))))))))))) = false := hb
  simp only [Bool.or_eq_false_iff] at hb
  obtain ⟨h0, h1, h2, h3, h4, h5, h6, h7, h8, h9, h10, h11, _, _, _, _, h16, h17, h18, h19, _, _, _, _, h24, h25, h26, h27, _, _, _, _, _⟩ := hb
  obtain rfl := fx49 h0
  obtain rfl := fx49 h1
  obtain rfl := fx49 h2
  obtain rfl := fx48 h3
  obtain rfl := fx49 h4
  obtain rfl := fx48 h5
  obtain rfl := fx49 h6
  obtain rfl := fx48 h7
  obtain rfl := fx48 h8
  obtain rfl := fx49 h9
  obtain rfl := fx48 h10
  obtain rfl := fx48 h11
  obtain rfl := fx48 h16
  obtain rfl := fx48 h17
  obtain rfl := fx48 h18
  obtain rfl := fx48 h19
  obtain rfl := fx48 h24
  obtain rfl := fx48 h25
  obtain rfl := fx48 h26
  obtain rfl := fx48 h27
  have q := rr_12 x12 x13 x14 x15 y4 y5 y6 y7 y12 y13 y14 y15
  rw [q] at hc
  have f := row_facts hc
  rw [q]
  exact ⟨⟨12, _, _, _, _, _, _, false, rfl, q, fw_12 x12 x13 x14 x15 y4 y5 y6 y7 y12 y13 y14 y15 f.1 f.2.1 f.2.2.1⟩, rfl, rfl⟩
theorem sd_13 (x0 x1 x2 x3 x4 x5 x6 x7 x8 x9 x10 x11 x12 x13 x14 x15 y0 y1 y2 y3 y4 y5 y6 y7 y8 y9 y10 y11 y12 y13 y14 y15 : Bool) (hb : badR 13 false [x0, x1, x2, x3, x4, x5, x6, x7, x8, x9, x10, x11, x12, x13, x14, x15, y0, y1, y2, y3, y4, y5, y6, y7, y8, y9, y10, y11, y12, y13, y14, y15] = false) (hc : V_hauberkref02_Check (iRow 13 false [x0, x1, x2, x3, x4, x5, x6, x7, x8, x9, x10, x11, x12, x13, x14, x15, y0, y1, y2, y3, y4, y5, y6, y7, y8, y9, y10, y11, y12, y13, y14, y15]) = 0) : Enc2 (iRow 13 false [x0, x1, x2, x3, x4, x5, x6, x7, x8, x9, x10, x11, x12, x13, x14, x15, y0, y1, y2, y3, y4, y5, y6, y7, y8, y9, y10, y11, y12, y13, y14, y15]) [x0, x1, x2, x3, x4, x5, x6, x7, x8, x9, x10, x11, x12, x13, x14, x15] [y0, y1, y2, y3, y4, y5, y6, y7, y8, y9, y10, y11, y12, y13, y14, y15] ∧ (iRow 13 false [x0, x1, x2, x3, x4, x5, x6, x7, x8, x9, x10, x11, x12, x13, x14, x15, y0, y1, y2, y3, y4, y5, y6, y7, y8, y9, y10, y11, y12, y13, y14, y15]).1 = 13 ∧ (iRow 13 false [x0, x1, x2, x3, x4, x5, x6, x7, x8, x9, x10, x11, x12, x13, x14, x15, y0, y1, y2, y3, y4, y5, y6, y7, y8, y9, y10, y11, y12, y13, y14, y15]).2.2.2.2.2.2.2.1 = false := by
  have hb : (fx 49 x0 || (fx 49 x1 || (fx 49 x2 || (fx 48 x3 || (fx 49 x4 || (fx 48 x5 || (fx 49 x6 || (fx 48 x7 || (fx 49 x8 || (fx 48 x9 || (fx 48 x10 || (fx 48 x11 || (fx 110 x12 || (fx 110 x13 || (fx 110 x14 || (fx 110 x15 || (fx 48 y0 || (fx 48 y1 || (fx 48 y2 || (fx 48 y3 || (fx 100 y4 || (fx 100 y5 || (fx 100 y6 || (fx 100 y7 || (fx 48 y8 || (fx 48 y9 || (fx 48 y10 || (fx 48 y11 || (fx 109 y12 || (fx 109 y13 || (fx 109 y14 || (fx 109 y15 || false)))))))))))))))))))))))))))))))) = false := hb
  simp only [Bool.or_eq_false_iff] at hb
  obtain ⟨h0, h1, h2, h3, h4, h5, h6, h7, h8, h9, h10, h11, _, _, _, _, h16, h17, h18, h19, _, _, _, _, h24, h25, h26, h27, _, _, _, _, _⟩ := hb
  obtain rfl := fx49 h0
  obtain rfl := fx49 h1
  obtain rfl := fx49 h2
  obtain rfl := fx48 h3
  obtain rfl := fx49 h4
  obtain rfl := fx48 h5
  obtain rfl := fx49 h6
  obtain rfl := fx48 h7
  obtain rfl := fx49 h8
  obtain rfl := fx48 h9
  obtain rfl := fx48 h10
  obtain rfl := fx48 h11
  obtain rfl := fx48 h16
  obtain rfl := fx48 h17
  obtain rfl := fx48 h18
  obtain rfl := fx48 h19
  obtain rfl := fx48 h24
  obtain rfl := fx48 h25
  obtain rfl := fx48 h26
  obtain rfl := fx48 h27
  have q := rr_13 x12 x13 x14 x15 y4 y5 y6 y7 y12 y13 y14 y15
  rw [q] at hc
  have f := row_facts hc
  rw [q]
  exact ⟨⟨13, _, _, _, _, _, _, false, rfl, q, fw_13 x12 x13 x14 x15 y4 y5 y6 y7 y12 y13 y14 y15 f.1 f.2.1 f.2.2.1⟩, rfl, rfl⟩
theorem sd_14 (x0 x1 x2 x3 x4 x5 x6 x7 x8 x9 x10 x11 x12 x13 x14 x15 y0 y1 y2 y3 y4 y5 y6 y7 y8 y9 y10 y11 y12 y13 y14 y15 : Bool) (hb : badR 14 false [x0, x1, x2, x3, x4, x5, x6, x7, x8, x9, x10, x11, x12, x13, x14, x15, y0, y1, y2, y3, y4, y5, y6, y7, y8, y9, y10, y11, y12, y13, y14, y15] = false) (hc : V_hauberkref02_Check (iRow 14 false [x0, x1, x2, x3, x4, x5, x6, x7, x8, x9, x10, x11, x12, x13, x14, x15, y0, y1, y2, y3, y4, y5, y6, y7, y8, y9, y10, y11, y12, y13, y14, y15]) = 0) : Enc2 (iRow 14 false [x0, x1, x2, x3, x4, x5, x6, x7, x8, x9, x10, x11, x12, x13, x14, x15, y0, y1, y2, y3, y4, y5, y6, y7, y8, y9, y10, y11, y12, y13, y14, y15]) [x0, x1, x2, x3, x4, x5, x6, x7, x8, x9, x10, x11, x12, x13, x14, x15] [y0, y1, y2, y3, y4, y5, y6, y7, y8, y9, y10, y11, y12, y13, y14, y15] ∧ (iRow 14 false [x0, x1, x2, x3, x4, x5, x6, x7, x8, x9, x10, x11, x12, x13, x14, x15, y0, y1, y2, y3, y4, y5, y6, y7, y8, y9, y10, y11, y12, y13, y14, y15]).1 = 14 ∧ (iRow 14 false [x0, x1, x2, x3, x4, x5, x6, x7, x8, x9, x10, x11, x12, x13, x14, x15, y0, y1, y2, y3, y4, y5, y6, y7, y8, y9, y10, y11, y12, y13, y14, y15]).2.2.2.2.2.2.2.1 = false := by
  have hb : (fx 49 x0 || (fx 49 x1 || (fx 49 x2 || (fx 48 x3 || (fx 49 x4 || (fx 48 x5 || (fx 49 x6 || (fx 49 x7 || (fx 48 x8 || (fx 48 x9 || (fx 48 x10 || (fx 48 x11 || (fx 110 x12 || (fx 110 x13 || (fx 110 x14 || (fx 110 x15 || (fx 48 y0 || (fx 48 y1 || (fx 48 y2 || (fx 48 y3 || (fx 100 y4 || (fx 100 y5 || (fx 100 y6 || (fx 100 y7 || (fx 48 y8 || (fx 48 y9 || (fx 48 y10 || (fx 48 y11 || (fx 109 y12 || (fx 109 y13 || (fx 109 y14 || (fx 109 y15 || false)))))))))))))))))))))))))))))))) = false := hb
  simp only [Bool.or_eq_false_iff] at hb
  obtain ⟨h0, h1, h2, h3, h4, h5, h6, h7, h8, h9, h10, h11, _, _, _, _, h16, h17, h18, h19, _, _, _, _, h24, h25, h26, h27, _, _, _, _, _⟩ := hb
  obtain rfl := fx49 h0
  obtain rfl := fx49 h1
  obtain rfl := fx49 h2
  obtain rfl := fx48 h3
  obtain rfl := fx49 h4
  obtain rfl := fx48 h5
  obtain rfl := fx49 h6
  obtain rfl := fx49 h7
  obtain rfl := fx48 h8
  obtain rfl := fx48 h9
  obtain rfl := fx48 h10
  obtain rfl := fx48 h11
  obtain rfl := fx48 h16
  obtain rfl := fx48 h17
  obtain rfl := fx48 h18
  obtain rfl := fx48 h19
  obtain rfl := fx48 h24
  obtain rfl := fx48 h25
  obtain rfl := fx48 h26
  obtain rfl := fx48 h27
  have q := rr_14 x12 x13 x14 x15 y4 y5 y6 y7 y12 y13 y14 y15
  rw [q] at hc
  have f := row_facts hc
  rw [q]
  exact ⟨⟨14, _, _, _, _, _, _, false, rfl, q, fw_14 x12 x13 x14 x15 y4 y5 y6 y7 y12 y13 y14 y15 f.1 f.2.1 f.2.2.1⟩, rfl, rfl⟩
theorem sd_15 (x0 x1 x2 x3 x4 x5 x6 x7 x8 x9 x10 x11 x12 x13 x14 x15 y0 y1 y2 y3 y4 y5 y6 y7 y8 y9 y10 y11 y12 y13 y14 y15 : Bool) (hb : badR 15 false [x0, x1, x2, x3, x4, x5, x6, x7, x8, x9, x10, x11, x12, x13, x14, x15, y0, y1, y2, y3, y4, y5, y6, y7, y8, y9, y10, y11, y12, y13, y14, y15] = false) (hc : V_hauberkref02_Check (iRow 15 false [x0, x1, x2, x3, x4, x5, x6, x7, x8, x9, x10, x11, x12, x13, x14, x15, y0, y1, y2, y3, y4, y5, y6, y7, y8, y9, y10, y11, y12, y13, y14, y15]) = 0) : Enc2 (iRow 15 false [x0, x1, x2, x3, x4, x5, x6, x7, x8, x9, x10, x11, x12, x13, x14, x15, y0, y1, y2, y3, y4, y5, y6, y7, y8, y9, y10, y11, y12, y13, y14, y15]) [x0, x1, x2, x3, x4, x5, x6, x7, x8, x9, x10, x11, x12, x13, x14, x15] [y0, y1, y2, y3, y4, y5, y6, y7, y8, y9, y10, y11, y12, y13, y14, y15] ∧ (iRow 15 false [x0, x1, x2, x3, x4, x5, x6, x7, x8, x9, x10, x11, x12, x13, x14, x15, y0, y1, y2, y3, y4, y5, y6, y7, y8, y9, y10, y11, y12, y13, y14, y15]).1 = 15 ∧ (iRow 15 false [x0, x1, x2, x3, x4, x5, x6, x7, x8, x9, x10, x11, x12, x13, x14, x15, y0, y1, y2, y3, y4, y5, y6, y7, y8, y9, y10, y11, y12, y13, y14, y15]).2.2.2.2.2.2.2.1 = false := by
  have hb : (fx 49 x0 || (fx 49 x1 || (fx 49 x2 || (fx 48 x3 || (fx 49 x4 || (fx 48 x5 || (fx 49 x6 || (fx 49 x7 || (fx 49 x8 || (fx 48 x9 || (fx 49 x10 || (fx 48 x11 || (fx 110 x12 || (fx 110 x13 || (fx 110 x14 || (fx 110 x15 || (fx 48 y0 || (fx 48 y1 || (fx 48 y2 || (fx 48 y3 || (fx 100 y4 || (fx 100 y5 || (fx 100 y6 || (fx 100 y7 || (fx 48 y8 || (fx 48 y9 || (fx 48 y10 || (fx 48 y11 || (fx 109 y12 || (fx 109 y13 || (fx 109 y14 || (fx 109 y15 || false)))))))))))))))))))))))))))))))) = false := hb
  simp only [Bool.or_eq_false_iff] at hb
  obtain ⟨h0, h1, h2, h3, h4, h5, h6, h7, h8, h9, h10, h11, _, _, _, _, h16, h17, h18, h19, _, _, _, _, h24, h25, h26, h27, _, _, _, _, _⟩ := hb
  obtain rfl := fx49 h0
  obtain rfl := fx49 h1
  obtain rfl := fx49 h2
  obtain rfl := fx48 h3
  obtain rfl := fx49 h4
  obtain rfl := fx48 h5
  obtain rfl := fx49 h6
  obtain rfl := fx49 h7
  obtain rfl := fx49 h8
  obtain rfl := fx48 h9
  obtain rfl := fx49 h10
  obtain rfl := fx48 h11
  obtain rfl := fx48 h16
  obtain rfl := fx48 h17
  obtain rfl := fx48 h18
  obtain rfl := fx48 h19
  obtain rfl := fx48 h24
  obtain rfl := fx48 h25
  obtain rfl := fx48 h26
  obtain rfl := fx48 h27
  have q := rr_15 x12 x13 x14 x15 y4 y5 y6 y7 y12 y13 y14 y15
  rw [q] at hc
  have f := row_facts hc
  rw [q]
  exact ⟨⟨15, _, _, _, _, _, _, false, rfl, q, fw_15 x12 x13 x14 x15 y4 y5 y6 y7 y12 y13 y14 y15 f.1 f.2.1 f.2.2.1⟩, rfl, rfl⟩
theorem sd_16 (x0 x1 x2 x3 x4 x5 x6 x7 x8 x9 x10 x11 x12 x13 x14 x15 y0 y1 y2 y3 y4 y5 y6 y7 y8 y9 y10 y11 y12 y13 y14 y15 : Bool) (hb : badR 16 false [x0, x1, x2, x3, x4, x5, x6, x7, x8, x9, x10, x11, x12, x13, x14, x15, y0, y1, y2, y3, y4, y5, y6, y7, y8, y9, y10, y11, y12, y13, y14, y15] = false) (hc : V_hauberkref02_Check (iRow 16 false [x0, x1, x2, x3, x4, x5, x6, x7, x8, x9, x10, x11, x12, x13, x14, x15, y0, y1, y2, y3, y4, y5, y6, y7, y8, y9, y10, y11, y12, y13, y14, y15]) = 0) : Enc2 (iRow 16 false [x0, x1, x2, x3, x4, x5, x6, x7, x8, x9, x10, x11, x12, x13, x14, x15, y0, y1, y2, y3, y4, y5, y6, y7, y8, y9, y10, y11, y12, y13, y14, y15]) [x0, x1, x2, x3, x4, x5, x6, x7, x8, x9, x10, x11, x12, x13, x14, x15] [y0, y1, y2, y3, y4, y5, y6, y7, y8, y9, y10, y11, y12, y13, y14, y15] ∧ (iRow 16 false [x0, x1, x2, x3, x4, x5, x6, x7, x8, x9, x10, x11, x12, x13, x14, x15, y0, y1, y2, y3, y4, y5, y6, y7, y8, y9, y10, y11, y12, y13, y14, y15]).1 = 16 ∧ (iRow 16 false [x0, x1, x2, x3, x4, x5, x6, x7, x8, x9, x10, x11, x12, x13, x14, x15, y0, y1, y2, y3, y4, y5, y6, y7, y8, y9, y10, y11, y12, y13, y14, y15]).2.2.2.2.2.2.2.1 = false := by
  have hb : (fx 49 x0 || (fx 49 x1 || (fx 49 x2 || (fx 49 x3 || (fx 49 x4 || (fx 48 x5 || (fx 49 x6 || (fx 49 x7 || (fx 48 x8 || (fx 48 x9 || (fx 48 x10 || (fx 48 x11 || (fx 110 x12 || (fx 110 x13 || (fx 110 x14 || (fx 110 x15 || (fx 49 y0 || (fx 49 y1 || (fx 49 y2 || (fx 49 y3 || (fx 100 y4 || (fx 100 y5 || (fx 100 y6 || (fx 100 y7 || (fx 48 y8 || (fx 48 y9 || (fx 48 y10 || (fx 48 y11 || (fx 109 y12 || (fx 109 y13 || (fx 109 y14 || (fx 109 y15 || false)))))))))))))))))))))))))))))))) = false := hb
  simp only [Bool.or_eq_false_iff] at hb
  obtain ⟨h0, h1, h2, h3, h4, h5, h6, h7, h8, h9, h10, h11, _, _, _, _, h16, h17, h18, h19, _, _, _, _, h24, h25, h26, h27, _, _, _, _, _⟩ := hb
  obtain rfl := fx49 h0
  obtain rfl := fx49 h1
  obtain rfl := fx49 h2
  obtain rfl := fx49 h3
  obtain rfl := fx49 h4
  obtain rfl := fx48 h5
  obtain rfl := fx49 h6
  obtain rfl := fx49 h7
  obtain rfl := fx48 h8
  obtain rfl := fx48 h9
  obtain rfl := fx48 h10
  obtain rfl := fx48 h11
  obtain rfl := fx49 h16
  obtain rfl := fx49 h17
  obtain rfl := fx49 h18
  obtain rfl := fx49 h19
  obtain rfl := fx48 h24
  obtain rfl := fx48 h25
  obtain rfl := fx48 h26
  obtain rfl := fx48 h27
  have q := rr_16 x12 x13 x14 x15 y4 y5 y6 y7 y12 y13 y14 y15
  rw [q] at hc
  have f := row_facts hc
  rw [q]
  exact ⟨⟨16, _, _, _, _, _, _, false, rfl, q, fw_16 x12 x13 x14 x15 y4 y5 y6 y7 y12 y13 y14 y15 f.1 f.2.1 f.2.2.1⟩, rfl, rfl⟩
theorem sd_17 (x0 x1 x2 x3 x4 x5 x6 x7 x8 x9 x10 x11 x12 x13 x14 x15 y0 y1 y2 y3 y4 y5 y6 y7 y8 y9 y10 y11 y12 y13 y14 y15 : Bool) (hb : badR 17 false [x0, x1, x2, x3, x4, x5, x6, x7, x8, x9, x10, x11, x12, x13, x14, x15, y0, y1, y2, y3, y4, y5, y6, y7, y8, y9, y10, y11, y12, y13, y14, y15] = false) (hc : V_hauberkref02_Check (iRow 17 false [x0, x1, x2, x3, x4, x5, x6, x7, x8, x9, x10, x11, x12, x13, x14, x15, y0, y1, y2, y3, y4, y5, y6, y7, y8, y9, y10, y11, y12, y13, y14, y15]) = 0) : Enc2 (iRow 17 false [x0, x1, x2, x3, x4, x5, x6, x7, x8, x9, x10, x11, x12, x13, x14, x15, y0, y1, y2, y3, y4, y5, y6, y7, y8, y9, y10, y11, y12, y13, y14, y15]) [x0, x1, x2, x3, x4, x5, x6, x7, x8, x9, x10, x11, x12, x13, x14, x15] [y0, y1, y2, y3, y4, y5, y6, y7, y8, y9, y10, y11, y12, y13, y14, y15] ∧ (iRow 17 false [x0, x1, x2, x3, x4, x5, x6, x7, x8, x9, x10, x11, x12, x13, x14, x15, y0, y1, y2, y3, y4, y5, y6, y7, y8, y9, y10, y11, y12, y13, y14, y15]).1 = 17 ∧ (iRow 17 false [x0, x1, x2, x3, x4, x5, x6, x7, x8, x9, x10, x11, x12, x13, x14, x15, y0, y1, y2, y3, y4, y5, y6, y7, y8, y9, y10, y11, y12, y13, y14, y15]).2.2.2.2.2.2.2.1 = false := by
  have hb : (fx 49 x0 || (fx 49 x1 || (fx 49 x2 || (fx 49 x3 || (fx 49 x4 || (fx 48 x5 || (fx 49 x6 || (fx 49 x7 || (fx 49 x8 || (fx 48 x9 || (fx 49 x10 || (fx 48 x11 || (fx 110 x12 || (fx 110 x13 || (fx 110 x14 || (fx 110 x15 || (fx 100 y0 || (fx 100 y1 || (fx 100 y2 || (fx 100 y3 || (fx 97 y4 || (fx 97 y5 || (fx 97 y6 || (fx 97 y7 || (fx 48 y8 || (fx 48 y9 || (fx 48 y10 || (fx 48 y11 || (fx 109 y12 || (fx 109 y13 || (fx 109 y14 || (fx 109 y15 || false)))))))))))))))))))))))))))))))) = false := hb
  simp only [Bool.or_eq_false_iff] at hb
  obtain ⟨h0, h1, h2, h3, h4, h5, h6, h7, h8, h9, h10, h11, _, _, _, _, _, _, _, _, _, _, _, _, h24, h25, h26, h27, _, _, _, _, _⟩ := hb
  obtain rfl := fx49 h0
  obtain rfl := fx49 h1
  obtain rfl := fx49 h2
  obtain rfl := fx49 h3
  obtain rfl := fx49 h4
  obtain rfl := fx48 h5
  obtain rfl := fx49 h6
  obtain rfl := fx49 h7
  obtain rfl := fx49 h8
  obtain rfl := fx48 h9
  obtain rfl := fx49 h10
  obtain rfl := fx48 h11
  obtain rfl := fx48 h24
  obtain rfl := fx48 h25
  obtain rfl := fx48 h26
  obtain rfl := fx48 h27
  have q := rr_17 x12 x13 x14 x15 y0 y1 y2 y3 y4 y5 y6 y7 y12 y13 y14 y15
  rw [q] at hc
  have f := row_facts hc
  rw [q]
  exact ⟨⟨17, _, _, _, _, _, _, false, rfl, q, fw_17 x12 x13 x14 x15 y0 y1 y2 y3 y4 y5 y6 y7 y12 y13 y14 y15 f.1 f.2.1 f.2.2.1 (f.2.2.2.1 rfl).1 (f.2.2.2.1 rfl).2⟩, rfl, rfl⟩
theorem sd_18 (x0 x1 x2 x3 x4 x5 x6 x7 x8 x9 x10 x11 x12 x13 x14 x15 y0 y1 y2 y3 y4 y5 y6 y7 y8 y9 y10 y11 y12 y13 y14 y15 : Bool) (hb : badR 18 false [x0, x1, x2, x3, x4, x5, x6, x7, x8, x9, x10, x11, x12, x13, x14, x15, y0, y1, y2, y3, y4, y5, y6, y7, y8, y9, y10, y11, y12, y13, y14, y15] = false) (hc : V_hauberkref02_Check (iRow 18 false [x0, x1, x2, x3, x4, x5, x6, x7, x8, x9, x10, x11, x12, x13, x14, x15, y0, y1, y2, y3, y4, y5, y6, y7, y8, y9, y10, y11, y12, y13, y14, y15]) = 0) : Enc2 (iRow 18 false [x0, x1, x2, x3, x4, x5, x6, x7, x8, x9, x10, x11, x12, x13, x14, x15, y0, y1, y2, y3, y4, y5, y6, y7, y8, y9, y10, y11, y12, y13, y14, y15]) [x0, x1, x2, x3, x4, x5, x6, x7, x8, x9, x10, x11, x12, x13, x14, x15] [y0, y1, y2, y3, y4, y5, y6, y7, y8, y9, y10, y11, y12, y13, y14, y15] ∧ (iRow 18 false [x0, x1, x2, x3, x4, x5, x6, x7, x8, x9, x10, x11, x12, x13, x14, x15, y0, y1, y2, y3, y4, y5, y6, y7, y8, y9, y10, y11, y12, y13, y14, y15]).1 = 18 ∧ (iRow 18 false [x0, x1, x2, x3, x4, x5, x6, x7, x8, x9, x10, x11, x12, x13, x14, x15, y0, y1, y2, y3, y4, y5, y6, y7, y8, y9, y10, y11, y12, y13, y14, y15]).2.2.2.2.2.2.2.1 = false := by
  have hb : (fx 49 x0 || (fx 49 x1 || (fx 49 x2 || (fx 49 x3 || (fx 48 x4 || (fx 48 x5 || (fx 49 x6 || (fx 49 x7 || (fx 48 x8 || (fx 49 x9 || (fx 49 x10 || (fx 48 x11 || (fx 110 x12 || (fx 110 x13 || (fx 110 x14 || (fx 110 x15 || (fx 48 y0 || (fx 69 y1 || (fx 68 y2 || (fx 67 y3 || (fx 100 y4 || (fx 100 y5 || (fx 100 y6 || (fx 100 y7 || (fx 66 y8 || (fx 65 y9 || (fx 48 y10 || (fx 119 y11 || (fx 119 y12 || (fx 119 y13 || (fx 119 y14 || (fx 119 y15 || false)))))))))))))))))))))))))))))))) = false := hb
  simp only [Bool.or_eq_false_iff] at hb
  obtain ⟨h0, h1, h2, h3, h4, h5, h6, h7, h8, h9, h10, h11, _, _, _, _, h16, _, _, _, _, _, _, _, _, _, h26, _, _, _, _, _, _⟩ := hb
  obtain rfl := fx49 h0
  obtain rfl := fx49 h1
  obtain rfl := fx49 h2
  obtain rfl := fx49 h3
  obtain rfl := fx48 h4
  obtain rfl := fx48 h5
  obtain rfl := fx49 h6
  obtain rfl := fx49 h7
  obtain rfl := fx48 h8
  obtain rfl := fx49 h9
  obtain rfl := fx49 h10
  obtain rfl := fx48 h11
  obtain rfl := fx48 h16
  obtain rfl := fx48 h26
  have q := rr_18 x12 x13 x14 x15 y1 y2 y3 y4 y5 y6 y7 y8 y9 y11 y12 y13 y14 y15
  rw [q] at hc
  have f := row_facts hc
  rw [q]
  exact ⟨⟨18, _, _, _, _, _, _, false, rfl, q, fw_18 x12 x13 x14 x15 y1 y2 y3 y4 y5 y6 y7 y8 y9 y11 y12 y13 y14 y15 f.1 f.2.1 (f.2.2.2.2.1 rfl)⟩, rfl, rfl⟩
theorem sd_19 (x0 x1 x2 x3 x4 x5 x6 x7 x8 x9 x10 x11 x12 x13 x14 x15 : Bool) (hb : badR 19 false [x0, x1, x2, x3, x4, x5, x6, x7, x8, x9, x10, x11, x12, x13, x14, x15] = false) (hc : V_hauberkref02_Check (iRow 19 false [x0, x1, x2, x3, x4, x5, x6, x7, x8, x9, x10, x11, x12, x13, x14, x15]) = 0) : Enc1 (iRow 19 false [x0, x1, x2, x3, x4, x5, x6, x7, x8, x9, x10, x11, x12, x13, x14, x15]) [x0, x1, x2, x3, x4, x5, x6, x7, x8, x9, x10, x11, x12, x13, x14, x15] ∧ (iRow 19 false [x0, x1, x2, x3, x4, x5, x6, x7, x8, x9, x10, x11, x12, x13, x14, x15]).1 = 19 ∧ (iRow 19 false [x0, x1, x2, x3, x4, x5, x6, x7, x8, x9, x10, x11, x12, x13, x14, x15]).2.2.2.2.2.2.2.1 = false := by
  have hb : (fx 48 x0 || (fx 49 x1 || (fx 49 x2 || (fx 48 x3 || (fx 49 x4 || (fx 48 x5 || (fx 48 x6 || (fx 48 x7 || (fx 48 x8 || (fx 48 x9 || (fx 110 x10 || (fx 110 x11 || (fx 110 x12 || (fx 100 x13 || (fx 100 x14 || (fx 100 x15 || false)))))))))))))))) = false := hb
  simp only [Bool.or_eq_false_iff] at hb
  obtain ⟨h0, h1, h2, h3, h4, h5, h6, h7, h8, h9, _, _, _, _, _, _, _⟩ := hb
  obtain rfl := fx48 h0
  obtain rfl := fx49 h1
  obtain rfl := fx49 h2
  obtain rfl := fx48 h3
  obtain rfl := fx49 h4
  obtain rfl := fx48 h5
  obtain rfl := fx48 h6
  obtain rfl := fx48 h7
  obtain rfl := fx48 h8
  obtain rfl := fx48 h9
  have q := rr_19 x10 x11 x12 x13 x14 x15
  rw [q] at hc
  have f := row_facts hc
  rw [q]
  exact ⟨⟨19, _, _, _, _, _, _, false, rfl, q, fw_19 x10 x11 x12 x13 x14 x15 ⟩, rfl, rfl⟩
theorem sd_20 (x0 x1 x2 x3 x4 x5 x6 x7 x8 x9 x10 x11 x12 x13 x14 x15 : Bool) (hb : badR 20 false [x0, x1, x2, x3, x4, x5, x6, x7, x8, x9, x10, x11, x12, x13, x14, x15] = false) (hc : V_hauberkref02_Check (iRow 20 false [x0, x1, x2, x3, x4, x5, x6, x7, x8, x9, x10, x11, x12, x13, x14, x15]) = 0) : Enc1 (iRow 20 false [x0, x1, x2, x3, x4, x5, x6, x7, x8, x9, x10, x11, x12, x13, x14, x15]) [x0, x1, x2, x3, x4, x5, x6, x7, x8, x9, x10, x11, x12, x13, x14, x15] ∧ (iRow 20 false [x0, x1, x2, x3, x4, x5, x6, x7, x8, x9, x10, x11, x12, x13, x14, x15]).1 = 20 ∧ (iRow 20 false [x0, x1, x2, x3, x4, x5, x6, x7, x8, x9, x10, x11, x12, x13, x14, x15]).2.2.2.2.2.2.2.1 = false := by
  have hb : (fx 48 x0 || (fx 49 x1 || (fx 49 x2 || (fx 48 x3 || (fx 48 x4 || (fx 48 x5 || (fx 48 x6 || (fx 48 x7 || (fx 48 x8 || (fx 48 x9 || (fx 110 x10 || (fx 110 x11 || (fx 110 x12 || (fx 100 x13 || (fx 100 x14 || (fx 100 x15 || false)))))))))))))))) = false := hb
  simp only [Bool.or_eq_false_iff] at hb
  obtain ⟨h0, h1, h2, h3, h4, h5, h6, h7, h8, h9, _, _, _, _, _, _, _⟩ := hb
  obtain rfl := fx48 h0
  obtain rfl := fx49 h1
  obtain rfl := fx49 h2
  obtain rfl := fx48 h3
  obtain rfl := fx48 h4
  obtain rfl := fx48 h5
  obtain rfl := fx48 h6
  obtain rfl := fx48 h7
  obtain rfl := fx48 h8
  obtain rfl := fx48 h9
  have q := rr_20 x10 x11 x12 x13 x14 x15
  rw [q] at hc
  have f := row_facts hc
  rw [q]
  exact ⟨⟨20, _, _, _, _, _, _, false, rfl, q, fw_20 x10 x11 x12 x13 x14 x15 ⟩, rfl, rfl⟩
theorem sd_21 (x0 x1 x2 x3 x4 x5 x6 x7 x8 x9 x10 x11 x12 x13 x14 x15 : Bool) (hb : badR 21 false [x0, x1, x2, x3, x4, x5, x6, x7, x8, x9, x10, x11, x12, x13, x14, x15] = false) (hc : V_hauberkref02_Check (iRow 21 false [x0, x1, x2, x3, x4, x5, x6, x7, x8, x9, x10, x11, x12, x13, x14, x15]) = 0) : Enc1 (iRow 21 false [x0, x1, x2, x3, x4, x5, x6, x7, x8, x9, x10, x11, x12, x13, x14, x15]) [x0, x1, x2, x3, x4, x5, x6, x7, x8, x9, x10, x11, x12, x13, x14, x15] ∧ (iRow 21 false [x0, x1, x2, x3, x4, x5, x6, x7, x8, x9, x10, x11, x12, x13, x14, x15]).1 = 21 ∧ (iRow 21 false [x0, x1, x2, x3, x4, x5, x6, x7, x8, x9, x10, x11, x12, x13, x14, x15]).2.2.2.2.2.2.2.1 = false := by
  have hb : (fx 48 x0 || (fx 49 x1 || (fx 49 x2 || (fx 49 x3 || (fx 49 x4 || (fx 48 x5 || (fx 48 x6 || (fx 48 x7 || (fx 48 x8 || (fx 48 x9 || (fx 110 x10 || (fx 110 x11 || (fx 110 x12 || (fx 100 x13 || (fx 100 x14 || (fx 100 x15 || false)))))))))))))))) = false := hb
  simp only [Bool.or_eq_false_iff] at hb
  obtain ⟨h0, h1, h2, h3, h4, h5, h6, h7, h8, h9, _, _, _, _, _, _, _⟩ := hb
  obtain rfl := fx48 h0
  obtain rfl := fx49 h1
  obtain rfl := fx49 h2
  obtain rfl := fx49 h3
  obtain rfl := fx49 h4
  obtain rfl := fx48 h5
  obtain rfl := fx48 h6
  obtain rfl := fx48 h7
  obtain rfl := fx48 h8
  obtain rfl := fx48 h9
  have q := rr_21 x10 x11 x12 x13 x14 x15
  rw [q] at hc
  have f := row_facts hc
  rw [q]
  exact ⟨⟨21, _, _, _, _, _, _, false, rfl, q, fw_21 x10 x11 x12 x13 x14 x15 ⟩, rfl, rfl⟩
theorem sd_22 (x0 x1 x2 x3 x4 x5 x6 x7 x8 x9 x10 x11 x12 x13 x14 x15 : Bool) (hb : badR 22 false [x0, x1, x2, x3, x4, x5, x6, x7, x8, x9, x10, x11, x12, x13, x14, x15] = false) (hc : V_hauberkref02_Check (iRow 22 false [x0, x1, x2, x3, x4, x5, x6, x7, x8, x9, x10, x11, x12, x13, x14, x15]) = 0) : Enc1 (iRow 22 false [x0, x1, x2, x3, x4, x5, x6, x7, x8, x9, x10, x11, x12, x13, x14, x15]) [x0, x1, x2, x3, x4, x5, x6, x7, x8, x9, x10, x11, x12, x13, x14, x15] ∧ (iRow 22 false [x0, x1, x2, x3, x4, x5, x6, x7, x8, x9, x10, x11, x12, x13, x14, x15]).1 = 22 ∧ (iRow 22 false [x0, x1, x2, x3, x4, x5, x6, x7, x8, x9, x10, x11, x12, x13, x14, x15]).2.2.2.2.2.2.2.1 = false := by
  have hb : (fx 48 x0 || (fx 49 x1 || (fx 49 x2 || (fx 49 x3 || (fx 48 x4 || (fx 48 x5 || (fx 48 x6 || (fx 48 x7 || (fx 48 x8 || (fx 48 x9 || (fx 110 x10 || (fx 110 x11 || (fx 110 x12 || (fx 100 x13 || (fx 100 x14 || (fx 100 x15 || false)))))))))))))))) = false := hb
  simp only [Bool.or_eq_false_iff] at hb
  obtain ⟨h0, h1, h2, h3, h4, h5, h6, h7, h8, h9, _, _, _, _, _, _, _⟩ := hb
  obtain rfl := fx48 h0
  obtain rfl := fx49 h1
  obtain rfl := fx49 h2
  obtain rfl := fx49 h3
  obtain rfl := fx48 h4
  obtain rfl := fx48 h5
  obtain rfl := fx48 h6
  obtain rfl := fx48 h7
  obtain rfl := fx48 h8
  obtain rfl := fx48 h9
  have q := rr_22 x10 x11 x12 x13 x14 x15
  rw [q] at hc
  have f := row_facts hc
  rw [q]
  exact ⟨⟨22, _, _, _, _, _, _, false, rfl, q, fw_22 x10 x11 x12 x13 x14 x15 ⟩, rfl, rfl⟩
theorem sd_23 (x0 x1 x2 x3 x4 x5 x6 x7 x8 x9 x10 x11 x12 x13 x14 x15 : Bool) (hb : badR 23 false [x0, x1, x2, x3, x4, x5, x6, x7, x8, x9, x10, x11, x12, x13, x14, x15] = false) (hc : V_hauberkref02_Check (iRow 23 false [x0, x1, x2, x3, x4, x5, x6, x7, x8, x9, x10, x11, x12, x13, x14, x15]) = 0) : Enc1 (iRow 23 false [x0, x1, x2, x3, x4, x5, x6, x7, x8, x9, x10, x11, x12, x13, x14, x15]) [x0, x1, x2, x3, x4, x5, x6, x7, x8, x9, x10, x11, x12, x13, x14, x15] ∧ (iRow 23 false [x0, x1, x2, x3, x4, x5, x6, x7, x8, x9, x10, x11, x12, x13, x14, x15]).1 = 23 ∧ (iRow 23 false [x0, x1, x2, x3, x4, x5, x6, x7, x8, x9, x10, x11, x12, x13, x14, x15]).2.2.2.2.2.2.2.1 = false := by
  have hb : (fx 48 x0 || (fx 49 x1 || (fx 48 x2 || (fx 48 x3 || (fx 48 x4 || (fx 48 x5 || (fx 49 x6 || (fx 48 x7 || (fx 49 x8 || (fx 48 x9 || (fx 109 x10 || (fx 109 x11 || (fx 109 x12 || (fx 110 x13 || (fx 110 x14 || (fx 110 x15 || false)))))))))))))))) = false := hb
  simp only [Bool.or_eq_false_iff] at hb
  obtain ⟨h0, h1, h2, h3, h4, h5, h6, h7, h8, h9, _, _, _, _, _, _, _⟩ := hb
  obtain rfl := fx48 h0
  obtain rfl := fx49 h1
  obtain rfl := fx48 h2
  obtain rfl := fx48 h3
  obtain rfl := fx48 h4
  obtain rfl := fx48 h5
  obtain rfl := fx49 h6
  obtain rfl := fx48 h7
  obtain rfl := fx49 h8
  obtain rfl := fx48 h9
  have q := rr_23 x10 x11 x12 x13 x14 x15
  rw [q] at hc
  have f := row_facts hc
  rw [q]
  exact ⟨⟨23, _, _, _, _, _, _, false, rfl, q, fw_23 x10 x11 x12 x13 x14 x15 ⟩, rfl, rfl⟩
theorem sd_24 (x0 x1 x2 x3 x4 x5 x6 x7 x8 x9 x10 x11 x12 x13 x14 x15 : Bool) (hb : badR 24 false [x0, x1, x2, x3, x4, x5, x6, x7, x8, x9, x10, x11, x12, x13, x14, x15] = false) (hc : V_hauberkref02_Check (iRow 24 false [x0, x1, x2, x3, x4, x5, x6, x7, x8, x9, x10, x11, x12, x13, x14, x15]) = 0) : Enc1 (iRow 24 false [x0, x1, x2, x3, x4, x5, x6, x7, x8, x9, x10, x11, x12, x13, x14, x15]) [x0, x1, x2, x3, x4, x5, x6, x7, x8, x9, x10, x11, x12, x13, x14, x15] ∧ (iRow 24 false [x0, x1, x2, x3, x4, x5, x6, x7, x8, x9, x10, x11, x12, x13, x14, x15]).1 = 24 ∧ (iRow 24 false [x0, x1, x2, x3, x4, x5, x6, x7, x8, x9, x10, x11, x12, x13, x14, x15]).2.2.2.2.2.2.2.1 = false := by
  have hb : (fx 49 x0 || (fx 49 x1 || (fx 49 x2 || (fx 48 x3 || (fx 48 x4 || (fx 76 x5 || (fx 75 x6 || (fx 74 x7 || (fx 73 x8 || (fx 72 x9 || (fx 71 x10 || (fx 70 x11 || (fx 69 x12 || (fx 68 x13 || (fx 67 x14 || (fx 66 x15 || false)))))))))))))))) = false := hb
  simp only [Bool.or_eq_false_iff] at hb
  obtain ⟨h0, h1, h2, h3, h4, _, _, _, _, _, _, _, _, _, _, _, _⟩ := hb
  obtain rfl := fx49 h0
  obtain rfl := fx49 h1
  obtain rfl := fx49 h2
  obtain rfl := fx48 h3
  obtain rfl := fx48 h4
  have q := rr_24 x5 x6 x7 x8 x9 x10 x11 x12 x13 x14 x15
  rw [q] at hc
  have f := row_facts hc
  rw [q]
  exact ⟨⟨24, _, _, _, _, _, _, false, rfl, q, fw_24 x5 x6 x7 x8 x9 x10 x11 x12 x13 x14 x15 ⟩, rfl, rfl⟩
theorem sd_24w (x0 x1 x2 x3 x4 x5 x6 x7 x8 x9 x10 x11 x12 x13 x14 x15 y0 y1 y2 y3 y4 y5 y6 y7 y8 y9 y10 y11 y12 y13 y14 y15 : Bool) (hb : badR 24 true [x0, x1, x2, x3, x4, x5, x6, x7, x8, x9, x10, x11, x12, x13, x14, x15, y0, y1, y2, y3, y4, y5, y6, y7, y8, y9, y10, y11, y12, y13, y14, y15] = false) (hc : V_hauberkref02_Check (iRow 24 true [x0, x1, x2, x3, x4, x5, x6, x7, x8, x9, x10, x11, x12, x13, x14, x15, y0, y1, y2, y3, y4, y5, y6, y7, y8, y9, y10, y11, y12, y13, y14, y15]) = 0) : Enc2 (iRow 24 true [x0, x1, x2, x3, x4, x5, x6, x7, x8, x9, x10, x11, x12, x13, x14, x15, y0, y1, y2, y3, y4, y5, y6, y7, y8, y9, y10, y11, y12, y13, y14, y15]) [x0, x1, x2, x3, x4, x5, x6, x7, x8, x9, x10, x11, x12, x13, x14, x15] [y0, y1, y2, y3, y4, y5, y6, y7, y8, y9, y10, y11, y12, y13, y14, y15] ∧ (iRow 24 true [x0, x1, x2, x3, x4, x5, x6, x7, x8, x9, x10, x11, x12, x13, x14, x15, y0, y1, y2, y3, y4, y5, y6, y7, y8, y9, y10, y11, y12, y13, y14, y15]).1 = 24 ∧ (iRow 24 true [x0, x1, x2, x3, x4, x5, x6, x7, x8, x9, x10, x11, x12, x13, x14, x15, y0, y1, y2, y3, y4, y5, y6, y7, y8, y9, y10, y11, y12, y13, y14, y15]).2.2.2.2.2.2.2.1 = true := by
  have hb : (fx 49 x0 || (fx 49 x1 || (fx 49 x2 || (fx 49 x3 || (fx 48 x4 || (fx 89 x5 || (fx 86 x6 || (fx 85 x7 || (fx 84 x8 || (fx 83 x9 || (fx 82 x10 || (fx 81 x11 || (fx 80 x12 || (fx 79 x13 || (fx 78 x14 || (fx 77 x15 || (fx 49 y0 || (fx 48 y1 || (fx 120 y2 || (fx 49 y3 || (fx 121 y4 || (fx 76 y5 || (fx 75 y6 || (fx 74 y7 || (fx 73 y8 || (fx 72 y9 || (fx 71 y10 || (fx 70 y11 || (fx 69 y12 || (fx 68 y13 || (fx 67 y14 || (fx 66 y15 || false)))))))))))))))))))))))))))))))) = false := hb
  simp only [Bool.or_eq_false_iff] at hb
  obtain ⟨h0, h1, h2, h3, h4, _, _, _, _, _, _, _, _, _, _, _, h16, h17, _, h19, _, _, _, _, _, _, _, _, _, _, _, _, _⟩ := hb
  obtain rfl := fx49 h0
  obtain rfl := fx49 h1
  obtain rfl := fx49 h2
  obtain rfl := fx49 h3
  obtain rfl := fx48 h4
  obtain rfl := fx49 h16
  obtain rfl := fx48 h17
  obtain rfl := fx49 h19
  have q := rr_24w x5 x6 x7 x8 x9 x10 x11 x12 x13 x14 x15 y2 y4 y5 y6 y7 y8 y9 y10 y11 y12 y13 y14 y15
  rw [q] at hc
  have f := row_facts hc
  rw [q]
  exact ⟨⟨24, _, _, _, _, _, _, true, rfl, q, fw_24w x5 x6 x7 x8 x9 x10 x11 x12 x13 x14 x15 y2 y4 y5 y6 y7 y8 y9 y10 y11 y12 y13 y14 y15 ⟩, rfl, rfl⟩
theorem sd_25 (x0 x1 x2 x3 x4 x5 x6 x7 x8 x9 x10 x11 x12 x13 x14 x15 : Bool) (hb : badR 25 false [x0, x1, x2, x3, x4, x5, x6, x7, x8, x9, x10, x11, x12, x13, x14, x15] = false) (hc : V_hauberkref02_Check (iRow 25 false [x0, x1, x2, x3, x4, x5, x6, x7, x8, x9, x10, x11, x12, x13, x14, x15]) = 0) : Enc1 (iRow 25 false [x0, x1, x2, x3, x4, x5, x6, x7, x8, x9, x10, x11, x12, x13, x14, x15]) [x0, x1, x2, x3, x4, x5, x6, x7, x8, x9, x10, x11, x12, x13, x14, x15] ∧ (iRow 25 false [x0, x1, x2, x3, x4, x5, x6, x7, x8, x9, x10, x11, x12, x13, x14, x15]).1 = 25 ∧ (iRow 25 false [x0, x1, x2, x3, x4, x5, x6, x7, x8, x9, x10, x11, x12, x13, x14, x15]).2.2.2.2.2.2.2.1 = false := by
  have hb : (fx 49 x0 || (fx 49 x1 || (fx 48 x2 || (fx 49 x3 || (fx 99 x4 || (fx 99 x5 || (fx 99 x6 || (fx 99 x7 || (fx 73 x8 || (fx 72 x9 || (fx 71 x10 || (fx 70 x11 || (fx 69 x12 || (fx 68 x13 || (fx 67 x14 || (fx 66 x15 || false)))))))))))))))) = false := hb
  simp only [Bool.or_eq_false_iff] at hb
  obtain ⟨h0, h1, h2, h3, _, _, _, _, _, _, _, _, _, _, _, _, _⟩ := hb
  obtain rfl := fx49 h0
  obtain rfl := fx49 h1
  obtain rfl := fx48 h2
  obtain rfl := fx49 h3
  have q := rr_25 x4 x5 x6 x7 x8 x9 x10 x11 x12 x13 x14 x15
  rw [q] at hc
  have f := row_facts hc
  rw [q]
  exact ⟨⟨25, _, _, _, _, _, _, false, rfl, q, fw_25 x4 x5 x6 x7 x8 x9 x10 x11 x12 x13 x14 x15 (f.2.2.2.2.2.2 rfl)⟩, rfl, rfl⟩
theorem sd_25w (x0 x1 x2 x3 x4 x5 x6 x7 x8 x9 x10 x11 x12 x13 x14 x15 y0 y1 y2 y3 y4 y5 y6 y7 y8 y9 y10 y11 y12 y13 y14 y15 : Bool) (hb : badR 25 true [x0, x1, x2, x3, x4, x5, x6, x7, x8, x9, x10, x11, x12, x13, x14, x15, y0, y1, y2, y3, y4, y5, y6, y7, y8, y9, y10, y11, y12, y13, y14, y15] = false) (hc : V_hauberkref02_Check (iRow 25 true [x0, x1, x2, x3, x4, x5, x6, x7, x8, x9, x10, x11, x12, x13, x14, x15, y0, y1, y2, y3, y4, y5, y6, y7, y8, y9, y10, y11, y12, y13, y14, y15]) = 0) : Enc2 (iRow 25 true [x0, x1, x2, x3, x4, x5, x6, x7, x8, x9, x10, x11, x12, x13, x14, x15, y0, y1, y2, y3, y4, y5, y6, y7, y8, y9, y10, y11, y12, y13, y14, y15]) [x0, x1, x2, x3, x4, x5, x6, x7, x8, x9, x10, x11, x12, x13, x14, x15] [y0, y1, y2, y3, y4, y5, y6, y7, y8, y9, y10, y11, y12, y13, y14, y15] ∧ (iRow 25 true [x0, x1, x2, x3, x4, x5, x6, x7, x8, x9, x10, x11, x12, x13, x14, x15, y0, y1, y2, y3, y4, y5, y6, y7, y8, y9, y10, y11, y12, y13, y14, y15]).1 = 25 ∧ (iRow 25 true [x0, x1, x2, x3, x4, x5, x6, x7, x8, x9, x10, x11, x12, x13, x14, x15, y0, y1, y2, y3, y4, y5, y6, y7, y8, y9, y10, y11, y12, y13, y14, y15]).2.2.2.2.2.2.2.1 = true := by
  have hb : (fx 49 x0 || (fx 49 x1 || (fx 49 x2 || (fx 49 x3 || (fx 48 x4 || (fx 85 x5 || (fx 99 x6 || (fx 99 x7 || (fx 99 x8 || (fx 99 x9 || (fx 82 x10 || (fx 81 x11 || (fx 80 x12 || (fx 79 x13 || (fx 78 x14 || (fx 77 x15 || (fx 49 y0 || (fx 48 y1 || (fx 83 y2 || (fx 48 y3 || (fx 84 y4 || (fx 76 y5 || (fx 75 y6 || (fx 74 y7 || (fx 73 y8 || (fx 72 y9 || (fx 71 y10 || (fx 70 y11 || (fx 69 y12 || (fx 68 y13 || (fx 67 y14 || (fx 66 y15 || false)))))))))))))))))))))))))))))))) = false := hb
  simp only [Bool.or_eq_false_iff] at hb
  obtain ⟨h0, h1, h2, h3, h4, _, _, _, _, _, _, _, _, _, _, _, h16, h17, _, h19, _, _, _, _, _, _, _, _, _, _, _, _, _⟩ := hb
  obtain rfl := fx49 h0
  obtain rfl := fx49 h1
  obtain rfl := fx49 h2
  obtain rfl := fx49 h3
  obtain rfl := fx48 h4
  obtain rfl := fx49 h16
  obtain rfl := fx48 h17
  obtain rfl := fx48 h19
  have q := rr_25w x5 x6 x7 x8 x9 x10 x11 x12 x13 x14 x15 y2 y4 y5 y6 y7 y8 y9 y10 y11 y12 y13 y14 y15
  rw [q] at hc
  have f := row_facts hc
  rw [q]
  exact ⟨⟨25, _, _, _, _, _, _, true, rfl, q, fw_25w x5 x6 x7 x8 x9 x10 x11 x12 x13 x14 x15 y2 y4 y5 y6 y7 y8 y9 y10 y11 y12 y13 y14 y15 (f.2.2.2.2.2.2 rfl)⟩, rfl, rfl⟩
end Go.Av
/-! Layer 3: the document's decoder is the program's. Written by wip/tools/decbytes.py. -/
namespace Go.Av
open Go
theorem of_found {op : Int} {w : Bool} {l : List Bool} (hlen : (V_hauberkref02_Bits (op, w)).length = l.length) (hne : V_hauberkref02_Bits (op, w) ≠ []) (h : (V_hauberkref03_read (op, w, tx l)).2.1 = true) :
    badR op w l = false ∧ V_hauberkref02_Check (iRow op w l) = 0 ∧ (V_hauberkref03_read (op, w, tx l)).1 = iRow op w l := by
  have ht := refread_T op w l hlen hne
  have hv : V_hauberkref03_read (op, w, tx l) = (bif badR op w l then (zI, false, ()) else (iRow op w l, V_hauberkref02_Check (iRow op w l) == 0, ())) := by unfold V_hauberkref03_read PO.getO; rw [ht]; rfl
  rw [hv] at h ⊢
  cases hb : badR op w l
  · rw [hb] at h
    have h : (V_hauberkref02_Check (iRow op w l) == (0 : Int)) = true := h
    exact ⟨rfl, by simpa using h, rfl⟩
  · rw [hb] at h
    cases h
theorem not_found {op : Int} {w : Bool} {l : List Bool} (h : (V_hauberkref02_Bits (op, w)).length ≠ l.length ∨ V_hauberkref02_Bits (op, w) = []) : (V_hauberkref03_read (op, w, tx l)).2.1 = false := by
  have ht := refread_none op w l h
  unfold V_hauberkref03_read PO.getO
  rw [ht]
  rfl
theorem read_G (op : Int) (w : Bool) (l : List Bool) : G_hauberkref03_read (op, w, tx l) = true := by
  unfold G_hauberkref03_read
  by_cases h : (V_hauberkref02_Bits (op, w)).length = l.length ∧ V_hauberkref02_Bits (op, w) ≠ []
  · rw [refread_T op w l h.1 h.2]; rfl
  · rw [refread_none op w l (by
      by_cases h1 : (V_hauberkref02_Bits (op, w)).length = l.length
      · right
        exact Classical.not_not.1 (fun h2 => h ⟨h1, h2⟩)
      · exact .inl h1)]
    rfl
theorem found16 (x0 x1 x2 x3 x4 x5 x6 x7 x8 x9 x10 x11 x12 x13 x14 x15 : Bool) (op : Int) (w : Bool) (h : (V_hauberkref03_read (op, w, tx [x0, x1, x2, x3, x4, x5, x6, x7, x8, x9, x10, x11, x12, x13, x14, x15])).2.1 = true) :
    Enc1 (V_hauberkref03_read (op, w, tx [x0, x1, x2, x3, x4, x5, x6, x7, x8, x9, x10, x11, x12, x13, x14, x15])).1 [x0, x1, x2, x3, x4, x5, x6, x7, x8, x9, x10, x11, x12, x13, x14, x15] ∧ (V_hauberkref03_read (op, w, tx [x0, x1, x2, x3, x4, x5, x6, x7, x8, x9, x10, x11, x12, x13, x14, x15])).1.1 = op ∧ (V_hauberkref03_read (op, w, tx [x0, x1, x2, x3, x4, x5, x6, x7, x8, x9, x10, x11, x12, x13, x14, x15])).1.2.2.2.2.2.2.2.1 = w := by
  rcases op_cases op with rfl | rfl | rfl | rfl | rfl | rfl | rfl | rfl | rfl | rfl | rfl | rfl | rfl | rfl | rfl | rfl | rfl | rfl | rfl | rfl | rfl | rfl | rfl | rfl | rfl | hop
  case inr.inr.inr.inr.inr.inr.inr.inr.inr.inr.inr.inr.inr.inr.inr.inr.inr.inr.inr.inr.inr.inr.inr.inr.inr => exact Bool.noConfusion ((not_found (.inr (bits_none hop w))).symm.trans h)
  all_goals cases w
  · obtain ⟨b, c, e⟩ := of_found (op := 1) (w := false) rfl (by decide) h
    obtain ⟨s1, s2, s3⟩ := sd_1 _ _ _ _ _ _ _ _ _ _ _ _ _ _ _ _ b c
    rw [e]
    exact ⟨s1, s2, s3⟩
  · exact Bool.noConfusion ((not_found (op := 1) (w := true) (l := [x0, x1, x2, x3, x4, x5, x6, x7, x8, x9, x10, x11, x12, x13, x14, x15]) (.inr rfl)).symm.trans h)
  · obtain ⟨b, c, e⟩ := of_found (op := 2) (w := false) rfl (by decide) h
    obtain ⟨s1, s2, s3⟩ := sd_2 _ _ _ _ _ _ _ _ _ _ _ _ _ _ _ _ b c
    rw [e]
    exact ⟨s1, s2, s3⟩
  · exact Bool.noConfusion ((not_found (op := 2) (w := true) (l := [x0, x1, x2, x3, x4, x5, x6, x7, x8, x9, x10, x11, x12, x13, x14, x15]) (.inr rfl)).symm.trans h)
  · exact Bool.noConfusion ((not_found (op := 3) (w := false) (l := [x0, x1, x2, x3, x4, x5, x6, x7, x8, x9, x10, x11, x12, x13, x14, x15]) (.inl (show (32 : Nat) ≠ 16 by decide))).symm.trans h)
  · exact Bool.noConfusion ((not_found (op := 3) (w := true) (l := [x0, x1, x2, x3, x4, x5, x6, x7, x8, x9, x10, x11, x12, x13, x14, x15]) (.inr rfl)).symm.trans h)
  · exact Bool.noConfusion ((not_found (op := 4) (w := false) (l := [x0, x1, x2, x3, x4, x5, x6, x7, x8, x9, x10, x11, x12, x13, x14, x15]) (.inl (show (32 : Nat) ≠ 16 by decide))).symm.trans h)
  · exact Bool.noConfusion ((not_found (op := 4) (w := true) (l := [x0, x1, x2, x3, x4, x5, x6, x7, x8, x9, x10, x11, x12, x13, x14, x15]) (.inr rfl)).symm.trans h)
  · exact Bool.noConfusion ((not_found (op := 5) (w := false) (l := [x0, x1, x2, x3, x4, x5, x6, x7, x8, x9, x10, x11, x12, x13, x14, x15]) (.inl (show (32 : Nat) ≠ 16 by decide))).symm.trans h)
  · exact Bool.noConfusion ((not_found (op := 5) (w := true) (l := [x0, x1, x2, x3, x4, x5, x6, x7, x8, x9, x10, x11, x12, x13, x14, x15]) (.inr rfl)).symm.trans h)
  · exact Bool.noConfusion ((not_found (op := 6) (w := false) (l := [x0, x1, x2, x3, x4, x5, x6, x7, x8, x9, x10, x11, x12, x13, x14, x15]) (.inl (show (32 : Nat) ≠ 16 by decide))).symm.trans h)
  · exact Bool.noConfusion ((not_found (op := 6) (w := true) (l := [x0, x1, x2, x3, x4, x5, x6, x7, x8, x9, x10, x11, x12, x13, x14, x15]) (.inr rfl)).symm.trans h)
  · exact Bool.noConfusion ((not_found (op := 7) (w := false) (l := [x0, x1, x2, x3, x4, x5, x6, x7, x8, x9, x10, x11, x12, x13, x14, x15]) (.inl (show (32 : Nat) ≠ 16 by decide))).symm.trans h)
  · exact Bool.noConfusion ((not_found (op := 7) (w := true) (l := [x0, x1, x2, x3, x4, x5, x6, x7, x8, x9, x10, x11, x12, x13, x14, x15]) (.inr rfl)).symm.trans h)
  · exact Bool.noConfusion ((not_found (op := 8) (w := false) (l := [x0, x1, x2, x3, x4, x5, x6, x7, x8, x9, x10, x11, x12, x13, x14, x15]) (.inl (show (32 : Nat) ≠ 16 by decide))).symm.trans h)
  · exact Bool.noConfusion ((not_found (op := 8) (w := true) (l := [x0, x1, x2, x3, x4, x5, x6, x7, x8, x9, x10, x11, x12, x13, x14, x15]) (.inr rfl)).symm.trans h)
  · exact Bool.noConfusion ((not_found (op := 9) (w := false) (l := [x0, x1, x2, x3, x4, x5, x6, x7, x8, x9, x10, x11, x12, x13, x14, x15]) (.inl (show (32 : Nat) ≠ 16 by decide))).symm.trans h)
  · exact Bool.noConfusion ((not_found (op := 9) (w := true) (l := [x0, x1, x2, x3, x4, x5, x6, x7, x8, x9, x10, x11, x12, x13, x14, x15]) (.inr rfl)).symm.trans h)
  · exact Bool.noConfusion ((not_found (op := 10) (w := false) (l := [x0, x1, x2, x3, x4, x5, x6, x7, x8, x9, x10, x11, x12, x13, x14, x15]) (.inl (show (32 : Nat) ≠ 16 by decide))).symm.trans h)
  · exact Bool.noConfusion ((not_found (op := 10) (w := true) (l := [x0, x1, x2, x3, x4, x5, x6, x7, x8, x9, x10, x11, x12, x13, x14, x15]) (.inr rfl)).symm.trans h)
  · exact Bool.noConfusion ((not_found (op := 11) (w := false) (l := [x0, x1, x2, x3, x4, x5, x6, x7, x8, x9, x10, x11, x12, x13, x14, x15]) (.inl (show (32 : Nat) ≠ 16 by decide))).symm.trans h)
  · exact Bool.noConfusion ((not_found (op := 11) (w := true) (l := [x0, x1, x2, x3, x4, x5, x6, x7, x8, x9, x10, x11, x12, x13, x14, x15]) (.inr rfl)).symm.trans h)
  · exact Bool.noConfusion ((not_found (op := 12) (w := false) (l := [x0, x1, x2, x3, x4, x5, x6, x7, x8, x9, x10, x11, x12, x13, x14, x15]) (.inl (show (32 : Nat) ≠ 16 by decide))).symm.trans h)
  · exact Bool.noConfusion ((not_found (op := 12) (w := true) (l := [x0, x1, x2, x3, x4, x5, x6, x7, x8, x9, x10, x11, x12, x13, x14, x15]) (.inr rfl)).symm.trans h)
  · exact Bool.noConfusion ((not_found (op := 13) (w := false) (l := [x0, x1, x2, x3, x4, x5, x6, x7, x8, x9, x10, x11, x12, x13, x14, x15]) (.inl (show (32 : Nat) ≠ 16 by decide))).symm.trans h)
  · exact Bool.noConfusion ((not_found (op := 13) (w := true) (l := [x0, x1, x2, x3, x4, x5, x6, x7, x8, x9, x10, x11, x12, x13, x14, x15]) (.inr rfl)).symm.trans h)
  · exact Bool.noConfusion ((not_found (op := 14) (w := false) (l := [x0, x1, x2, x3, x4, x5, x6, x7, x8, x9, x10, x11, x12, x13, x14, x15]) (.inl (show (32 : Nat) ≠ 16 by decide))).symm.trans h)
  · exact Bool.noConfusion ((not_found (op := 14) (w := true) (l := [x0, x1, x2, x3, x4, x5, x6, x7, x8, x9, x10, x11, x12, x13, x14, x15]) (.inr rfl)).symm.trans h)
  · exact Bool.noConfusion ((not_found (op := 15) (w := false) (l := [x0, x1, x2, x3, x4, x5, x6, x7, x8, x9, x10, x11, x12, x13, x14, x15]) (.inl (show (32 : Nat) ≠ 16 by decide))).symm.trans h)
  · exact Bool.noConfusion ((not_found (op := 15) (w := true) (l := [x0, x1, x2, x3, x4, x5, x6, x7, x8, x9, x10, x11, x12, x13, x14, x15]) (.inr rfl)).symm.trans h)
  · exact Bool.noConfusion ((not_found (op := 16) (w := false) (l := [x0, x1, x2, x3, x4, x5, x6, x7, x8, x9, x10, x11, x12, x13, x14, x15]) (.inl (show (32 : Nat) ≠ 16 by decide))).symm.trans h)
  · exact Bool.noConfusion ((not_found (op := 16) (w := true) (l := [x0, x1, x2, x3, x4, x5, x6, x7, x8, x9, x10, x11, x12, x13, x14, x15]) (.inr rfl)).symm.trans h)
  · exact Bool.noConfusion ((not_found (op := 17) (w := false) (l := [x0, x1, x2, x3, x4, x5, x6, x7, x8, x9, x10, x11, x12, x13, x14, x15]) (.inl (show (32 : Nat) ≠ 16 by decide))).symm.trans h)
  · exact Bool.noConfusion ((not_found (op := 17) (w := true) (l := [x0, x1, x2, x3, x4, x5, x6, x7, x8, x9, x10, x11, x12, x13, x14, x15]) (.inr rfl)).symm.trans h)
  · exact Bool.noConfusion ((not_found (op := 18) (w := false) (l := [x0, x1, x2, x3, x4, x5, x6, x7, x8, x9, x10, x11, x12, x13, x14, x15]) (.inl (show (32 : Nat) ≠ 16 by decide))).symm.trans h)
  · exact Bool.noConfusion ((not_found (op := 18) (w := true) (l := [x0, x1, x2, x3, x4, x5, x6, x7, x8, x9, x10, x11, x12, x13, x14, x15]) (.inr rfl)).symm.trans h)
  · obtain ⟨b, c, e⟩ := of_found (op := 19) (w := false) rfl (by decide) h
    obtain ⟨s1, s2, s3⟩ := sd_19 _ _ _ _ _ _ _ _ _ _ _ _ _ _ _ _ b c
    rw [e]
    exact ⟨s1, s2, s3⟩
  · exact Bool.noConfusion ((not_found (op := 19) (w := true) (l := [x0, x1, x2, x3, x4, x5, x6, x7, x8, x9, x10, x11, x12, x13, x14, x15]) (.inr rfl)).symm.trans h)
  · obtain ⟨b, c, e⟩ := of_found (op := 20) (w := false) rfl (by decide) h
    obtain ⟨s1, s2, s3⟩ := sd_20 _ _ _ _ _ _ _ _ _ _ _ _ _ _ _ _ b c
    rw [e]
    exact ⟨s1, s2, s3⟩
  · exact Bool.noConfusion ((not_found (op := 20) (w := true) (l := [x0, x1, x2, x3, x4, x5, x6, x7, x8, x9, x10, x11, x12, x13, x14, x15]) (.inr rfl)).symm.trans h)
  · obtain ⟨b, c, e⟩ := of_found (op := 21) (w := false) rfl (by decide) h
    obtain ⟨s1, s2, s3⟩ := sd_21 _ _ _ _ _ _ _ _ _ _ _ _ _ _ _ _ b c
    rw [e]
    exact ⟨s1, s2, s3⟩
  · exact Bool.noConfusion ((not_found (op := 21) (w := true) (l := [x0, x1, x2, x3, x4, x5, x6, x7, x8, x9, x10, x11, x12, x13, x14, x15]) (.inr rfl)).symm.trans h)
  · obtain ⟨b, c, e⟩ := of_found (op := 22) (w := false) rfl (by decide) h
    obtain ⟨s1, s2, s3⟩ := sd_22 _ _ _ _ _ _ _ _ _ _ _ _ _ _ _ _ b c
    rw [e]
    exact ⟨s1, s2, s3⟩
  · exact Bool.noConfusion ((not_found (op := 22) (w := true) (l := [x0, x1, x2, x3, x4, x5, x6, x7, x8, x9, x10, x11, x12, x13, x14, x15]) (.inr rfl)).symm.trans h)
  · obtain ⟨b, c, e⟩ := of_found (op := 23) (w := false) rfl (by decide) h
    obtain ⟨s1, s2, s3⟩ := sd_23 _ _ _ _ _ _ _ _ _ _ _ _ _ _ _ _ b c
    rw [e]
    exact ⟨s1, s2, s3⟩
  · exact Bool.noConfusion ((not_found (op := 23) (w := true) (l := [x0, x1, x2, x3, x4, x5, x6, x7, x8, x9, x10, x11, x12, x13, x14, x15]) (.inr rfl)).symm.trans h)
  · obtain ⟨b, c, e⟩ := of_found (op := 24) (w := false) rfl (by decide) h
    obtain ⟨s1, s2, s3⟩ := sd_24 _ _ _ _ _ _ _ _ _ _ _ _ _ _ _ _ b c
    rw [e]
    exact ⟨s1, s2, s3⟩
  · exact Bool.noConfusion ((not_found (op := 24) (w := true) (l := [x0, x1, x2, x3, x4, x5, x6, x7, x8, x9, x10, x11, x12, x13, x14, x15]) (.inl (show (32 : Nat) ≠ 16 by decide))).symm.trans h)
  · obtain ⟨b, c, e⟩ := of_found (op := 25) (w := false) rfl (by decide) h
    obtain ⟨s1, s2, s3⟩ := sd_25 _ _ _ _ _ _ _ _ _ _ _ _ _ _ _ _ b c
    rw [e]
    exact ⟨s1, s2, s3⟩
  · exact Bool.noConfusion ((not_found (op := 25) (w := true) (l := [x0, x1, x2, x3, x4, x5, x6, x7, x8, x9, x10, x11, x12, x13, x14, x15]) (.inl (show (32 : Nat) ≠ 16 by decide))).symm.trans h)

theorem found32 (x0 x1 x2 x3 x4 x5 x6 x7 x8 x9 x10 x11 x12 x13 x14 x15 y0 y1 y2 y3 y4 y5 y6 y7 y8 y9 y10 y11 y12 y13 y14 y15 : Bool) (op : Int) (w : Bool) (h : (V_hauberkref03_read (op, w, tx [x0, x1, x2, x3, x4, x5, x6, x7, x8, x9, x10, x11, x12, x13, x14, x15, y0, y1, y2, y3, y4, y5, y6, y7, y8, y9, y10, y11, y12, y13, y14, y15])).2.1 = true) :
    Enc2 (V_hauberkref03_read (op, w, tx [x0, x1, x2, x3, x4, x5, x6, x7, x8, x9, x10, x11, x12, x13, x14, x15, y0, y1, y2, y3, y4, y5, y6, y7, y8, y9, y10, y11, y12, y13, y14, y15])).1 [x0, x1, x2, x3, x4, x5, x6, x7, x8, x9, x10, x11, x12, x13, x14, x15] [y0, y1, y2, y3, y4, y5, y6, y7, y8, y9, y10, y11, y12, y13, y14, y15] ∧ (V_hauberkref03_read (op, w, tx [x0, x1, x2, x3, x4, x5, x6, x7, x8, x9, x10, x11, x12, x13, x14, x15, y0, y1, y2, y3, y4, y5, y6, y7, y8, y9, y10, y11, y12, y13, y14, y15])).1.1 = op ∧ (V_hauberkref03_read (op, w, tx [x0, x1, x2, x3, x4, x5, x6, x7, x8, x9, x10, x11, x12, x13, x14, x15, y0, y1, y2, y3, y4, y5, y6, y7, y8, y9, y10, y11, y12, y13, y14, y15])).1.2.2.2.2.2.2.2.1 = w := by
  rcases op_cases op with rfl | rfl | rfl | rfl | rfl | rfl | rfl | rfl | rfl | rfl | rfl | rfl | rfl | rfl | rfl | rfl | rfl | rfl | rfl | rfl | rfl | rfl | rfl | rfl | rfl | hop
  case inr.inr.inr.inr.inr.inr.inr.inr.inr.inr.inr.inr.inr.inr.inr.inr.inr.inr.inr.inr.inr.inr.inr.inr.inr => exact Bool.noConfusion ((not_found (.inr (bits_none hop w))).symm.trans h)
  all_goals cases w
  · exact Bool.noConfusion ((not_found (op := 1) (w := false) (l := [x0, x1, x2, x3, x4, x5, x6, x7, x8, x9, x10, x11, x12, x13, x14, x15, y0, y1, y2, y3, y4, y5, y6, y7, y8, y9, y10, y11, y12, y13, y14, y15]) (.inl (show (16 : Nat) ≠ 32 by decide))).symm.trans h)
  · exact Bool.noConfusion ((not_found (op := 1) (w := true) (l := [x0, x1, x2, x3, x4, x5, x6, x7, x8, x9, x10, x11, x12, x13, x14, x15, y0, y1, y2, y3, y4, y5, y6, y7, y8, y9, y10, y11, y12, y13, y14, y15]) (.inr rfl)).symm.trans h)
  · exact Bool.noConfusion ((not_found (op := 2) (w := false) (l := [x0, x1, x2, x3, x4, x5, x6, x7, x8, x9, x10, x11, x12, x13, x14, x15, y0, y1, y2, y3, y4, y5, y6, y7, y8, y9, y10, y11, y12, y13, y14, y15]) (.inl (show (16 : Nat) ≠ 32 by decide))).symm.trans h)
  · exact Bool.noConfusion ((not_found (op := 2) (w := true) (l := [x0, x1, x2, x3, x4, x5, x6, x7, x8, x9, x10, x11, x12, x13, x14, x15, y0, y1, y2, y3, y4, y5, y6, y7, y8, y9, y10, y11, y12, y13, y14, y15]) (.inr rfl)).symm.trans h)
  · obtain ⟨b, c, e⟩ := of_found (op := 3) (w := false) rfl (by decide) h
    obtain ⟨s1, s2, s3⟩ := sd_3 _ _ _ _ _ _ _ _ _ _ _ _ _ _ _ _ _ _ _ _ _ _ _ _ _ _ _ _ _ _ _ _ b c
    rw [e]
    exact ⟨s1, s2, s3⟩
  · exact Bool.noConfusion ((not_found (op := 3) (w := true) (l := [x0, x1, x2, x3, x4, x5, x6, x7, x8, x9, x10, x11, x12, x13, x14, x15, y0, y1, y2, y3, y4, y5, y6, y7, y8, y9, y10, y11, y12, y13, y14, y15]) (.inr rfl)).symm.trans h)
  · obtain ⟨b, c, e⟩ := of_found (op := 4) (w := false) rfl (by decide) h
    obtain ⟨s1, s2, s3⟩ := sd_4 _ _ _ _ _ _ _ _ _ _ _ _ _ _ _ _ _ _ _ _ _ _ _ _ _ _ _ _ _ _ _ _ b c
    rw [e]
    exact ⟨s1, s2, s3⟩
  · exact Bool.noConfusion ((not_found (op := 4) (w := true) (l := [x0, x1, x2, x3, x4, x5, x6, x7, x8, x9, x10, x11, x12, x13, x14, x15, y0, y1, y2, y3, y4, y5, y6, y7, y8, y9, y10, y11, y12, y13, y14, y15]) (.inr rfl)).symm.trans h)
  · obtain ⟨b, c, e⟩ := of_found (op := 5) (w := false) rfl (by decide) h
    obtain ⟨s1, s2, s3⟩ := sd_5 _ _ _ _ _ _ _ _ _ _ _ _ _ _ _ _ _ _ _ _ _ _ _ _ _ _ _ _ _ _ _ _ b c
    rw [e]
    exact ⟨s1, s2, s3⟩
  · exact Bool.noConfusion ((not_found (op := 5) (w := true) (l := [x0, x1, x2, x3, x4, x5, x6, x7, x8, x9, x10, x11, x12, x13, x14, x15, y0, y1, y2, y3, y4, y5, y6, y7, y8, y9, y10, y11, y12, y13, y14, y15]) (.inr rfl)).symm.trans h)
  · obtain ⟨b, c, e⟩ := of_found (op := 6) (w := false) rfl (by decide) h
    obtain ⟨s1, s2, s3⟩ := sd_6 _ _ _ _ _ _ _ _ _ _ _ _ _ _ _ _ _ _ _ _ _ _ _ _ _ _ _ _ _ _ _ _ b c
    rw [e]
    exact ⟨s1, s2, s3⟩
  · exact Bool.noConfusion ((not_found (op := 6) (w := true) (l := [x0, x1, x2, x3, x4, x5, x6, x7, x8, x9, x10, x11, x12, x13, x14, x15, y0, y1, y2, y3, y4, y5, y6, y7, y8, y9, y10, y11, y12, y13, y14, y15]) (.inr rfl)).symm.trans h)
  · obtain ⟨b, c, e⟩ := of_found (op := 7) (w := false) rfl (by decide) h
    obtain ⟨s1, s2, s3⟩ := sd_7 _ _ _ _ _ _ _ _ _ _ _ _ _ _ _ _ _ _ _ _ _ _ _ _ _ _ _ _ _ _ _ _ b c
    rw [e]
    exact ⟨s1, s2, s3⟩
  · exact Bool.noConfusion ((not_found (op := 7) (w := true) (l := [x0, x1, x2, x3, x4, x5, x6, x7, x8, x9, x10, x11, x12, x13, x14, x15, y0, y1, y2, y3, y4, y5, y6, y7, y8, y9, y10, y11, y12, y13, y14, y15]) (.inr rfl)).symm.trans h)
  · obtain ⟨b, c, e⟩ := of_found (op := 8) (w := false) rfl (by decide) h
    obtain ⟨s1, s2, s3⟩ := sd_8 _ _ _ _ _ _ _ _ _ _ _ _ _ _ _ _ _ _ _ _ _ _ _ _ _ _ _ _ _ _ _ _ b c
    rw [e]
    exact ⟨s1, s2, s3⟩
  · exact Bool.noConfusion ((not_found (op := 8) (w := true) (l := [x0, x1, x2, x3, x4, x5, x6, x7, x8, x9, x10, x11, x12, x13, x14, x15, y0, y1, y2, y3, y4, y5, y6, y7, y8, y9, y10, y11, y12, y13, y14, y15]) (.inr rfl)).symm.trans h)
  · obtain ⟨b, c, e⟩ := of_found (op := 9) (w := false) rfl (by decide) h
    obtain ⟨s1, s2, s3⟩ := sd_9 _ _ _ _ _ _ _ _ _ _ _ _ _ _ _ _ _ _ _ _ _ _ _ _ _ _ _ _ _ _ _ _ b c
    rw [e]
    exact ⟨s1, s2, s3⟩
  · exact Bool.noConfusion ((not_found (op := 9) (w := true) (l := [x0, x1, x2, x3, x4, x5, x6, x7, x8, x9, x10, x11, x12, x13, x14, x15, y0, y1, y2, y3, y4, y5, y6, y7, y8, y9, y10, y11, y12, y13, y14, y15]) (.inr rfl)).symm.trans h)
  · obtain ⟨b, c, e⟩ := of_found (op := 10) (w := false) rfl (by decide) h
    obtain ⟨s1, s2, s3⟩ := sd_10 _ _ _ _ _ _ _ _ _ _ _ _ _ _ _ _ _ _ _ _ _ _ _ _ _ _ _ _ _ _ _ _ b c
    rw [e]
    exact ⟨s1, s2, s3⟩
  · exact Bool.noConfusion ((not_found (op := 10) (w := true) (l := [x0, x1, x2, x3, x4, x5, x6, x7, x8, x9, x10, x11, x12, x13, x14, x15, y0, y1, y2, y3, y4, y5, y6, y7, y8, y9, y10, y11, y12, y13, y14, y15]) (.inr rfl)).symm.trans h)
  · obtain ⟨b, c, e⟩ := of_found (op := 11) (w := false) rfl (by decide) h
    obtain ⟨s1, s2, s3⟩ := sd_11 _ _ _ _ _ _ _ _ _ _ _ _ _ _ _ _ _ _ _ _ _ _ _ _ _ _ _ _ _ _ _ _ b c
    rw [e]
    exact ⟨s1, s2, s3⟩
  · exact Bool.noConfusion ((not_found (op := 11) (w := true) (l := [x0, x1, x2, x3, x4, x5, x6, x7, x8, x9, x10, x11, x12, x13, x14, x15, y0, y1, y2, y3, y4, y5, y6, y7, y8, y9, y10, y11, y12, y13, y14, y15]) (.inr rfl)).symm.trans h)
  · obtain ⟨b, c, e⟩ := of_found (op := 12) (w := false) rfl (by decide) h
    obtain ⟨s1, s2, s3⟩ := sd_12 _ _ _ _ _ _ _ _ _ _ _ _ _ _ _ _ _ _ _ _ _ _ _ _ _ _ _ _ _ _ _ _ b c
    rw [e]
    exact ⟨s1, s2, s3⟩
  · exact Bool.noConfusion ((not_found (op := 12) (w := true) (l := [x0, x1, x2, x3, x4, x5, x6, x7, x8, x9, x10, x11, x12, x13, x14, x15, y0, y1, y2, y3, y4, y5, y6, y7, y8, y9, y10, y11, y12, y13, y14, y15]) (.inr rfl)).symm.trans h)
  · obtain ⟨b, c, e⟩ := of_found (op := 13) (w := false) rfl (by decide) h
    obtain ⟨s1, s2, s3⟩ := sd_13 _ _ _ _ _ _ _ _ _ _ _ _ _ _ _ _ _ _ _ _ _ _ _ _ _ _ _ _ _ _ _ _ b c
    rw [e]
    exact ⟨s1, s2, s3⟩
  · exact Bool.noConfusion ((not_found (op := 13) (w := true) (l := [x0, x1, x2, x3, x4, x5, x6, x7, x8, x9, x10, x11, x12, x13, x14, x15, y0, y1, y2, y3, y4, y5, y6, y7, y8, y9, y10, y11, y12, y13, y14, y15]) (.inr rfl)).symm.trans h)
  · obtain ⟨b, c, e⟩ := of_found (op := 14) (w := false) rfl (by decide) h
    obtain ⟨s1, s2, s3⟩ := sd_14 _ _ _ _ _ _ _ _ _ _ _ _ _ _ _ _ _ _ _ _ _ _ _ _ _ _ _ _ _ _ _ _ b c
    rw [e]
    exact ⟨s1, s2, s3⟩
  · exact Bool.noConfusion ((not_found (op := 14) (w := true) (l := [x0, x1, x2, x3, x4, x5, x6, x7, x8, x9, x10, x11, x12, x13, x14, x15, y0, y1, y2, y3, y4, y5, y6, y7, y8, y9, y10, y11, y12, y13, y14, y15]) (.inr rfl)).symm.trans h)
  · obtain ⟨b, c, e⟩ := of_found (op := 15) (w := false) rfl (by decide) h
    obtain ⟨s1, s2, s3⟩ := sd_15 _ _ _ _ _ _ _ _ _ _ _ _ _ _ _ _ _ _ _ _ _ _ _ _ _ _ _ _ _ _ _ _ b c
    rw [e]
    exact ⟨s1, s2, s3⟩
  · exact Bool.noConfusion ((not_found (op := 15) (w := true) (l := [x0, x1, x2, x3, x4, x5, x6, x7, x8, x9, x10, x11, x12, x13, x14, x15, y0, y1, y2, y3, y4, y5, y6, y7, y8, y9, y10, y11, y12, y13, y14, y15]) (.inr rfl)).symm.trans h)
  · obtain ⟨b, c, e⟩ := of_found (op := 16) (w := false) rfl (by decide) h
    obtain ⟨s1, s2, s3⟩ := sd_16 _ _ _ _ _ _ _ _ _ _ _ _ _ _ _ _ _ _ _ _ _ _ _ _ _ _ _ _ _ _ _ _ b c
    rw [e]
    exact ⟨s1, s2, s3⟩
  · exact Bool.noConfusion ((not_found (op := 16) (w := true) (l := [x0, x1, x2, x3, x4, x5, x6, x7, x8, x9, x10, x11, x12, x13, x14, x15, y0, y1, y2, y3, y4, y5, y6, y7, y8, y9, y10, y11, y12, y13, y14, y15]) (.inr rfl)).symm.trans h)
  · obtain ⟨b, c, e⟩ := of_found (op := 17) (w := false) rfl (by decide) h
    obtain ⟨s1, s2, s3⟩ := sd_17 _ _ _ _ _ _ _ _ _ _ _ _ _ _ _ _ _ _ _ _ _ _ _ _ _ _ _ _ _ _ _ _ b c
    rw [e]
    exact ⟨s1, s2, s3⟩
  · exact Bool.noConfusion ((not_found (op := 17) (w := true) (l := [x0, x1, x2, x3, x4, x5, x6, x7, x8, x9, x10, x11, x12, x13, x14, x15, y0, y1, y2, y3, y4, y5, y6, y7, y8, y9, y10, y11, y12, y13, y14, y15]) (.inr rfl)).symm.trans h)
  · obtain ⟨b, c, e⟩ := of_found (op := 18) (w := false) rfl (by decide) h
    obtain ⟨s1, s2, s3⟩ := sd_18 _ _ _ _ _ _ _ _ _ _ _ _ _ _ _ _ _ _ _ _ _ _ _ _ _ _ _ _ _ _ _ _ b c
    rw [e]
    exact ⟨s1, s2, s3⟩
  · exact Bool.noConfusion ((not_found (op := 18) (w := true) (l := [x0, x1, x2, x3, x4, x5, x6, x7, x8, x9, x10, x11, x12, x13, x14, x15, y0, y1, y2, y3, y4, y5, y6, y7, y8, y9, y10, y11, y12, y13, y14, y15]) (.inr rfl)).symm.trans h)
  · exact Bool.noConfusion ((not_found (op := 19) (w := false) (l := [x0, x1, x2, x3, x4, x5, x6, x7, x8, x9, x10, x11, x12, x13, x14, x15, y0, y1, y2, y3, y4, y5, y6, y7, y8, y9, y10, y11, y12, y13, y14, y15]) (.inl (show (16 : Nat) ≠ 32 by decide))).symm.trans h)
  · exact Bool.noConfusion ((not_found (op := 19) (w := true) (l := [x0, x1, x2, x3, x4, x5, x6, x7, x8, x9, x10, x11, x12, x13, x14, x15, y0, y1, y2, y3, y4, y5, y6, y7, y8, y9, y10, y11, y12, y13, y14, y15]) (.inr rfl)).symm.trans h)
  · exact Bool.noConfusion ((not_found (op := 20) (w := false) (l := [x0, x1, x2, x3, x4, x5, x6, x7, x8, x9, x10, x11, x12, x13, x14, x15, y0, y1, y2, y3, y4, y5, y6, y7, y8, y9, y10, y11, y12, y13, y14, y15]) (.inl (show (16 : Nat) ≠ 32 by decide))).symm.trans h)
  · exact Bool.noConfusion ((not_found (op := 20) (w := true) (l := [x0, x1, x2, x3, x4, x5, x6, x7, x8, x9, x10, x11, x12, x13, x14, x15, y0, y1, y2, y3, y4, y5, y6, y7, y8, y9, y10, y11, y12, y13, y14, y15]) (.inr rfl)).symm.trans h)
  · exact Bool.noConfusion ((not_found (op := 21) (w := false) (l := [x0, x1, x2, x3, x4, x5, x6, x7, x8, x9, x10, x11, x12, x13, x14, x15, y0, y1, y2, y3, y4, y5, y6, y7, y8, y9, y10, y11, y12, y13, y14, y15]) (.inl (show (16 : Nat) ≠ 32 by decide))).symm.trans h)
  · exact Bool.noConfusion ((not_found (op := 21) (w := true) (l := [x0, x1, x2, x3, x4, x5, x6, x7, x8, x9, x10, x11, x12, x13, x14, x15, y0, y1, y2, y3, y4, y5, y6, y7, y8, y9, y10, y11, y12, y13, y14, y15]) (.inr rfl)).symm.trans h)
  · exact Bool.noConfusion ((not_found (op := 22) (w := false) (l := [x0, x1, x2, x3, x4, x5, x6, x7, x8, x9, x10, x11, x12, x13, x14, x15, y0, y1, y2, y3, y4, y5, y6, y7, y8, y9, y10, y11, y12, y13, y14, y15]) (.inl (show (16 : Nat) ≠ 32 by decide))).symm.trans h)
  · exact Bool.noConfusion ((not_found (op := 22) (w := true) (l := [x0, x1, x2, x3, x4, x5, x6, x7, x8, x9, x10, x11, x12, x13, x14, x15, y0, y1, y2, y3, y4, y5, y6, y7, y8, y9, y10, y11, y12, y13, y14, y15]) (.inr rfl)).symm.trans h)
  · exact Bool.noConfusion ((not_found (op := 23) (w := false) (l := [x0, x1, x2, x3, x4, x5, x6, x7, x8, x9, x10, x11, x12, x13, x14, x15, y0, y1, y2, y3, y4, y5, y6, y7, y8, y9, y10, y11, y12, y13, y14, y15]) (.inl (show (16 : Nat) ≠ 32 by decide))).symm.trans h)
  · exact Bool.noConfusion ((not_found (op := 23) (w := true) (l := [x0, x1, x2, x3, x4, x5, x6, x7, x8, x9, x10, x11, x12, x13, x14, x15, y0, y1, y2, y3, y4, y5, y6, y7, y8, y9, y10, y11, y12, y13, y14, y15]) (.inr rfl)).symm.trans h)
  · exact Bool.noConfusion ((not_found (op := 24) (w := false) (l := [x0, x1, x2, x3, x4, x5, x6, x7, x8, x9, x10, x11, x12, x13, x14, x15, y0, y1, y2, y3, y4, y5, y6, y7, y8, y9, y10, y11, y12, y13, y14, y15]) (.inl (show (16 : Nat) ≠ 32 by decide))).symm.trans h)
  · obtain ⟨b, c, e⟩ := of_found (op := 24) (w := true) rfl (by decide) h
    obtain ⟨s1, s2, s3⟩ := sd_24w _ _ _ _ _ _ _ _ _ _ _ _ _ _ _ _ _ _ _ _ _ _ _ _ _ _ _ _ _ _ _ _ b c
    rw [e]
    exact ⟨s1, s2, s3⟩
  · exact Bool.noConfusion ((not_found (op := 25) (w := false) (l := [x0, x1, x2, x3, x4, x5, x6, x7, x8, x9, x10, x11, x12, x13, x14, x15, y0, y1, y2, y3, y4, y5, y6, y7, y8, y9, y10, y11, y12, y13, y14, y15]) (.inl (show (16 : Nat) ≠ 32 by decide))).symm.trans h)
  · obtain ⟨b, c, e⟩ := of_found (op := 25) (w := true) rfl (by decide) h
    obtain ⟨s1, s2, s3⟩ := sd_25w _ _ _ _ _ _ _ _ _ _ _ _ _ _ _ _ _ _ _ _ _ _ _ _ _ _ _ _ _ _ _ _ b c
    rw [e]
    exact ⟨s1, s2, s3⟩

theorem enc1_dec {i : tIns.den} {l : List Bool} (h : Enc1 i l) : dNarrow l = some i := by
  obtain ⟨op, rd, rn, rm, ra, imm, cond, w, rfl, _, hok, hlen, hl⟩ := h
  have e : e1 op rd rn rm ra imm cond w = l := by
    unfold e1
    rw [List.take_of_length_le (by omega)]
    exact hl
  rcases two_ok op rd rn rm ra imm cond w hok with ⟨_, _, h3⟩ | ⟨h1, _, _⟩
  · rw [← e]; exact h3
  · omega
theorem enc2_dec {i : tIns.den} {lx ly : List Bool} (h : Enc2 i lx ly) : dLong lx ly = some i := by
  obtain ⟨op, rd, rn, rm, ra, imm, cond, w, rfl, _, hok, hlen, hl, hl2⟩ := h
  have e : e1 op rd rn rm ra imm cond w = lx := hl
  have f : e2 op rd rn rm ra imm cond w = ly := hl2
  rcases two_ok op rd rn rm ra imm cond w hok with ⟨h1, _, _⟩ | ⟨_, _, h3⟩
  · omega
  · rw [← e, ← f]; exact h3
theorem bits_ne {op : Int} {w : Bool} {n : Nat} (h : (V_hauberkref02_Bits (op, w)).length = n + 1) : V_hauberkref02_Bits (op, w) ≠ [] := fun e => by rw [e] at h; cases h
theorem conv_any {op rd rn rm ra imm cond : Int} {w : Bool} {l : List Bool} (hr : iRow op w l = (op, rd, rn, rm, ra, imm, cond, w, ())) (hok : okB op rd rn rm ra imm cond w = true) (hlen : (V_hauberkref02_Bits (op, w)).length = l.length) (hb : badR op w l = false) (hne : V_hauberkref02_Bits (op, w) ≠ []) :
    V_hauberkref03_read (op, w, tx l) = ((op, rd, rn, rm, ra, imm, cond, w, ()), true, ()) := by
  have hc : V_hauberkref02_Check (op, rd, rn, rm, ra, imm, cond, w, ()) = 0 := by rw [← check_same]; exact (check_iff op rd rn rm ra imm cond w).2 hok
  unfold V_hauberkref03_read PO.getO
  rw [refread_T op w l hlen hne, hb, hr, hc]
  rfl
theorem ok_op {op rd rn rm ra imm cond : Int} {w : Bool} (h : okB op rd rn rm ra imm cond w = true) : 1 ≤ op ∧ op ≤ 25 := (check_bounds ((check_iff op rd rn rm ra imm cond w).2 h)).1

/-! ### The document's loop over all operations -/
section
variable (t : List UInt8) (n : Int) (hG : ∀ (op : Int) (w : Bool), G_hauberkref03_read (op, w, t) = true)
include hG
theorem ref_step (op : Int) (h1 : op ≤ 25) (h0 : 0 ≤ op) (hf : ∀ w, (V_hauberkref03_read (op, w, t)).2.1 = false) : (L_hauberkref03_Decode_8.turn ((), 0, 0, n, t, 1) zI (0, 0, op, zI)).val = some (.on (0, 0, op + 1, zI)) := by
  dsimp only [L_hauberkref03_Decode_8]
  refine (val_yes (dec_true h1)).trans ((val_yes (hG op false)).trans ((val_no (hf false)).trans ((val_yes (hG op true)).trans ((val_no (hf true)).trans ?_))))
  rw [w64_id (n := op + 1) (by omega) (by omega)]
  rfl
theorem ref_none (hf : ∀ (op : Int) (w : Bool), (V_hauberkref03_read (op, w, t)).2.1 = false) : ∀ (k : Nat) (op : Int), op + k = 26 → 1 ≤ op → ∀ f, k < f → runL (L_hauberkref03_Decode_8.turn ((), 0, 0, n, t, 1) zI) f (0, 0, op, zI) = some (0, 0, 0, 26, zI)
  | 0, op, h, _, f, hf' => by
    obtain ⟨f, rfl⟩ : ∃ g, f = g + 1 := ⟨f - 1, by omega⟩
    refine (runL_out (c := 0) (s' := (0, 0, op, zI)) ?_).trans (by rw [show op = 26 by omega])
    dsimp only [L_hauberkref03_Decode_8]
    exact (val_no (dec_false (p := op ≤ 25) (by omega))).trans rfl
  | k + 1, op, h, h1, f, hf' => by
    obtain ⟨f, rfl⟩ : ∃ g, f = g + 1 := ⟨f - 1, by omega⟩
    exact (runL_on (ref_step t n hG op (by omega) (by omega) (hf op))).trans (ref_none hf k (op + 1) (by omega) (by omega) f (by omega))
theorem ref_some {op0 : Int} {w0 : Bool} {i0 : tIns.den} (h25 : op0 ≤ 25) (hu : ∀ (op : Int) (w : Bool), (V_hauberkref03_read (op, w, t)).2.1 = true → op = op0 ∧ w = w0) (hi : V_hauberkref03_read (op0, w0, t) = (i0, true, ())) :
    ∀ (k : Nat) (op : Int), op + k = op0 → 1 ≤ op → ∀ f, k < f → runL (L_hauberkref03_Decode_8.turn ((), 0, 0, n, t, 1) zI) f (0, 0, op, zI) = some (1, n, 0, op0, i0)
  | 0, op, h, _, f, hf' => by
    obtain ⟨f, rfl⟩ : ∃ g, f = g + 1 := ⟨f - 1, by omega⟩
    obtain rfl : op = op0 := by omega
    refine runL_out (c := 1) (s' := (n, 0, op, i0)) ?_
    dsimp only [L_hauberkref03_Decode_8]
    refine (val_yes (dec_true h25)).trans ((val_yes (hG op false)).trans ?_)
    cases w0
    · refine (val_yes (by rw [hi])).trans ?_
      rw [hi]
      rfl
    · have hn : (V_hauberkref03_read (op, false, t)).2.1 = false := by
        cases e : (V_hauberkref03_read (op, false, t)).2.1
        · rfl
        · exact Bool.noConfusion (hu op false e).2
      refine (val_no hn).trans ((val_yes (hG op true)).trans ((val_yes (by rw [hi])).trans ?_))
      rw [hi]
      rfl
  | k + 1, op, h, h1, f, hf' => by
    obtain ⟨f, rfl⟩ : ∃ g, f = g + 1 := ⟨f - 1, by omega⟩
    have hf : ∀ w, (V_hauberkref03_read (op, w, t)).2.1 = false := fun w => by
      cases e : (V_hauberkref03_read (op, w, t)).2.1
      · rfl
      · have := (hu op w e).1
        omega
    exact (runL_on (ref_step t n hG op (by omega) (by omega) hf)).trans (ref_some h25 hu hi k (op + 1) (by omega) (by omega) f (by omega))
end
/-- The loop's end, where the program decodes. -/
theorem loop16 (l : List Bool) (hl : l.length = 16) : LoopN.res L_hauberkref03_Decode_8 ((), 0, 0, 2, tx l, 1) zI = (match dNarrow l with | some i => some (1, 2, 0, i.1, i) | none => some (0, 0, 0, 26, zI)) := by
  have hG := fun op w => read_G op w l
  have huniq : ∀ (op : Int) (w : Bool), (V_hauberkref03_read (op, w, tx l)).2.1 = true → dNarrow l = some (V_hauberkref03_read (op, w, tx l)).1 ∧ (V_hauberkref03_read (op, w, tx l)).1.1 = op ∧ (V_hauberkref03_read (op, w, tx l)).1.2.2.2.2.2.2.2.1 = w := by
    obtain ⟨x0, x1, x2, x3, x4, x5, x6, x7, x8, x9, x10, x11, x12, x13, x14, x15, rfl⟩ := len16 hl
    intro op w h
    obtain ⟨a, b, c⟩ := found16 x0 x1 x2 x3 x4 x5 x6 x7 x8 x9 x10 x11 x12 x13 x14 x15 op w h
    exact ⟨enc1_dec a, b, c⟩
  cases hd : dNarrow l with
  | none =>
    refine ref_none (tx l) 2 hG (fun op w => ?_) 25 1 (by omega) (by omega) 30 (by omega)
    cases e : (V_hauberkref03_read (op, w, tx l)).2.1
    · rfl
    · have := (huniq op w e).1
      rw [hd] at this
      cases this
  | some i =>
    obtain ⟨op, rd, rn, rm, ra, imm, cond, w, rfl, hr, hok, hlen, hh⟩ := narrow_enc hl hd
    have hb := ok_op hok
    refine ref_some (tx l) 2 hG hb.2 (fun op' w' e => ?_) (conv_any hr hok (by rw [← hh, hl_len]) (by unfold badR; rw [← hh]; exact bad_hl (fun _ => rfl) (fun _ => rfl) _) (bits_ne hlen)) (op - 1).toNat 1 (by omega) (by omega) 30 (by omega)
    obtain ⟨a, b, c⟩ := huniq op' w' e
    rw [hd] at a
    have a := Option.some.inj a
    rw [← a] at b c
    exact ⟨b.symm, c.symm⟩
theorem loop32 (lx ly : List Bool) (hx : lx.length = 16) (hy : ly.length = 16) : LoopN.res L_hauberkref03_Decode_8 ((), 0, 0, 4, tx lx ++ tx ly, 1) zI = (match dLong lx ly with | some i => some (1, 4, 0, i.1, i) | none => some (0, 0, 0, 26, zI)) := by
  have htx : tx lx ++ tx ly = tx (lx ++ ly) := (List.map_append ..).symm
  rw [htx]
  have hG := fun op w => read_G op w (lx ++ ly)
  have huniq : ∀ (op : Int) (w : Bool), (V_hauberkref03_read (op, w, tx (lx ++ ly))).2.1 = true → dLong lx ly = some (V_hauberkref03_read (op, w, tx (lx ++ ly))).1 ∧ (V_hauberkref03_read (op, w, tx (lx ++ ly))).1.1 = op ∧ (V_hauberkref03_read (op, w, tx (lx ++ ly))).1.2.2.2.2.2.2.2.1 = w := by
    obtain ⟨x0, x1, x2, x3, x4, x5, x6, x7, x8, x9, x10, x11, x12, x13, x14, x15, rfl⟩ := len16 hx
    obtain ⟨y0, y1, y2, y3, y4, y5, y6, y7, y8, y9, y10, y11, y12, y13, y14, y15, rfl⟩ := len16 hy
    intro op w h
    obtain ⟨a, b, c⟩ := found32 x0 x1 x2 x3 x4 x5 x6 x7 x8 x9 x10 x11 x12 x13 x14 x15 y0 y1 y2 y3 y4 y5 y6 y7 y8 y9 y10 y11 y12 y13 y14 y15 op w h
    exact ⟨enc2_dec a, b, c⟩
  cases hd : dLong lx ly with
  | none =>
    refine ref_none (tx (lx ++ ly)) 4 hG (fun op w => ?_) 25 1 (by omega) (by omega) 30 (by omega)
    cases e : (V_hauberkref03_read (op, w, tx (lx ++ ly))).2.1
    · rfl
    · have := (huniq op w e).1
      rw [hd] at this
      cases this
  | some i =>
    obtain ⟨op, rd, rn, rm, ra, imm, cond, w, rfl, hr, hok, hlen, hh, hh2⟩ := long_enc hx hy hd
    have hb := ok_op hok
    have hbad : badR op w (lx ++ ly) = false := by
      unfold badR
      rw [show (V_hauberkref02_Bits (op, w)) = (V_hauberkref02_Bits (op, w)).take 16 ++ (V_hauberkref02_Bits (op, w)).drop 16 from (List.take_append_drop ..).symm, List.zip_append (by rw [List.length_take, hx]; omega), List.any_append, ← hh, ← hh2,
        bad_hl (fun _ => rfl) (fun _ => rfl) _, bad_hl (fun _ => rfl) (fun _ => rfl) _]
      rfl
    refine ref_some (tx (lx ++ ly)) 4 hG hb.2 (fun op' w' e => ?_) (conv_any hr hok (by rw [List.length_append]; omega) hbad (bits_ne hlen)) (op - 1).toNat 1 (by omega) (by omega) 30 (by omega)
    obtain ⟨a, b, c⟩ := huniq op' w' e
    rw [hd] at a
    have a := Option.some.inj a
    rw [← a] at b c
    exact ⟨b.symm, c.symm⟩
end Go.Av
end
/-! Any bytes are the instruction that the document says: proved of what the functions compute. -/
section
namespace Go.Av
open Go
theorem five (l : List Bool) (hl : l.length = 16) : (List.drop (Int.toNat 0) (List.take (Int.toNat 5) (tx l)) == [49, 49, 49, 48, 49] || (List.drop (Int.toNat 0) (List.take (Int.toNat 5) (tx l)) == [49, 49, 49, 49, 48] || List.drop (Int.toNat 0) (List.take (Int.toNat 5) (tx l)) == [49, 49, 49, 49, 49])) = isL l := by
  obtain ⟨x0, x1, x2, x3, x4, x5, x6, x7, x8, x9, x10, x11, x12, x13, x14, x15, rfl⟩ := len16 hl
  cases x0 <;> cases x1 <;> cases x2 <;> cases x3 <;> cases x4 <;> rfl
theorem size_T (s : List UInt8) : (T_hauberkref03_Size s).val = some (V_decode_Size s) := by
  unfold T_hauberkref03_Size V_decode_Size
  have key : ∀ b : Bool, b = false ∨ b = true := by decide
  rcases key (decide (lenI s < 2)) with h2 | h2
  · have h2' : ¬ ((s.length : Nat) : Int) < 2 := of_decide_eq_false h2
    have g : G_hauberkref03_half (s, 0) = true := by
      simp only [G_hauberkref03_half, Bool.or_eq_true, Bool.and_eq_true, beq_iff_eq, decide_eq_true_eq]
      exact .inl ⟨trivial, by show (2 : Int) ≤ ((s.length : Nat) : Int); omega⟩
    have hv : V_hauberkref03_half (s, 0) = tx (hx s 0) := rfl
    have hb : Nat.ble 59392 (halfN s 0) = isL (hx s 0) := by rw [← isL_ble (hx_len s 0), hb_hx]
    have h5 : decide (5 ≤ lenI (tx (hx s 0))) = true := dec_true (by simp only [lenI, tx_len, hx_len]; omega)
    refine (val_no h2).trans ((val_yes (by rw [g, hv, h5]; rfl)).trans ?_)
    rw [h2, hb, hv]
    rcases key (isL (hx s 0)) with hi | hi
    · refine (val_no (by rw [five _ (hx_len s 0), hi])).trans ?_
      rw [hi]
      rfl
    · refine (val_yes (by rw [five _ (hx_len s 0), hi])).trans ?_
      rw [hi]
      rfl
  · refine (val_yes h2).trans ?_
    rw [h2]
    rfl
theorem size_GV (s : List UInt8) : G_hauberkref03_Size s = true ∧ V_hauberkref03_Size s = V_decode_Size s := by
  have h := size_T s
  exact ⟨by unfold G_hauberkref03_Size; rw [h]; rfl, by unfold V_hauberkref03_Size PO.getO; rw [h]; rfl⟩
theorem refdec_T (s : List UInt8) : (T_hauberkref03_Decode s).val = some (dDec s) := by
  obtain ⟨gs, vs⟩ := size_GV s
  have key : ∀ b : Bool, b = false ∨ b = true := by decide
  unfold T_hauberkref03_Decode
  rw [vs]
  refine (val_yes gs).trans ?_
  unfold dDec
  rcases key (decide (lenI s < 2)) with h2 | h2
  · have h2' : ¬ ((s.length : Nat) : Int) < 2 := of_decide_eq_false h2
    have g : G_hauberkref03_half (s, 0) = true := by
      simp only [G_hauberkref03_half, Bool.or_eq_true, Bool.and_eq_true, beq_iff_eq, decide_eq_true_eq]
      exact .inl ⟨trivial, by show (2 : Int) ≤ ((s.length : Nat) : Int); omega⟩
    have hv : V_hauberkref03_half (s, 0) = tx (hx s 0) := rfl
    rcases key (Nat.ble 59392 (halfN s 0)) with hb | hb
    · have hs : V_decode_Size s = 2 := by unfold V_decode_Size; rw [h2, hb]; rfl
      rw [hs, h2, hb]
      refine (val_no (by rfl)).trans ((val_yes g).trans ((val_yes (by rfl)).trans ?_))
      have hl := loop16 (hx s 0) (hx_len s 0)
      cases hd : dNarrow (hx s 0) with
      | none =>
        rw [hd] at hl
        refine (val_opt hl).trans ?_
        rfl
      | some i =>
        rw [hd] at hl
        refine (val_opt hl).trans ?_
        rfl
    · have hs : V_decode_Size s = 4 := by unfold V_decode_Size; rw [h2, hb]; rfl
      rw [hs, h2, hb]
      rcases key (decide (lenI s < 4)) with h4 | h4
      · have h4' : ¬ ((s.length : Nat) : Int) < 4 := of_decide_eq_false h4
        have g1 : G_hauberkref03_half (s, 1) = true := by
          simp only [G_hauberkref03_half, Bool.or_eq_true, Bool.and_eq_true, beq_iff_eq, decide_eq_true_eq]
          exact .inr ⟨trivial, by show (4 : Int) ≤ ((s.length : Nat) : Int); omega⟩
        have hv1 : V_hauberkref03_half (s, 1) = tx (hx s 1) := rfl
        have hroom : Nat.ble (List.length (V_hauberkref03_half (s, 0)) + List.length (V_hauberkref03_half (s, 1))) 9223372036854775807 = true := by
          rw [hv, hv1, tx_len, tx_len, hx_len, hx_len]
          decide
        rw [h4]
        refine (val_no (by rfl)).trans ((val_yes g).trans ((val_yes (by rw [g1, hroom]; rfl)).trans ?_))
        have hl := loop32 (hx s 0) (hx s 1) (hx_len s 0) (hx_len s 1)
        cases hd : dLong (hx s 0) (hx s 1) with
        | none =>
          rw [hd] at hl
          refine (val_opt hl).trans ?_
          rfl
        | some i =>
          rw [hd] at hl
          refine (val_opt hl).trans ?_
          rfl
      · rw [h4]
        refine (val_yes (by rfl)).trans ?_
        rfl
  · have hs : V_decode_Size s = 0 := by unfold V_decode_Size; rw [h2]; rfl
    rw [hs, h2]
    refine (val_yes (by rfl)).trans ?_
    rfl
theorem law_hauberklaw03_DecodeBytes (x : dens A_hauberklaw03_DecodeBytes) (_ : fitsAll maxLen A_hauberklaw03_DecodeBytes x) : (T_hauberklaw03_DecodeBytes x).val = some true := by
  obtain ⟨gs, vs⟩ := size_GV x
  have hr := refdec_T x
  have gr : G_hauberkref03_Decode x = true := by unfold G_hauberkref03_Decode; rw [hr]; rfl
  have vr : V_hauberkref03_Decode x = dDec x := by unfold V_hauberkref03_Decode PO.getO; rw [hr]; rfl
  have er : Ty.eqb tIns (dDec x).1 (dDec x).1 = true := eqb_refl tIns _
  unfold T_hauberklaw03_DecodeBytes
  dsimp only [PO.val]
  rw [decode_G, decode_V, gr, vr, gs, vs, er]
  simp
end Go.Av
end
/-! Any bytes are the instructions, one behind the other, that the document says: proved of what the functions compute. -/
section
namespace Go.Av
open Go
theorem refdec_GV (s : List UInt8) : G_hauberkref03_Decode s = true ∧ V_hauberkref03_Decode s = dDec s := by
  have hr := refdec_T s
  exact ⟨by unfold G_hauberkref03_Decode; rw [hr]; rfl, by unfold V_hauberkref03_Decode PO.getO; rw [hr]; rfl⟩
theorem seqD_len : ∀ (n : Nat) (s : List UInt8), (seqD n s).1.length ≤ s.length
  | 0, _ => Nat.zero_le _
  | n + 1, s => by
    by_cases hs : s = []
    · subst hs; rw [seqD_nil]; exact Nat.zero_le _
    · by_cases he : (dDec s).2.2.1 = 0
      · rw [seqD_ok hs he]
        have h := dDec_size he
        have ih := seqD_len n (s.drop (dDec s).2.1.toNat)
        simp only [List.length_cons, List.length_drop] at ih ⊢
        have := List.length_pos_iff.2 hs
        omega
      · rw [seqD_err hs he]; exact Nat.zero_le _
theorem refall_loop (s : List UInt8) (hs : s.length ≤ 1048576) (y : dens []) : ∀ (m i : Nat) (acc : List tIns.den), i + m ≥ s.length → i ≤ s.length → acc.length ≤ i →
    ∃ at', runL (L_hauberkref03_All_3.turn (s, [], 0, [], 0) ()) (m + 1) ([], 0, acc, (i : Int)) = some (bif (seqD m (s.drop i)).2 == 0 then 0 else 1, ([], (seqD m (s.drop i)).2, acc ++ (seqD m (s.drop i)).1, at'))
  | m, i, acc, h1, h2, h3 => by
    have hi64 : s.length < 9223372036854775808 := by omega
    have e0 : ∀ k, (s.take (lenI s).toNat).drop k = s.drop k := fun k => by rw [show (lenI s).toNat = s.length from Int.toNat_natCast _, List.take_length]
    obtain ⟨gd, vd⟩ := refdec_GV (s.drop i)
    by_cases hlt : i < s.length
    · obtain ⟨m, rfl⟩ : ∃ k, m = k + 1 := ⟨m - 1, by omega⟩
      have hne : s.drop i ≠ [] := by
        intro e
        have := congrArg List.length e
        simp only [List.length_drop, List.length_nil] at this
        omega
      have d1 : decide ((i : Int) < lenI s) = true := dec_true (by simp only [lenI]; omega)
      have d2 : (decide (lenI s ≤ lenI s) && decide (0 ≤ (i : Int)) && decide ((i : Int) ≤ lenI s)) = true := by
        rw [dec_true (Int.le_refl _), dec_true (show (0 : Int) ≤ (i : Int) by omega), dec_true (show (i : Int) ≤ lenI s by simp only [lenI]; omega)]
        rfl
      by_cases he : (dDec (s.drop i)).2.2.1 = 0
      · have hsz := dDec_size he
        simp only [List.length_drop] at hsz
        have turn : (L_hauberkref03_All_3.turn (s, [], 0, [], 0) () ([], 0, acc, (i : Int))).val = some (.on ([], 0, acc ++ [(dDec (s.drop i)).1], ((i + (dDec (s.drop i)).2.1.toNat : Nat) : Int))) := by
          refine (val_yes d1).trans ((val_yes d2).trans ?_)
          dsimp only
          rw [Int.toNat_natCast, e0, vd]
          refine (val_yes gd).trans ((val_no (by rw [he]; rfl)).trans ((val_yes ?_).trans ?_))
          · simp only [List.length_singleton]
            exact Nat.ble_eq_true_of_le (by omega)
          · rw [w64_id (by omega) (by omega), show (i : Int) + (dDec (s.drop i)).2.1 = ((i + (dDec (s.drop i)).2.1.toNat : Nat) : Int) by omega]
            rfl
        obtain ⟨at', ih⟩ := refall_loop s hs y m (i + (dDec (s.drop i)).2.1.toNat) (acc ++ [(dDec (s.drop i)).1]) (by omega) (by omega) (by simp only [List.length_append, List.length_singleton]; omega)
        refine ⟨at', (runL_on turn).trans (ih.trans ?_)⟩
        rw [seqD_ok hne he, List.drop_drop]
        simp only [List.append_assoc, List.singleton_append]
        first | rfl | skip
      · have turn : (L_hauberkref03_All_3.turn (s, [], 0, [], 0) () ([], 0, acc, (i : Int))).val = some (.out 1 ([], (dDec (s.drop i)).2.2.1, acc, (i : Int))) := by
          refine (val_yes d1).trans ((val_yes d2).trans ?_)
          dsimp only
          rw [Int.toNat_natCast, e0, vd]
          refine (val_yes gd).trans ((val_yes ?_).trans rfl)
          simpa using he
        refine ⟨(i : Int), (runL_out turn).trans ?_⟩
        rw [seqD_err hne he]
        simp only [List.append_nil, show ((dDec (s.drop i)).2.2.1 == 0) = false from by simpa using he, cond_false]
    · have hd : s.drop i = [] := List.drop_of_length_le (by omega)
      have d1 : decide ((i : Int) < lenI s) = false := dec_false (by simp only [lenI]; omega)
      have turn : (L_hauberkref03_All_3.turn (s, [], 0, [], 0) () ([], 0, acc, (i : Int))).val = some (.out 0 ([], 0, acc, (i : Int))) := (val_no d1).trans rfl
      refine ⟨(i : Int), (runL_out turn).trans ?_⟩
      rw [hd, seqD_nil]
      simp

theorem seqD_more : ∀ (n m : Nat) (s : List UInt8), s.length ≤ n → s.length ≤ m → seqD n s = seqD m s
  | n, m, s, h1, h2 => by
    by_cases hs : s = []
    · subst hs; rw [seqD_nil, seqD_nil]
    · have hp := List.length_pos_iff.2 hs
      obtain ⟨n, rfl⟩ : ∃ k, n = k + 1 := ⟨n - 1, by omega⟩
      obtain ⟨m, rfl⟩ : ∃ k, m = k + 1 := ⟨m - 1, by omega⟩
      by_cases he : (dDec s).2.2.1 = 0
      · have h := dDec_size he
        have ih := seqD_more n m (s.drop (dDec s).2.1.toNat) (by rw [List.length_drop]; omega) (by rw [List.length_drop]; omega)
        rw [seqD_ok hs he, seqD_ok hs he, ih]
      · rw [seqD_err hs he, seqD_err hs he]
  termination_by n => n

theorem refall_GV (s : List UInt8) (hs : s.length ≤ 1048576) : G_hauberkref03_All s = true ∧ (V_hauberkref03_All s).1 = (V_decode_All s).1 ∧ (V_hauberkref03_All s).2.1 = (V_decode_All s).2.1 := by
  obtain ⟨at', h⟩ := refall_loop s hs () s.length 0 [] (by omega) (by omega) (Nat.le_refl _)
  rw [List.drop_zero, List.nil_append] at h
  have hT : (T_hauberkref03_All s).val = some (V_decode_All s) := by
    refine (val_opt h).trans ?_
    cases hb : ((seqD s.length s).2 == 0)
    · rw [cond_false]
      unfold V_decode_All
      rw [hb]
      rfl
    · rw [cond_true]
      unfold V_decode_All
      rw [hb]
      have : (seqD s.length s).2 = 0 := by simpa using hb
      rw [this]
      rfl
  exact ⟨by unfold G_hauberkref03_All; rw [hT]; rfl, by unfold V_hauberkref03_All PO.getO; rw [hT]; rfl, by unfold V_hauberkref03_All PO.getO; rw [hT]; rfl⟩

theorem same_ins (a : List tIns.den) (ha : a.length ≤ 1048576) : G_hauberk_hauberklaw03_Code_Same (a, a) = true ∧ V_hauberk_hauberklaw03_Code_Same (a, a) = true := by
  have hl := runL_count (turn := L_hauberk_hauberklaw03_Code_Same_4.turn (a, a, false, 0) ()) (fun i => (false, (i : Int))) (0, (false, (a.length : Int))) (n := a.length) (fun i hi => ?_) ?_ a.length 0 (by omega) (a.length + 1) (by omega)
  · have hT : (T_hauberk_hauberklaw03_Code_Same (a, a)).val = some true := by
      refine (val_no (b := lenI a != lenI a) (by simp)).trans ((val_opt hl).trans ?_)
      rfl
    exact ⟨by unfold G_hauberk_hauberklaw03_Code_Same; rw [hT]; rfl, by unfold V_hauberk_hauberklaw03_Code_Same PO.getO; rw [hT]; rfl⟩
  · refine (val_yes (dec_true (p := (i : Int) < lenI a) (by simp only [lenI]; omega))).trans ((val_yes (by rw [inR hi]; rfl)).trans ((val_no (by rw [eqb_refl]; rfl)).trans ?_))
    rw [w64_id (by omega) (by omega)]
    rfl
  · exact (val_no (dec_false (p := (a.length : Int) < lenI a) (by simp only [lenI]; omega))).trans rfl

theorem law_hauberklaw03_DecodeAll (x : dens A_hauberklaw03_DecodeAll) (_ : fitsAll maxLen A_hauberklaw03_DecodeAll x) : (T_hauberklaw03_DecodeAll x).val = some true := by
  have key : ∀ b : Bool, b = false ∨ b = true := by decide
  rcases key (decide (lenI x > 400)) with h | h
  · have h' : ¬ ((List.length x : Nat) : Int) > 400 := of_decide_eq_false h
    have hs : List.length x ≤ 1048576 := by omega
    obtain ⟨g, v1, v2⟩ := refall_GV x hs
    have hl : (V_decode_All x).1.length ≤ 1048576 := by
      have := seqD_len (List.length x) x
      unfold V_decode_All
      cases ((seqD (List.length x) x).2 == 0)
      · exact Nat.zero_le _
      · exact Nat.le_trans this hs
    obtain ⟨g2, v3⟩ := same_ins _ hl
    refine (val_no h).trans ((val_yes (ok_decode_All x hs)).trans ((val_yes g).trans ?_))
    rw [v1, v2, g2, v3]
    simp [PO.val]
  · exact (val_yes h).trans rfl
end Go.Av
end
/-! Layer 3's statements: DecodeRow. -/
section
namespace Go.Av
open Go
def L_hauberklaw03_DecodeRow_6 : LoopN where
  M := [0, 1, 4, 5, 6, 7]
  T := [8, 9, 20, 21, 22, 23, 24, 25, 26, 27, 28, 29, 30, 31, 32, 33, 34, 35, 36, 37, 38, 39, 40, 41, 42, 43, 44]
  D := [7]
  ss := [.ty (.sl tIns), .ty (.int .i64), .ty .bool, .ty .str, .osl 0 (.int .i64), .ty (.int .i64)]
  hs := []
  es := [.exit 0, .ret]
  σ := (Ty.den .bool) × (Ty.den .str) × (List (Ty.den (.int .i64))) × (Ty.den (.int .i64))
  x0 := fun x _ => (x.2.2.1, x.2.2.2.1, x.2.2.2.2.1, x.2.2.2.2.2)
  put := fun x _ s => ((x.1, x.2.1, s.1, s.2.1, s.2.2.1, s.2.2.2), ())
  fuel := fun x _ => List.length x.1+1
  turn := fun x _ s =>
  (.ite (decide (s.2.2.2 < lenI x.1))
   (.ite (inRange s.2.2.2 (List.length x.1) && G_thumb_Encode (List.getD x.1 (Int.toNat s.2.2.2) (Ty.dflt tIns)))
    (.ite ((V_thumb_Encode (List.getD x.1 (Int.toNat s.2.2.2) (Ty.dflt tIns))).2.1 != 0)
     (.ret (.out 1 (true, s.2.1, s.2.2.1, s.2.2.2)))
     (.ite (Nat.ble (List.length s.2.1 + List.length (V_thumb_Encode (List.getD x.1 (Int.toNat s.2.2.2) (Ty.dflt tIns))).1) 9223372036854775807)
      (.ite (Nat.ble ((List.length s.2.2.1 + List.length [lenI (s.2.1 ++ (V_thumb_Encode (List.getD x.1 (Int.toNat s.2.2.2) (Ty.dflt tIns))).1)]) * 8) 140737488355328)
       (.ret (.on (s.1, s.2.1 ++ (V_thumb_Encode (List.getD x.1 (Int.toNat s.2.2.2) (Ty.dflt tIns))).1, s.2.2.1 ++ [lenI (s.2.1 ++ (V_thumb_Encode (List.getD x.1 (Int.toNat s.2.2.2) (Ty.dflt tIns))).1)], w64 (s.2.2.2 + 1))))
       .fail)
      .fail))
    .fail)
   (.ret (.out 0 (s.1, s.2.1, s.2.2.1, s.2.2.2))))
def L_hauberklaw03_DecodeRow_19 : LoopN where
  M := [1, 5, 6, 12, 13]
  T := [68, 69, 70, 71, 72, 73, 74, 75, 76, 77, 78, 79, 80, 81, 82]
  D := [6, 13]
  ss := [.ty (.int .i64), .ty .str, .ty (.sl (.int .i64)), .ty .bool, .ty (.int .i64)]
  hs := []
  es := [.exit 2]
  σ := (Ty.den .bool) × (Ty.den (.int .i64))
  x0 := fun x _ => (x.2.2.2.1, x.2.2.2.2)
  put := fun x _ s => ((x.1, x.2.1, x.2.2.1, s.1, s.2), ())
  fuel := fun x _ => List.length x.2.2.1+1
  turn := fun x _ s =>
  (.ite (decide (s.2 < lenI x.2.2.1))
   (.ite (s.1 || inRange s.2 (List.length x.2.2.1))
    (.ret (.on (s.1 || List.getD x.2.2.1 (Int.toNat s.2) (Ty.dflt (Ty.int IntKind.i64)) == x.1, w64 (s.2 + 1))))
    .fail)
   (.ret (.out 0 (s.1, s.2))))
/-- hauberklaw03.DecodeRow -/
abbrev A_hauberklaw03_DecodeRow : List Ty := [(.sl tIns), (.int .i64)]
abbrev S_hauberklaw03_DecodeRow : Sh := Sh.ty Ty.bool
def T_hauberklaw03_DecodeRow (x : dens A_hauberklaw03_DecodeRow) : PO (Sh.den S_hauberklaw03_DecodeRow) :=
  (.ite (decide (lenI x.1 > 60))
   (.ret (true))
   (.opt (LoopN.res L_hauberklaw03_DecodeRow_6 (x.1, x.2, false, [], [], 0) ()) fun p0 =>
    (.ite (way p0.1)
     (.ite (G_decode_All p0.2.2.1)
      (.ite ((V_decode_All p0.2.2.1).2.1 != 0 || G_hauberk_hauberklaw03_Code_Same ((V_decode_All p0.2.2.1).1, x.1))
       (.ite ((V_decode_All p0.2.2.1).2.1 != 0 || !V_hauberk_hauberklaw03_Code_Same ((V_decode_All p0.2.2.1).1, x.1))
        (.ret (false))
        (.ite (!IntKind.wrap IntKind.u64 (w64 (lenI p0.2.2.1 + 1)) == 0)
         (.opt (LoopN.res L_hauberklaw03_DecodeRow_19 (w64 (Int.tmod (IntKind.wrap IntKind.u64 x.2) (IntKind.wrap IntKind.u64 (w64 (lenI p0.2.2.1 + 1)))), p0.2.2.1, p0.2.2.2.1, w64 (Int.tmod (IntKind.wrap IntKind.u64 x.2) (IntKind.wrap IntKind.u64 (w64 (lenI p0.2.2.1 + 1)))) == 0, 0) ()) fun p1 =>
          (.ite (decide (0 ≤ w64 (Int.tmod (IntKind.wrap IntKind.u64 x.2) (IntKind.wrap IntKind.u64 (w64 (lenI p0.2.2.1 + 1))))) && decide (w64 (Int.tmod (IntKind.wrap IntKind.u64 x.2) (IntKind.wrap IntKind.u64 (w64 (lenI p0.2.2.1 + 1)))) ≤ lenI p0.2.2.1) && true && decide (0 ≤ w64 (Int.tmod (IntKind.wrap IntKind.u64 x.2) (IntKind.wrap IntKind.u64 (w64 (lenI p0.2.2.1 + 1))))) && G_decode_All (List.drop (Int.toNat 0) (List.take (Int.toNat (w64 (Int.tmod (IntKind.wrap IntKind.u64 x.2) (IntKind.wrap IntKind.u64 (w64 (lenI p0.2.2.1 + 1)))))) p0.2.2.1)))
           (.ite (bif (V_decode_All (List.drop (Int.toNat 0) (List.take (Int.toNat (w64 (Int.tmod (IntKind.wrap IntKind.u64 x.2) (IntKind.wrap IntKind.u64 (w64 (lenI p0.2.2.1 + 1)))))) p0.2.2.1))).2.1 == 0 then Int.tmod (w64 (Int.tmod (IntKind.wrap IntKind.u64 x.2) (IntKind.wrap IntKind.u64 (w64 (lenI p0.2.2.1 + 1))))) 2 == 0 || ((V_decode_All (List.drop (Int.toNat 0) (List.take (Int.toNat (w64 (Int.tmod (IntKind.wrap IntKind.u64 x.2) (IntKind.wrap IntKind.u64 (w64 (lenI p0.2.2.1 + 1)))))) p0.2.2.1))).2.1 == 3 || true) else bif !p1.2.1 then Int.tmod (w64 (Int.tmod (IntKind.wrap IntKind.u64 x.2) (IntKind.wrap IntKind.u64 (w64 (lenI p0.2.2.1 + 1))))) 2 == 0 || ((V_decode_All (List.drop (Int.toNat 0) (List.take (Int.toNat (w64 (Int.tmod (IntKind.wrap IntKind.u64 x.2) (IntKind.wrap IntKind.u64 (w64 (lenI p0.2.2.1 + 1)))))) p0.2.2.1))).2.1 == 3 || true) else true)
            (.ret (bif (V_decode_All (List.drop (Int.toNat 0) (List.take (Int.toNat (w64 (Int.tmod (IntKind.wrap IntKind.u64 x.2) (IntKind.wrap IntKind.u64 (w64 (lenI p0.2.2.1 + 1)))))) p0.2.2.1))).2.1 == 0 then Int.tmod (w64 (Int.tmod (IntKind.wrap IntKind.u64 x.2) (IntKind.wrap IntKind.u64 (w64 (lenI p0.2.2.1 + 1))))) 2 == 0 || (V_decode_All (List.drop (Int.toNat 0) (List.take (Int.toNat (w64 (Int.tmod (IntKind.wrap IntKind.u64 x.2) (IntKind.wrap IntKind.u64 (w64 (lenI p0.2.2.1 + 1)))))) p0.2.2.1))).2.1 == 3 && true else !p1.2.1 && (Int.tmod (w64 (Int.tmod (IntKind.wrap IntKind.u64 x.2) (IntKind.wrap IntKind.u64 (w64 (lenI p0.2.2.1 + 1))))) 2 == 0 || (V_decode_All (List.drop (Int.toNat 0) (List.take (Int.toNat (w64 (Int.tmod (IntKind.wrap IntKind.u64 x.2) (IntKind.wrap IntKind.u64 (w64 (lenI p0.2.2.1 + 1)))))) p0.2.2.1))).2.1 == 3 && true)))
            .fail)
           .fail))
         .fail))
       .fail)
      .fail)
     (.ret (p0.2.1)))))
end Go.Av
end
/-! Layer 3's statements: DecodeBack. -/
section
namespace Go.Av
open Go
/-- hauberklaw03.DecodeBack -/
abbrev A_hauberklaw03_DecodeBack : List Ty := [tIns, .str]
abbrev S_hauberklaw03_DecodeBack : Sh := Sh.ty Ty.bool
def T_hauberklaw03_DecodeBack (x : dens A_hauberklaw03_DecodeBack) : PO (Sh.den S_hauberklaw03_DecodeBack) :=
  (.ite (G_thumb_Encode x.1)
   (.ite ((V_thumb_Encode x.1).2.1 != 0)
    (.ret (true))
    (.ite (Nat.ble (List.length (V_thumb_Encode x.1).1 + List.length x.2) 9223372036854775807)
     (.ite (G_decode_Decode ((V_thumb_Encode x.1).1 ++ x.2))
      (.ite (bif Ty.eqb tIns (V_decode_Decode ((V_thumb_Encode x.1).1 ++ x.2)).1 x.1 then bif (V_decode_Decode ((V_thumb_Encode x.1).1 ++ x.2)).2.1 == lenI (V_thumb_Encode x.1).1 then bif (V_decode_Decode ((V_thumb_Encode x.1).1 ++ x.2)).2.2.1 == 0 then V_decode_Size (V_thumb_Encode x.1).1 == lenI (V_thumb_Encode x.1).1 || true else true else true else true)
       (.ret (Ty.eqb tIns (V_decode_Decode ((V_thumb_Encode x.1).1 ++ x.2)).1 x.1 && ((V_decode_Decode ((V_thumb_Encode x.1).1 ++ x.2)).2.1 == lenI (V_thumb_Encode x.1).1 && ((V_decode_Decode ((V_thumb_Encode x.1).1 ++ x.2)).2.2.1 == 0 && (V_decode_Size (V_thumb_Encode x.1).1 == lenI (V_thumb_Encode x.1).1 && true)))))
       .fail)
      .fail)
     .fail))
   .fail)
end Go.Av
end
/-! An instruction's bytes, with whatever behind them, are decoded as it: proved of what the functions compute. -/
section
namespace Go.Av
open Go
theorem thumb_enc (op rd rn rm ra imm cond : Int) (w : Bool) : G_thumb_Encode (op, rd, rn, rm, ra, imm, cond, w, ()) = true ∧
    ((okB op rd rn rm ra imm cond w = true ∧ V_thumb_Encode (op, rd, rn, rm, ra, imm, cond, w, ()) = (eBytes op rd rn rm ra imm cond w, 0, ())) ∨ (okB op rd rn rm ra imm cond w = false ∧ ∃ e : Int, e ≠ 0 ∧ V_thumb_Encode (op, rd, rn, rm, ra, imm, cond, w, ()) = ([], e, ()))) := by
  cases h : okB op rd rn rm ra imm cond w
  · obtain ⟨e, h1, h2⟩ := enc_bad op rd rn rm ra imm cond w h
    exact ⟨by unfold G_thumb_Encode; rw [h2]; rfl, .inr ⟨rfl, e, h1, by unfold V_thumb_Encode PO.getO; rw [h2]; rfl⟩⟩
  · have h2 := enc_val op rd rn rm ra imm cond w h
    exact ⟨by unfold G_thumb_Encode; rw [h2]; rfl, .inl ⟨rfl, by unfold V_thumb_Encode PO.getO; rw [h2]; rfl⟩⟩
theorem size_bytes (op rd rn rm ra imm cond : Int) (w : Bool) (h : okB op rd rn rm ra imm cond w = true) : V_decode_Size (eBytes op rd rn rm ra imm cond w) = lenI (eBytes op rd rn rm ra imm cond w) := by
  have hd := dec_back op rd rn rm ra imm cond w h []
  rw [List.append_nil] at hd
  unfold dDec at hd
  unfold V_decode_Size
  rcases eBytes_len h with hl | hl
  · have e2 : decide (lenI (eBytes op rd rn rm ra imm cond w) < 2) = false := dec_false (by simp only [lenI, hl]; omega)
    have e4 : decide (lenI (eBytes op rd rn rm ra imm cond w) < 4) = true := dec_true (by simp only [lenI, hl]; omega)
    rw [e2, e4] at hd
    rw [e2]
    cases hb : Nat.ble 59392 (halfN (eBytes op rd rn rm ra imm cond w) 0)
    · simp only [lenI, hl]; rfl
    · rw [hb] at hd
      have := congrArg (fun p : D4 => p.2.2.1) hd
      cases this
  · have e2 : decide (lenI (eBytes op rd rn rm ra imm cond w) < 2) = false := dec_false (by simp only [lenI, hl]; omega)
    rw [e2] at hd
    rw [e2]
    cases hb : Nat.ble 59392 (halfN (eBytes op rd rn rm ra imm cond w) 0)
    · rw [hb] at hd
      have hd : dOut 2 (dNarrow (hx (eBytes op rd rn rm ra imm cond w) 0)) = ((op, rd, rn, rm, ra, imm, cond, w, ()), lenI (eBytes op rd rn rm ra imm cond w), 0, ()) := hd
      have h3 := congrArg (fun p : D4 => p.2.1) hd
      simp only [lenI, hl] at h3
      cases hn : dNarrow (hx (eBytes op rd rn rm ra imm cond w) 0) with
      | none => rw [hn] at h3; cases h3
      | some i => rw [hn] at h3; cases h3
    · simp only [lenI, hl]; rfl
theorem law_hauberklaw03_DecodeBack (x : dens A_hauberklaw03_DecodeBack) (h : fitsAll 1048576 A_hauberklaw03_DecodeBack x) : (T_hauberklaw03_DecodeBack x).val = some true := by
  obtain ⟨⟨op, rd, rn, rm, ra, imm, cond, w, u⟩, s⟩ := x
  have hs : List.length s ≤ 1048576 := h.2
  obtain ⟨g, ⟨hok, hv⟩ | ⟨_, e, he, hv⟩⟩ := thumb_enc op rd rn rm ra imm cond w
  · have hl := eBytes_len hok
    have hsz := size_bytes op rd rn rm ra imm cond w hok
    have hd := dec_back op rd rn rm ra imm cond w hok s
    unfold T_hauberklaw03_DecodeBack
    dsimp only [PO.val]
    rw [g, hv]
    dsimp only
    rw [decode_V, decode_G, hd, hsz, Nat.ble_eq_true_of_le (show (eBytes op rd rn rm ra imm cond w).length + List.length s ≤ 9223372036854775807 by omega)]
    have er : Ty.eqb tIns (op, rd, rn, rm, ra, imm, cond, w, ()) (op, rd, rn, rm, ra, imm, cond, w, ()) = true := eqb_refl tIns _
    dsimp only [PO.val]
    rw [er]
    simp
  · unfold T_hauberklaw03_DecodeBack
    dsimp only [PO.val]
    rw [g, hv]
    dsimp only
    rw [bne_iff_ne.2 he]
    rfl
end Go.Av
end
/-! Instructions' bytes, one behind the other, are decoded as them; cut within one they are not: proved of what the functions compute. -/
section
namespace Go.Av
open Go
def encB (i : tIns.den) : List UInt8 := eBytes i.1 i.2.1 i.2.2.1 i.2.2.2.1 i.2.2.2.2.1 i.2.2.2.2.2.1 i.2.2.2.2.2.2.1 i.2.2.2.2.2.2.2.1
def okI (i : tIns.den) : Bool := okB i.1 i.2.1 i.2.2.1 i.2.2.2.1 i.2.2.2.2.1 i.2.2.2.2.2.1 i.2.2.2.2.2.2.1 i.2.2.2.2.2.2.2.1
theorem encI (i : tIns.den) : G_thumb_Encode i = true ∧ ((okI i = true ∧ V_thumb_Encode i = (encB i, 0, ())) ∨ ∃ e : Int, e ≠ 0 ∧ V_thumb_Encode i = ([], e, ())) := by
  obtain ⟨op, rd, rn, rm, ra, imm, cond, w, u⟩ := i
  obtain ⟨g, h | ⟨_, e, he, h⟩⟩ := thumb_enc op rd rn rm ra imm cond w
  · exact ⟨g, .inl h⟩
  · exact ⟨g, .inr ⟨e, he, h⟩⟩
theorem dec_encB (i : tIns.den) (h : okI i = true) (s : List UInt8) : dDec (encB i ++ s) = (i, lenI (encB i), 0, ()) := by
  obtain ⟨op, rd, rn, rm, ra, imm, cond, w, u⟩ := i
  exact dec_back op rd rn rm ra imm cond w h s
theorem encB_len (i : tIns.den) (h : okI i = true) : (encB i).length = 2 ∨ (encB i).length = 4 := eBytes_len h
def cat (l : List tIns.den) : List UInt8 := l.flatMap encB
theorem cat_cons (i : tIns.den) (l : List tIns.den) : cat (i :: l) = encB i ++ cat l := by simp [cat]
theorem cat_even : ∀ (l : List tIns.den), (∀ i ∈ l, okI i = true) → (cat l).length % 2 = 0 ∧ (cat l).length ≤ 4 * l.length
  | [], _ => ⟨rfl, Nat.zero_le _⟩
  | i :: l, h => by
    obtain ⟨h1, h2⟩ := cat_even l (fun j hj => h j (by simp [hj]))
    rw [cat_cons, List.length_append, List.length_cons]
    rcases encB_len i (h i (by simp)) with e | e <;> omega
theorem seq_cat : ∀ (l : List tIns.den) (n : Nat), (∀ i ∈ l, okI i = true) → (cat l).length ≤ n → seqD n (cat l) = (l, 0)
  | [], n, _, _ => seqD_nil n
  | i :: l, n, h, hn => by
    have hi := h i (by simp)
    have hp : 0 < (encB i).length := by rcases encB_len i hi with e | e <;> omega
    rw [cat_cons, List.length_append] at hn
    obtain ⟨n, rfl⟩ : ∃ k, n = k + 1 := ⟨n - 1, by omega⟩
    have hd := dec_encB i hi (cat l)
    have hne : encB i ++ cat l ≠ [] := by
      intro e
      have := congrArg List.length e
      rw [List.length_append, List.length_nil] at this
      omega
    rw [cat_cons, seqD_ok hne (by rw [hd]), hd]
    simp only [lenI, Int.toNat_natCast, List.drop_left]
    rw [seq_cat l n (fun j hj => h j (by simp [hj])) (by omega)]
theorem halfN_two (a b : UInt8) (s t : List UInt8) : halfN (a :: b :: s) 0 = halfN (a :: b :: t) 0 := rfl
theorem encB_long (i : tIns.den) (h : okI i = true) (hl : (encB i).length = 4) : Nat.ble 59392 (halfN (encB i) 0) = true := by
  have hd := dec_encB i h []
  rw [List.append_nil] at hd
  unfold dDec at hd
  have e2 : decide (lenI (encB i) < 2) = false := dec_false (by simp only [lenI, hl]; omega)
  rw [e2] at hd
  cases hb : Nat.ble 59392 (halfN (encB i) 0)
  · rw [hb] at hd
    have h3 : (dOut 2 (dNarrow (hx (encB i) 0))).2.1 = lenI (encB i) := congrArg (fun p : D4 => p.2.1) hd
    simp only [lenI, hl] at h3
    cases hn : dNarrow (hx (encB i) 0) with
    | none => rw [hn] at h3; cases h3
    | some i => rw [hn] at h3; cases h3
  · rfl
theorem short_cut (i : tIns.den) (h : okI i = true) {c : Nat} (hc : c % 2 = 1) (hlt : c < (encB i).length) (r : List UInt8) : (dDec ((encB i ++ r).take c)).2.2.1 = 3 := by
  rcases encB_len i h with hl | hl
  · have hc1 : c = 1 := by omega
    subst hc1
    unfold dDec
    rw [dec_true (p := lenI ((encB i ++ r).take 1) < 2) (by simp only [lenI, List.length_take]; omega)]
    rfl
  · have hb := encB_long i h hl
    match he : encB i, hl with
    | [a, b, c', d], _ =>
      rw [he] at hb
      have hc13 : c = 1 ∨ c = 3 := by rw [he] at hlt; simp only [List.length_cons, List.length_nil] at hlt; omega
      rcases hc13 with rfl | rfl
      · rfl
      · show (dDec [a, b, c']).2.2.1 = 3
        unfold dDec
        rw [halfN_two a b [c'] [c', d], hb]
        rfl
theorem seq_cut : ∀ (l : List tIns.den) (c n : Nat), (∀ i ∈ l, okI i = true) → c % 2 = 1 → c < (cat l).length → c ≤ n → (seqD n ((cat l).take c)).2 = 3
  | [], c, _, _, _, hlt, _ => by simp [cat] at hlt
  | i :: l, c, n, h, hc, hlt, hn => by
    have hi := h i (by simp)
    obtain ⟨n, rfl⟩ : ∃ k, n = k + 1 := ⟨n - 1, by omega⟩
    rw [cat_cons, List.length_append] at hlt
    have hne : ∀ s : List UInt8, (s.take c).length = c → s.take c ≠ [] := fun s hs e => by
      rw [e] at hs
      simp only [List.length_nil] at hs
      omega
    rw [cat_cons]
    have hlen : ((encB i ++ cat l).take c).length = c := by rw [List.length_take, List.length_append]; omega
    by_cases hci : c < (encB i).length
    · have h3 := short_cut i hi hc hci (cat l)
      rw [seqD_err (hne _ hlen) (by rw [h3]; decide), h3]
    · have e : (encB i ++ cat l).take c = encB i ++ (cat l).take (c - (encB i).length) := by
        rw [List.take_append, List.take_of_length_le (by omega)]
      have hd := dec_encB i hi ((cat l).take (c - (encB i).length))
      have hev : (encB i).length % 2 = 0 ∧ 0 < (encB i).length := by rcases encB_len i hi with e | e <;> omega
      rw [e] at hlen ⊢
      rw [seqD_ok (by intro e'; rw [e'] at hlen; simp only [List.length_nil] at hlen; omega) (by rw [hd]), hd]
      simp only [lenI, Int.toNat_natCast, List.drop_left]
      exact seq_cut l (c - (encB i).length) n (fun j hj => h j (by simp [hj])) (by omega) (by omega) (by omega)
/-- Where instructions end. -/
def endsL (l : List tIns.den) : List Int := (List.range l.length).map fun j => lenI (cat (l.take (j + 1)))
theorem endsL_snoc (l : List tIns.den) (i : tIns.den) : endsL (l ++ [i]) = endsL l ++ [lenI (cat (l ++ [i]))] := by
  unfold endsL
  rw [List.length_append, List.length_singleton, List.range_succ, List.map_append]
  congr 1
  · refine List.map_congr_left (fun j hj => ?_)
    rw [List.mem_range] at hj
    rw [List.take_append_of_le_length (by omega)]
  · simp only [List.map_cons, List.map_nil]
    rw [List.take_of_length_le (by simp)]
/-- The first loop: all are encoded, or one is not. -/
theorem row_loop (l : List tIns.den) (cut : Int) (h60 : l.length ≤ 60) : ∀ (k i : Nat), i + k = l.length → (∀ j ∈ l.take i, okI j = true) →
    ((∀ j ∈ l, okI j = true) ∧ runL (L_hauberklaw03_DecodeRow_6.turn (l, cut, false, [], [], 0) ()) (k + 1) (false, cat (l.take i), endsL (l.take i), (i : Int)) = some (0, false, cat l, endsL l, (l.length : Int))) ∨
    ∃ s e n, runL (L_hauberklaw03_DecodeRow_6.turn (l, cut, false, [], [], 0) ()) (k + 1) (false, cat (l.take i), endsL (l.take i), (i : Int)) = some (1, true, s, e, n)
  | 0, i, hi, hok => by
    have e : l.take i = l := List.take_of_length_le (by omega)
    rw [e] at hok ⊢
    refine .inl ⟨hok, runL_out ?_⟩
    refine (val_no (dec_false (p := (i : Int) < lenI l) (by simp only [lenI]; omega))).trans ?_
    rw [show i = l.length by omega]
    rfl
  | k + 1, i, hi, hok => by
    have hlt : i < l.length := by omega
    have ht : l.take (i + 1) = l.take i ++ [l[i]] := List.take_succ_eq_append_getElem hlt
    have hg : l.getD (Int.toNat (i : Int)) (Ty.dflt tIns) = l[i] := by rw [Int.toNat_natCast]; exact getD_in l _ hlt
    obtain ⟨g, ⟨hok1, hv⟩ | ⟨e, he, hv⟩⟩ := encI l[i]
    · have hok' : ∀ j ∈ l.take (i + 1), okI j = true := by
        rw [ht]
        intro j hj
        rcases List.mem_append.1 hj with hj | hj
        · exact hok j hj
        · rw [List.mem_singleton.1 hj]; exact hok1
      have hc : cat (l.take i) ++ encB l[i] = cat (l.take (i + 1)) := by unfold cat; rw [ht, List.flatMap_append]; simp
      have hcl := (cat_even (l.take i) hok).2
      have hel : (endsL (l.take i)).length ≤ 60 := by unfold endsL; simp; omega
      have hen : (encB l[i]).length ≤ 4 := by rcases encB_len _ hok1 with e | e <;> omega
      have turn : (L_hauberklaw03_DecodeRow_6.turn (l, cut, false, [], [], 0) () (false, cat (l.take i), endsL (l.take i), (i : Int))).val = some (.on (false, cat (l.take (i + 1)), endsL (l.take (i + 1)), ((i + 1 : Nat) : Int))) := by
        refine (val_yes (dec_true (p := (i : Int) < lenI l) (by simp only [lenI]; omega))).trans ?_
        dsimp only
        rw [hg, hv]
        refine (val_yes (by rw [inR hlt, g]; rfl)).trans ((val_no (by rfl)).trans ((val_yes ?_).trans ((val_yes ?_).trans ?_)))
        · rw [List.length_take] at hcl
          show Nat.ble ((cat (l.take i)).length + (encB l[i]).length) 9223372036854775807 = true
          exact Nat.ble_eq_true_of_le (by omega)
        · simp only [List.length_singleton]
          exact Nat.ble_eq_true_of_le (by omega)
        · rw [hc, w64_id (by omega) (by omega), ht, endsL_snoc, ← ht]
          rfl
      rcases row_loop l cut h60 k (i + 1) (by omega) hok' with ⟨h1, h2⟩ | ⟨s, e, n, h2⟩
      · exact .inl ⟨h1, (runL_on turn).trans h2⟩
      · exact .inr ⟨s, e, n, (runL_on turn).trans h2⟩
    · refine .inr ⟨cat (l.take i), endsL (l.take i), (i : Int), runL_out ?_⟩
      · refine (val_yes (dec_true (p := (i : Int) < lenI l) (by simp only [lenI]; omega))).trans ?_
        dsimp only
        rw [hg, hv]
        refine (val_yes (by rw [inR hlt, g]; rfl)).trans ((val_yes ?_).trans rfl)
        simpa using he
/-- The second loop: is a number among the ends? -/
theorem ends_loop (c : Int) (s : List UInt8) (e : List Int) (b : Bool) (he : e.length ≤ 60) : ∀ (k i : Nat) (r : Bool), i + k = e.length →
    runL (L_hauberklaw03_DecodeRow_19.turn (c, s, e, b, 0) ()) (k + 1) (r, (i : Int)) = some (0, r || (e.drop i).any (· == c), (e.length : Int))
  | 0, i, r, hi => by
    rw [List.drop_of_length_le (by omega)]
    refine runL_out ((val_no (dec_false (p := (i : Int) < lenI e) (by simp only [lenI]; omega))).trans ?_)
    rw [show i = e.length by omega, List.any_nil, Bool.or_false]
    rfl
  | k + 1, i, r, hi => by
    have hlt : i < e.length := by omega
    have hg : e.getD (Int.toNat (i : Int)) (Ty.dflt (.int .i64)) = e[i] := by rw [Int.toNat_natCast]; exact getD_in e _ hlt
    have turn : (L_hauberklaw03_DecodeRow_19.turn (c, s, e, b, 0) () (r, (i : Int))).val = some (.on (r || e[i] == c, ((i + 1 : Nat) : Int))) := by
      refine (val_yes (dec_true (p := (i : Int) < lenI e) (by simp only [lenI]; omega))).trans ((val_yes (by rw [inR hlt]; simp)).trans ?_)
      dsimp only
      rw [hg, w64_id (by omega) (by omega)]
      rfl
    refine (runL_on turn).trans ((ends_loop c s e b he k (i + 1) (r || e[i] == c) (by omega)).trans ?_)
    rw [List.drop_eq_getElem_cons hlt, List.any_cons, Bool.or_assoc]
theorem ends_any (l : List tIns.den) (c : Nat) : ((endsL l).any (· == (c : Int))) = true ↔ ∃ j, j < l.length ∧ (cat (l.take (j + 1))).length = c := by
  simp only [endsL, List.any_eq_true, List.mem_map, List.mem_range, beq_iff_eq, lenI]
  constructor
  · rintro ⟨_, ⟨j, h1, rfl⟩, h2⟩
    exact ⟨j, h1, by omega⟩
  · rintro ⟨j, h1, h2⟩
    exact ⟨_, ⟨j, h1, rfl⟩, by omega⟩
theorem take_whole (l : List tIns.den) (j : Nat) : (cat l).take (cat (l.take j)).length = cat (l.take j) := by
  have : cat l = cat (l.take j) ++ cat (l.drop j) := by unfold cat; rw [← List.flatMap_append, List.take_append_drop]
  rw [this, List.take_left]
theorem mem_take_ok {l : List tIns.den} (h : ∀ i ∈ l, okI i = true) (j : Nat) : ∀ i ∈ l.take j, okI i = true := fun i hi => h i (List.mem_of_mem_take hi)
theorem V_all_cat {l : List tIns.den} (h : ∀ i ∈ l, okI i = true) : V_decode_All (cat l) = (l, 0, ()) := by
  unfold V_decode_All
  rw [seq_cat l _ h (Nat.le_refl _)]
  rfl
theorem law_hauberklaw03_DecodeRow (x : dens A_hauberklaw03_DecodeRow) (_ : fitsAll maxLen A_hauberklaw03_DecodeRow x) : (T_hauberklaw03_DecodeRow x).val = some true := by
  obtain ⟨l, cut⟩ := x
  have key : ∀ b : Bool, b = false ∨ b = true := by decide
  rcases key (decide (lenI l > 60)) with h | h
  · have h' : ¬ ((List.length l : Nat) : Int) > 60 := of_decide_eq_false h
    have h60 : List.length l ≤ 60 := by omega
    refine (val_no h).trans ?_
    rcases row_loop l cut h60 (List.length l) 0 (by omega) (by simp) with ⟨hok, hl⟩ | ⟨s, e, n, hl⟩
    · refine (val_opt hl).trans ((val_yes rfl).trans ?_)
      obtain ⟨hev, hle⟩ := cat_even l hok
      have hl400 : (cat l).length ≤ 240 := by omega
      have hv := V_all_cat hok
      obtain ⟨gs, vs⟩ := same_ins l (by omega)
      refine (val_yes (ok_decode_All _ (by show (cat l).length ≤ 1048576; omega))).trans ?_
      have hw : w64 (lenI (cat l) + 1) = ((cat l).length : Int) + 1 := w64_id (by simp only [lenI]; omega) (by simp only [lenI]; omega)
      have hu : IntKind.wrap IntKind.u64 (((cat l).length : Int) + 1) = ((cat l).length : Int) + 1 := by
        have : IntKind.wrap IntKind.u64 (((cat l).length : Int) + 1) = (((cat l).length : Int) + 1) % 18446744073709551616 := rfl
        rw [this]
        omega
      have hx : 0 ≤ IntKind.wrap IntKind.u64 cut := by
        have : IntKind.wrap IntKind.u64 cut = cut % 18446744073709551616 := rfl
        rw [this]
        omega
      dsimp only
      rw [hv, hw, hu]
      generalize IntKind.wrap IntKind.u64 cut = u at hx
      have hc1 : 0 ≤ Int.tmod u (((cat l).length : Int) + 1) := Int.tmod_nonneg _ hx
      have hc2 : Int.tmod u (((cat l).length : Int) + 1) < ((cat l).length : Int) + 1 := Int.tmod_lt_of_pos _ (by omega)
      rw [w64_id (by omega) (by omega)]
      obtain ⟨c, hc⟩ : ∃ c : Nat, Int.tmod u (((cat l).length : Int) + 1) = (c : Int) := ⟨(Int.tmod u (((cat l).length : Int) + 1)).toNat, by omega⟩
      rw [hc] at hc1 hc2 ⊢
      have hcl : c ≤ (cat l).length := by omega
      refine (val_yes (by simp only [bne_self_eq_false, Bool.false_or]; exact gs)).trans ((val_no (by simp only [bne_self_eq_false, Bool.false_or]; rw [vs]; rfl)).trans ((val_yes (by simp; omega)).trans ?_))
      have hend : (endsL l).length ≤ 60 := by unfold endsL; simp; omega
      have hlen : (endsL l).length = l.length := by unfold endsL; simp
      have h2 := ends_loop (c : Int) (cat l) (endsL l) ((c : Int) == 0) hend (endsL l).length 0 ((c : Int) == 0) (by omega)
      refine (val_opt h2).trans ?_
      dsimp only
      rw [List.drop_zero]
      have ht : List.drop (Int.toNat 0) (List.take (Int.toNat (c : Int)) (cat l)) = (cat l).take c := by simp
      rw [ht]
      refine (val_yes ?_).trans ?_
      · rw [ok_decode_All _ (by rw [List.length_take]; omega)]
        simp [lenI]
        omega
      · have hc2 : Int.tmod (c : Int) 2 = ((c % 2 : Nat) : Int) := by rw [Int.tmod_eq_emod_of_nonneg (by omega)]; omega
        rw [hc2]
        have hwhole : (((c : Int) == 0 || (endsL l).any (· == (c : Int))) = true) → (V_decode_All ((cat l).take c)).2.1 = 0 ∧ c % 2 = 0 := by
          intro hw
          rw [Bool.or_eq_true] at hw
          rcases hw with h0 | h0
          · have : c = 0 := by simpa using h0
            subst this
            exact ⟨by rw [List.take_zero]; rfl, rfl⟩
          · obtain ⟨j, _, hj⟩ := (ends_any l c).1 h0
            have hok' := mem_take_ok hok (j + 1)
            rw [← hj, take_whole, V_all_cat hok']
            exact ⟨rfl, (cat_even _ hok').1⟩
        have hodd : c % 2 = 1 → (V_decode_All ((cat l).take c)).2.1 = 3 := by
          intro ho
          have hlt : c < (cat l).length := by omega
          show (seqD ((cat l).take c).length ((cat l).take c)).2 = 3
          exact seq_cut l c _ hok ho hlt (by rw [List.length_take]; omega)
        rcases key (((c : Int) == 0 || (endsL l).any (· == (c : Int)))) with hw | hw
        · rw [hw]
          rcases Nat.mod_two_eq_zero_or_one c with h0 | h0
          · rw [h0]; cases ((V_decode_All ((cat l).take c)).2.1 == (0 : Int)) <;> rfl
          · rw [hodd h0, h0]; rfl
        · obtain ⟨w1, w2⟩ := hwhole hw
          rw [hw, w1, w2]
          rfl
    · exact (val_opt hl).trans ((val_no rfl).trans rfl)
  · exact (val_yes h).trans rfl
end Go.Av
end
/-! A range over a function: what a loop asks of the function that is ranged over, and what a round does. -/
section
namespace Go.Av
open Go Go.RowKit

/-- A loop's record. -/
abbrev loopRec (fn : FuncId) (tmps : Array Value) (ps : Array Tmp) (assign body : Code) (D : Nat) (st : LoopState) (pe : Option Code) : Go.Loop :=
  { state := st, pending := pe, fn := fn, tmps := tmps, params := ps, assign := assign, body := body, defers := D }

section
variable {F : Fence} {n : Nat} {P : Program}

def afterRounds (F : Fence) (n : Nat) (P : Program) (l : Nat) (rc : LoopState → Option Code → Go.Loop) (Q : Exit → Act → World → Prop) (a' : Act) (e : Ending) (W' : World) : Prop :=
  (∃ v, e = .returned v) ∧ ((W'.heap[l]? = some (.loop (rc .ready none)) ∧ Q .normal a' (W'.putObj l (.loop (rc .exhausted none)))) ∨
    ∃ c, W'.heap[l]? = some (.loop (rc .done (some c))) ∧ c.wpIn F n P Q a' (W'.putObj l (.loop (rc .exhausted (some c)))))

theorem range_over {g : Operand} {ps : Array Tmp} {assign body : Code} {Q : Exit → Act → World → Prop} {a : Act} {w : World} (hro : F.round = none) (h1 : 1 ≤ n)
    {gf : Nat} {lb : Array Value} (hg : a.eval g = .func (.func gf) #[] lb) (hF : F.fn gf) (eg : ∀ args w, (callFunc gf args).run P w = .ok (.enter gf args) w)
    (h : ∀ fn, F.fn fn → CallsIn F (n - 1) P gf (#[.func (.yield (w.heap.size + 1)) #[] #[]] ++ lb) ((w.alloc (.deferred (some []))).alloc (.loop (loopRec fn a.tmps ps assign body w.heap.size .ready none)))
      (afterRounds F n P (w.heap.size + 1) (loopRec fn a.tmps ps assign body w.heap.size) Q { a with defers := { target := .collected w.heap.size, args := #[] } :: a.defers })) :
    (Code.rangeFunc g ps assign body).wpIn F n P Q a w := by
  refine wpIn_rangeFunc ?_
  intro fn hfn
  rw [hro]
  have hh := h fn hfn
  obtain ⟨rc, hrc⟩ : ∃ rc : LoopState → Option Code → Go.Loop, rc = loopRec fn a.tmps ps assign body w.heap.size := ⟨_, rfl⟩
  rw [← hrc] at hh
  have hst : ∀ st pe, (rc st pe).state = st := fun st pe => by rw [hrc]
  have hpe : ∀ st pe, (rc st pe).pending = pe := fun st pe => by rw [hrc]
  have hex : ∀ st pe, ({ rc st pe with state := .exhausted } : Go.Loop) = rc .exhausted pe := fun st pe => by rw [hrc]
  obtain ⟨W1, hW1⟩ : ∃ W1, (w.alloc (.deferred (some []))).alloc (.loop (rc .ready none)) = W1 := ⟨_, rfl⟩
  rw [hW1] at hh
  refine ⟨w.heap.size + 1, [{ target := .collected w.heap.size, args := #[] }], W1, { target := .fn (.func gf) lb, args := #[.func (.yield (w.heap.size + 1)) #[] #[]] }, W1, gf,
    #[.func (.yield (w.heap.size + 1)) #[] #[]] ++ lb, W1, ?_, ?_, ?_, ?_, fun _ => h1, ?_⟩
  · rw [← hW1, hrc]
    exact run_enterLoop_outer _ _ _ _ _
  · simp only [resolve, hg]
    simp [go_sem]
  · intro f' hf'
    simp [Target.leads] at hf'
    subst hf'
    exact hF
  · simp [invoke, go_sem, eg]
  · refine hh.mono ?_
    rintro e W2 ⟨⟨v, rfl⟩, ⟨hl, hq⟩ | ⟨c, hl, hq⟩⟩
    · refine ⟨none, _, ?_, hq⟩
      have := run_endLoop (P := P) hl (by rw [hst]; simp)
      rw [hex, hpe] at this
      exact this
    · refine ⟨some c, _, ?_, hq⟩
      have := run_endLoop (P := P) hl (by rw [hst]; simp)
      rw [hex, hpe] at this
      exact this

/-- How a round may be left. -/
def roundEnd (l : Nat) (rc : LoopState → Option Code → Go.Loop) (R : Ending → World → Prop) : Exit → Act → World → Prop
  | .normal, _, W => W.heap[l]? = some (.loop (rc .busy none)) ∧ R (.returned (.bool true)) (W.putObj l (.loop (rc .ready none)))
  | .ret, _, W => W.heap[l]? = some (.loop (rc .busy none)) ∧ R (.returned (.bool false)) (W.putObj l (.loop (rc .done (some .ret))))
  | .exit id, _, W => W.heap[l]? = some (.loop (rc .busy none)) ∧ R (.returned (.bool false)) (W.putObj l (.loop (rc .done (some (.exit id)))))
  | _, _, _ => False

theorem round_at {l : Nat} {fn : FuncId} {tmps : Array Value} {ps : Array Tmp} {assign body : Code} {D : Nat} {W : World} {args : Array Value} {R : Ending → World → Prop} (hF : F.fn fn)
    (hl : W.heap[l]? = some (.loop (loopRec fn tmps ps assign body D .ready none))) (hs : args.size = ps.size)
    (h : assign.wpIn (F.inRound l) n P (Exit.then (fun a1 W1 => W1.heap[l]? = some (.loop (loopRec fn tmps ps assign body D .ready none)) ∧
        body.wpIn (F.inRound l) n P (roundEnd l (loopRec fn tmps ps assign body D) R) a1 (W1.putObj l (.loop (loopRec fn tmps ps assign body D .busy none)))) (fun _ _ _ => False))
      { tmps := (ps.zip args).foldl (fun t (p, v) => t.setIfInBounds p v) tmps, defers := [] } W) : YieldAt F n P l args W R := by
  have hy := run_yield (P := P) (args := args) hl hs
  refine ⟨fn, _, assign, body, hy, roundIn_of_wpIn hF (wpIn_mono h ?_)⟩
  intro e a1 W1 hp
  cases e with
  | normal =>
    obtain ⟨hl1, hb⟩ := hp
    refine ⟨_, run_beginRound hl1 rfl, wpIn_mono hb ?_⟩
    intro e a2 W2 hp
    cases e with
    | normal => exact ⟨_, _, run_endRound (P := P) none hp.1, hp.2⟩
    | ret => exact ⟨_, _, run_endRound (P := P) (some .ret) hp.1, hp.2⟩
    | exit id => exact ⟨_, _, run_endRound (P := P) (some (.exit id)) hp.1, hp.2⟩
    | goto t => exact hp.elim
    | panic ch => exact hp.elim
    | outgrown => exact hp.elim
  | ret => exact hp.elim
  | exit id => exact hp.elim
  | goto t => exact hp.elim
  | panic ch => exact hp.elim
  | outgrown => exact hp.elim

theorem round_rc {l : Nat} {fn : FuncId} {tmps : Array Value} {ps : Array Tmp} {assign body : Code} {D : Nat} {rc : LoopState → Option Code → Go.Loop} (hrc : loopRec fn tmps ps assign body D = rc) {W : World} {args : Array Value} {R : Ending → World → Prop} (hF : F.fn fn)
    (hl : W.heap[l]? = some (.loop (rc .ready none))) (hs : args.size = ps.size)
    (h : assign.wpIn (F.inRound l) n P (Exit.then (fun a1 W1 => W1.heap[l]? = some (.loop (rc .ready none)) ∧
        body.wpIn (F.inRound l) n P (roundEnd l rc R) a1 (W1.putObj l (.loop (rc .busy none)))) (fun _ _ _ => False))
      { tmps := (ps.zip args).foldl (fun t (p, v) => t.setIfInBounds p v) tmps, defers := [] } W) : YieldAt F n P l args W R := by
  subst hrc
  exact round_at hF hl hs h
end

/-! ### What is frozen -/

def Obj.thaw : Obj → Bool
  | .cells _ _ (0, 0) => true
  | .cells _ _ _ => false
  | _ => true

theorem frozen_thaw {W : World} {a : Addr} (h : ∀ o, W.heap[a.block]? = some o → Obj.thaw o = true) : W.frozen? a = false := by
  unfold World.frozen?
  split
  · rename_i c t lo hi e
    have := h _ e
    unfold Obj.thaw at this
    split at this
    · rename_i e'
      cases e'
      simp
    · cases this
    · rename_i h1 h2
      exact (h2 _ _ _ rfl).elim
  · rfl

theorem frz_alloc (w : World) (o : Obj) (ho : Obj.thaw o = true) (a : Addr) : (w.alloc o).frozen? a = w.frozen? a := by
  by_cases h : a.block < w.heap.size
  · exact World.frozen?_of_block (Below.heap_alloc w o _ h)
  · rw [frozen_thaw (W := w) (fun o' e => by rw [Array.getElem?_eq_none (by omega)] at e; cases e)]
    refine frozen_thaw (fun o' e => ?_)
    have hlt := (Array.getElem?_eq_some_iff.1 e).1
    rw [World.size_alloc] at hlt
    have hb : a.block = w.heap.size := by omega
    rw [hb, World.alloc_heap_new] at e
    cases e
    exact ho

theorem frz_putObj (w : World) (l : Nat) (o o' : Obj) (hl : w.heap[l]? = some o) (h1 : Obj.thaw o = true) (h2 : Obj.thaw o' = true) (a : Addr) : (w.putObj l o').frozen? a = w.frozen? a := by
  by_cases h : a.block = l
  · rw [frozen_thaw (W := w) (fun x e => by rw [h, hl] at e; cases e; exact h1)]
    refine frozen_thaw (fun x e => ?_)
    rw [h, World.putObj_heap_same (Array.getElem?_eq_some_iff.1 hl).1] at e
    cases e
    exact h2
  · exact World.frozen?_of_block (World.putObj_heap_other h)

variable {P : Program} {w : World}

theorem run_append_frz (base : Nat) (t ty e : TypeId) (i : TypeInfo) (z : Value) (size bytes : Nat) (ht : P.underlying t = some (.slice e)) (hi : P.info? e = some i) (hz : i.zero = some z)
    (hsize : i.size = size) (hby : i.bytes = bytes) (hzs : z.cells.size = size) (hsz : 0 < size)
    (v : Value) (n : Nat) (xs : List Value) (hown : w.ownsRow base e size v n xs)
    (a : Addr) (m c : Nat) (hm : 0 < m) (news : List Value) (hl : news.length = m * size) (hnews : ∀ j u, news[j]? = some u → w.cell? (a.add j) = some u) (h1 : ∀ u ∈ news, u.oneCell' = true)
    (h63 : n + m ≤ maxLen) (hbytes : (n + m) * bytes ≤ 140737488355328) (hbase : base ≤ w.heap.size) :
    ∃ v' w', (Builtin.append_ #[t, t] ty #[v, .slice (some a) m c]).run P w = .ok v' w' ∧ w'.ownsRow base e size v' (n + m) (xs ++ news) ∧ w.grownBy w' v.ownBlock ∧
      (v' = .slice none 0 0 ↔ v = .slice none 0 0 ∧ m = 0) ∧ ∀ x, w'.frozen? x = w.frozen? x := by
  obtain ⟨v', w', hr, r1, r2, r3⟩ := run_append_own (P := P) w base t ty e i z size bytes ht hi hz hsize hby hzs hsz v n xs hown a m c news hl hnews h1 h63 hbytes hbase
  refine ⟨v', w', hr, r1, r2, r3, fun x => ?_⟩
  subst hsize hby
  have hsmall : n + m ≤ 9223372036854775807 := by simp only [maxLen] at h63; omega
  rcases hown.2 with ⟨rfl, rfl⟩ | ⟨g, cap, cur, rfl, hg, hh, hle, _, hcs, hpre⟩
  · have := run_append_nil (P := P) w t ty e i z ht hi hz a m c news hl hnews hm (by omega) (by simp only [Nat.zero_add] at hbytes; omega)
    rw [this] at hr
    cases hr
    exact (frozen_alloc _ _ _ _)
  · by_cases hroom : n + m ≤ cap
    · have hfit : 0 + n * i.size + news.length ≤ cur.size := by
        have := Nat.mul_le_mul_right i.size hroom
        rw [hl, hcs, Nat.zero_add, ← Nat.add_mul]
        exact this
      have := run_append_row (P := P) t ty e i ht hi g 0 n cap cur e hh a m c news hl hnews h1 hroom hfit
      rw [this] at hr
      cases hr
      exact frozen_row (setRow_heap w g cur _ e (0, 0) hh) hh (fun y hy => setRow_other w g y _ hy) x
    · have hx : xs.length = n * i.size := hown.1
      have hc : ∀ j u, xs[j]? = some u → w.cell? ((⟨g, 0, none⟩ : Addr).add j) = some u := hown.cells (by rfl)
      have := run_append_grow (P := P) w t ty e i z ht hi hz ⟨g, 0, none⟩ n cap xs hx hc a m c news hl hnews (by omega) (by omega) (growslice_fits (by omega) hbytes)
      rw [this] at hr
      cases hr
      exact (frozen_alloc _ _ _ _)

theorem wpListIn_append_frz {F : Fence} {n : Nat} {P : Program} (w : World) {ops : Array Oper} {rest : List Oper} {o : Oper} {a : Act} {Q : Exit → Act → World → Prop}
    (hg : o.guard = none) (s x : Operand) (t : TypeId) (hop : o.op = Op.call { callee := Callee.builtin Builtin.append, args := #[s, x], argTypes := #[t, t] })
    (base : Nat) (e : TypeId) (i : TypeInfo) (z : Value) (size bytes : Nat) (h1 : P.underlying t = some (.slice e)) (h2 : P.info? e = some i) (h3 : i.zero = some z) (h4 : i.size = size) (h5 : i.bytes = bytes) (h6 : z.cells.size = size) (h7 : 0 < size)
    (v : Value) (k : Nat) (xs : List Value) (hs : a.eval s = v) (hown : w.ownsRow base e size v k xs) (ad : Addr) (m c : Nat) (hm : 0 < m) (news : List Value) (hx : a.eval x = .slice (some ad) m c) (hn : news.length = m * size)
    (hc : ∀ j u, news[j]? = some u → w.cell? (ad.add j) = some u) (h1c : ∀ u ∈ news, u.oneCell' = true) (b1 : k + m ≤ maxLen) (b2 : (k + m) * bytes ≤ 140737488355328) (b3 : base ≤ w.heap.size)
    (hK : ∀ v' w', w'.ownsRow base e size v' (k + m) (xs ++ news) → w.grownBy w' v.ownBlock → (∀ x, w'.frozen? x = w.frozen? x) → wpListIn F n P ops Q rest (a.put o.dst v') w') :
    wpListIn F n P ops Q (o :: rest) a w := by
  refine wpListIn_plain hg fun K hK' => ?_
  obtain ⟨v', w', hrun, r1, r2, _, r4⟩ := run_append_frz (P := P) (w := w) base t o.type e i z size bytes h1 h2 h3 h4 h5 h6 h7 v k xs hown ad m c hm news hn hc h1c b1 b2 b3
  unfold Oper.wpIn
  refine ⟨?_, ?_⟩
  · simp [Oper.about, hop, resolve, Target.leads, Sem.run_pure]
  · rw [Oper.semAt_plain F _ _ (by rw [hop]; intro c hc'; cases hc')]
    simp [execOp, hop, resolve, invoke, builtin, hs, hx, hrun, Result.andThen]
    exact hK' _ _ (hK v' w' r1 r2 r4)

end Go.Av
end
/-! decode.All: what it leaves, by the laws of a range over a function. -/
section
namespace Go.Proofs.Ytbfhpnnnfjjjnaa
open Go Go.RowKit Go.Shelf Go.Av Go.Proofs
attribute [local go_sem] Oper.semAt_some

/-- An instruction, as a value. -/
abbrev insV (i : tIns.den) : Value := .agg #[.int .i64 i.1, .int .i64 i.2.1, .int .i64 i.2.2.1, .int .i64 i.2.2.2.1, .int .i64 i.2.2.2.2.1, .int .i64 i.2.2.2.2.2.1, .int .i64 i.2.2.2.2.2.2.1, .bool i.2.2.2.2.2.2.2.1]
def insC (i : tIns.den) : List Value := [.int .i64 i.1, .int .i64 i.2.1, .int .i64 i.2.2.1, .int .i64 i.2.2.2.1, .int .i64 i.2.2.2.2.1, .int .i64 i.2.2.2.2.2.1, .int .i64 i.2.2.2.2.2.2.1, .bool i.2.2.2.2.2.2.2.1]

theorem below_of {w w' : World} {K' : Kinds} (g : Ext w allOld w' K') : Below w.heap.size w w' := ⟨g.os, g.tape, g.output, g.size, fun k hk => (g.fix k hk rfl).2⟩

abbrev DecodePlain : Prop := PlainOk Try.prog 24 (plainT A_decode_Decode G_decode_Decode S_decode_Decode V_decode_Decode)

theorem decode_calls (hP : DecodePlain) (s : List UInt8) (w : World) : Calls Try.prog 24 #[.string ⟨⟨s⟩⟩] w fun e w' => e = .returned (.tuple #[insV (dDec s).1, .int .i64 (dDec s).2.1, .int .i64 (dDec s).2.2.1]) ∧ Below w.heap.size w w' ∧ ∀ a, w'.frozen? a = w.frozen? a := by
  refine (hP [.str s] ⟨S_decode_Decode, V_decode_Decode s⟩ ?_ w allOld [.string ⟨⟨s⟩⟩] ⟨⟨rfl, (fun e => (by cases e)), (fun _ _ e => (by cases e))⟩, trivial⟩ (fun _ _ => rfl)).mono ?_
  · show (some (G_decode_Decode s, _) : Res AV) = _
    rw [decode_G]
  · rintro e w' ⟨r, K', rfl, g, _, hr⟩
    refine ⟨?_, below_of g, g.frz⟩
    rw [decode_V] at hr
    obtain ⟨vs, rfl, h⟩ := hr
    match vs, h with
    | ⟨[v1, v2, v3]⟩, ⟨h1, h2, h3, _⟩ =>
      have e1 := value_RV (av := ⟨.ty tIns, (dDec s).1⟩) (u := insV (dDec s).1) rfl h1
      have e2 := RV.int h2
      have e3 := RV.int h3
      rw [e1, e2, e3]

theorem infoIns : (Try.prog.info? 23).map (fun i => (i.zero, i.size, i.bytes)) = some (some (.agg #[.int .i64 0, .int .i64 0, .int .i64 0, .int .i64 0, .int .i64 0, .int .i64 0, .int .i64 0, .bool false]), 8, 64) := by kernel_rfl

/-- How long a text in a box is. -/
def boxLen (W : World) (b : Nat) : Nat :=
  match W.cell? ⟨b, 0, none⟩ with
  | some (.string s) => s.data.toList.length
  | _ => 0
theorem boxLen_eq {W : World} {b : Nat} {s : List UInt8} (h : W.cell? ⟨b, 0, none⟩ = some (.string ⟨⟨s⟩⟩)) : boxLen W b = s.length := by simp [boxLen, h]

set_option maxRecDepth 100000 in
set_option maxHeartbeats 4000000 in
/-- The function that is ranged over. -/
theorem each1_in (hP : DecodePlain) (s : List UInt8) (bs l : Nat) (J : List tIns.den → List UInt8 → World → Prop) (Jx : List tIns.den → Int → World → Prop)
    (hbox : ∀ d r W, J d r W → Boxed W bs 9 (.string ⟨⟨r⟩⟩)) (hset : ∀ d r W r', J d r W → J d r' (W.setCell ⟨bs, 0, none⟩ (.string ⟨⟨r'⟩⟩)))
    (hbelow : ∀ d r W W', J d r W → Below W.heap.size W W' → (∀ a, W'.frozen? a = W.frozen? a) → J d r W')
    (hY : ∀ d r W x, J d r W → d.length < s.length → YieldAt Fence.wide 2 Try.prog l #[insV x, .int .i64 0] W fun e W' => e = .returned (.bool true) ∧ J (d ++ [x]) r W')
    (hYe : ∀ d r W x e, J d r W → d.length < s.length → e ≠ 0 → YieldAt Fence.wide 2 Try.prog l #[insV x, .int .i64 e] W fun e' W' => e' = .returned (.bool false) ∧ Jx d e W')
    (W : World) (h0 : J [] s W) :
    CallsIn Fence.wide 3 Try.prog 80 #[.func (.yield l) #[] #[], .pointer (some ⟨bs, 0, none⟩)] W fun e W' => (∃ v, e = .returned v) ∧
      (((seqD s.length s).2 = 0 ∧ J (seqD s.length s).1 [] W') ∨ ((seqD s.length s).2 ≠ 0 ∧ Jx (seqD s.length s).1 (seqD s.length s).2 W')) := by
  refine callsIn_of_wp Try.func80 rfl trivial ?_ rfl
  simp only [Try.ntmps80, List.size_toArray, List.length_cons, List.length_nil, Nat.reduceAdd, Nat.reduceSub, Array.replicate_succ, Array.replicate_zero, List.push_toArray, List.append_toArray, List.nil_append, List.cons_append]
  gi_wp2
  gi_loopw [] (fun wr => ∃ d r m, J d r wr ∧ r.length ≤ m ∧ d.length + r.length ≤ s.length ∧ seqD s.length s = (d ++ (seqD m r).1, (seqD m r).2)) (fun wr => boxLen wr bs)
  case atStart =>
    exact ⟨[], s, s.length, h0, Nat.le_refl _, by simp, by simp⟩
  case round =>
    obtain ⟨d, r, m, hJ, hm, hlen, hseq⟩ := hrel
    have hb := hbox d r wr hJ
    have hc := hb.cell
    have hl := boxLen_eq hc
    cases r with
    | nil =>
      gi_wp2
      go_end0
      refine ⟨⟨_, rfl⟩, .inl ?_⟩
      rw [hseq, seqD_nil]
      simpa using hJ
    | cons b0 r0 =>
      have hne : (b0 :: r0) ≠ [] := by simp
      have hpos : 0 < (b0 :: r0).length := by simp
      have hdl : d.length < s.length := by omega
      have hlt : bs < wr.heap.size := hb.lt
      generalize hr : b0 :: r0 = r at *
      gi_wp2_with (refine ⟨trivial, ?_⟩; gi_at_call 24; refine (callsIn_wide.2 (decode_calls hP r _)).mono ?_; rintro e w1 ⟨rfl, hB1, hz1⟩)
      have hJ2 := hbelow d r wr _ hJ ((hB1.alloc hB1.size (.cells #[.int .i64 (dDec r).1.1, .int .i64 (dDec r).1.2.1, .int .i64 (dDec r).1.2.2.1, .int .i64 (dDec r).1.2.2.2.1, .int .i64 (dDec r).1.2.2.2.2.1, .int .i64 (dDec r).1.2.2.2.2.2.1, .int .i64 (dDec r).1.2.2.2.2.2.2.1, .bool (dDec r).1.2.2.2.2.2.2.2.1] 23)))
        (fun a => (frz_alloc _ _ rfl a).trans (hz1 a))
      by_cases he : (dDec r).2.2.1 = 0
      · obtain ⟨fn, tmps, assign, body, hy, hR⟩ := hY d r _ (dDec r).1 hJ2 hdl
        rw [← he] at hy
        rw [hy, Oper.uponIn_round]
        refine ⟨(fun h => (by cases h)), hR.mono ?_⟩
        rintro e W3 ⟨rfl, hJ3⟩
        have hb3 := hbox _ _ _ hJ3
        have hc3 := hb3.cell
        have hf3 := hb3.frozen
        have hn := dDec_size he
        gi_wp2
        obtain ⟨m, rfl⟩ : ∃ k, m = k + 1 := ⟨m - 1, by omega⟩
        have hrne : r ≠ [] := fun e => by rw [e] at hpos; cases hpos
        have hex : ({ data := { toList := r } } : ByteArray).extract (dDec r).2.1.toNat r.length = ⟨⟨r.drop (dDec r).2.1.toNat⟩⟩ := by
          rw [extract_mk, List.take_length]
        have hdr : (r.drop (dDec r).2.1.toNat).length + (dDec r).2.1.toNat = r.length := by rw [List.length_drop]; omega
        rw [hex]
        have hJ4 := hset _ _ _ (r.drop (dDec r).2.1.toNat) hJ3
        refine ⟨⟨d ++ [(dDec r).1], r.drop (dDec r).2.1.toNat, m, hJ4, by omega, by simp only [List.length_append, List.length_singleton]; omega, ?_⟩, ?_⟩
        · rw [hseq, seqD_ok hrne he]
          simp
        · rw [boxLen_eq (hbox _ _ _ hJ4).cell, hl]
          omega
      · obtain ⟨fn, tmps, assign, body, hy, hR⟩ := hYe d r _ (dDec r).1 (dDec r).2.2.1 hJ2 hdl he
        rw [hy, Oper.uponIn_round]
        refine ⟨(fun h => (by cases h)), hR.mono ?_⟩
        rintro e W3 ⟨rfl, hJ3⟩
        gi_wp2
        obtain ⟨m, rfl⟩ : ∃ k, m = k + 1 := ⟨m - 1, by omega⟩
        have hrne : r ≠ [] := fun e => by rw [e] at hpos; cases hpos
        refine bodyPost_ret (results_none rfl _ _ _) rfl ⟨⟨_, rfl⟩, .inr ?_⟩
        rw [hseq, seqD_err hrne he]
        simp only [List.append_nil]
        exact ⟨he, hJ3⟩

theorem cells_new (w : World) (cs : Array Value) (t : TypeId) (l : List Value) (hl : l = cs.toList) : ∀ j u, l[j]? = some u → (w.alloc (.cells cs t)).cell? ((⟨w.heap.size, 0, none⟩ : Addr).add j) = some u := by
  intro j u hj
  subst hl
  rw [add_eq rfl]
  simp only [World.cell?, World.alloc_heap_new]
  simpa using hj

/-- What the caller has between two rounds. -/
structure Mid (w : World) (D : Nat) (rc : LoopState → Option Code → Go.Loop) (st : LoopState) (pe : Option Code) (err : Int) (d : List tIns.den) (r : List UInt8) (W : World) : Prop where
  b2 : Boxed W w.heap.size 43 (.slice none 0 0)
  b3 : Boxed W (w.heap.size + 1) 24 (.int .i64 err)
  b4 : ∃ v, Boxed W (w.heap.size + 1 + 1) 43 v ∧ W.ownsRow w.heap.size 23 8 v d.length (d.flatMap insC)
  bs : Boxed W (w.heap.size + 1 + 1 + 1) 9 (.string ⟨⟨r⟩⟩)
  below : Below w.heap.size w W
  frz : ∀ a, W.frozen? a = w.frozen? a
  dfr : W.heap[D]? = some (.deferred (some []))
  lp : W.heap[D + 1]? = some (.loop (rc st pe))

theorem grown_below {W W' : World} (h : Below W.heap.size W W') : W.grownBy W' none := ⟨h.os, h.tape, h.output, h.size, fun k hk _ => h.block k hk⟩
theorem lt_of_get {W : World} {k : Nat} {o : Obj} (h : W.heap[k]? = some o) : k < W.heap.size := (Array.getElem?_eq_some_iff.1 h).1

theorem Mid.below' {w : World} {D : Nat} {rc : LoopState → Option Code → Go.Loop} {st : LoopState} {pe : Option Code} {err : Int} {d : List tIns.den} {r : List UInt8} {W W' : World} (h : Mid w D rc st pe err d r W) (hb : Below W.heap.size W W') (hz : ∀ a, W'.frozen? a = W.frozen? a) : Mid w D rc st pe err d r W' := by
  have hg := grown_below hb
  obtain ⟨v, h4, hr⟩ := h.b4
  exact ⟨h.b2.kept hg (by simp), h.b3.kept hg (by simp), ⟨v, h4.kept hg (by simp), hr.kept hg (by cases v.ownBlock <;> simp)⟩, h.bs.kept hg (by simp), h.below.trans (hb.mono h.below.size), fun a => (hz a).trans (h.frz a), (hb.block _ (lt_of_get h.dfr)).trans h.dfr, (hb.block _ (lt_of_get h.lp)).trans h.lp⟩

theorem Mid.set {w : World} {D : Nat} {rc : LoopState → Option Code → Go.Loop} {st : LoopState} {pe : Option Code} {err : Int} {d : List tIns.den} {r : List UInt8} {W : World} (h : Mid w D rc st pe err d r W) (r' : List UInt8) : Mid w D rc st pe err d r' (W.setCell ⟨w.heap.size + 1 + 1 + 1, 0, none⟩ (.string ⟨⟨r'⟩⟩)) := by
  have hg := grownBy_setCell' W (w.heap.size + 1 + 1 + 1) (.string ⟨⟨r'⟩⟩)
  obtain ⟨v, h4, hr⟩ := h.b4
  have hne : ∀ {k : Nat} {o : Obj}, W.heap[k]? = some o → o.isCells = false → k ≠ w.heap.size + 1 + 1 + 1 := fun hk ho e => by
    subst e
    rw [show W.heap[_]? = _ from h.bs] at hk
    cases hk
    cases ho
  exact ⟨h.b2.kept hg (by simp; omega), h.b3.kept hg (by simp), ⟨v, h4.kept hg (by simp), hr.kept hg (.inr (h.bs.not_row (by decide) hr).symm)⟩, h.bs.set _,
    h.below.setCell (p := ⟨w.heap.size + 1 + 1 + 1, 0, none⟩) (by simp; omega) _, fun a => (World.frozen?_setCell ..).trans (h.frz a), (Below.heap_setCell _ _ _ _ (hne h.dfr rfl)).trans h.dfr, (Below.heap_setCell _ _ _ _ (hne h.lp rfl)).trans h.lp⟩

theorem Mid.set2 {w : World} {D : Nat} {rc : LoopState → Option Code → Go.Loop} {st : LoopState} {pe : Option Code} {err : Int} {d : List tIns.den} {r : List UInt8} {W : World} (h : Mid w D rc st pe err d r W) : Mid w D rc st pe err d r (W.setCell ⟨w.heap.size, 0, none⟩ (.slice none 0 0)) := by
  have hg := grownBy_setCell' W w.heap.size (.slice none 0 0)
  obtain ⟨v, h4, hr⟩ := h.b4
  have hne : ∀ {k : Nat} {o : Obj}, W.heap[k]? = some o → o.isCells = false → k ≠ w.heap.size := fun hk ho e => by
    subst e
    rw [show W.heap[_]? = _ from h.b2] at hk
    cases hk
    cases ho
  exact ⟨h.b2.set _, h.b3.kept hg (by simp), ⟨v, h4.kept hg (by simp; omega), hr.kept hg (.inr (h.b2.not_row (by decide) hr).symm)⟩, h.bs.kept hg (by simp; omega),
    h.below.setCell (p := ⟨w.heap.size, 0, none⟩) (by simp) _, fun a => (World.frozen?_setCell ..).trans (h.frz a), (Below.heap_setCell _ _ _ _ (hne h.dfr rfl)).trans h.dfr, (Below.heap_setCell _ _ _ _ (hne h.lp rfl)).trans h.lp⟩

theorem Mid.set3 {w : World} {D : Nat} {rc : LoopState → Option Code → Go.Loop} {st : LoopState} {pe : Option Code} {err : Int} {d : List tIns.den} {r : List UInt8} {W : World} (h : Mid w D rc st pe err d r W) (e : Int) : Mid w D rc st pe e d r (W.setCell ⟨w.heap.size + 1, 0, none⟩ (.int .i64 e)) := by
  have hg := grownBy_setCell' W (w.heap.size + 1) (.int .i64 e)
  obtain ⟨v, h4, hr⟩ := h.b4
  have hne : ∀ {k : Nat} {o : Obj}, W.heap[k]? = some o → o.isCells = false → k ≠ w.heap.size + 1 := fun hk ho e => by
    subst e
    rw [show W.heap[_]? = _ from h.b3] at hk
    cases hk
    cases ho
  exact ⟨h.b2.kept hg (by simp), h.b3.set _, ⟨v, h4.kept hg (by simp), hr.kept hg (.inr (h.b3.not_row (by decide) hr).symm)⟩, h.bs.kept hg (by simp; omega),
    h.below.setCell (p := ⟨w.heap.size + 1, 0, none⟩) (by simp) _, fun a => (World.frozen?_setCell ..).trans (h.frz a), (Below.heap_setCell _ _ _ _ (hne h.dfr rfl)).trans h.dfr, (Below.heap_setCell _ _ _ _ (hne h.lp rfl)).trans h.lp⟩

theorem results_two {fn : Func} {p q : Tmp} {t u : TypeId} (h : fn.results = #[.cell p t, .cell q u]) {tmps : Array Value} {P : Program} {W : World} {a b : Addr} {x y : Value} (ha : tmps.getD p undef = .pointer (some a)) (hb : tmps.getD q undef = .pointer (some b))
    (hx : (loadVar t a).run P W = .ok x W) (hy : (loadVar u b).run P W = .ok y W) : (results fn tmps).run P W = .ok (.tuple #[x, y]) W := by
  have e : results fn tmps = (fn.results.mapM (resRun tmps) >>= fun vs => pure (if h : vs.size = 1 then vs[0] else .tuple vs)) := by
    unfold results
    rfl
  rw [e, h]
  simp only [List.mapM_toArray, Sem.run_bind]
  simp [List.mapM_cons, resRun, ha, hb, asAddr, hx, hy, Sem.run_bind, Sem.run_pure, Result.andThen]

theorem load_boxed {W : World} {b : Nat} {t : TypeId} {v : Value} (h : Boxed W b t v) (hk : known Try.prog t = true) (h1 : Try.prog.cellsOf t = 1) (h2 : isStruct Try.prog t = false) : (loadVar t ⟨b, 0, none⟩).run Try.prog W = .ok v W := by
  have := run_loadVar_cells (P := Try.prog) (w := W) hk (a := ⟨b, 0, none⟩) (cs := [v]) (by rw [h1]; rfl) (fun _ => h1) (fun j u hj => by
    match j, hj with
    | 0, hj => cases hj; exact h.cell)
  rw [h2] at this
  exact this

/-- The loop's record turned. -/
theorem Mid.turn {w : World} {D : Nat} {rc : LoopState → Option Code → Go.Loop} {st st' : LoopState} {pe pe' : Option Code} {err : Int} {d : List tIns.den} {r : List UInt8} {W : World} (h : Mid w D rc st pe err d r W) (hD : w.heap.size ≤ D) : Mid w D rc st' pe' err d r (W.putObj (D + 1) (.loop (rc st' pe'))) := by
  have hg := grownBy_putObj' W (D + 1) (.loop (rc st' pe'))
  obtain ⟨v, h4, hr⟩ := h.b4
  have hne : ∀ {k : Nat} {t : TypeId} {v : Value}, Boxed W k t v → some k ≠ some (D + 1) := fun hk e => by
    cases e
    have hk' : W.heap[D + 1]? = _ := hk
    rw [h.lp] at hk'
    cases hk'
  exact ⟨h.b2.kept hg (hne h.b2), h.b3.kept hg (hne h.b3), ⟨v, h4.kept hg (hne h4), ownsRow_putObj hr _ h.lp rfl⟩, h.bs.kept hg (hne h.bs),
    h.below.trans ⟨hg.os, hg.tape, hg.output, hg.size, fun k hk => hg.block k (Nat.lt_of_lt_of_le hk h.below.size) (by simp; omega)⟩, fun a => (frz_putObj _ _ _ _ h.lp rfl rfl a).trans (h.frz a), (World.putObj_heap_other (by omega)).trans h.dfr, World.putObj_heap_same (lt_of_get h.lp)⟩

set_option maxRecDepth 100000 in
set_option maxHeartbeats 4000000 in
theorem each_in (s : List UInt8) (w : World) :
    CallsIn Fence.wide 3 Try.prog 53 #[.string ⟨⟨s⟩⟩] w fun e w' => e = .returned (.func (.func 80) #[] #[.pointer (some ⟨w.heap.size, 0, none⟩)]) ∧ w' = w.alloc (.cells #[.string ⟨⟨s⟩⟩] 9) := by
  refine callsIn_of_wp Try.func53 rfl trivial ?_ rfl
  simp only [Try.ntmps53, List.size_toArray, List.length_cons, List.length_nil, Nat.reduceAdd, Nat.reduceSub, Array.replicate_succ, Array.replicate_zero, List.push_toArray, List.append_toArray, List.nil_append, List.cons_append]
  gi_wp2
  go_ret
  exact ⟨rfl, rfl⟩

set_option maxRecDepth 100000 in
set_option maxHeartbeats 4000000 in
theorem all_in (hP : DecodePlain) (s : List UInt8) (hs : s.length ≤ 1048576) (w : World) :
    CallsIn Fence.wide 4 Try.prog 29 #[.string ⟨⟨s⟩⟩] w fun e W' => ∃ v, e = .returned (.tuple #[v, .int .i64 (seqD s.length s).2]) ∧ (Below w.heap.size w W' ∧ ∀ a, W'.frozen? a = w.frozen? a) ∧
      W'.ownsRow w.heap.size 23 8 v (bif (seqD s.length s).2 == 0 then (seqD s.length s).1 else []).length ((bif (seqD s.length s).2 == 0 then (seqD s.length s).1 else []).flatMap insC) := by
  obtain ⟨i0, hi, hz0, hz1, hz2⟩ := info_parts infoIns
  refine callsIn_of_wp_marks Try.func29 rfl trivial ?_ rfl
  simp only [Try.ntmps29, List.size_toArray, List.length_cons, List.length_nil, Nat.reduceAdd, Nat.reduceSub, Array.replicate_succ, Array.replicate_zero, List.push_toArray, List.append_toArray, List.nil_append, List.cons_append]
  gi_wp2_with (refine ⟨trivial, ?_⟩; gi_at_call 53; refine (each_in s _).mono ?_; rintro e w' ⟨rfl, rfl⟩)
  have b2 := (((Boxed.new w 43 (.slice none 0 0)).alloc (.cells #[.int .i64 0] 24)).alloc (.cells #[.slice none 0 0] 43)).alloc (.cells #[.string ⟨⟨s⟩⟩] 9)
  have b3 := ((Boxed.new (w.alloc (.cells #[.slice none 0 0] 43)) 24 (.int .i64 0)).alloc (.cells #[.slice none 0 0] 43)).alloc (.cells #[.string ⟨⟨s⟩⟩] 9)
  have b4 := (Boxed.new ((w.alloc (.cells #[.slice none 0 0] 43)).alloc (.cells #[.int .i64 0] 24)) 43 (.slice none 0 0)).alloc (.cells #[.string ⟨⟨s⟩⟩] 9)
  have bs := Boxed.new (((w.alloc (.cells #[.slice none 0 0] 43)).alloc (.cells #[.int .i64 0] 24)).alloc (.cells #[.slice none 0 0] 43)) 9 (.string ⟨⟨s⟩⟩)
  simp only [World.size_alloc] at b2 b3 b4 bs
  have hB0 : Below w.heap.size w ((((w.alloc (.cells #[.slice none 0 0] 43)).alloc (.cells #[.int .i64 0] 24)).alloc (.cells #[.slice none 0 0] 43)).alloc (.cells #[.string ⟨⟨s⟩⟩] 9)) :=
    ((((Below.refl _ w).alloc (Nat.le_refl _) _).alloc (by simp) _).alloc (by simp; omega) _).alloc (by simp; omega) _
  have hsz : ((((w.alloc (.cells #[.slice none 0 0] 43)).alloc (.cells #[.int .i64 0] 24)).alloc (.cells #[.slice none 0 0] 43)).alloc (.cells #[.string ⟨⟨s⟩⟩] 9)).heap.size = w.heap.size + 4 := by simp
  obtain ⟨W0, hW0⟩ : ∃ W0, (((w.alloc (.cells #[.slice none 0 0] 43)).alloc (.cells #[.int .i64 0] 24)).alloc (.cells #[.slice none 0 0] 43)).alloc (.cells #[.string ⟨⟨s⟩⟩] 9) = W0 := ⟨_, rfl⟩
  have hF0 : ∀ a, W0.frozen? a = w.frozen? a := fun a => by
    rw [← hW0, frz_alloc _ _ rfl, frz_alloc _ _ rfl, frz_alloc _ _ rfl, frz_alloc _ _ rfl]
  rw [hW0] at b2 b3 b4 bs hB0 hsz ⊢
  clear hW0
  refine range_over rfl (by decide) (gf := 80) (lb := #[.pointer (some ⟨w.heap.size + 1 + 1 + 1, 0, none⟩)]) rfl trivial (enters_of Try.func80 (by kernel_rfl) rfl) (fun fn _ => ?_)
  generalize hrc : loopRec fn _ _ _ _ W0.heap.size = rc
  have hw1 : ((W0.alloc (.deferred (some []))).alloc (.loop (rc .ready none))).heap[W0.heap.size + 1]? = some (.loop (rc .ready none)) := by
    have := World.alloc_heap_new (W0.alloc (.deferred (some []))) (.loop (rc .ready none))
    rwa [World.size_alloc] at this
  have hw2 : ((W0.alloc (.deferred (some []))).alloc (.loop (rc .ready none))).heap[W0.heap.size]? = some (.deferred (some [])) :=
    (Below.heap_alloc _ _ _ (by simp)).trans (World.alloc_heap_new W0 _)
  have hm0 : Mid w W0.heap.size rc .ready none 0 [] s ((W0.alloc (.deferred (some []))).alloc (.loop (rc .ready none))) :=
    ⟨(b2.alloc _).alloc _, (b3.alloc _).alloc _, ⟨_, (b4.alloc _).alloc _, World.ownsRow_nil _ _ _ _⟩, (bs.alloc _).alloc _, (hB0.alloc (by omega) _).alloc (by simp; omega) _, fun a => ((frz_alloc _ _ rfl a).trans (frz_alloc _ _ rfl a)).trans (hF0 a), hw2, hw1⟩
  have hD : w.heap.size ≤ W0.heap.size := by omega
  refine (each1_in hP s (w.heap.size + 1 + 1 + 1) (W0.heap.size + 1) (fun d r W => Mid w W0.heap.size rc .ready none 0 d r W) (fun d e W => ∃ r, Mid w W0.heap.size rc .done (some .ret) e d r W)
    (fun d r W h => h.bs) (fun d r W r' h => h.set r') (fun d r W W' h hb hz => h.below' hb hz) ?round ?last _ hm0).mono ?_
  case round =>
    intro d r W x h hlt
    refine round_rc hrc trivial h.lp rfl ?_
    clear hw1 hw2 hm0
    rw [hsz] at h ⊢
    gi_wp2
    have h1 := h.below' ((Below.refl _ W).alloc (Nat.le_refl _) (.cells #[.int .i64 x.1, .int .i64 x.2.1, .int .i64 x.2.2.1, .int .i64 x.2.2.2.1, .int .i64 x.2.2.2.2.1, .int .i64 x.2.2.2.2.2.1, .int .i64 x.2.2.2.2.2.2.1, .bool x.2.2.2.2.2.2.2.1] 23)) (frz_alloc _ _ rfl)
    refine ⟨h1.lp, ?_⟩
    have h2 := h1.turn (st' := .busy) (pe' := none) (by omega)
    have hx : ((W.alloc (.cells #[.int .i64 x.1, .int .i64 x.2.1, .int .i64 x.2.2.1, .int .i64 x.2.2.2.1, .int .i64 x.2.2.2.2.1, .int .i64 x.2.2.2.2.2.1, .int .i64 x.2.2.2.2.2.2.1, .bool x.2.2.2.2.2.2.2.1] 23)).putObj (w.heap.size + 4 + 1) (.loop (rc .busy none))).heap[W.heap.size]? = some (.cells #[.int .i64 x.1, .int .i64 x.2.1, .int .i64 x.2.2.1, .int .i64 x.2.2.2.1, .int .i64 x.2.2.2.2.1, .int .i64 x.2.2.2.2.2.1, .int .i64 x.2.2.2.2.2.2.1, .bool x.2.2.2.2.2.2.2.1] 23) :=
      (World.putObj_heap_other (by have := lt_of_get h.lp; omega)).trans (World.alloc_heap_new W _)
    have hxb : w.heap.size ≤ W.heap.size := h.below.size
    generalize ((W.alloc (.cells #[.int .i64 x.1, .int .i64 x.2.1, .int .i64 x.2.2.1, .int .i64 x.2.2.2.1, .int .i64 x.2.2.2.2.1, .int .i64 x.2.2.2.2.2.1, .int .i64 x.2.2.2.2.2.2.1, .bool x.2.2.2.2.2.2.2.1] 23)).putObj (w.heap.size + 4 + 1) (.loop (rc .busy none))) = W2 at h2 hx ⊢
    generalize W.heap.size = bx at hx hxb ⊢
    clear h1 h hrc
    obtain ⟨b2', b3', ⟨v, b4', hrow⟩, bs', hB', hZ0, hD', hL'⟩ := h2
    have hZ' : Hid (∀ a, W2.frozen? a = w.frozen? a) := hZ0
    clear hZ0 hF0
    have c4 := b4'.cell
    have cx : ∀ k, k < 8 → W2.cell? ⟨bx, k, none⟩ = some ((insC x).getD k undef) := fun k hk => by
      simp only [World.cell?, hx]
      match k, hk with
      | 0, _ => rfl
      | 1, _ => rfl
      | 2, _ => rfl
      | 3, _ => rfl
      | 4, _ => rfl
      | 5, _ => rfl
      | 6, _ => rfl
      | 7, _ => rfl
    have cx0 := cx 0 (by decide)
    have cx1 := cx 1 (by decide)
    have cx2 := cx 2 (by decide)
    have cx3 := cx 3 (by decide)
    have cx4 := cx 4 (by decide)
    have cx5 := cx 5 (by decide)
    have cx6 := cx 6 (by decide)
    have cx7 := cx 7 (by decide)
    simp only [insC, List.getD_cons_zero, List.getD_cons_succ] at cx0 cx1 cx2 cx3 cx4 cx5 cx6 cx7
    clear cx
    have hml : d.length + 1 ≤ maxLen := by unfold maxLen; omega
    have hmb : (d.length + 1) * 64 ≤ 140737488355328 := by omega
    gi_wp2_with (gi_at_builtin; refine wpListIn_append_frz _ rfl _ _ 43 rfl w.heap.size 23 i0 (.agg #[.int .i64 0, .int .i64 0, .int .i64 0, .int .i64 0, .int .i64 0, .int .i64 0, .int .i64 0, .bool false]) 8 64 Try.underlying43 hi hz0 hz1 hz2 rfl (by decide) _ _ _ rfl (hrow.alloc _) ⟨W2.heap.size, 0, none⟩ 1 1 (by decide) (insC x) rfl rfl (cells_new _ _ _ _ rfl) (by simp [insC, Value.oneCell']) hml hmb (by have := hB'.size; simp; omega) ?_; intro v' w1 hown' hgrow hfz0; have hfz := show Hid (∀ x, w1.frozen? x = _) from hfz0; clear hfz0; obtain ⟨g', cap', rfl⟩ := ownsRow_succ hown'; obtain ⟨hv1, hv2, hr2, hk2, hb2⟩ := b4'.appended (by decide) hrow hB'.size (by omega) hown' hgrow; have hc1 := hv1.cell; have hf1 := hv1.frozen)
    have n2 := b2'.not_row (by decide) hrow
    have n3 := b3'.not_row (by decide) hrow
    have ns := bs'.not_row (by decide) hrow
    have hgs := grownBy_setCell' w1 (w.heap.size + 1 + 1) (.slice (some ⟨g', 0, none⟩) (d.length + 1) cap')
    have hm : Mid w (w.heap.size + 4) rc .busy none 0 (d ++ [x]) r (w1.setCell ⟨w.heap.size + 1 + 1, 0, none⟩ (.slice (some ⟨g', 0, none⟩) (d.length + 1) cap')) :=
      ⟨((b2'.alloc _).kept hgrow n2).kept hgs (by simp; omega), ((b3'.alloc _).kept hgrow n3).kept hgs (by simp), ⟨_, hv2, by simpa [List.flatMap_append] using hr2⟩,
        ((bs'.alloc _).kept hgrow ns).kept hgs (by simp), hB'.trans hb2, fun a => ((World.frozen?_setCell ..).trans ((hfz.out a).trans (frz_alloc _ _ rfl a))).trans (hZ'.out a), hk2.same _ _ hD' rfl, hk2.same _ _ hL' rfl⟩
    exact ⟨hm.lp, rfl, hm.turn (by omega)⟩
  case last =>
    intro d r W x e h hlt he
    refine round_rc hrc trivial h.lp rfl ?_
    clear hw1 hw2 hm0
    rw [hsz] at h ⊢
    gi_wp2
    have h1 := h.below' ((Below.refl _ W).alloc (Nat.le_refl _) (.cells #[.int .i64 x.1, .int .i64 x.2.1, .int .i64 x.2.2.1, .int .i64 x.2.2.2.1, .int .i64 x.2.2.2.2.1, .int .i64 x.2.2.2.2.2.1, .int .i64 x.2.2.2.2.2.2.1, .bool x.2.2.2.2.2.2.2.1] 23)) (frz_alloc _ _ rfl)
    refine ⟨h1.lp, ?_⟩
    have h2 := h1.turn (st' := .busy) (pe' := none) (by omega)
    generalize ((W.alloc (.cells #[.int .i64 x.1, .int .i64 x.2.1, .int .i64 x.2.2.1, .int .i64 x.2.2.2.1, .int .i64 x.2.2.2.2.1, .int .i64 x.2.2.2.2.2.1, .int .i64 x.2.2.2.2.2.2.1, .bool x.2.2.2.2.2.2.2.1] 23)).putObj (w.heap.size + 4 + 1) (.loop (rc .busy none))) = W2 at h2 ⊢
    clear h1 h hrc
    have c2 := h2.b2.cell
    have f2 := h2.b2.frozen
    have c3 := h2.b3.cell
    have f3 := h2.b3.frozen
    gi_wp2
    have h3 := h2.set2.set3 e
    exact ⟨h3.lp, rfl, _, h3.turn (by omega)⟩
  · rintro e W1 ⟨hv, ⟨h0, hm⟩ | ⟨h0, r, hm⟩⟩
    · refine ⟨hv, .inl ⟨hm.lp, ?_⟩⟩
      have h2 := hm.turn (st' := .exhausted) (pe' := none) (by omega)
      clear hw1 hw2 hm0
      generalize (W1.putObj (W0.heap.size + 1) (.loop (rc .exhausted none))) = W2 at h2 ⊢
      obtain ⟨v, b4', hrow⟩ := h2.b4
      obtain ⟨A, len, cap, rfl⟩ : ∃ A len cap, v = .slice A len cap := by
        rcases hrow.2 with ⟨e, _⟩ | ⟨g, cap, _, e, _⟩ <;> exact ⟨_, _, _, e⟩
      have c2 := h2.b2.cell
      have f2 := h2.b2.frozen
      have c3 := h2.b3.cell
      have f3 := h2.b3.frozen
      have c4 := b4'.cell
      rw [hsz]
      gi_wp2
      have hg2 := grownBy_setCell' W2 w.heap.size (.slice A len cap)
      have hg3 := grownBy_setCell' (W2.setCell ⟨w.heap.size, 0, none⟩ (.slice A len cap)) (w.heap.size + 1) (.int .i64 0)
      have b2a := (h2.b2.set (.slice A len cap)).kept hg3 (by simp)
      have b3a := (h2.b3.kept hg2 (by simp)).set (.int .i64 0)
      have hr2 := hrow.kept hg2 (.inr (h2.b2.not_row (by decide) hrow).symm)
      have hr3 := hr2.kept hg3 (.inr ((h2.b3.kept hg2 (by simp)).not_row (by decide) hr2).symm)
      have hB3 := (h2.below.setCell (p := ⟨w.heap.size, 0, none⟩) (by simp) (.slice A len cap)).setCell (p := ⟨w.heap.size + 1, 0, none⟩) (by simp) (.int .i64 0)
      have hF3 : ∀ a, ((W2.setCell ⟨w.heap.size, 0, none⟩ (.slice A len cap)).setCell ⟨w.heap.size + 1, 0, none⟩ (.int .i64 0)).frozen? a = w.frozen? a := fun a => ((World.frozen?_setCell ..).trans (World.frozen?_setCell ..)).trans (h2.frz a)
      have hd := h2.dfr
      rw [hsz] at hd
      have hne1 : w.heap.size + 4 ≠ w.heap.size := by omega
      have hne2 : w.heap.size + 4 ≠ w.heap.size + 1 := by omega
      have hd3 := ((Below.heap_setCell (W2.setCell ⟨w.heap.size, 0, none⟩ (.slice A len cap)) ⟨w.heap.size + 1, 0, none⟩ (.int .i64 0) _ hne2).trans (Below.heap_setCell W2 ⟨w.heap.size, 0, none⟩ (.slice A len cap) _ hne1)).trans hd
      generalize ((W2.setCell ⟨w.heap.size, 0, none⟩ (.slice A len cap)).setCell ⟨w.heap.size + 1, 0, none⟩ (.int .i64 0)) = W4 at b2a b3a hr3 hB3 hd3 hF3 ⊢
      refine ⟨by simp, .inl ⟨_, _, rfl, run_takeDeferred hd3, ?_⟩⟩
      have hgp := grownBy_putObj' W4 (w.heap.size + 4) (.deferred none)
      have hne : ∀ {k : Nat} {t : TypeId} {v : Value}, Boxed W4 k t v → some k ≠ some (w.heap.size + 4) := fun hk e => by
        cases e
        have hk' : W4.heap[w.heap.size + 4]? = _ := hk
        rw [hd3] at hk'
        cases hk'
      refine ⟨_, results_two (x := .slice A len cap) (y := .int .i64 0) rfl rfl rfl (load_boxed (b2a.kept hgp (hne b2a)) (by kernel_rfl) (by kernel_rfl) (by kernel_rfl)) (load_boxed (b3a.kept hgp (hne b3a)) (by kernel_rfl) (by kernel_rfl) (by kernel_rfl)), ?_⟩
      exact ⟨_, rfl, ⟨hB3.trans ⟨hgp.os, hgp.tape, hgp.output, hgp.size, fun k hk => hgp.block k (Nat.lt_of_lt_of_le hk hB3.size) (by simp; omega)⟩, fun a => (frz_putObj _ _ _ _ hd3 rfl rfl a).trans (hF3 a)⟩, ownsRow_putObj hr3 _ hd3 rfl⟩
    · refine ⟨hv, .inr ⟨.ret, hm.lp, ?_⟩⟩
      have h2 := hm.turn (st' := .exhausted) (pe' := some .ret) (by omega)
      clear hw1 hw2 hm0
      generalize (W1.putObj (W0.heap.size + 1) (.loop (rc .exhausted (some .ret)))) = W2 at h2 ⊢
      rw [hsz] at h2 ⊢
      gi_wp2
      refine ⟨by simp, .inl ⟨_, _, rfl, run_takeDeferred h2.dfr, ?_⟩⟩
      have hgp := grownBy_putObj' W2 (w.heap.size + 4) (.deferred none)
      have hne : ∀ {k : Nat} {t : TypeId} {v : Value}, Boxed W2 k t v → some k ≠ some (w.heap.size + 4) := fun hk e => by
        cases e
        have hk' : W2.heap[w.heap.size + 4]? = _ := hk
        rw [h2.dfr] at hk'
        cases hk'
      refine ⟨_, results_two (x := .slice none 0 0) (y := .int .i64 (seqD s.length s).2) rfl rfl rfl (load_boxed (h2.b2.kept hgp (hne h2.b2)) (by kernel_rfl) (by kernel_rfl) (by kernel_rfl)) (load_boxed (h2.b3.kept hgp (hne h2.b3)) (by kernel_rfl) (by kernel_rfl) (by kernel_rfl)), ?_⟩
      refine ⟨_, rfl, ⟨h2.below.trans ⟨hgp.os, hgp.tape, hgp.output, hgp.size, fun k hk => hgp.block k (Nat.lt_of_lt_of_le hk h2.below.size) (by simp; omega)⟩, fun a => (frz_putObj _ _ _ _ h2.dfr rfl rfl a).trans (h2.frz a)⟩, ?_⟩
      rw [show ((seqD s.length s).2 == 0) = false from by simpa using h0]
      exact World.ownsRow_nil _ _ _ _

/-! ### As a function of plain arguments -/

theorem insC_RL {w : World} {K : Kinds} : ∀ l : List tIns.den, RL (RT w K tIns) l (l.flatMap insC)
  | [] => rfl
  | x :: l => ⟨insC x, l.flatMap insC, by simp, ⟨[.int .i64 x.1], _, rfl, rfl, [.int .i64 x.2.1], _, rfl, rfl, [.int .i64 x.2.2.1], _, rfl, rfl, [.int .i64 x.2.2.2.1], _, rfl, rfl, [.int .i64 x.2.2.2.2.1], _, rfl, rfl, [.int .i64 x.2.2.2.2.2.1], _, rfl, rfl, [.int .i64 x.2.2.2.2.2.2.1], _, rfl, rfl, [.bool x.2.2.2.2.2.2.2.1], [], rfl, rfl, rfl⟩, insC_RL l⟩

theorem all_plain (hP : DecodePlain) : PlainOk Try.prog 29 (plainT A_decode_All G_decode_All S_decode_All V_decode_All) := by
  intro args v hv w K vs hvs hfix
  unfold plainT at hv
  cases hx : asAll A_decode_All args with
  | none => rw [hx] at hv; cases hv
  | some s =>
    rw [hx] at hv
    simp only [Option.map_some, Option.some.injEq, Prod.mk.injEq] at hv
    obtain ⟨hg, rfl⟩ := hv
    have hva := asAll_RVs A_decode_All args s vs hx hvs
    match vs, hva with
    | [u], hva =>
      have hu := RV.str hva.1
      subst hu
      refine (callsIn_wide.1 (all_in hP s (Nat.le_of_ble_eq_true hg) w)).mono ?_
      rintro e W' ⟨r, rfl, ⟨hB, hF⟩, hrow⟩
      have hK : ∀ b, (if b < w.heap.size then K b else Kind.old).fixed = true := fun b => by
        by_cases h : b < w.heap.size
        · rw [if_pos h]; exact hfix b h
        · rw [if_neg h]; rfl
      refine ⟨_, fun b => if b < w.heap.size then K b else .old, rfl, ?_, ?_, ?_⟩
      · exact {
          os := hB.os
          tape := hB.tape
          output := hB.output
          size := hB.size
          fix := fun b hb _ => ⟨if_pos hb, hB.block b hb⟩
          stab := fun b o hb hs => ⟨by unfold Stab; simp only [if_pos hb]; exact hs, World.cell?_of_block (hB.block b hb)⟩
          box := fun b id hb hk => by simp only [if_pos hb]; exact hk
          frz := hF }
      · intro b id _ hk
        have h1 := hK b
        simp only at hk
        rw [hk] at h1
        cases h1
      · refine ⟨#[r, .int .i64 (seqD s.length s).2], rfl, ?_, ⟨rfl, (fun e => (by cases e)), (fun _ c e => (by cases e))⟩, rfl⟩
        have hcc : ∀ A len cap, r = .slice A len cap → ∀ a, A = some a → ∃ cc, RL (RT W' (fun b => if b < w.heap.size then K b else .old) tIns) (bif (seqD s.length s).2 == 0 then (seqD s.length s).1 else []) cc ∧ At W' (fun b => if b < w.heap.size then K b else .old) a cc := by
          intro A len cap hr a ha
          subst hr ha
          rcases hrow.2 with ⟨e, _⟩ | ⟨g, cap', cur, e, hg, hh, _, _, _, hpre⟩
          · cases e
          · injection e with e1 e2 e3
            injection e1 with e1
            subst e1
            refine ⟨_, insC_RL _, fun j v hj => ⟨rfl, ?_, ?_⟩⟩
            · rw [← hpre] at hj
              simp only [World.cell?, hh, Option.isSome_none, Bool.false_eq_true, if_false, Nat.zero_add]
              rw [List.getElem?_take] at hj
              split at hj
              · simpa using hj
              · cases hj
            · unfold Stab
              simp only [if_neg (Nat.not_lt.2 hg)]
              exact trivial
        rcases hrow.2 with ⟨e, h0⟩ | ⟨g, cap', cur, e, _, _, hle, _⟩
        · subst e
          exact ⟨⟨none, 0, 0, rfl, h0.symm, Nat.le_refl _, fun _ => rfl, fun a ha => by cases ha⟩, (fun e => (by cases e)), (fun _ c e => (by cases e))⟩
        · subst e
          exact ⟨⟨_, _, cap', rfl, rfl, hle, (fun e => (by cases e)), hcc _ _ _ rfl⟩, (fun e => (by cases e)), (fun _ c e => (by cases e))⟩

end Go.Proofs.Ytbfhpnnnfjjjnaa
end
/-! The functions that the statements reach, walked: chain Law03e. Written by wip/tools/gen.py out of wip/conf/Law03e.txt. -/
section
namespace Go.Proofs.Ytbfhpnnnfjjjnaa
open Go Go.Av Go.Proofs
noncomputable def cLaw03e0 : Ctx := baseC Try.prog [23, 66, 68]
theorem cLaw03e0_good : Av.Good cLaw03e0 := good_base (by kernel_rfl) (by kernel_rfl) (by kernel_rfl)
noncomputable def cLaw03e1 : Ctx := cLaw03e0.addPlain 44 (plainT A_thumb_within G_thumb_within S_thumb_within V_thumb_within)
theorem cLaw03e1_good : Av.Good cLaw03e1 := cLaw03e0_good.fnP S_thumb_within T_thumb_within G_thumb_within V_thumb_within 2 8 (by kernel_rfl) (fun x => by kernel_rfl) ok_thumb_within
noncomputable def cLaw03e2 : Ctx := cLaw03e1.addPlain 45 (plainT A_thumb_field G_thumb_field S_thumb_field V_thumb_field)
theorem cLaw03e2_good : Av.Good cLaw03e2 := cLaw03e1_good.fnP S_thumb_field T_thumb_field G_thumb_field V_thumb_field 2 8 (by kernel_rfl) (fun x => by kernel_rfl) ok_thumb_field
noncomputable def cLaw03e3 : Ctx := cLaw03e2.addPlain 43 (plainT A_thumb_formOf G_thumb_formOf S_thumb_formOf V_thumb_formOf)
theorem cLaw03e3_good : Av.Good cLaw03e3 := cLaw03e2_good.fnP S_thumb_formOf T_thumb_formOf G_thumb_formOf V_thumb_formOf 2 8 (by kernel_rfl) (fun x => by kernel_rfl) ok_thumb_formOf
noncomputable def cLaw03e4 : Ctx := cLaw03e3.addPlain 18 (plainT A_thumb_Reach G_thumb_Reach S_thumb_Reach V_thumb_Reach)
theorem cLaw03e4_good : Av.Good cLaw03e4 := cLaw03e3_good.fnP S_thumb_Reach T_thumb_Reach G_thumb_Reach V_thumb_Reach 3 8 (by kernel_rfl) (fun x => by kernel_rfl) ok_thumb_Reach
noncomputable def cLaw03e5 : Ctx := cLaw03e4.addPlain 42 (plainT A_thumb_branch G_thumb_branch S_thumb_branch V_thumb_branch)
theorem cLaw03e5_good : Av.Good cLaw03e5 := cLaw03e4_good.fnP S_thumb_branch T_thumb_branch G_thumb_branch V_thumb_branch 3 8 (by kernel_rfl) (fun x => by kernel_rfl) ok_thumb_branch
noncomputable def cLaw03e6 : Ctx := cLaw03e5.addPlain 19 (plainT A_thumb_Check G_thumb_Check S_thumb_Check V_thumb_Check)
theorem cLaw03e6_good : Av.Good cLaw03e6 := cLaw03e5_good.fnP S_thumb_Check T_thumb_Check G_thumb_Check V_thumb_Check 3 8 (by kernel_rfl) (fun x => by kernel_rfl) ok_thumb_Check
noncomputable def cLaw03e7 : Ctx := cLaw03e6.addPlain 67 (plainT A_hauberkref02_more G_hauberkref02_more S_hauberkref02_more V_hauberkref02_more)
theorem cLaw03e7_good : Av.Good cLaw03e7 := cLaw03e6_good.fnP S_hauberkref02_more T_hauberkref02_more G_hauberkref02_more V_hauberkref02_more 2 8 (by kernel_rfl) (fun x => by kernel_rfl) ok_hauberkref02_more
noncomputable def cLaw03e8 : Ctx := cLaw03e7.addPlain 40 (plainT A_hauberkref02_Bits G_hauberkref02_Bits S_hauberkref02_Bits V_hauberkref02_Bits)
theorem cLaw03e8_good : Av.Good cLaw03e8 := cLaw03e7_good.fnP S_hauberkref02_Bits T_hauberkref02_Bits G_hauberkref02_Bits V_hauberkref02_Bits 2 8 (by kernel_rfl) (fun x => by kernel_rfl) ok_hauberkref02_Bits
noncomputable def cLaw03e9 : Ctx := cLaw03e8.addLoop 69 2 L_hauberkref02_has_2.toT.toLoop
theorem cLaw03e9_good : Av.Good cLaw03e9 := cLaw03e8_good.loopN L_hauberkref02_has_2 2 8 (by kernel_rfl) (fun _ _ => rfl) (fun x y s m K => by kernel_rfl) (fun x y s s' K e => by kernel_rfl)
noncomputable def cLaw03e10 : Ctx := cLaw03e9.addPlain 69 (plainT A_hauberkref02_has G_hauberkref02_has S_hauberkref02_has V_hauberkref02_has)
theorem cLaw03e10_good : Av.Good cLaw03e10 := cLaw03e9_good.fnP S_hauberkref02_has T_hauberkref02_has G_hauberkref02_has V_hauberkref02_has 2 8 (by kernel_rfl) (fun x => by kernel_rfl) ok_hauberkref02_has
noncomputable def cLaw03e11 : Ctx := cLaw03e10.addPlain 47 (plainT A_hauberkref02_reg G_hauberkref02_reg S_hauberkref02_reg V_hauberkref02_reg)
theorem cLaw03e11_good : Av.Good cLaw03e11 := cLaw03e10_good.fnP S_hauberkref02_reg T_hauberkref02_reg G_hauberkref02_reg V_hauberkref02_reg 2 8 (by kernel_rfl) (fun x => by kernel_rfl) ok_hauberkref02_reg
noncomputable def cLaw03e12 : Ctx := cLaw03e11.addPlain 20 (plainT A_hauberkref02_Reach G_hauberkref02_Reach S_hauberkref02_Reach V_hauberkref02_Reach)
theorem cLaw03e12_good : Av.Good cLaw03e12 := cLaw03e11_good.fnP S_hauberkref02_Reach T_hauberkref02_Reach G_hauberkref02_Reach V_hauberkref02_Reach 2 8 (by kernel_rfl) (fun x => by kernel_rfl) ok_hauberkref02_Reach
noncomputable def cLaw03e13 : Ctx := cLaw03e12.addPlain 46 (plainT A_hauberkref02_number G_hauberkref02_number S_hauberkref02_number V_hauberkref02_number)
theorem cLaw03e13_good : Av.Good cLaw03e13 := cLaw03e12_good.fnP S_hauberkref02_number T_hauberkref02_number G_hauberkref02_number V_hauberkref02_number 2 8 (by kernel_rfl) (fun x => by kernel_rfl) ok_hauberkref02_number
noncomputable def cLaw03e14 : Ctx := cLaw03e13.addPlain 21 (plainT A_hauberkref02_Check G_hauberkref02_Check S_hauberkref02_Check V_hauberkref02_Check)
theorem cLaw03e14_good : Av.Good cLaw03e14 := cLaw03e13_good.fnP S_hauberkref02_Check T_hauberkref02_Check G_hauberkref02_Check V_hauberkref02_Check 3 8 (by kernel_rfl) (fun x => by kernel_rfl) ok_hauberkref02_Check
noncomputable def cLaw03e15 : Ctx := cLaw03e14.addPlain 88 (plainT A_thumb_put G_thumb_put S_thumb_put V_thumb_put)
theorem cLaw03e15_good : Av.Good cLaw03e15 := cLaw03e14_good.fnP S_thumb_put T_thumb_put G_thumb_put V_thumb_put 2 6 (by kernel_rfl) (fun x => by kernel_rfl) ok_thumb_put
noncomputable def cLaw03e16 : Ctx := cLaw03e15.addPlain 65 (plainT A_thumb_shifted G_thumb_shifted S_thumb_shifted V_thumb_shifted)
theorem cLaw03e16_good : Av.Good cLaw03e16 := cLaw03e15_good.fnP S_thumb_shifted T_thumb_shifted G_thumb_shifted V_thumb_shifted 4 8 (by kernel_rfl) (fun x => by kernel_rfl) ok_thumb_shifted
noncomputable def cLaw03e17 : Ctx := cLaw03e16.addPlain 64 (plainT A_thumb_move G_thumb_move S_thumb_move V_thumb_move)
theorem cLaw03e17_good : Av.Good cLaw03e17 := cLaw03e16_good.fnP S_thumb_move T_thumb_move G_thumb_move V_thumb_move 4 8 (by kernel_rfl) (fun x => by kernel_rfl) ok_thumb_move
noncomputable def cLaw03e18 : Ctx := cLaw03e17.addPlain 89 (plainT A_thumb_short G_thumb_short S_thumb_short V_thumb_short)
theorem cLaw03e18_good : Av.Good cLaw03e18 := cLaw03e17_good.fnP S_thumb_short T_thumb_short G_thumb_short V_thumb_short 4 8 (by kernel_rfl) (fun x => by kernel_rfl) ok_thumb_short
noncomputable def cLaw03e19 : Ctx := cLaw03e18.addPlain 90 (plainT A_thumb_wide G_thumb_wide S_thumb_wide V_thumb_wide)
theorem cLaw03e19_good : Av.Good cLaw03e19 := cLaw03e18_good.fnP S_thumb_wide T_thumb_wide G_thumb_wide V_thumb_wide 4 8 (by kernel_rfl) (fun x => by kernel_rfl) ok_thumb_wide
noncomputable def cLaw03e20 : Ctx := cLaw03e19.addPlain 66 (plainT A_thumb_others G_thumb_others S_thumb_others V_thumb_others)
theorem cLaw03e20_good : Av.Good cLaw03e20 := cLaw03e19_good.fnP S_thumb_others T_thumb_others G_thumb_others V_thumb_others 4 8 (by kernel_rfl) (fun x => by kernel_rfl) ok_thumb_others
noncomputable def cLaw03e21 : Ctx := cLaw03e20.addPlain 38 (plainT A_thumb_bits G_thumb_bits S_thumb_bits V_thumb_bits)
theorem cLaw03e21_good : Av.Good cLaw03e21 := cLaw03e20_good.fnP S_thumb_bits T_thumb_bits G_thumb_bits V_thumb_bits 4 8 (by kernel_rfl) (fun x => by kernel_rfl) ok_thumb_bits
noncomputable def cLaw03e22 : Ctx := cLaw03e21.addPlain 22 (plainT A_thumb_Size G_thumb_Size S_thumb_Size V_thumb_Size)
theorem cLaw03e22_good : Av.Good cLaw03e22 := cLaw03e21_good.fnP S_thumb_Size T_thumb_Size G_thumb_Size V_thumb_Size 4 8 (by kernel_rfl) (fun x => by kernel_rfl) ok_thumb_Size
noncomputable def cLaw03e23 : Ctx := cLaw03e22.addPlain 23 (plainT A_hauberkref02_Size G_hauberkref02_Size S_hauberkref02_Size V_hauberkref02_Size)
theorem cLaw03e23_good : Av.Good cLaw03e23 := cLaw03e22_good.fnP S_hauberkref02_Size T_hauberkref02_Size G_hauberkref02_Size V_hauberkref02_Size 2 8 (by kernel_rfl) (fun x => by kernel_rfl) ok_hauberkref02_Size
noncomputable def cLaw03e24 : Ctx := cLaw03e23.addPlain 39 (plainT A_thumb_half G_thumb_half S_thumb_half V_thumb_half)
theorem cLaw03e24_good : Av.Good cLaw03e24 := cLaw03e23_good.fnP S_thumb_half T_thumb_half G_thumb_half V_thumb_half 2 8 (by kernel_rfl) (fun x => by kernel_rfl) ok_thumb_half
noncomputable def cLaw03e25 : Ctx := cLaw03e24.addPlain 15 (plainT A_thumb_Encode G_thumb_Encode S_thumb_Encode V_thumb_Encode)
theorem cLaw03e25_good : Av.Good cLaw03e25 := cLaw03e24_good.fnP S_thumb_Encode T_thumb_Encode G_thumb_Encode V_thumb_Encode 2 8 (by kernel_rfl) (fun x => by kernel_rfl) ok_thumb_Encode
noncomputable def cLaw03e26 : Ctx := cLaw03e25.addPlain 17 (plainT A_hauberklaw02_lives G_hauberklaw02_lives S_hauberklaw02_lives V_hauberklaw02_lives)
theorem cLaw03e26_good : Av.Good cLaw03e26 := cLaw03e25_good.fnP S_hauberklaw02_lives T_hauberklaw02_lives G_hauberklaw02_lives V_hauberklaw02_lives 2 8 (by kernel_rfl) (fun x => by kernel_rfl) ok_hauberklaw02_lives
noncomputable def cLaw03e27 : Ctx := cLaw03e26.addLoop 68 3 L_hauberkref02_bit_3.toT.toLoop
theorem cLaw03e27_good : Av.Good cLaw03e27 := cLaw03e26_good.loopN L_hauberkref02_bit_3 2 8 (by kernel_rfl) (fun _ _ => rfl) (fun x y s m K => by kernel_rfl) (fun x y s s' K e => by kernel_rfl)
noncomputable def cLaw03e28 : Ctx := cLaw03e27.addPlain 68 (plainT A_hauberkref02_bit G_hauberkref02_bit S_hauberkref02_bit V_hauberkref02_bit)
theorem cLaw03e28_good : Av.Good cLaw03e28 := cLaw03e27_good.fnP S_hauberkref02_bit T_hauberkref02_bit G_hauberkref02_bit V_hauberkref02_bit 2 8 (by kernel_rfl) (fun x => by kernel_rfl) ok_hauberkref02_bit
noncomputable def cLaw03e29 : Ctx := cLaw03e28.addPlain 41 (plainT A_hauberkref02_field G_hauberkref02_field S_hauberkref02_field V_hauberkref02_field)
theorem cLaw03e29_good : Av.Good cLaw03e29 := cLaw03e28_good.fnP S_hauberkref02_field T_hauberkref02_field G_hauberkref02_field V_hauberkref02_field 2 8 (by kernel_rfl) (fun x => by kernel_rfl) ok_hauberkref02_field
noncomputable def cLaw03e30 : Ctx := cLaw03e29.addLoop 16 14 L_hauberkref02_Encode_14.toT.toLoop
theorem cLaw03e30_good : Av.Good cLaw03e30 := cLaw03e29_good.loopN L_hauberkref02_Encode_14 2 8 (by kernel_rfl) (fun _ _ => rfl) (fun x y s m K => by kernel_rfl) (fun x y s s' K e => by kernel_rfl)
noncomputable def cLaw03e31 : Ctx := cLaw03e30.addLoop 16 11 L_hauberkref02_Encode_11.toT.toLoop
theorem cLaw03e31_good : Av.Good cLaw03e31 := cLaw03e30_good.loopN L_hauberkref02_Encode_11 2 8 (by kernel_rfl) (fun _ _ => rfl) (fun x y s m K => by kernel_rfl) (fun x y s s' K e => by kernel_rfl)
noncomputable def cLaw03e32 : Ctx := cLaw03e31.addLoop 16 7 L_hauberkref02_Encode_7.toT.toLoop
theorem cLaw03e32_good : Av.Good cLaw03e32 := cLaw03e31_good.loopN L_hauberkref02_Encode_7 2 8 (by kernel_rfl) (fun _ _ => rfl) (fun x y s m K => by kernel_rfl) (fun x y s s' K e => by kernel_rfl)
noncomputable def cLaw03e33 : Ctx := cLaw03e32.addPlain 16 (plainT A_hauberkref02_Encode G_hauberkref02_Encode S_hauberkref02_Encode V_hauberkref02_Encode)
theorem cLaw03e33_good : Av.Good cLaw03e33 := cLaw03e32_good.fnP S_hauberkref02_Encode T_hauberkref02_Encode G_hauberkref02_Encode V_hauberkref02_Encode 2 8 (by kernel_rfl) (fun x => by kernel_rfl) ok_hauberkref02_Encode
noncomputable def cLaw03e34 : Ctx := cLaw03e33.addPlain 70 (plainT A_decode_some G_decode_some S_decode_some V_decode_some)
theorem cLaw03e34_good : Av.Good cLaw03e34 := cLaw03e33_good.fnP S_decode_some T_decode_some G_decode_some V_decode_some 2 8 (by kernel_rfl) (fun x => by kernel_rfl) ok_decode_some
noncomputable def cLaw03e35 : Ctx := cLaw03e34.addPlain 49 (plainT A_decode_half G_decode_half S_decode_half V_decode_half)
theorem cLaw03e35_good : Av.Good cLaw03e35 := cLaw03e34_good.fnP S_decode_half T_decode_half G_decode_half V_decode_half 2 8 (by kernel_rfl) (fun x => by kernel_rfl) ok_decode_half
noncomputable def cLaw03e36 : Ctx := cLaw03e35.addPlain 71 (plainT A_decode_signed G_decode_signed S_decode_signed V_decode_signed)
theorem cLaw03e36_good : Av.Good cLaw03e36 := cLaw03e35_good.fnP S_decode_signed T_decode_signed G_decode_signed V_decode_signed 2 8 (by kernel_rfl) (fun x => by kernel_rfl) ok_decode_signed
noncomputable def cLaw03e37 : Ctx := cLaw03e36.addLoop 91 2 L_decode_regs_2.toT.toLoop
theorem cLaw03e37_good : Av.Good cLaw03e37 := cLaw03e36_good.loopN L_decode_regs_2 2 8 (by kernel_rfl) (fun _ _ => rfl) (fun x y s m K => by kernel_rfl) (fun x y s s' K e => by kernel_rfl)
noncomputable def cLaw03e38 : Ctx := cLaw03e37.addPlain 91 (plainT A_decode_regs G_decode_regs S_decode_regs V_decode_regs)
theorem cLaw03e38_good : Av.Good cLaw03e38 := cLaw03e37_good.fnP S_decode_regs T_decode_regs G_decode_regs V_decode_regs 2 8 (by kernel_rfl) (fun x => by kernel_rfl) ok_decode_regs
noncomputable def cLaw03e39 : Ctx := cLaw03e38.addPlain 26 (plainT A_decode_Size G_decode_Size S_decode_Size V_decode_Size)
theorem cLaw03e39_good : Av.Good cLaw03e39 := cLaw03e38_good.fnP S_decode_Size T_decode_Size G_decode_Size V_decode_Size 2 8 (by kernel_rfl) (fun x => by kernel_rfl) ok_decode_Size
noncomputable def cLaw03e40 : Ctx := cLaw03e39.addPlain 48 (plainT A_decode_narrow G_decode_narrow S_decode_narrow V_decode_narrow)
theorem cLaw03e40_good : Av.Good cLaw03e40 := cLaw03e39_good.fnP S_decode_narrow T_decode_narrow G_decode_narrow V_decode_narrow 2 12 (by kernel_rfl) (fun x => by kernel_rfl) ok_decode_narrow
noncomputable def cLaw03e41 : Ctx := cLaw03e40.addPlain 72 (plainT A_decode_three G_decode_three S_decode_three V_decode_three)
theorem cLaw03e41_good : Av.Good cLaw03e41 := cLaw03e40_good.fnP S_decode_three T_decode_three G_decode_three V_decode_three 3 12 (by kernel_rfl) (fun x => by kernel_rfl) ok_decode_three
noncomputable def cLaw03e42 : Ctx := cLaw03e41.addPlain 73 (plainT A_decode_product G_decode_product S_decode_product V_decode_product)
theorem cLaw03e42_good : Av.Good cLaw03e42 := cLaw03e41_good.fnP S_decode_product T_decode_product G_decode_product V_decode_product 2 12 (by kernel_rfl) (fun x => by kernel_rfl) ok_decode_product
noncomputable def cLaw03e43 : Ctx := cLaw03e42.addPlain 74 (plainT A_decode_plain G_decode_plain S_decode_plain V_decode_plain)
theorem cLaw03e43_good : Av.Good cLaw03e43 := cLaw03e42_good.fnP S_decode_plain T_decode_plain G_decode_plain V_decode_plain 2 12 (by kernel_rfl) (fun x => by kernel_rfl) ok_decode_plain
noncomputable def cLaw03e44 : Ctx := cLaw03e43.addPlain 75 (plainT A_decode_branch G_decode_branch S_decode_branch V_decode_branch)
theorem cLaw03e44_good : Av.Good cLaw03e44 := cLaw03e43_good.fnP S_decode_branch T_decode_branch G_decode_branch V_decode_branch 2 12 (by kernel_rfl) (fun x => by kernel_rfl) ok_decode_branch
noncomputable def cLaw03e45 : Ctx := cLaw03e44.addPlain 50 (plainT A_decode_long G_decode_long S_decode_long V_decode_long)
theorem cLaw03e45_good : Av.Good cLaw03e45 := cLaw03e44_good.fnP S_decode_long T_decode_long G_decode_long V_decode_long 2 12 (by kernel_rfl) (fun x => by kernel_rfl) ok_decode_long
noncomputable def cLaw03e46 : Ctx := cLaw03e45.addPlain 24 (plainT A_decode_Decode G_decode_Decode S_decode_Decode V_decode_Decode)
theorem cLaw03e46_good : Av.Good cLaw03e46 := cLaw03e45_good.fnP S_decode_Decode T_decode_Decode G_decode_Decode V_decode_Decode 2 12 (by kernel_rfl) (fun x => by kernel_rfl) ok_decode_Decode
noncomputable def cLaw03e47 : Ctx := cLaw03e46.addPlain 76 (plainT A_hauberkref03_text G_hauberkref03_text S_hauberkref03_text V_hauberkref03_text)
theorem cLaw03e47_good : Av.Good cLaw03e47 := cLaw03e46_good.fnP S_hauberkref03_text T_hauberkref03_text G_hauberkref03_text V_hauberkref03_text 2 20 (by kernel_rfl) (fun x => by kernel_rfl) ok_hauberkref03_text
noncomputable def cLaw03e48 : Ctx := cLaw03e47.addLoop 79 3 L_hauberkref03_power_3.toT.toLoop
theorem cLaw03e48_good : Av.Good cLaw03e48 := cLaw03e47_good.loopN L_hauberkref03_power_3 2 8 (by kernel_rfl) (fun _ _ => rfl) (fun x y s m K => by kernel_rfl) (fun x y s s' K e => by kernel_rfl)
noncomputable def cLaw03e49 : Ctx := cLaw03e48.addPlain 79 (plainT A_hauberkref03_power G_hauberkref03_power S_hauberkref03_power V_hauberkref03_power)
theorem cLaw03e49_good : Av.Good cLaw03e49 := cLaw03e48_good.fnP S_hauberkref03_power T_hauberkref03_power G_hauberkref03_power V_hauberkref03_power 2 8 (by kernel_rfl) (fun x => by kernel_rfl) ok_hauberkref03_power
noncomputable def cLaw03e50 : Ctx := cLaw03e49.addLoop 78 3 L_hauberkref03_sign_3.toT.toLoop
theorem cLaw03e50_good : Av.Good cLaw03e50 := cLaw03e49_good.loopN L_hauberkref03_sign_3 2 8 (by kernel_rfl) (fun _ _ => rfl) (fun x y s m K => by kernel_rfl) (fun x y s s' K e => by kernel_rfl)
noncomputable def cLaw03e51 : Ctx := cLaw03e50.addPlain 78 (plainT A_hauberkref03_sign G_hauberkref03_sign S_hauberkref03_sign V_hauberkref03_sign)
theorem cLaw03e51_good : Av.Good cLaw03e51 := cLaw03e50_good.fnP S_hauberkref03_sign T_hauberkref03_sign G_hauberkref03_sign V_hauberkref03_sign 2 8 (by kernel_rfl) (fun x => by kernel_rfl) ok_hauberkref03_sign
noncomputable def cLaw03e52 : Ctx := cLaw03e51.addPlain 51 (plainT A_hauberkref03_half G_hauberkref03_half S_hauberkref03_half V_hauberkref03_half)
theorem cLaw03e52_good : Av.Good cLaw03e52 := cLaw03e51_good.fnP S_hauberkref03_half T_hauberkref03_half G_hauberkref03_half V_hauberkref03_half 2 8 (by kernel_rfl) (fun x => by kernel_rfl) ok_hauberkref03_half
noncomputable def cLaw03e53 : Ctx := cLaw03e52.addPlain 27 (plainT A_hauberkref03_Size G_hauberkref03_Size S_hauberkref03_Size V_hauberkref03_Size)
theorem cLaw03e53_good : Av.Good cLaw03e53 := cLaw03e52_good.fnP S_hauberkref03_Size T_hauberkref03_Size G_hauberkref03_Size V_hauberkref03_Size 2 8 (by kernel_rfl) (fun x => by kernel_rfl) ok_hauberkref03_Size
noncomputable def cLaw03e54 : Ctx := cLaw03e53.addLoop 52 8 L_hauberkref03_read_8.toT.toLoop
theorem cLaw03e54_good : Av.Good cLaw03e54 := cLaw03e53_good.loopN L_hauberkref03_read_8 3 12 (by kernel_rfl) (fun _ _ => rfl) (fun x y s m K => by kernel_rfl) (fun x y s s' K e => by kernel_rfl)
noncomputable def cLaw03e55 : Ctx := cLaw03e54.addPlain 52 (plainT A_hauberkref03_read G_hauberkref03_read S_hauberkref03_read V_hauberkref03_read)
theorem cLaw03e55_good : Av.Good cLaw03e55 := cLaw03e54_good.fnP S_hauberkref03_read T_hauberkref03_read G_hauberkref03_read V_hauberkref03_read 3 12 (by kernel_rfl) (fun x => by kernel_rfl) ok_hauberkref03_read
noncomputable def cLaw03e56 : Ctx := cLaw03e55.addLoop 25 8 L_hauberkref03_Decode_8.toT.toLoop
theorem cLaw03e56_good : Av.Good cLaw03e56 := cLaw03e55_good.loopN L_hauberkref03_Decode_8 2 8 (by kernel_rfl) (fun _ _ => rfl) (fun x y s m K => by kernel_rfl) (fun x y s s' K e => by kernel_rfl)
noncomputable def cLaw03e57 : Ctx := cLaw03e56.addPlain 25 (plainT A_hauberkref03_Decode G_hauberkref03_Decode S_hauberkref03_Decode V_hauberkref03_Decode)
theorem cLaw03e57_good : Av.Good cLaw03e57 := cLaw03e56_good.fnP S_hauberkref03_Decode T_hauberkref03_Decode G_hauberkref03_Decode V_hauberkref03_Decode 2 8 (by kernel_rfl) (fun x => by kernel_rfl) ok_hauberkref03_Decode
noncomputable def cLaw03e58 : Ctx := cLaw03e57.addPlain 28 (plainT A_hauberklaw03_lives G_hauberklaw03_lives S_hauberklaw03_lives V_hauberklaw03_lives)
theorem cLaw03e58_good : Av.Good cLaw03e58 := cLaw03e57_good.fnP S_hauberklaw03_lives T_hauberklaw03_lives G_hauberklaw03_lives V_hauberklaw03_lives 2 8 (by kernel_rfl) (fun x => by kernel_rfl) ok_hauberklaw03_lives
noncomputable def cLaw03e59 : Ctx := cLaw03e58.addPlain 29 (plainT A_decode_All G_decode_All S_decode_All V_decode_All)
theorem cLaw03e59_good : Av.Good cLaw03e59 := cLaw03e58_good.addPlain (all_plain (cLaw03e58_good.toCtxOk.plain 24 _ (by kernel_rfl))) (by kernel_rfl)
noncomputable def cLaw03e60 : Ctx := cLaw03e59.addLoop 31 4 L_hauberk_hauberklaw03_Code_Same_4.toT.toLoop
theorem cLaw03e60_good : Av.Good cLaw03e60 := cLaw03e59_good.loopN L_hauberk_hauberklaw03_Code_Same_4 2 8 (by kernel_rfl) (fun _ _ => rfl) (fun x y s m K => by kernel_rfl) (fun x y s s' K e => by kernel_rfl)
noncomputable def cLaw03e61 : Ctx := cLaw03e60.addPlain 31 (plainT A_hauberk_hauberklaw03_Code_Same G_hauberk_hauberklaw03_Code_Same S_hauberk_hauberklaw03_Code_Same V_hauberk_hauberklaw03_Code_Same)
theorem cLaw03e61_good : Av.Good cLaw03e61 := cLaw03e60_good.fnP S_hauberk_hauberklaw03_Code_Same T_hauberk_hauberklaw03_Code_Same G_hauberk_hauberklaw03_Code_Same V_hauberk_hauberklaw03_Code_Same 2 8 (by kernel_rfl) (fun x => by kernel_rfl) ok_hauberk_hauberklaw03_Code_Same
noncomputable def cLaw03e62 : Ctx := cLaw03e61.addLoop 30 3 L_hauberkref03_All_3.toT.toLoop
theorem cLaw03e62_good : Av.Good cLaw03e62 := cLaw03e61_good.loopN L_hauberkref03_All_3 2 8 (by kernel_rfl) (fun _ _ => rfl) (fun x y s m K => by kernel_rfl) (fun x y s s' K e => by kernel_rfl)
noncomputable def cLaw03e63 : Ctx := cLaw03e62.addPlain 30 (plainT A_hauberkref03_All G_hauberkref03_All S_hauberkref03_All V_hauberkref03_All)
theorem cLaw03e63_good : Av.Good cLaw03e63 := cLaw03e62_good.fnP S_hauberkref03_All T_hauberkref03_All G_hauberkref03_All V_hauberkref03_All 2 8 (by kernel_rfl) (fun x => by kernel_rfl) ok_hauberkref03_All
noncomputable def cLaw03e64 : Ctx := cLaw03e63.addLoop 11 6 L_hauberklaw03_DecodeRow_6.toT.toLoop
theorem cLaw03e64_good : Av.Good cLaw03e64 := cLaw03e63_good.loopN L_hauberklaw03_DecodeRow_6 2 8 (by kernel_rfl) (fun _ _ => rfl) (fun x y s m K => by kernel_rfl) (fun x y s s' K e => by kernel_rfl)
noncomputable def cLaw03e65 : Ctx := cLaw03e64.addLoop 11 19 L_hauberklaw03_DecodeRow_19.toT.toLoop
theorem cLaw03e65_good : Av.Good cLaw03e65 := cLaw03e64_good.loopN L_hauberklaw03_DecodeRow_19 2 8 (by kernel_rfl) (fun _ _ => rfl) (fun x y s m K => by kernel_rfl) (fun x y s s' K e => by kernel_rfl)
noncomputable def cLaw03e : Ctx := cLaw03e65
theorem cLaw03e_good : Av.Good cLaw03e := cLaw03e65_good
end Go.Proofs.Ytbfhpnnnfjjjnaa
end
