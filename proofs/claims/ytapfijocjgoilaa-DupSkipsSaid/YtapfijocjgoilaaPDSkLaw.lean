/- Layer 28 (dup), on a memory: of what is done twice one may be skipped. -/
import Derived.Test.YtapfijocjgoilaaPDSk
namespace Go.Av
open Go

theorem safe_apart {op rd rn rm ra imm cond : Int} {w : Bool} (h : V_dup_Safe (op, rd, rn, rm, ra, imm, cond, w, ()) = true) : V_thumb_Check (op, rd, rn, rm, ra, imm, cond, w, ()) = 0 ∧ apartOk op rd rn rm ra ∧ op ≠ 2 ∧ op ≠ 24 ∧ op ≠ 25 ∧ (op = 19 → rd ≠ rn) ∧ (op = 21 → rd ≠ rn) := by
  have hck : V_thumb_Check (op, rd, rn, rm, ra, imm, cond, w, ()) = 0 := by
    cases hc : (V_thumb_Check (op, rd, rn, rm, ra, imm, cond, w, ()) != (0 : Int)) with
    | false => simpa using hc
    | true =>
      unfold V_dup_Safe T_dup_Safe PO.getO at h
      rw [val_yes hc] at h
      cases h
  refine ⟨hck, ?_⟩
  obtain ⟨hop, hrd, hrn, hrm, h17, _⟩ := check_bounds hck
  have hc : (V_thumb_Check (op, rd, rn, rm, ra, imm, cond, w, ()) != (0 : Int)) = false := by simpa using hck
  unfold V_dup_Safe T_dup_Safe PO.getO at h
  rw [val_no hc] at h
  unfold apartOk
  rcases op_cases op with rfl | rfl | rfl | rfl | rfl | rfl | rfl | rfl | rfl | rfl | rfl | rfl | rfl | rfl | rfl | rfl | rfl | rfl | rfl | rfl | rfl | rfl | rfl | rfl | rfl | hx
  case inr.inr.inr.inr.inr.inr.inr.inr.inr.inr.inr.inr.inr.inr.inr.inr.inr.inr.inr.inr.inr.inr.inr.inr.inr => omega
  all_goals
    simp [PO.val] at h ⊢ <;> grind

/-- The same again: nothing but the PC is another. -/
theorem step_again (s : tState.den) (op rd rn rm ra imm cond : Int) (w : Bool) (ld : Int) (hl : List.length s.1 = 15) (hck : V_thumb_Check (op, rd, rn, rm, ra, imm, cond, w, ()) = 0) (hap : apartOk op rd rn rm ra) (h2 : op ≠ 2) (h24 : op ≠ 24) (h25 : op ≠ 25) (h19 : op = 19 → rd ≠ rn) (h21 : op = 21 → rd ≠ rn) :
    ∃ (t : tState.den) (p : Int), V_cpu_Step (s, (op, rd, rn, rm, ra, imm, cond, w, ()), ld) = (t, true, ()) ∧ V_cpu_Step (t, (op, rd, rn, rm, ra, imm, cond, w, ()), ld) = ((t.1, p, t.2.2), true, ()) ∧
      V_cpu_Access (t, (op, rd, rn, rm, ra, imm, cond, w, ())) = V_cpu_Access (s, (op, rd, rn, rm, ra, imm, cond, w, ())) := by
  have hc : (V_thumb_Check (op, rd, rn, rm, ra, imm, cond, w, ()) != (0 : Int)) = false := by simpa using hck
  obtain ⟨hop, hrd, hrn, hrm, h17, himm, h31, h18, _⟩ := check_bounds hck
  have hra : op = 17 → 0 ≤ ra ∧ ra ≤ 12 := fun e => ⟨(h17 e).1, (h17 e).2.1⟩
  have hi3 : op = 3 → 0 ≤ imm ∧ imm ≤ 65535 := fun e => ⟨(himm h24 h25).1, (himm h24 h25).2.1⟩
  have hi18 : op = 18 → 0 ≤ imm ∧ 0 ≤ ra ∧ imm + ra ≤ 32 := fun e => by
    have := h18 e
    have := (himm h24 h25).1
    omega
  have ev : ∀ s, V_cpu_Step (s, (op, rd, rn, rm, ra, imm, cond, w, ()), ld) = stepV false s op rd rn rm ra imm cond w ld := fun s => by
    show stepV (V_thumb_Check (op, rd, rn, rm, ra, imm, cond, w, ()) != 0) s op rd rn rm ra imm cond w ld = _
    rw [hc]
  have b24 : (op == 24) = false := beq_eq_false_iff_ne.2 h24
  have b25 : (op == 25) = false := beq_eq_false_iff_ne.2 h25
  have nx : ∀ s, nextS s op rd rn rm ra imm ld = makesS (wState s) op rd rn rm ra imm ld := fun s => by
    unfold nextS
    rw [b24, b25]
    rfl
  have hwl : (wordR s.1).length = 15 := by rw [wordR_len, hl]
  -- the state behind the first one
  generalize ht : nextS s op rd rn rm ra imm ld = t at *
  have key : ∃ pc : Nat, pc < 4294967296 ∧ V_cpu_Step (s, (op, rd, rn, rm, ra, imm, cond, w, ()), ld) = ((t.1, (pc : Int), t.2.2), true, ()) := by
    refine ⟨wn (wn s.2.1 + farV (wState s) op imm cond w), wn_lt _, ?_⟩
    rw [ev, stepV_ok _ _ _ _ _ _ _ _ _ _ h2, ht]
  obtain ⟨pc, hpc, e1⟩ := key
  have ht1 : wordR t.1 = t.1 ∧ List.length t.1 = 15 ∧ makesS (wState (t.1, (pc : Int), t.2.2)) op rd rn rm ra imm ld = (t.1, (pc : Int), t.2.2) := by
    rw [nx] at ht
    have hws : ∀ t1 : List Int, ∀ f, wordR t1 = t1 → wState (t1, (pc : Int), f) = (t1, (pc : Int), f) := fun t1 f hh => by
      unfold wState
      simp only [hh, wn_nat hpc]
    by_cases h23 : op = 23
    · subst h23
      have et : t.1 = wordR s.1 := by rw [← ht]; rfl
      have hww : wordR t.1 = t.1 := by rw [et, wordR_wordR]
      refine ⟨hww, by rw [et, hwl], ?_⟩
      rw [hws _ _ hww]
      show ((t.1, (pc : Int), t.2.2).1, (pc : Int), (V_cpu_compare ((t.1, (pc : Int), t.2.2), rg t.1 rn, rg t.1 rm)).2.2) = _
      have e3 : t.2.2 = (V_cpu_compare (wState s, rg (wordR s.1) rn, rg (wordR s.1) rm)).2.2 := by rw [← ht]; rfl
      have ef : (V_cpu_compare ((t.1, (pc : Int), t.2.2), rg t.1 rn, rg t.1 rm)).2.2 = t.2.2 := by
        refine Eq.trans ?_ e3.symm
        rw [et]
        rfl
      rw [ef]
    · have b23 : (op == 23) = false := beq_eq_false_iff_ne.2 h23
      have em : ∀ s, makesS s op rd rn rm ra imm ld = (regsOf s.1 op rd rn rm ra imm ld, s.2) := fun s => by unfold makesS; rw [b23]; rfl
      rw [em] at ht
      have et : t.1 = regsOf (wordR s.1) op rd rn rm ra imm ld := by rw [← ht]; rfl
      obtain ⟨a1, a2⟩ := regsOf_again (ld := ld) hwl (wordR_wordR s.1) hap hrd hrn hrm hra hi3 hi18
      have hww : wordR t.1 = t.1 := by rw [et, a1]
      have hlen : ∀ r : List Int, (regsOf r op rd rn rm ra imm ld).length = r.length := fun r => by
        unfold regsOf
        cases op == 17
        · cases makesRd op <;> simp
        · simp
      refine ⟨hww, by rw [et, hlen, hwl], ?_⟩
      rw [hws _ _ hww, em]
      have a3 : regsOf (t.1, (pc : Int), t.2.2).1 op rd rn rm ra imm ld = t.1 := by
        show regsOf t.1 op rd rn rm ra imm ld = t.1
        rw [et, a2]
      rw [a3]
  obtain ⟨hww, htl, hagain⟩ := ht1
  have e2 : V_cpu_Step ((t.1, (pc : Int), t.2.2), (op, rd, rn, rm, ra, imm, cond, w, ()), ld) = ((t.1, (wn ((pc : Int) + (bif isLong op w then 4 else 2)) : Int), t.2.2), true, ()) := by
    rw [ev, stepV_ok _ _ _ _ _ _ _ _ _ _ h2, far_plain _ _ _ _ _ h24 h25]
    have : nextS (t.1, (pc : Int), t.2.2) op rd rn rm ra imm ld = (t.1, (pc : Int), t.2.2) := by rw [nx, hagain]
    rw [this]
    show ((t.1, (wn ((wn (pc : Int) : Int) + _) : Int), t.2.2), true, ()) = _
    rw [wn_nat hpc]
  have acc : V_cpu_Access ((t.1, (pc : Int), t.2.2), (op, rd, rn, rm, ra, imm, cond, w, ())) = V_cpu_Access (s, (op, rd, rn, rm, ra, imm, cond, w, ())) := by
    show accessV _ op (rg t.1 rn) (rg t.1 rd) = accessV _ op (rg s.1 rn) (rg s.1 rd)
    by_cases hs : op = 19 ∨ op = 20 ∨ op = 21 ∨ op = 22
    · have hk : ∀ k : Int, 0 ≤ k → (op = 19 ∨ op = 21 → k ≠ rd) → wn (rg t.1 k) = wn (rg s.1 k) := fun k hk0 hk1 => by
        rw [← ht, nx]
        have b23 : (op == 23) = false := beq_eq_false_iff_ne.2 (by omega)
        have b17 : (op == 17) = false := beq_eq_false_iff_ne.2 (by omega)
        have em : makesS (wState s) op rd rn rm ra imm ld = (regsOf (wordR s.1) op rd rn rm ra imm ld, (wState s).2) := by unfold makesS; rw [b23]; rfl
        rw [em]
        show wn (rg (regsOf (wordR s.1) op rd rn rm ra imm ld) k) = _
        have e : rg (regsOf (wordR s.1) op rd rn rm ra imm ld) k = (wn (rg s.1 k) : Int) := by
          by_cases h1 : op = 19 ∨ op = 21
          · rw [regsOf_keep _ _ _ _ _ _ _ _ _ hwl hrd hra hk0 (hk1 h1) (fun e => by omega), wordR_reg]
          · have h3 : op = 20 ∨ op = 22 := by omega
            have : regsOf (wordR s.1) op rd rn rm ra imm ld = wordR s.1 := by
              unfold regsOf
              rw [b17]
              rcases h3 with rfl | rfl <;> rfl
            rw [this, wordR_reg]
        rw [e, wn_wn]
      have kn := hk rn hrn.1 (fun h => h.elim (fun h => Ne.symm (h19 h)) (fun h => Ne.symm (h21 h)))
      rcases hs with rfl | rfl | rfl | rfl
      · unfold accessV; rw [kn]; rfl
      · have kd := hk rd hrd.1 (fun h => by omega)
        unfold accessV; rw [kn, kd]
      · unfold accessV; rw [kn]; rfl
      · have kd := hk rd hrd.1 (fun h => by omega)
        unfold accessV; rw [kn, kd]
    · have b19 : (op == 19) = false := beq_eq_false_iff_ne.2 (by omega)
      have b20 : (op == 20) = false := beq_eq_false_iff_ne.2 (by omega)
      have b21 : (op == 21) = false := beq_eq_false_iff_ne.2 (by omega)
      have b22 : (op == 22) = false := beq_eq_false_iff_ne.2 (by omega)
      unfold accessV
      rw [b19, b20, b21, b22]
      rfl
  exact ⟨_, _, e1, e2, acc⟩

/-- Two states that are the same but for the PC. -/
def simS (a b : tState.den) : Prop := wordR a.1 = wordR b.1 ∧ a.2.2 = b.2.2

theorem sim_rg {a b : tState.den} (h : simS a b) (k : Int) : wn (rg a.1 k) = wn (rg b.1 k) := by
  have h1 := wordR_reg a.1 k
  have h2 := wordR_reg b.1 k
  rw [h.1] at h1
  rw [h1] at h2
  exact Int.ofNat.inj h2

theorem sim_access {a b : tState.den} (h : simS a b) (i : tIns.den) : V_cpu_Access (a, i) = V_cpu_Access (b, i) := by
  obtain ⟨op, rd, rn, rm, ra, imm, cond, w, u⟩ := i
  show accessV _ op (rg a.1 rn) (rg a.1 rd) = accessV _ op (rg b.1 rn) (rg b.1 rd)
  unfold accessV
  rw [sim_rg h rn, sim_rg h rd]

theorem sim_step {a b : tState.den} (h : simS a b) (op rd rn rm ra imm cond : Int) (w : Bool) (ld : Int) (hck : V_thumb_Check (op, rd, rn, rm, ra, imm, cond, w, ()) = 0) (h2 : op ≠ 2) (h24 : op ≠ 24) (h25 : op ≠ 25) :
    ∃ ta tb : tState.den, V_cpu_Step (a, (op, rd, rn, rm, ra, imm, cond, w, ()), ld) = (ta, true, ()) ∧ V_cpu_Step (b, (op, rd, rn, rm, ra, imm, cond, w, ()), ld) = (tb, true, ()) ∧ simS ta tb := by
  have hc : (V_thumb_Check (op, rd, rn, rm, ra, imm, cond, w, ()) != (0 : Int)) = false := by simpa using hck
  have b24 : (op == 24) = false := beq_eq_false_iff_ne.2 h24
  have b25 : (op == 25) = false := beq_eq_false_iff_ne.2 h25
  have ev : ∀ s : tState.den, V_cpu_Step (s, (op, rd, rn, rm, ra, imm, cond, w, ()), ld) = (((makesS (wState s) op rd rn rm ra imm ld).1, (wn (wn s.2.1 + farV (wState s) op imm cond w) : Int), (makesS (wState s) op rd rn rm ra imm ld).2.2), true, ()) := fun s => by
    show stepV (V_thumb_Check (op, rd, rn, rm, ra, imm, cond, w, ()) != 0) s op rd rn rm ra imm cond w ld = _
    rw [hc, stepV_ok _ _ _ _ _ _ _ _ _ _ h2]
    unfold nextS
    rw [b24, b25]
    rfl
  refine ⟨_, _, ev a, ev b, ?_⟩
  have hm : (makesS (wState a) op rd rn rm ra imm ld).1 = (makesS (wState b) op rd rn rm ra imm ld).1 ∧ (makesS (wState a) op rd rn rm ra imm ld).2.2 = (makesS (wState b) op rd rn rm ra imm ld).2.2 := by
    have e1 : (wState a).1 = (wState b).1 := h.1
    have e2 : (wState a).2.2 = (wState b).2.2 := h.2
    unfold makesS
    rw [e1]
    cases op == 23
    · exact ⟨rfl, e2⟩
    · refine ⟨e1, ?_⟩
      show (V_cpu_compare (wState a, _, _)).2.2 = (V_cpu_compare (wState b, _, _)).2.2
      have e3 : (wState a).2.2.2.2.2.2 = (wState b).2.2.2.2.2.2 := by rw [e2]
      show (_, _, _, _, (wState a).2.2.2.2.2.2) = (_, _, _, _, (wState b).2.2.2.2.2.2)
      rw [e3]
  exact ⟨by show wordR _ = wordR _; rw [hm.1], hm.2⟩

theorem mend_again (xs : List Int) (o : Nat) (ys : List Int) (n : Nat) (h : o + min ys.length n ≤ xs.length) : mend (mend xs o ys n) o ys n = mend xs o ys n := by
  have hl := mend_length xs o ys n h
  unfold mend at hl ⊢
  have h1 : (xs.take o).length = o := by rw [List.length_take]; omega
  have h2 : (ys.take n).length = min ys.length n := by rw [List.length_take]; omega
  have e1 : (xs.take o ++ ys.take n ++ xs.drop (o + min ys.length n)).take o = xs.take o := by
    rw [List.append_assoc, List.take_append_of_le_length (by omega), List.take_of_length_le (by omega)]
  have e2 : (xs.take o ++ ys.take n ++ xs.drop (o + min ys.length n)).drop (o + min ys.length n) = xs.drop (o + min ys.length n) := by
    rw [List.drop_append, List.drop_of_length_le (by rw [List.length_append]; omega), List.nil_append]
    rw [show o + min ys.length n - (xs.take o ++ ys.take n).length = 0 by rw [List.length_append]; omega, List.drop_zero]
  rw [e1, e2]

theorem store_found {y : MemT} {a n v : Int} {j : Nat} (hj : findM y.1.1 a n true = ((j : Int), 0, ())) : storeM y a n v = (0, (y.1, mend y.2 (posM y j a) (bytes4 v) n.toNat)) := by
  unfold storeM
  rw [hj]
  rfl

theorem store_error {y : MemT} {a n v e : Int} (he : e ≠ 0) (hf : findM y.1.1 a n true = (0, e, ())) : storeM y a n v = (e, y) := by
  have hb : (e != 0) = true := by simpa using he
  unfold storeM
  rw [hf]
  simp only [hb, cond_true]

theorem store_again {y : MemT} (hy : MemWf y) (a n v : Int) (h : ((storeM y a n v).1 != 0) = false) : storeM (storeM y a n v).2 a n v = storeM y a n v := by
  rcases findM_cases y.1.1 a n true with ⟨e, he, hf⟩ | ⟨j, hj, hn, _, hf⟩
  · rw [store_error he hf] at h
    have hb : (e != 0) = true := by simpa using he
    rw [hb] at h
    cases h
  · obtain ⟨_, _, _, _, g5, _, _⟩ := acc_ok hy hj hn
    rw [store_found hf]
    have := store_found (y := (y.1, mend y.2 (posM y j a) (bytes4 v) n.toNat)) (a := a) (n := n) (v := v) hf
    refine this.trans ?_
    show (0, (y.1, mend (mend y.2 (posM y j a) (bytes4 v) n.toNat) (posM y j a) (bytes4 v) n.toNat)) = _
    rw [mend_again _ _ _ _ (by rw [bytes4_length]; omega)]

theorem doOne_sim {a b : tState.den} (h : simS a b) {i : tIns.den} (hs : V_dup_Safe i = true) (mem : MemT) : (doOne a i mem).1 = (doOne b i mem).1 ∧ (doOne a i mem).2.2 = (doOne b i mem).2.2 ∧ simS (doOne a i mem).2.1 (doOne b i mem).2.1 := by
  obtain ⟨op, rd, rn, rm, ra, imm, cond, w, u⟩ := i
  obtain ⟨hck, _, h2, h24, h25, _, _⟩ := safe_apart hs
  have fin : ∀ (m : MemT) (ld : Int), (finM a (op, rd, rn, rm, ra, imm, cond, w, u) m ld).1 = (finM b (op, rd, rn, rm, ra, imm, cond, w, u) m ld).1 ∧ (finM a (op, rd, rn, rm, ra, imm, cond, w, u) m ld).2.2 = (finM b (op, rd, rn, rm, ra, imm, cond, w, u) m ld).2.2 ∧ simS (finM a (op, rd, rn, rm, ra, imm, cond, w, u) m ld).2.1 (finM b (op, rd, rn, rm, ra, imm, cond, w, u) m ld).2.1 := fun m ld => by
    obtain ⟨ta, tb, e1, e2, e3⟩ := sim_step h op rd rn rm ra imm cond w ld hck h2 h24 h25
    unfold finM
    rw [e1, e2]
    exact ⟨rfl, rfl, e3⟩
  unfold doOne
  rw [sim_access h]
  obtain ⟨⟨ad, n, v, wr, _⟩, is, _⟩ := V_cpu_Access (b, (op, rd, rn, rm, ra, imm, cond, w, u))
  cases is
  · exact fin mem 0
  · cases wr
    · simp only [cond_true, cond_false]
      cases (loadM mem ad n).2.1 != 0
      · exact fin mem _
      · exact ⟨rfl, rfl, h⟩
    · simp only [cond_true]
      cases (storeM mem ad n v).1 != 0
      · exact fin _ 0
      · exact ⟨rfl, rfl, h⟩

theorem doOne_again {a : tState.den} {i : tIns.den} (hs : V_dup_Safe i = true) {mem : MemT} (hl : List.length a.1 = 15) (hm : MemWf mem) (hon : (doOne a i mem).1 = true) :
    (doOne (doOne a i mem).2.1 i (doOne a i mem).2.2).1 = true ∧ (doOne (doOne a i mem).2.1 i (doOne a i mem).2.2).2.2 = (doOne a i mem).2.2 ∧ simS (doOne a i mem).2.1 (doOne (doOne a i mem).2.1 i (doOne a i mem).2.2).2.1 := by
  obtain ⟨op, rd, rn, rm, ra, imm, cond, w, u⟩ := i
  obtain ⟨hck, hap, h2, h24, h25, h19, h21⟩ := safe_apart hs
  have again := fun ld => step_again a op rd rn rm ra imm cond w ld hl hck hap h2 h24 h25 h19 h21
  cases hacc : V_cpu_Access (a, (op, rd, rn, rm, ra, imm, cond, w, u)) with
  | mk x y =>
    obtain ⟨ad, n, v, wr, _⟩ := x
    obtain ⟨is, _⟩ := y
    have d : ∀ b : tState.den, V_cpu_Access (b, (op, rd, rn, rm, ra, imm, cond, w, u)) = V_cpu_Access (a, (op, rd, rn, rm, ra, imm, cond, w, u)) → ∀ m : MemT, doOne b (op, rd, rn, rm, ra, imm, cond, w, u) m = bif is then
        bif wr then (bif (storeM m ad n v).1 != 0 then (false, b, m) else finM b (op, rd, rn, rm, ra, imm, cond, w, u) (storeM m ad n v).2 0)
        else (bif (loadM m ad n).2.1 != 0 then (false, b, m) else finM b (op, rd, rn, rm, ra, imm, cond, w, u) m (loadM m ad n).1)
      else finM b (op, rd, rn, rm, ra, imm, cond, w, u) m 0 := fun b hb m => by
      unfold doOne
      rw [hb, hacc]
    rw [d a rfl] at hon ⊢
    cases is with
    | false =>
      simp only [cond_false] at hon ⊢
      obtain ⟨t, p, e1, e2, e3⟩ := again 0
      have ef : finM a (op, rd, rn, rm, ra, imm, cond, w, u) mem 0 = (true, t, mem) := by unfold finM; rw [e1]
      rw [ef]
      simp only
      rw [d t e3]
      simp only [cond_false]
      unfold finM
      rw [e2]
      exact ⟨rfl, rfl, rfl, rfl⟩
    | true =>
      cases wr with
      | false =>
        simp only [cond_true, cond_false] at hon ⊢
        cases hb : (loadM mem ad n).2.1 != 0 with
        | true => rw [hb] at hon; cases hon
        | false =>
          simp only [cond_false]
          obtain ⟨t, p, e1, e2, e3⟩ := again (loadM mem ad n).1
          have ef : finM a (op, rd, rn, rm, ra, imm, cond, w, u) mem (loadM mem ad n).1 = (true, t, mem) := by unfold finM; rw [e1]
          rw [ef]
          simp only
          rw [d t e3]
          simp only [cond_true, cond_false, hb]
          unfold finM
          rw [e2]
          exact ⟨rfl, rfl, rfl, rfl⟩
      | true =>
        simp only [cond_true] at hon ⊢
        cases hb : (storeM mem ad n v).1 != 0 with
        | true => rw [hb] at hon; cases hon
        | false =>
          simp only [cond_false]
          obtain ⟨t, p, e1, e2, e3⟩ := again 0
          have ef : finM a (op, rd, rn, rm, ra, imm, cond, w, u) (storeM mem ad n v).2 0 = (true, t, (storeM mem ad n v).2) := by unfold finM; rw [e1]
          rw [ef]
          simp only
          rw [d t e3]
          simp only [cond_true]
          rw [store_again hm ad n v hb, hb]
          simp only [cond_false]
          unfold finM
          rw [e2]
          exact ⟨rfl, rfl, rfl, rfl⟩

/-! ### Runs -/
theorem hit_none (s : tState.den) (f : tFault.den) (a : Int) (h : ((show Int from f.1) != 2) = true) : hitV s f a = s := by
  unfold hitV
  have : (f.2.1 != a || (decide (f.2.2.1 < 0) || (decide (f.2.2.1 > 14) || (decide (f.2.2.2.1 < 0) || (decide (f.2.2.2.1 > 31) || f.1 != 2))))) = true := by
    have h' : (f.1 != 2) = true := h
    rw [h']
    simp
  rw [this]
  rfl

/-- One instruction, once, where there is no fault, or a skip. -/
theorem goK_one (k p : Int) (hk : k = 0 ∨ k = 1) (i : tIns.den) (at_ : Int) (st : tState.den) (mem : MemT) :
    goK (k, p, 0, 0, ()) i 1 at_ st mem = bif k == 1 && p == at_ then (true, at_ + 1, st, mem) else ((doOne st i mem).1, at_ + 1, (doOne st i mem).2) := by
  have hh : hitV st (k, p, 0, 0, ()) at_ = st := hit_none _ _ _ (by rcases hk with rfl | rfl <;> rfl)
  show (bif k == 1 && p == at_ then goK (k, p, 0, 0, ()) i 0 (at_ + 1) (hitV st (k, p, 0, 0, ()) at_) mem else _) = _
  rw [hh]
  cases k == 1 && p == at_
  · simp only [cond_false]
    cases h : (doOne st i mem).1
    · rfl
    · rfl
  · rfl

def dbl : List tIns.den → List tIns.den
  | [] => []
  | i :: l => i :: i :: dbl l

theorem goL_cons (f : tFault.den) (i : tIns.den) (l : List tIns.den) (at_ : Int) (st : tState.den) (mem : MemT) : goL f 1 (i :: l) at_ st mem =
    bif (goK f i 1 at_ st mem).1 then goL f 1 l (goK f i 1 at_ st mem).2.1 (goK f i 1 at_ st mem).2.2.1 (goK f i 1 at_ st mem).2.2.2 else goK f i 1 at_ st mem := rfl

theorem simS.trans {a b c : tState.den} (h : simS a b) (g : simS b c) : simS a c := ⟨h.1.trans g.1, h.2.trans g.2⟩

/-- Of instructions done twice each one may be skipped. -/
theorem skip_main (p : Int) : ∀ (l : List tIns.den), (∀ i ∈ l, V_dup_Safe i = true) → ∀ (a0 b0 : Int) (sa sb : tState.den) (mem : MemT), List.length sa.1 = 15 → List.length sb.1 = 15 → MemWf mem → simS sa sb →
    (goL (0, 0, 0, 0, ()) 1 l a0 sa mem).1 = true →
    (goL (1, p, 0, 0, ()) 1 (dbl l) b0 sb mem).1 = true ∧ (goL (1, p, 0, 0, ()) 1 (dbl l) b0 sb mem).2.2.2 = (goL (0, 0, 0, 0, ()) 1 l a0 sa mem).2.2.2 ∧
      simS (goL (0, 0, 0, 0, ()) 1 l a0 sa mem).2.2.1 (goL (1, p, 0, 0, ()) 1 (dbl l) b0 sb mem).2.2.1
  | [], _, a0, b0, sa, sb, mem, _, _, _, hsim, _ => ⟨rfl, rfl, hsim⟩
  | i :: l, hs, a0, b0, sa, sb, mem, hla, hlb, hm, hsim, hon => by
    have hi := hs i (by simp)
    have hl := fun j hj => hs j (List.mem_cons_of_mem _ hj)
    rw [goL_cons, goK_one 0 0 (.inl rfl)] at hon ⊢
    simp only [show ((0 : Int) == 1 && (0 : Int) == a0) = false from rfl, cond_false] at hon ⊢
    show (goL (1, p, 0, 0, ()) 1 (i :: i :: dbl l) b0 sb mem).1 = true ∧ (goL (1, p, 0, 0, ()) 1 (i :: i :: dbl l) b0 sb mem).2.2.2 = _ ∧ simS _ (goL (1, p, 0, 0, ()) 1 (i :: i :: dbl l) b0 sb mem).2.2.1
    cases hd : (doOne sa i mem).1 with
    | false => rw [hd] at hon; cases hon
    | true =>
      rw [hd] at hon
      simp only [cond_true] at hon ⊢
      obtain ⟨w1, w2, _⟩ := doOne_wf (ins := i) hla hm
      obtain ⟨v1, v2, _⟩ := doOne_wf (ins := i) hlb hm
      obtain ⟨s1, s2, s3⟩ := doOne_sim hsim hi mem
      have hdb : (doOne sb i mem).1 = true := by rw [← s1, hd]
      rw [goL_cons, goK_one 1 p (.inr rfl)]
      by_cases c0 : p = b0
      · -- the first one is skipped
        have e0 : ((1 : Int) == 1 && p == b0) = true := by simp [c0]
        have e1 : ((1 : Int) == 1 && p == b0 + 1) = false := by simp; omega
        rw [e0]
        simp only [cond_true]
        rw [goL_cons, goK_one 1 p (.inr rfl), e1]
        simp only [cond_false]
        rw [hdb]
        simp only [cond_true]
        have := skip_main p l hl (a0 + 1) (b0 + 1 + 1) (doOne sa i mem).2.1 (doOne sb i mem).2.1 (doOne sa i mem).2.2 w1 v1 w2 s3 hon
        rw [s2] at this ⊢
        exact this
      · have e0 : ((1 : Int) == 1 && p == b0) = false := by simp; exact c0
        rw [e0]
        simp only [cond_false]
        rw [hdb]
        simp only [cond_true]
        rw [goL_cons, goK_one 1 p (.inr rfl)]
        by_cases c1 : p = b0 + 1
        · -- the second one is
          have e1 : ((1 : Int) == 1 && p == b0 + 1) = true := by simp [c1]
          rw [e1]
          simp only [cond_true]
          have := skip_main p l hl (a0 + 1) (b0 + 1 + 1) (doOne sa i mem).2.1 (doOne sb i mem).2.1 (doOne sa i mem).2.2 w1 v1 w2 s3 hon
          rw [s2] at this ⊢
          exact this
        · have e1 : ((1 : Int) == 1 && p == b0 + 1) = false := by simp; exact c1
          rw [e1]
          simp only [cond_false]
          obtain ⟨g1, g2, g3⟩ := doOne_again hi hlb hm hdb
          obtain ⟨u1, _, _⟩ := doOne_wf (ins := i) v1 v2
          rw [g1]
          simp only [cond_true]
          have := skip_main p l hl (a0 + 1) (b0 + 1 + 1) (doOne sa i mem).2.1 (doOne (doOne sb i mem).2.1 i (doOne sb i mem).2.2).2.1 (doOne sa i mem).2.2 w1 u1 w2 (s3.trans g3) hon
          rw [g2]
          rw [s2] at this ⊢
          exact this

/-! ### The law -/
def itemOf (i : tIns.den) : tItem.den := (0, 0, i, ())

theorem allV_items (l : List tIns.den) : (allV (l.map itemOf)).map (fun x => x.2.2.1) = dbl l := by
  induction l with
  | nil => rfl
  | cons i l ih =>
    have : allV ((i :: l).map itemOf) = itemOf i :: itemOf i :: allV (l.map itemOf) := rfl
    rw [this, List.map_cons, List.map_cons, ih]
    rfl

theorem dbl_length (l : List tIns.den) : (dbl l).length = 2 * l.length := by
  induction l with
  | nil => rfl
  | cons i l ih => simp only [dbl, List.length_cons, ih]; omega

abbrev ItT : Type := Bool × List tItem.den × Int × tState.den

theorem items_from (l : List tIns.den) (w : List Int) (p : Int) (y : tState.den) (hl : l.length ≤ 60) : ∀ (k i : Nat), i + k = l.length → ∀ f, k < f → ∀ out : List tItem.den, out.length = i →
    ∃ q : Nat × ItT, runL (L_hauberklaw28_DupSkips_5.turn (l, w, p, (), false, [], 0) y) f (false, out, (i : Int), y) = some q ∧
      bif (l.drop i).all V_dup_Safe then q = (0, (false, out ++ (l.drop i).map itemOf, (l.length : Int), y)) else q.1 = 1 ∧ q.2.1 = true
  | 0, i, hi, f, hf, out, ho => by
    obtain ⟨f, rfl⟩ : ∃ g, f = g + 1 := ⟨f - 1, by omega⟩
    have hil : i = l.length := by omega
    subst hil
    refine ⟨_, runL_out (c := 0) (s' := (false, out, (l.length : Int), y)) ?_, ?_⟩
    · exact val_no (dec_false (by show ¬ ((l.length : Int) < ((List.length l : Nat) : Int)); omega))
    · rw [List.drop_length]
      simp
  | k + 1, i, hi, f, hf, out, ho => by
    obtain ⟨f, rfl⟩ : ∃ g, f = g + 1 := ⟨f - 1, by omega⟩
    have hlt : i < l.length := by omega
    have hd : l.drop i = l[i] :: l.drop (i + 1) := List.drop_eq_getElem_cons hlt
    have hg : List.getD l (Int.toNat (i : Int)) (Ty.dflt tIns) = l[i] := by rw [Int.toNat_natCast]; exact getD_in l _ hlt
    have hw : w64 ((i : Int) + 1) = ((i + 1 : Nat) : Int) := by rw [w64_id (by omega) (by omega)]; push_cast; rfl
    have r1 : Nat.ble ((List.length out + List.length [itemOf l[i]]) * 80) 140737488355328 = true := by rw [Nat.ble_eq]; simp; omega
    have hv : (L_hauberklaw28_DupSkips_5.turn (l, w, p, (), false, [], 0) y (false, out, (i : Int), y)).val = some (bif !V_dup_Safe l[i] then TL.out 1 (true, out, (i : Int), y) else TL.on (false, out ++ [itemOf l[i]], ((i + 1 : Nat) : Int), y)) := by
      refine (val_yes (dec_true (by show ((i : Int) < ((List.length l : Nat) : Int)); omega))).trans ((val_yes (by show (inRange (i : Int) l.length && true) = true; rw [inR hlt]; rfl)).trans ?_)
      dsimp only
      rw [hg, hw]
      cases V_dup_Safe l[i]
      · rfl
      · exact (val_no rfl).trans ((val_yes (inR hlt)).trans ((val_yes r1).trans rfl))
    rw [hd]
    cases hc : V_dup_Safe l[i] with
    | false =>
      rw [hc] at hv
      refine ⟨_, runL_out hv, ?_⟩
      simp only [List.all_cons, hc, Bool.false_and, cond_false]
      exact ⟨trivial, trivial⟩
    | true =>
      rw [hc] at hv
      obtain ⟨q, e1, e2⟩ := items_from l w p y hl k (i + 1) (by omega) f (by omega) (out ++ [itemOf l[i]]) (by simp [ho])
      refine ⟨q, (runL_on hv).trans e1, ?_⟩
      simp only [List.all_cons, hc, Bool.true_and, List.map_cons]
      rw [List.append_assoc] at e2
      exact e2

theorem code_from (l : List tIns.den) (w : List Int) (p : Int) (y : tState.den) (L : List tItem.den) (hl : L.length < 1048576) : ∀ (k i : Nat), i + k = L.length → ∀ f, k < f → ∀ out : List tIns.den, out.length = i →
    runL (L_hauberklaw28_DupSkips_13.turn (l, w, p, (), L, [], 0) y) f (out, (i : Int), y) = some (0, (out ++ (L.drop i).map (fun x => x.2.2.1), (L.length : Int), y))
  | 0, i, hi, f, hf, out, ho => by
    obtain ⟨f, rfl⟩ : ∃ g, f = g + 1 := ⟨f - 1, by omega⟩
    have hil : i = L.length := by omega
    subst hil
    refine (runL_out (c := 0) (s' := (out, (L.length : Int), y)) ?_).trans ?_
    · exact val_no (dec_false (by show ¬ ((L.length : Int) < ((List.length L : Nat) : Int)); omega))
    · rw [List.drop_length]
      simp
  | k + 1, i, hi, f, hf, out, ho => by
    obtain ⟨f, rfl⟩ : ∃ g, f = g + 1 := ⟨f - 1, by omega⟩
    have hlt : i < L.length := by omega
    have hd : L.drop i = L[i] :: L.drop (i + 1) := List.drop_eq_getElem_cons hlt
    have hg : List.getD L (Int.toNat (i : Int)) (Ty.dflt tItem) = L[i] := by rw [Int.toNat_natCast]; exact getD_in L _ hlt
    have hw : w64 ((i : Int) + 1) = ((i + 1 : Nat) : Int) := by rw [w64_id (by omega) (by omega)]; push_cast; rfl
    have r1 : Nat.ble ((List.length out + List.length [L[i].2.2.1]) * 64) 140737488355328 = true := by rw [Nat.ble_eq]; simp; omega
    refine (runL_on (s' := (out ++ [L[i].2.2.1], ((i + 1 : Nat) : Int), y)) ?_).trans ?_
    · refine (val_yes (dec_true (by show ((i : Int) < ((List.length L : Nat) : Int)); omega))).trans ((val_yes (inR hlt)).trans ?_)
      dsimp only
      rw [hg, hw]
      exact (val_yes r1).trans rfl
    · refine (code_from l w p y L hl k (i + 1) (by omega) f (by omega) _ (by simp [ho])).trans ?_
      rw [hd, List.map_cons, List.append_assoc]
      rfl

theorem band_word (n : Int) : band .i64 n 4294967295 = (wn n : Int) := by
  have := band_low n 32 (by omega)
  refine (show band .i64 n 4294967295 = band .i64 n ((2 ^ 32 : Nat) - 1) from rfl).trans (this.trans ?_)
  unfold wn
  omega

theorem regs_from (x : shDens L_hauberklaw28_DupSkips_24.ss) (y : shDens L_hauberklaw28_DupSkips_24.hs) (b : Bool) (m1 m2 : List (Int × Int × Bool × Unit) × List (Nat × Nat) × Unit) (sa sb : tState.den) (r1 r2 : List Int) (h : simS sa sb) :
    ∀ (k i : Nat), i + k = 15 → ∀ f, k < f → runL (L_hauberklaw28_DupSkips_24.turn x y) f (b, (i : Int), m1, m2, sa, sb, r1, r2) = some (0, (b, (15 : Int), m1, m2, sa, sb, r1, r2))
  | 0, i, hi, f, hf => by
    obtain ⟨f, rfl⟩ : ∃ g, f = g + 1 := ⟨f - 1, by omega⟩
    have hil : i = 15 := by omega
    subst hil
    exact runL_out (c := 0) (s' := (b, (15 : Int), m1, m2, sa, sb, r1, r2)) (val_no (show decide ((15 : Int) < 15) = false by decide))
  | k + 1, i, hi, f, hf => by
    obtain ⟨f, rfl⟩ : ∃ g, f = g + 1 := ⟨f - 1, by omega⟩
    have hw : w64 ((i : Int) + 1) = ((i + 1 : Nat) : Int) := by rw [w64_id (by omega) (by omega)]; push_cast; rfl
    have hr : inRange (i : Int) 15 = true := inR (by omega)
    have hg : ∀ s : tState.den, List.getD s.1 (Int.toNat (i : Int)) (Ty.dflt (Ty.int IntKind.i64)) = rg s.1 (i : Int) := fun s => rfl
    refine (runL_on (s' := (b, ((i + 1 : Nat) : Int), m1, m2, sa, sb, r1, r2)) ?_).trans (regs_from x y b m1 m2 sa sb r1 r2 h k (i + 1) (by omega) f (by omega))
    refine (val_yes (dec_true (by show ((i : Int) < 15); omega))).trans ((val_yes (by show (inRange (i : Int) 15 && inRange (i : Int) 15) = true; rw [hr]; rfl)).trans ?_)
    dsimp only
    rw [hg, hg, band_word, band_word, sim_rg h, hw]
    exact (val_no (by simp)).trans rfl

theorem bytes_from (x : shDens L_hauberklaw28_DupSkips_29.ss) (y : shDens L_hauberklaw28_DupSkips_29.hs) (b : Bool) (m : MemT) (sa sb : tState.den) :
    ∀ (k i : Nat), i + k = 7 → ∀ f, k < f → runL (L_hauberklaw28_DupSkips_29.turn x y) f (b, (i : Int), m.1, m.1, sa, sb, m.2, m.2) = some (0, (b, (7 : Int), m.1, m.1, sa, sb, m.2, m.2))
  | 0, i, hi, f, hf => by
    obtain ⟨f, rfl⟩ : ∃ g, f = g + 1 := ⟨f - 1, by omega⟩
    have hil : i = 7 := by omega
    subst hil
    exact runL_out (c := 0) (s' := (b, (7 : Int), m.1, m.1, sa, sb, m.2, m.2)) (val_no (show decide ((7 : Int) < 7) = false by decide))
  | k + 1, i, hi, f, hf => by
    obtain ⟨f, rfl⟩ : ∃ g, f = g + 1 := ⟨f - 1, by omega⟩
    have hw : w64 ((i : Int) + 1) = ((i + 1 : Nat) : Int) := by rw [w64_id (by omega) (by omega)]; push_cast; rfl
    refine (runL_on (s' := (b, ((i + 1 : Nat) : Int), m.1, m.1, sa, sb, m.2, m.2)) ?_).trans (bytes_from x y b m sa sb k (i + 1) (by omega) f (by omega))
    refine (val_yes (dec_true (by show ((i : Int) < 7); omega))).trans ?_
    dsimp only
    rw [hw]
    exact (val_no (by simp)).trans rfl

abbrev inp16 : List UInt8 := [48, 49, 50, 51, 52, 53, 54, 55, 56, 57, 97, 98, 99, 100, 101, 102]

theorem skips_val (l : List tIns.den) (w : List Int) (s : tState.den) (p : Int) (hs : List.length s.1 = 15) : (T_hauberklaw28_DupSkips (l, w, s, p)).val = some true := by
  cases hc : decide ((l.length : Int) > 60) with
  | true => exact val_yes hc
  | false =>
    have hl : l.length ≤ 60 := by simp only [decide_eq_false_iff_not] at hc; omega
    refine (val_no hc).trans ?_
    obtain ⟨q, e1, e2⟩ := items_from l w p s hl l.length 0 (Nat.zero_add _) (l.length + 1) (Nat.lt_succ_self _) [] rfl
    rw [List.drop_zero, List.nil_append] at e2
    refine (val_opt (r := q) e1).trans ?_
    cases hall : l.all V_dup_Safe with
    | false =>
      rw [hall] at e2
      obtain ⟨w1, w2⟩ := e2
      refine (val_no (by rw [w1]; rfl)).trans ?_
      show some q.2.1 = _
      rw [w2]
    | true =>
      rw [hall] at e2
      simp only [cond_true] at e2
      subst e2
      have hsafe : ∀ i ∈ l, V_dup_Safe i = true := List.all_eq_true.1 hall
      have hg : G_dup_All (l.map itemOf) = true := decide_eq_true (by show (l.map itemOf).length < 1073741824; rw [List.length_map]; omega)
      refine (val_yes rfl).trans ((val_yes hg).trans ?_)
      have hdl := dbl_length l
      have hal : (allV (l.map itemOf)).length = 2 * l.length := by rw [← hdl, ← allV_items, List.length_map]
      have ec := code_from l w p s (allV (l.map itemOf)) (by omega) (allV (l.map itemOf)).length 0 (Nat.zero_add _) (l.length + (allV (l.map itemOf)).length + 1) (by omega) [] rfl
      have ec' := code_from l w p s (allV (l.map itemOf)) (by omega) (allV (l.map itemOf)).length 0 (Nat.zero_add _) ((allV (l.map itemOf)).length + 1) (Nat.lt_succ_self _) [] rfl
      rw [List.drop_zero, List.nil_append, allV_items] at ec'
      refine (val_opt (r := _) ec').trans ?_
      dsimp only
      have hW : G_hauberklaw27_World (w, inp16) () = true := rfl
      refine (val_yes hW).trans ((val_yes hW).trans ((val_no ?_).trans ?_))
      · show (((List.length (dbl l) : Nat) : Int) != w64 (2 * ((List.length l : Nat) : Int))) = false
        rw [hdl, w64_id (by omega) (by omega)]
        simp
      · have hmw : MemWf (worldM w inp16) := (wordsM_wf w _ 0 _ (newM_wf regs27 [1, 2, 3, 4] inp16 regs27_ok.1 (by have := regs27_ok.2.1; omega))).1
        have gA : G_hauberklaw27_Go ((), s, l, 1, 0, 0, 0, 0, ()) (V_hauberklaw27_World (w, inp16) ()).2 = true := decide_eq_true ⟨hmw, hs, (show (0 : Int) ≤ 1 by decide), (show (1 : Int) < 1048576 by decide), by show l.length < 1099511627776; omega⟩
        have gB : G_hauberklaw27_Go ((), s, dbl l, 1, 1, p, 0, 0, ()) (V_hauberklaw27_World (w, inp16) ()).2 = true := decide_eq_true ⟨hmw, hs, (show (0 : Int) ≤ 1 by decide), (show (1 : Int) < 1048576 by decide), by show (dbl l).length < 1099511627776; omega⟩
        have vA : V_hauberklaw27_Go ((), s, l, 1, 0, 0, 0, 0, ()) (V_hauberklaw27_World (w, inp16) ()).2 = (((goL (0, 0, 0, 0, ()) 1 l 0 s (worldM w inp16)).2.2.1, (goL (0, 0, 0, 0, ()) 1 l 0 s (worldM w inp16)).1, ()), (goL (0, 0, 0, 0, ()) 1 l 0 s (worldM w inp16)).2.2.2) := rfl
        have vB : V_hauberklaw27_Go ((), s, dbl l, 1, 1, p, 0, 0, ()) (V_hauberklaw27_World (w, inp16) ()).2 = (((goL (1, p, 0, 0, ()) 1 (dbl l) 0 s (worldM w inp16)).2.2.1, (goL (1, p, 0, 0, ()) 1 (dbl l) 0 s (worldM w inp16)).1, ()), (goL (1, p, 0, 0, ()) 1 (dbl l) 0 s (worldM w inp16)).2.2.2) := rfl
        refine (val_yes gA).trans ?_
        rw [vA]
        have hmain := skip_main p l hsafe 0 0 s s (worldM w inp16) hs hs hmw ⟨rfl, rfl⟩
        generalize goL (0, 0, 0, 0, ()) 1 l 0 s (worldM w inp16) = A at *
        obtain ⟨oa, na, sa, ma⟩ := A
        cases oa with
        | false => rfl
        | true =>
          refine (val_no rfl).trans ((val_yes gB).trans ?_)
          rw [vB]
          obtain ⟨m1, m2, m3⟩ := hmain rfl
          generalize goL (1, p, 0, 0, ()) 1 (dbl l) 0 s (worldM w inp16) = B at *
          obtain ⟨ob, nb, sb, mb⟩ := B
          simp only at m1 m2 m3
          subst m1
          subst m2
          dsimp only
          refine (val_opt (r := _) (regs_from _ _ false mb.1 mb.1 sa sb mb.2 mb.2 m3 15 0 rfl 16 (by omega))).trans ((val_yes rfl).trans ?_)
          refine (val_opt (r := _) (bytes_from _ _ false mb sa sb 7 0 rfl 8 (by omega))).trans ((val_yes rfl).trans ?_)
          dsimp only
          have ef : sa.2.2 = sb.2.2 := m3.2
          rw [ef]
          simp only [beq_self_eq_true, cond_true, Bool.or_true, Bool.and_true, Bool.true_and]
          rfl

theorem law_hauberklaw28_DupSkips (x : dens A_hauberklaw28_DupSkips) (h : fitsAll maxLen A_hauberklaw28_DupSkips x) : (T_hauberklaw28_DupSkips x).val = some true := by
  obtain ⟨l, w, s, p⟩ := x
  exact skips_val l w s p (len15 h.2.2.1)
end Go.Av
