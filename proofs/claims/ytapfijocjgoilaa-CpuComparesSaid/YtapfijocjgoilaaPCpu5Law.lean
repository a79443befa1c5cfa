/- Layer 8: the laws of what an instruction does. -/
import Derived.Test.YtapfijocjgoilaaPCpu5
namespace Go.Av
open Go

theorem len15 {s : tState.den} (h : tState.fits maxLen s) : List.length s.1 = 15 := h.1.1

theorem law_hauberklaw08_CpuSteps (x : dens A_hauberklaw08_CpuSteps) (h : fitsAll maxLen A_hauberklaw08_CpuSteps x) : (T_hauberklaw08_CpuSteps x).val = some true := by
  obtain ⟨s, i, ld⟩ := x
  have g1 : G_cpu_Step (s, i, ld) = true := dec_true (len15 h.1)
  have g2 : G_hauberkref08_Step (s, i, ld) = true := dec_true (len15 h.1)
  have e : V_hauberkref08_Step (s, i, ld) = V_cpu_Step (s, i, ld) := rfl
  unfold T_hauberklaw08_CpuSteps
  dsimp only [PO.val]
  rw [g1, g2, e, eqb_refl]
  simp

theorem law_hauberklaw08_CpuAccesses (x : dens A_hauberklaw08_CpuAccesses) (h : fitsAll maxLen A_hauberklaw08_CpuAccesses x) : (T_hauberklaw08_CpuAccesses x).val = some true := by
  obtain ⟨s, i⟩ := x
  have g1 : G_cpu_Access (s, i) = true := dec_true (len15 h.1)
  have g2 : G_cpu_Cycles (s, i) = true := dec_true (len15 h.1)
  have e : V_hauberkref08_Access (s, i) = V_cpu_Access (s, i) := rfl
  have e2 : V_hauberkref08_Cycles (s, i) = V_cpu_Cycles (s, i) := rfl
  unfold T_hauberklaw08_CpuAccesses
  dsimp only [PO.val]
  rw [g1, g2, e, e2, eqb_refl]
  simp

theorem law_hauberklaw08_CpuHolds (x : dens A_hauberklaw08_CpuHolds) (_ : fitsAll maxLen A_hauberklaw08_CpuHolds x) : (T_hauberklaw08_CpuHolds x).val = some true := by
  obtain ⟨s, c⟩ := x
  unfold T_hauberklaw08_CpuHolds
  dsimp only [PO.val]
  rw [holds_same]
  simp

/-! ### Done twice -/
theorem insN_again {m f a k : Nat} : insN (insN m f a k) f a k = insN m f a k := by
  refine Nat.eq_of_testBit_eq fun j => ?_
  rw [insN_bit, insN_bit]
  split
  · rfl
  · split <;> rfl

theorem vOf_word (op imm ra d n m ld : Int) (hd : 0 ≤ d ∧ d < 4294967296) (hi : op = 3 → 0 ≤ imm ∧ imm ≤ 65535) (h18 : op = 18 → 0 ≤ imm ∧ 0 ≤ ra ∧ imm + ra ≤ 32) : ∃ v : Nat, vOf op imm ra d n m ld = (v : Int) ∧ v < 4294967296 := by
  have big : ∀ x : Nat, x % 4294967296 < 4294967296 := fun x => Nat.mod_lt _ (by omega)
  unfold vOf
  cases h3 : op == 3
  case true =>
    have := hi (by simpa using h3)
    obtain ⟨v, hv⟩ := Int.eq_ofNat_of_zero_le this.1
    exact ⟨v, hv, by omega⟩
  cases op == 4
  case true => exact ⟨_, rfl, insN_lt (wn_lt _) (by omega)⟩
  cases op == 5
  case true => exact ⟨_, rfl, big _⟩
  cases op == 6
  case true => exact ⟨_, rfl, Nat.lt_of_le_of_lt (Nat.div_le_self _ _) (wn_lt _)⟩
  cases op == 7
  case true => exact ⟨_, rfl, wn_lt _⟩
  cases op == 8
  case true => exact ⟨_, rfl, rorN_lt (wn_lt _) (Nat.le_of_lt (kk_lt _))⟩
  cases op == 9
  case true => exact ⟨_, rfl, by omega⟩
  cases op == 10
  case true => exact ⟨_, rfl, Nat.lt_of_le_of_lt Nat.and_le_left (wn_lt _)⟩
  cases op == 11
  case true => exact ⟨_, rfl, Nat.lt_of_le_of_lt Nat.and_le_left (wn_lt _)⟩
  cases op == 12
  case true => exact ⟨_, rfl, Nat.or_lt_two_pow (n := 32) (wn_lt _) (wn_lt _)⟩
  cases op == 13
  case true => exact ⟨_, rfl, Nat.xor_lt_two_pow (n := 32) (wn_lt _) (wn_lt _)⟩
  cases op == 14
  case true => exact ⟨_, rfl, wn_lt _⟩
  cases op == 15
  case true => exact ⟨_, rfl, wn_lt _⟩
  cases op == 16 || op == 17
  case true => exact ⟨_, rfl, big _⟩
  cases e18 : op == 18
  case true =>
    obtain ⟨h1, h2, h3⟩ := h18 (by simpa using e18)
    exact ⟨_, rfl, insN_lt (wn_lt _) (by omega)⟩
  cases op == 19
  case true => exact ⟨_, rfl, wn_lt _⟩
  cases op == 21
  case true => exact ⟨_, rfl, by omega⟩
  obtain ⟨v, hv⟩ := Int.eq_ofNat_of_zero_le hd.1
  exact ⟨v, hv, by omega⟩

theorem rg_set (l : List Int) (k j v : Int) (hk : 0 ≤ k ∧ k ≤ 12) (hj : 0 ≤ j) (hl : l.length = 15) : rg (l.set k.toNat v) j = if j = k then v else rg l j := by
  unfold rg
  rw [List.getD_eq_getElem?_getD, List.getD_eq_getElem?_getD, List.getElem?_set]
  by_cases h : j = k
  · subst h
    rw [if_pos rfl, if_pos (by omega), if_pos rfl]
    rfl
  · rw [if_neg h, if_neg (by omega)]

theorem wordR_set (l : List Int) (k : Nat) (v : Nat) (hv : v < 4294967296) : wordR (l.set k (v : Int)) = (wordR l).set k (v : Int) := by
  unfold wordR
  rw [List.map_set, wn_nat hv]

theorem wordR_wordR (l : List Int) : wordR (wordR l) = wordR l := by
  unfold wordR
  rw [List.map_map]
  refine List.map_congr_left fun n _ => ?_
  show ((wn ((wn n : Nat) : Int) : Nat) : Int) = _
  rw [wn_wn]

/-! ### What stays -/
theorem regsOf_keep (r : List Int) (op rd rn rm ra imm ld k : Int) (hl : r.length = 15) (hrd : 0 ≤ rd ∧ rd ≤ 12) (hra : op = 17 → 0 ≤ ra ∧ ra ≤ 12) (hk : 0 ≤ k) (h1 : k ≠ rd) (h2 : op = 17 → k ≠ ra) : rg (regsOf r op rd rn rm ra imm ld) k = rg r k := by
  unfold regsOf
  by_cases h17 : op = 17
  · subst h17
    have := hra rfl
    show rg ((r.set rd.toNat _).set ra.toNat _) k = _
    rw [rg_set _ _ _ _ this hk (by simp [hl]), if_neg (h2 rfl), rg_set _ _ _ _ hrd hk hl, if_neg h1]
  · have b17 : (op == 17) = false := beq_eq_false_iff_ne.2 h17
    rw [b17]
    cases makesRd op
    · rfl
    · show rg (r.set rd.toNat _) k = _
      rw [rg_set _ _ _ _ hrd hk hl, if_neg h1]

/-- The state behind an instruction that goes on, its place aside. -/
def nextS (s : tState.den) (op rd rn rm ra imm ld : Int) : tState.den := bif op == 24 || op == 25 then wState s else makesS (wState s) op rd rn rm ra imm ld

theorem stepV_ok (s : tState.den) (op rd rn rm ra imm cond : Int) (w : Bool) (ld : Int) (h2 : op ≠ 2) : stepV false s op rd rn rm ra imm cond w ld = (((nextS s op rd rn rm ra imm ld).1, (wn (wn s.2.1 + farV (wState s) op imm cond w) : Int), (nextS s op rd rn rm ra imm ld).2.2), true, ()) := by
  have b2 : (op == 2) = false := beq_eq_false_iff_ne.2 h2
  unfold stepV
  rw [b2]
  rfl

theorem nextS_keep (s : tState.den) (op rd rn rm ra imm ld k : Int) (hl : List.length s.1 = 15) (hrd : 0 ≤ rd ∧ rd ≤ 12) (hra : op = 17 → 0 ≤ ra ∧ ra ≤ 12) (hk : 0 ≤ k) (h1 : k ≠ rd) (h2 : op = 17 → k ≠ ra) : rg (nextS s op rd rn rm ra imm ld).1 k = (wn (rg s.1 k) : Int) := by
  have hw : rg (wState s).1 k = (wn (rg s.1 k) : Int) := wordR_reg s.1 k
  rw [← hw]
  unfold nextS
  cases op == 24 || op == 25
  · unfold makesS
    cases op == 23
    · exact regsOf_keep _ _ _ _ _ _ _ _ _ (by show (wordR s.1).length = 15; rw [wordR_len, hl]) hrd hra hk h1 h2
    · rfl
  · rfl

theorem nextS_flags (s : tState.den) (op rd rn rm ra imm ld : Int) (h : op ≠ 23) : (nextS s op rd rn rm ra imm ld).2.2 = s.2.2 := by
  have b23 : (op == 23) = false := beq_eq_false_iff_ne.2 h
  unfold nextS makesS
  rw [b23]
  cases op == 24 || op == 25 <;> rfl

theorem far_plain (s : tState.den) (op imm cond : Int) (w : Bool) (h : op ≠ 24) (h' : op ≠ 25) : farV s op imm cond w = bif isLong op w then 4 else 2 := by
  have b1 : (op == 24) = false := beq_eq_false_iff_ne.2 h
  have b2 : (op == 25) = false := beq_eq_false_iff_ne.2 h'
  unfold farV goesV
  rw [b1, b2]
  rfl

theorem size_ok {op rd rn rm ra imm cond : Int} {w : Bool} (h : V_thumb_Check (op, rd, rn, rm, ra, imm, cond, w, ()) = 0) : V_thumb_Size (op, rd, rn, rm, ra, imm, cond, w, ()) = bif isLong op w then 4 else 2 := by
  show (bif V_thumb_Check (op, rd, rn, rm, ra, imm, cond, w, ()) != 0 then (0 : Int) else bif isLong op w then 4 else 2) = _
  rw [h]
  rfl

theorem band_wn (n : Int) : band .i64 n 4294967295 = (wn n : Int) := by rw [band_32, wn_int]

theorem law_hauberklaw08_CpuKeeps (x : dens A_hauberklaw08_CpuKeeps) (h : fitsAll maxLen A_hauberklaw08_CpuKeeps x) : (T_hauberklaw08_CpuKeeps x).val = some true := by
  obtain ⟨s, ⟨op, rd, rn, rm, ra, imm, cond, w, u⟩, ld⟩ := x
  have hl : List.length s.1 = 15 := len15 h.1
  have g1 : G_cpu_Step (s, (op, rd, rn, rm, ra, imm, cond, w, ()), ld) = true := dec_true hl
  have ev : V_cpu_Step (s, (op, rd, rn, rm, ra, imm, cond, w, ()), ld) = stepV (V_thumb_Check (op, rd, rn, rm, ra, imm, cond, w, ()) != 0) s op rd rn rm ra imm cond w ld := rfl
  unfold T_hauberklaw08_CpuKeeps
  dsimp only [PO.val]
  rw [g1, ev, band_wn]
  cases hc : (V_thumb_Check (op, rd, rn, rm, ra, imm, cond, w, ()) != (0 : Int))
  · have hck : V_thumb_Check (op, rd, rn, rm, ra, imm, cond, w, ()) = 0 := by simpa using hc
    by_cases h2 : op = 2
    · subst h2
      have e : (stepV false s 2 rd rn rm ra imm cond w ld).1.2.1 = (wn s.2.1 : Int) := rfl
      rw [e]
      simp [stepV]
    · obtain ⟨hop, hrd, hrn, hrm, h17, _⟩ := check_bounds hck
      rw [stepV_ok _ _ _ _ _ _ _ _ _ _ h2]
      generalize ht : nextS s op rd rn rm ra imm ld = t
      have hloop : LoopN.res L_hauberklaw08_CpuKeeps_5 ((), (), false, (), 0) (s, (op, rd, rn, rm, ra, imm, cond, w, ()), (t.1, (wn (wn s.2.1 + farV (wState s) op imm cond w) : Int), t.2.2)) = some (0, false, (15 : Int), s, (op, rd, rn, rm, ra, imm, cond, w, ()), (t.1, (wn (wn s.2.1 + farV (wState s) op imm cond w) : Int), t.2.2)) := by
        refine runL_count (σ := Bool × Int × tState.den × tIns.den × tState.den) (turn := L_hauberklaw08_CpuKeeps_5.turn ((), (), false, (), 0) (s, (op, rd, rn, rm, ra, imm, cond, w, ()), (t.1, (wn (wn s.2.1 + farV (wState s) op imm cond w) : Int), t.2.2))) (fun k => (false, (k : Int), s, (op, rd, rn, rm, ra, imm, cond, w, ()), (t.1, (wn (wn s.2.1 + farV (wState s) op imm cond w) : Int), t.2.2))) (0, false, (15 : Int), s, (op, rd, rn, rm, ra, imm, cond, w, ()), (t.1, (wn (wn s.2.1 + farV (wState s) op imm cond w) : Int), t.2.2)) (n := 15) (fun k hk => ?_) ?_ 15 0 (by omega) 20 (by omega)
        · have d1 : decide ((k : Int) < 15) = true := dec_true (by omega)
          have hz : (!((k : Int) == rd || (k : Int) == ra && op == 17) && rg t.1 (k : Int) != band .i64 (rg s.1 (k : Int)) 4294967295) = false := by
            rw [band_wn]
            cases hm : ((k : Int) == rd || (k : Int) == ra && op == 17)
            · have hne : (k : Int) ≠ rd ∧ (op = 17 → (k : Int) ≠ ra) := by
                simp only [Bool.or_eq_false_iff, beq_eq_false_iff_ne, Bool.and_eq_false_iff] at hm
                exact ⟨hm.1, fun e => hm.2.resolve_right (fun h => h e)⟩
              have := nextS_keep s op rd rn rm ra imm ld (k : Int) hl hrd (fun e => ⟨(h17 e).1, (h17 e).2.1⟩) (by omega) hne.1 hne.2
              rw [ht] at this
              rw [this]
              simp
            · rfl
          show (bif decide ((k : Int) < 15) then (bif (bif !((k : Int) == rd || (k : Int) == ra && op == 17) then inRange (k : Int) 15 && inRange (k : Int) 15 else true) then (bif !((k : Int) == rd || (k : Int) == ra && op == 17) && rg t.1 (k : Int) != band .i64 (rg s.1 (k : Int)) 4294967295 then _ else some (TL.on (false, w64 ((k : Int) + 1), s, _, _))) else none) else _) = _
          rw [d1, hz, inR hk, w64_id (by omega) (by omega)]
          cases (k : Int) == rd || (k : Int) == ra && op == 17 <;> rfl
        · show (bif decide (((15 : Nat) : Int) < 15) then _ else _) = _
          rw [dec_false (by omega)]
          rfl
      dsimp only [cond_true, cond_false, Bool.not_true]
      rw [hloop]
      dsimp only [PO.val, Option.bind]
      have hsz := size_ok hck
      rw [hsz, band_wn, wn_far']
      by_cases h23 : op = 23
      · subst h23
        have hf : farV (wState s) 23 imm cond w = bif isLong 23 w then 4 else 2 := far_plain _ _ _ _ _ (by omega) (by omega)
        rw [hf, show wn (wn s.2.1 + (bif isLong 23 w then 4 else 2)) = wn (s.2.1 + (bif isLong 23 w then 4 else 2)) from wn_eq (by rw [wn_int]; omega)]
        simp [way]
      · have hfl := nextS_flags s op rd rn rm ra imm ld h23
        rw [ht] at hfl
        rw [hfl]
        by_cases h24 : op = 24
        · subst h24; simp [way]
        · by_cases h25 : op = 25
          · subst h25; simp [way]
          · rw [far_plain _ _ _ _ _ h24 h25, show wn (wn s.2.1 + (bif isLong op w then 4 else 2)) = wn (s.2.1 + (bif isLong op w then 4 else 2)) from wn_eq (by rw [wn_int]; omega)]
            simp [way]
  · have e : (stepV true s op rd rn rm ra imm cond w ld).1.2.1 = (wn s.2.1 : Int) := rfl
    rw [e]
    simp [stepV]

/-! ### The same again -/
theorem set_same' (l : List Int) (k : Nat) (v : Int) : (l.set k v).set k v = l.set k v := List.set_set ..

theorem rg_word (l : List Int) (k : Int) (h : wordR l = l) : ∃ v : Nat, rg l k = (v : Int) ∧ v < 4294967296 := by
  refine ⟨wn (rg l k), ?_, wn_lt _⟩
  have := wordR_reg l k
  rw [h] at this
  exact this

/-- What an operation needs so that it may be done twice. -/
def apartOk (op rd rn rm ra : Int) : Prop :=
  (5 ≤ op → op ≤ 17 → rd ≠ rm) ∧ (10 ≤ op → op ≤ 18 → rd ≠ rn) ∧ (op = 17 → ra ≠ rn ∧ ra ≠ rm ∧ ra ≠ rd)

set_option maxHeartbeats 1000000 in
theorem vOf_again {op rd rn rm ra imm d n m n' m' ld : Int} {v : Nat} (hap : apartOk op rd rn rm ra) (hv : vOf op imm ra d n m ld = (v : Int)) (hlt : v < 4294967296) (h18 : op = 18 → 0 ≤ imm ∧ 0 ≤ ra ∧ imm + ra ≤ 32)
    (hn : rd ≠ rn → n' = n) (hm : rd ≠ rm → m' = m) (hop : makesRd op = true) : vOf op imm ra (v : Int) n' m' ld = (v : Int) := by
  obtain ⟨a1, a2, a3⟩ := hap
  have hr : (3 ≤ op ∧ op ≤ 19) ∨ op = 21 := by
    simp only [makesRd, Bool.or_eq_true, Bool.and_eq_true, decide_eq_true_eq, beq_iff_eq] at hop
    exact hop
  have hc : op = 3 ∨ op = 4 ∨ (5 ≤ op ∧ op ≤ 9) ∨ (10 ≤ op ∧ op ≤ 17) ∨ op = 18 ∨ op = 19 ∨ op = 21 := by omega
  rcases hc with rfl | rfl | ⟨h1, h2⟩ | ⟨h1, h2⟩ | rfl | rfl | rfl
  · exact hv
  · have e : v = insN (wn d) (wn imm) 16 16 := by
      have : ((insN (wn d) (wn imm) 16 16 : Nat) : Int) = (v : Int) := hv
      omega
    show ((insN (wn (v : Int)) (wn imm) 16 16 : Nat) : Int) = _
    rw [wn_nat hlt, e, insN_again]
  · have em := hm (a1 (by omega) (by omega))
    rw [em, ← hv]
    have h5 : op = 5 ∨ op = 6 ∨ op = 7 ∨ op = 8 ∨ op = 9 := by omega
    rcases h5 with rfl | rfl | rfl | rfl | rfl <;> rfl
  · have em := hm (a1 (by omega) (by omega))
    have en := hn (a2 (by omega) (by omega))
    rw [em, en, ← hv]
    have h5 : op = 10 ∨ op = 11 ∨ op = 12 ∨ op = 13 ∨ op = 14 ∨ op = 15 ∨ op = 16 ∨ op = 17 := by omega
    rcases h5 with rfl | rfl | rfl | rfl | rfl | rfl | rfl | rfl <;> rfl
  · have en := hn (a2 (by omega) (by omega))
    have e : v = insN (wn d) (wn n) imm.toNat ra.toNat := by
      have : ((insN (wn d) (wn n) imm.toNat ra.toNat : Nat) : Int) = (v : Int) := hv
      omega
    show ((insN (wn (v : Int)) (wn n') imm.toNat ra.toNat : Nat) : Int) = _
    rw [en, wn_nat hlt, e, insN_again]
  · rw [← hv]; rfl
  · rw [← hv]; rfl

theorem regsOf_again {r : List Int} {op rd rn rm ra imm ld : Int} (hl : r.length = 15) (hw : wordR r = r) (hap : apartOk op rd rn rm ra) (hrd : 0 ≤ rd ∧ rd ≤ 12) (hrn : 0 ≤ rn ∧ rn ≤ 12) (hrm : 0 ≤ rm ∧ rm ≤ 12) (hra : op = 17 → 0 ≤ ra ∧ ra ≤ 12)
    (hi : op = 3 → 0 ≤ imm ∧ imm ≤ 65535) (h18 : op = 18 → 0 ≤ imm ∧ 0 ≤ ra ∧ imm + ra ≤ 32) : wordR (regsOf r op rd rn rm ra imm ld) = regsOf r op rd rn rm ra imm ld ∧ regsOf (regsOf r op rd rn rm ra imm ld) op rd rn rm ra imm ld = regsOf r op rd rn rm ra imm ld := by
  by_cases h17 : op = 17
  · subst h17
    obtain ⟨h1, h2, h3⟩ := hap.2.2 rfl
    have hm := hap.1 (by omega) (by omega)
    have hn := hap.2.1 (by omega) (by omega)
    have e : ∀ r : List Int, regsOf r 17 rd rn rm ra imm ld = (r.set rd.toNat (wn (rg r rn) * wn (rg r rm) % 4294967296 : Nat)).set ra.toNat (wn (rg r rn) * wn (rg r rm) / 4294967296 : Nat) := fun _ => rfl
    have hx := mul_lt (rg r rn) (rg r rm)
    have k1 : rg ((r.set rd.toNat (wn (rg r rn) * wn (rg r rm) % 4294967296 : Nat)).set ra.toNat (wn (rg r rn) * wn (rg r rm) / 4294967296 : Nat)) rn = rg r rn := by
      rw [rg_set _ _ _ _ (hra rfl) hrn.1 (by simp [hl]), if_neg (Ne.symm h1), rg_set _ _ _ _ hrd hrn.1 hl, if_neg (Ne.symm hn)]
    have k2 : rg ((r.set rd.toNat (wn (rg r rn) * wn (rg r rm) % 4294967296 : Nat)).set ra.toNat (wn (rg r rn) * wn (rg r rm) / 4294967296 : Nat)) rm = rg r rm := by
      rw [rg_set _ _ _ _ (hra rfl) hrm.1 (by simp [hl]), if_neg (Ne.symm h2), rg_set _ _ _ _ hrd hrm.1 hl, if_neg (Ne.symm hm)]
    refine ⟨?_, ?_⟩
    · rw [e, wordR_set _ _ _ (by omega), wordR_set _ _ _ (Nat.mod_lt _ (by omega)), hw]
    · rw [e r, e, k1, k2]
      have hne : rd.toNat ≠ ra.toNat := by
        have := hra rfl
        omega
      rw [List.set_comm _ _ (Ne.symm hne), List.set_set, List.set_set]
  · have b17 : (op == 17) = false := beq_eq_false_iff_ne.2 h17
    have e : ∀ r : List Int, regsOf r op rd rn rm ra imm ld = bif makesRd op then r.set rd.toNat (vOf op imm ra (rg r rd) (rg r rn) (rg r rm) ld) else r := fun _ => by unfold regsOf; rw [b17]; rfl
    cases hmk : makesRd op
    · rw [e, e, hmk]
      exact ⟨hw, rfl⟩
    · obtain ⟨dv, hd1, hd2⟩ := rg_word r rd hw
      obtain ⟨v, hv, hlt⟩ := vOf_word op imm ra (rg r rd) (rg r rn) (rg r rm) ld (by rw [hd1]; omega) hi h18
      have e1 : regsOf r op rd rn rm ra imm ld = r.set rd.toNat (v : Int) := by rw [e, hmk, hv]; rfl
      rw [e1]
      refine ⟨by rw [wordR_set _ _ _ hlt, hw], ?_⟩
      rw [e, hmk]
      have k0 : rg (r.set rd.toNat (v : Int)) rd = (v : Int) := by rw [rg_set _ _ _ _ hrd hrd.1 hl, if_pos rfl]
      rw [k0, vOf_again hap hv hlt h18 (fun h => by rw [rg_set _ _ _ _ hrd hrn.1 hl, if_neg (Ne.symm h)]) (fun h => by rw [rg_set _ _ _ _ hrd hrm.1 hl, if_neg (Ne.symm h)]) hmk]
      exact List.set_set ..

theorem other_apart {op rd rn rm ra imm cond : Int} {w : Bool} (hck : V_thumb_Check (op, rd, rn, rm, ra, imm, cond, w, ()) = 0) (h : V_hauberklaw08_other (op, rd, rn, rm, ra, imm, cond, w, ()) = true) : apartOk op rd rn rm ra ∧ op ≠ 2 ∧ op ≠ 24 ∧ op ≠ 25 ∧ (op = 19 → rd ≠ rn) ∧ (op = 21 → rd ≠ rn) := by
  obtain ⟨hop, hrd, hrn, hrm, h17, _⟩ := check_bounds hck
  unfold apartOk
  rcases op_cases op with rfl | rfl | rfl | rfl | rfl | rfl | rfl | rfl | rfl | rfl | rfl | rfl | rfl | rfl | rfl | rfl | rfl | rfl | rfl | rfl | rfl | rfl | rfl | rfl | rfl | hx
  case inr.inr.inr.inr.inr.inr.inr.inr.inr.inr.inr.inr.inr.inr.inr.inr.inr.inr.inr.inr.inr.inr.inr.inr.inr => omega
  all_goals
    simp [V_hauberklaw08_other, T_hauberklaw08_other, PO.getO, PO.val] at h ⊢ <;> grind

theorem state_eq (s : tState.den) : s = (s.1, s.2.1, s.2.2) := rfl

theorem twice_val (s : tState.den) (op rd rn rm ra imm cond : Int) (w : Bool) (ld : Int) (hl : List.length s.1 = 15) : (T_hauberklaw08_CpuTwice (s, (op, rd, rn, rm, ra, imm, cond, w, ()), ld)).val = some true := by
  unfold T_hauberklaw08_CpuTwice
  dsimp only [PO.val]
  cases hc : (V_thumb_Check (op, rd, rn, rm, ra, imm, cond, w, ()) != (0 : Int))
  · have hck : V_thumb_Check (op, rd, rn, rm, ra, imm, cond, w, ()) = 0 := by simpa using hc
    cases ho : V_hauberklaw08_other (op, rd, rn, rm, ra, imm, cond, w, ())
    · rfl
    · obtain ⟨hap, h2, h24, h25, h19, h21⟩ := other_apart hck ho
      obtain ⟨hop, hrd, hrn, hrm, h17, himm, h31, h18, _⟩ := check_bounds hck
      have hra : op = 17 → 0 ≤ ra ∧ ra ≤ 12 := fun e => ⟨(h17 e).1, (h17 e).2.1⟩
      have hi3 : op = 3 → 0 ≤ imm ∧ imm ≤ 65535 := fun e => ⟨(himm h24 h25).1, (himm h24 h25).2.1⟩
      have hi18 : op = 18 → 0 ≤ imm ∧ 0 ≤ ra ∧ imm + ra ≤ 32 := fun e => by
        have := h18 e
        have := (himm h24 h25).1
        omega
      have g1 : G_cpu_Step (s, (op, rd, rn, rm, ra, imm, cond, w, ()), ld) = true := dec_true hl
      have ev : ∀ s, V_cpu_Step (s, (op, rd, rn, rm, ra, imm, cond, w, ()), ld) = stepV false s op rd rn rm ra imm cond w ld := fun s => by
        show stepV (V_thumb_Check (op, rd, rn, rm, ra, imm, cond, w, ()) != 0) s op rd rn rm ra imm cond w ld = _
        rw [hc]
      have b24 : (op == 24) = false := beq_eq_false_iff_ne.2 h24
      have b25 : (op == 25) = false := beq_eq_false_iff_ne.2 h25
      have nx : ∀ s, nextS s op rd rn rm ra imm ld = makesS (wState s) op rd rn rm ra imm ld := fun s => by
        unfold nextS
        rw [b24, b25]
        rfl
      have hwl : (wordR s.1).length = 15 := by rw [wordR_len, hl]
      -- the state behind the first one
      generalize ht : nextS s op rd rn rm ra imm ld = t at *
      have key : ∃ pc : Nat, pc < 4294967296 ∧ V_cpu_Step (s, (op, rd, rn, rm, ra, imm, cond, w, ()), ld) = ((t.1, (pc : Int), t.2.2), true, ()) := by
        refine ⟨wn (wn s.2.1 + farV (wState s) op imm cond w), wn_lt _, ?_⟩
        rw [ev, stepV_ok _ _ _ _ _ _ _ _ _ _ h2, ht]
      obtain ⟨pc, hpc, e1⟩ := key
      have ht1 : wordR t.1 = t.1 ∧ List.length t.1 = 15 ∧ makesS (wState (t.1, (pc : Int), t.2.2)) op rd rn rm ra imm ld = (t.1, (pc : Int), t.2.2) := by
        rw [nx] at ht
        have hws : ∀ t1 : List Int, ∀ f, wordR t1 = t1 → wState (t1, (pc : Int), f) = (t1, (pc : Int), f) := fun t1 f hh => by
          unfold wState
          simp only [hh, wn_nat hpc]
        by_cases h23 : op = 23
        · subst h23
          have et : t.1 = wordR s.1 := by rw [← ht]; rfl
          have hww : wordR t.1 = t.1 := by rw [et, wordR_wordR]
          refine ⟨hww, by rw [et, hwl], ?_⟩
          rw [hws _ _ hww]
          show ((t.1, (pc : Int), t.2.2).1, (pc : Int), (V_cpu_compare ((t.1, (pc : Int), t.2.2), rg t.1 rn, rg t.1 rm)).2.2) = _
          have e3 : t.2.2 = (V_cpu_compare (wState s, rg (wordR s.1) rn, rg (wordR s.1) rm)).2.2 := by rw [← ht]; rfl
          have ef : (V_cpu_compare ((t.1, (pc : Int), t.2.2), rg t.1 rn, rg t.1 rm)).2.2 = t.2.2 := by
            refine Eq.trans ?_ e3.symm
            rw [et]
            rfl
          rw [ef]
        · have b23 : (op == 23) = false := beq_eq_false_iff_ne.2 h23
          have em : ∀ s, makesS s op rd rn rm ra imm ld = (regsOf s.1 op rd rn rm ra imm ld, s.2) := fun s => by unfold makesS; rw [b23]; rfl
          rw [em] at ht
          have et : t.1 = regsOf (wordR s.1) op rd rn rm ra imm ld := by rw [← ht]; rfl
          obtain ⟨a1, a2⟩ := regsOf_again (ld := ld) hwl (wordR_wordR s.1) hap hrd hrn hrm hra hi3 hi18
          have hww : wordR t.1 = t.1 := by rw [et, a1]
          have hlen : ∀ r : List Int, (regsOf r op rd rn rm ra imm ld).length = r.length := fun r => by
            unfold regsOf
            cases op == 17
            · cases makesRd op <;> simp
            · simp
          refine ⟨hww, by rw [et, hlen, hwl], ?_⟩
          rw [hws _ _ hww, em]
          have a3 : regsOf (t.1, (pc : Int), t.2.2).1 op rd rn rm ra imm ld = t.1 := by
            show regsOf t.1 op rd rn rm ra imm ld = t.1
            rw [et, a2]
          rw [a3]
      obtain ⟨hww, htl, hagain⟩ := ht1
      have e2 : V_cpu_Step ((t.1, (pc : Int), t.2.2), (op, rd, rn, rm, ra, imm, cond, w, ()), ld) = ((t.1, (wn ((pc : Int) + (bif isLong op w then 4 else 2)) : Int), t.2.2), true, ()) := by
        rw [ev, stepV_ok _ _ _ _ _ _ _ _ _ _ h2, far_plain _ _ _ _ _ h24 h25]
        have : nextS (t.1, (pc : Int), t.2.2) op rd rn rm ra imm ld = (t.1, (pc : Int), t.2.2) := by rw [nx, hagain]
        rw [this]
        show ((t.1, (wn ((wn (pc : Int) : Int) + _) : Int), t.2.2), true, ()) = _
        rw [wn_nat hpc]
      have g2 : G_cpu_Step ((t.1, (pc : Int), t.2.2), (op, rd, rn, rm, ra, imm, cond, w, ()), ld) = true := dec_true htl
      have g3 : G_cpu_Access (s, (op, rd, rn, rm, ra, imm, cond, w, ())) = true := dec_true hl
      have g4 : G_cpu_Access ((t.1, (pc : Int), t.2.2), (op, rd, rn, rm, ra, imm, cond, w, ())) = true := dec_true htl
      have acc : V_cpu_Access ((t.1, (pc : Int), t.2.2), (op, rd, rn, rm, ra, imm, cond, w, ())) = V_cpu_Access (s, (op, rd, rn, rm, ra, imm, cond, w, ())) := by
        show accessV _ op (rg t.1 rn) (rg t.1 rd) = accessV _ op (rg s.1 rn) (rg s.1 rd)
        by_cases hs : op = 19 ∨ op = 20 ∨ op = 21 ∨ op = 22
        · have hk : ∀ k : Int, 0 ≤ k → (op = 19 ∨ op = 21 → k ≠ rd) → wn (rg t.1 k) = wn (rg s.1 k) := fun k hk0 hk1 => by
            rw [← ht, nx]
            have b23 : (op == 23) = false := beq_eq_false_iff_ne.2 (by omega)
            have b17 : (op == 17) = false := beq_eq_false_iff_ne.2 (by omega)
            have em : makesS (wState s) op rd rn rm ra imm ld = (regsOf (wordR s.1) op rd rn rm ra imm ld, (wState s).2) := by unfold makesS; rw [b23]; rfl
            rw [em]
            show wn (rg (regsOf (wordR s.1) op rd rn rm ra imm ld) k) = _
            have e : rg (regsOf (wordR s.1) op rd rn rm ra imm ld) k = (wn (rg s.1 k) : Int) := by
              by_cases h1 : op = 19 ∨ op = 21
              · rw [regsOf_keep _ _ _ _ _ _ _ _ _ hwl hrd hra hk0 (hk1 h1) (fun e => by omega), wordR_reg]
              · have h3 : op = 20 ∨ op = 22 := by omega
                have : regsOf (wordR s.1) op rd rn rm ra imm ld = wordR s.1 := by
                  unfold regsOf
                  rw [b17]
                  rcases h3 with rfl | rfl <;> rfl
                rw [this, wordR_reg]
            rw [e, wn_wn]
          have kn := hk rn hrn.1 (fun h => h.elim (fun h => Ne.symm (h19 h)) (fun h => Ne.symm (h21 h)))
          rcases hs with rfl | rfl | rfl | rfl
          · unfold accessV; rw [kn]; rfl
          · have kd := hk rd hrd.1 (fun h => by omega)
            unfold accessV; rw [kn, kd]
          · unfold accessV; rw [kn]; rfl
          · have kd := hk rd hrd.1 (fun h => by omega)
            unfold accessV; rw [kn, kd]
        · have b19 : (op == 19) = false := beq_eq_false_iff_ne.2 (by omega)
          have b20 : (op == 20) = false := beq_eq_false_iff_ne.2 (by omega)
          have b21 : (op == 21) = false := beq_eq_false_iff_ne.2 (by omega)
          have b22 : (op == 22) = false := beq_eq_false_iff_ne.2 (by omega)
          unfold accessV
          rw [b19, b20, b21, b22]
          rfl
      try dsimp only [Bool.not_true, Bool.false_or, cond_false, Bool.or_true, cond_true]
      rw [g1, e1]
      try dsimp only
      rw [g2, e2, g3, g4, acc, size_ok hck, band_wn, wn_far']
      try dsimp only
      rw [eqb_refl, eqb_refl]
      simp
  · rfl

theorem law_hauberklaw08_CpuTwice (x : dens A_hauberklaw08_CpuTwice) (h : fitsAll maxLen A_hauberklaw08_CpuTwice x) : (T_hauberklaw08_CpuTwice x).val = some true := by
  obtain ⟨s, ⟨op, rd, rn, rm, ra, imm, cond, w, u⟩, ld⟩ := x
  exact twice_val s op rd rn rm ra imm cond w ld (len15 h.1)

/-! ### Comparisons -/
theorem xor31 {a : Nat} (h : a < 4294967296) : a ^^^ 2147483648 = if 2147483648 ≤ a then a - 2147483648 else a + 2147483648 := by
  have h31 : ∀ j, (2147483648 : Nat).testBit j = decide (j = 31) := fun j => by
    rw [show (2147483648 : Nat) = 2 ^ 31 from rfl, Nat.testBit_two_pow, decide_eq_decide]
    omega
  have small : ∀ r : Nat, r < 2147483648 → r ^^^ 2147483648 = r + 2147483648 := fun r hr => by
    refine Nat.eq_of_testBit_eq fun j => ?_
    rw [Nat.testBit_xor, h31]
    by_cases hj : j = 31
    · subst hj
      rw [Nat.add_comm, show (2147483648 : Nat) = 2 ^ 31 from rfl, Nat.testBit_two_pow_add_eq]
      simp
    · by_cases hlt : j < 31
      · rw [Nat.add_comm, show (2147483648 : Nat) = 2 ^ 31 from rfl, Nat.testBit_two_pow_add_gt hlt]
        simp [hj]
      · have h1 : r.testBit j = false := Nat.testBit_lt_two_pow (Nat.lt_of_lt_of_le (show r < 2 ^ 32 by omega) (Nat.pow_le_pow_right (n := 2) (by omega) (by omega)))
        have h2 : (r + 2147483648).testBit j = false := Nat.testBit_lt_two_pow (Nat.lt_of_lt_of_le (show r + 2147483648 < 2 ^ 32 by omega) (Nat.pow_le_pow_right (n := 2) (by omega) (by omega)))
        rw [h1, h2, dec_false hj]
        rfl
  split
  · have e := small (a - 2147483648) (by omega)
    rw [show a - 2147483648 + 2147483648 = a by omega] at e
    have e2 := congrArg (· ^^^ 2147483648) e
    simp only [Nat.xor_assoc, Nat.xor_self, Nat.xor_zero] at e2
    exact e2.symm
  · exact small a (by omega)

theorem law_signed {a : Nat} (h : a < 4294967296) : V_hauberklaw08_signed (a : Int) = sw a := by
  have e : V_hauberklaw08_signed (a : Int) = w64 (bxor .i64 (band .i64 (a : Int) 4294967295) 2147483648 - 2147483648) := rfl
  have hx : bxor .i64 (a : Int) 2147483648 = ((a ^^^ 2147483648 : Nat) : Int) := by
    show w64 (BitVec.ofInt 64 (a : Int) ^^^ BitVec.ofInt 64 ((2147483648 : Nat) : Int)).toNat = _
    rw [BitVec.toNat_xor, ofInt_nat (by omega), ofInt_nat (by omega)]
    have := xor31 h
    split at this
    · exact w64_id (by omega) (by omega)
    · exact w64_id (by omega) (by omega)
  have hb : band .i64 (a : Int) 4294967295 = (a : Int) := by rw [band_wn, wn_nat h]
  rw [e, hb, hx, xor31 h]
  unfold sw
  by_cases h1 : 2147483648 ≤ a
  · rw [if_pos h1, if_pos h1, w64_id (by omega) (by omega)]
    exact (by omega : ((a - 2147483648 : Nat) : Int) - 2147483648 = (a : Int) - 4294967296)
  · rw [if_neg h1, if_neg h1, w64_id (by omega) (by omega)]
    exact (by omega : ((a + 2147483648 : Nat) : Int) - 2147483648 = (a : Int))

theorem signed_ge {a b : Nat} (ha : a < 4294967296) (hb : b < 4294967296) : (decide (2147483648 ≤ wn ((a : Int) - b)) == cmpV a b) = decide (sw b ≤ sw a) := by
  unfold cmpV
  rw [wn_nat ha, wn_nat hb]
  have hw : wn ((a : Int) - b) = if b ≤ a then a - b else a + 4294967296 - b := by unfold wn; split <;> omega
  have key : (2147483648 ≤ wn ((a : Int) - b) ↔ (sw a - sw b < -2147483648 ∨ sw a - sw b > 2147483647)) ↔ sw b ≤ sw a := by
    rw [hw]
    unfold sw
    split <;> split <;> split <;> omega
  rw [Bool.eq_iff_iff, beq_iff_eq, decide_eq_true_eq, ← key, Bool.eq_iff_iff, Bool.or_eq_true, decide_eq_true_eq, decide_eq_true_eq, decide_eq_true_eq]

theorem sw_inj {a b : Nat} (ha : a < 4294967296) (hb : b < 4294967296) : sw a = sw b ↔ a = b := by
  unfold sw
  split <;> split <;> omega

end Go.Av
