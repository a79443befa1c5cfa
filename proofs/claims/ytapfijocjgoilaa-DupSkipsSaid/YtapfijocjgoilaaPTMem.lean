/- Chapter 27's worlds: memories with words in their rails, and instructions done on them: as they are walked. -/
import Derived.Test.YtapfijocjgoilaaPMem
import Derived.Test.YtapfijocjgoilaaPCpu4
namespace Go.Av
open Go

def L_hauberklaw27_World_5 : LoopN where
  M := [0, 5, 7]
  T := [20, 21, 22, 23, 24, 25, 26, 27, 28, 29, 30, 31, 32, 33, 34, 35, 36, 37, 38, 39, 40, 41, 42, 43, 44, 45, 46, 47, 48]
  D := [0, 7]
  ss := [.ty (.sl (.int .i64)), .box 0 0, .ty (.int .i64)]
  hs := [shMem, .rowc (.int .u8)]
  es := [.exit 0]
  σ := (Ty.den (.int .i64)) × (Sh.den (shMem)) × (Sh.den (.rowc (.int .u8)))
  x0 := fun x y => (x.2.2, y.1, y.2)
  put := fun x _ s => ((x.1, x.2.1, s.1), (s.2.1, s.2.2))
  fuel := fun x _ => List.length x.1+1
  turn := fun x _ s =>
  (.ite (decide (s.1 < lenI x.1) && decide (s.1 < 64))
   (.ite (inRange s.1 (List.length x.1))
    (.ite (G_memory_Memory_Store ((), w64 (537133056 + w64 (4 * s.1)), 4, List.getD x.1 (Int.toNat s.1) (Ty.dflt (Ty.int IntKind.i64))) s.2)
     (.ite (inRange s.1 (List.length x.1))
      (.ite (G_memory_Memory_Store ((), w64 (537395200 + w64 (4 * s.1)), 4, bxor IntKind.i64 (List.getD x.1 (Int.toNat s.1) (Ty.dflt (Ty.int IntKind.i64))) 1515870810) (V_memory_Memory_Store ((), w64 (537133056 + w64 (4 * s.1)), 4, List.getD x.1 (Int.toNat s.1) (Ty.dflt (Ty.int IntKind.i64))) s.2).2)
       (.ret (.on (w64 (s.1 + 1), (V_memory_Memory_Store ((), w64 (537395200 + w64 (4 * s.1)), 4, bxor IntKind.i64 (List.getD x.1 (Int.toNat s.1) (Ty.dflt (Ty.int IntKind.i64))) 1515870810) (V_memory_Memory_Store ((), w64 (537133056 + w64 (4 * s.1)), 4, List.getD x.1 (Int.toNat s.1) (Ty.dflt (Ty.int IntKind.i64))) s.2).2).2.1, (V_memory_Memory_Store ((), w64 (537395200 + w64 (4 * s.1)), 4, bxor IntKind.i64 (List.getD x.1 (Int.toNat s.1) (Ty.dflt (Ty.int IntKind.i64))) 1515870810) (V_memory_Memory_Store ((), w64 (537133056 + w64 (4 * s.1)), 4, List.getD x.1 (Int.toNat s.1) (Ty.dflt (Ty.int IntKind.i64))) s.2).2).2.2)))
       .fail)
      .fail)
     .fail)
    .fail)
   (.ret (.out 0 (s.1, s.2.1, s.2.2))))
theorem strInts_bytes (l : List UInt8) : ∀ b ∈ strInts l, 0 ≤ b ∧ b < 256 := by
  intro b hb
  obtain ⟨u, _, rfl⟩ := List.mem_map.1 hb
  have := u.toNat_lt
  omega

theorem bytes4_length (v : Int) : (bytes4 v).length = 4 := by
  unfold bytes4 strInts
  rw [List.length_map]
  rfl

theorem mend_length {α : Type} (xs : List α) (o : Nat) (ys : List α) (n : Nat) (h : o + min ys.length n ≤ xs.length) : (mend xs o ys n).length = xs.length := by
  unfold mend
  simp
  omega

theorem mend_mem {α : Type} {xs ys : List α} {o n : Nat} {b : α} (h : b ∈ mend xs o ys n) : b ∈ xs ∨ b ∈ ys := by
  unfold mend at h
  rcases List.mem_append.1 h with h | h
  · rcases List.mem_append.1 h with h | h
    · exact .inl (List.mem_of_mem_take h)
    · exact .inr (List.mem_of_mem_take h)
  · exact .inl (List.mem_of_mem_drop h)

/-- A store leaves a memory in order. -/
theorem store_wf {y : MemT} (hy : MemWf y) (a n v : Int) : MemWf (storeM y a n v).2 ∧ (storeM y a n v).2.1 = y.1 := by
  unfold storeM
  rcases findM_cases y.1.1 a n true with ⟨e, he, hf⟩ | ⟨j, hj, hn, _, hf⟩
  · rw [hf]
    have hb : (e != 0) = true := by simpa using he
    dsimp only
    rw [hb]
    exact ⟨hy, rfl⟩
  · rw [hf]
    obtain ⟨_, _, _, _, g5, _, _⟩ := acc_ok hy hj hn
    have hl := mend_length y.2 (posM y j a) (bytes4 v) n.toNat (by rw [bytes4_length]; omega)
    refine ⟨⟨hy.regs, hy.len, fun i hi => ?_, fun b hb => ?_⟩, rfl⟩
    · obtain ⟨w1, w2⟩ := hy.wins i hi
      exact ⟨w1, by show _ ≤ (mend y.2 (posM y j a) (bytes4 v) n.toNat).length; rw [hl]; exact w2⟩
    · rcases mend_mem (show b ∈ mend y.2 (posM y j a) (bytes4 v) n.toNat from hb) with h | h
      · exact hy.bytes b h
      · exact strInts_bytes _ b h

/-! ### Worlds -/
/-- Words laid into both rails. -/
def wordsM (words : List Int) : Nat → Nat → MemT → MemT
  | 0, _, m => m
  | k + 1, i, m => wordsM words k (i + 1) (storeM (storeM m (537133056 + 4 * i) 4 (words.getD i 0)).2 (537395200 + 4 * i) 4 (bxor .i64 (words.getD i 0) 1515870810)).2

/-- The regions of chapter 27's worlds. -/
def regs27 : List (Int × Int × Bool × Unit) := (V_memmap_Regions ((16, 16, 256, ()), 4)).1

def worldM (words : List Int) (inp : List UInt8) : MemT := wordsM words (min words.length 64) 0 (newM regs27 [1, 2, 3, 4] inp)

theorem wordsM_wf (words : List Int) : ∀ (k i : Nat) (m : MemT), MemWf m → MemWf (wordsM words k i m) ∧ (wordsM words k i m).1 = m.1
  | 0, _, _, h => ⟨h, rfl⟩
  | k + 1, i, m, h => by
    obtain ⟨a1, a2⟩ := store_wf h (537133056 + 4 * i) 4 (words.getD i 0)
    obtain ⟨b1, b2⟩ := store_wf a1 (537395200 + 4 * i) 4 (bxor .i64 (words.getD i 0) 1515870810)
    obtain ⟨c1, c2⟩ := wordsM_wf words k (i + 1) _ b1
    exact ⟨c1, c2.trans (b2.trans a2)⟩

theorem words_from (words : List Int) (y0 : MemT) : ∀ (k i : Nat), i + k = min words.length 64 → ∀ f, k < f → ∀ m : MemT, MemWf m →
    runL (L_hauberklaw27_World_5.turn (words, (), 0) y0) f ((i : Int), m.1, m.2) = some (0, ((min words.length 64 : Nat) : Int), (wordsM words k i m).1, (wordsM words k i m).2)
  | 0, i, hi, f, hf, m, hm => by
    obtain ⟨f, rfl⟩ : ∃ g, f = g + 1 := ⟨f - 1, by omega⟩
    have : i = min words.length 64 := by omega
    rw [← this]
    refine runL_out (c := 0) (s' := ((i : Int), m.1, m.2)) ?_
    refine val_no ?_
    show (decide ((i : Int) < ((List.length words : Nat) : Int)) && decide ((i : Int) < 64)) = false
    simp only [Bool.and_eq_false_iff, decide_eq_false_iff_not]
    omega
  | k + 1, i, hi, f, hf, m, hm => by
    obtain ⟨f, rfl⟩ : ∃ g, f = g + 1 := ⟨f - 1, by omega⟩
    have hlt : i < words.length := by omega
    have hg : List.getD words (Int.toNat (i : Int)) (Ty.dflt (Ty.int IntKind.i64)) = words.getD i 0 := by rw [Int.toNat_natCast]; rfl
    have e1 : w64 (537133056 + w64 (4 * (i : Int))) = 537133056 + 4 * i := by rw [w64_id (n := 4 * (i : Int)) (by omega) (by omega), w64_id (by omega) (by omega)]
    have e2 : w64 (537395200 + w64 (4 * (i : Int))) = 537395200 + 4 * i := by rw [w64_id (n := 4 * (i : Int)) (by omega) (by omega), w64_id (by omega) (by omega)]
    obtain ⟨a1, a2⟩ := store_wf hm (537133056 + 4 * i) 4 (words.getD i 0)
    obtain ⟨b1, b2⟩ := store_wf a1 (537395200 + 4 * i) 4 (bxor .i64 (words.getD i 0) 1515870810)
    have g1 : G_memory_Memory_Store ((), 537133056 + 4 * (i : Int), 4, words.getD i 0) m = true := decide_eq_true ⟨hm, (show (537133056 + 4 * (i : Int) : Int) < 9223372036854775808 by omega)⟩
    have g2 : G_memory_Memory_Store ((), 537395200 + 4 * (i : Int), 4, bxor .i64 (words.getD i 0) 1515870810) (storeM m (537133056 + 4 * i) 4 (words.getD i 0)).2 = true := decide_eq_true ⟨a1, (show (537395200 + 4 * (i : Int) : Int) < 9223372036854775808 by omega)⟩
    refine (runL_on (s' := (((i + 1 : Nat) : Int), (storeM (storeM m (537133056 + 4 * i) 4 (words.getD i 0)).2 (537395200 + 4 * i) 4 (bxor .i64 (words.getD i 0) 1515870810)).2.1, (storeM (storeM m (537133056 + 4 * i) 4 (words.getD i 0)).2 (537395200 + 4 * i) 4 (bxor .i64 (words.getD i 0) 1515870810)).2.2)) ?_).trans ?_
    · refine (val_yes ?_).trans ((val_yes (inR hlt)).trans ?_)
      · show (decide ((i : Int) < ((List.length words : Nat) : Int)) && decide ((i : Int) < 64)) = true
        simp only [Bool.and_eq_true, decide_eq_true_eq]
        omega
      · dsimp only
        rw [hg, e1, e2]
        refine (val_yes g1).trans ((val_yes (inR hlt)).trans ((val_yes g2).trans ?_))
        rw [w64_id (n := (i : Int) + 1) (by omega) (by omega)]
        rfl
    · exact words_from words y0 k (i + 1) (by omega) f (by omega) _ b1
/-- hauberklaw27.World -/
abbrev SS_hauberklaw27_World : List Sh := [.ty (.sl (.int .i64)), .ty .str]
abbrev HS_hauberklaw27_World : List Sh := []
abbrev S_hauberklaw27_World : Sh := Sh.box 0 0
abbrev HT_hauberklaw27_World : List Sh := [shMem, .rowc (.int .u8)]
def T_hauberklaw27_World (x : shDens SS_hauberklaw27_World) (_ : shDens HS_hauberklaw27_World) : PO R :=
  (.ite ((V_memmap_Regions ((16, 16, 256, ()), 4)).2.1 != 0)
   (.ite ((V_memmap_Regions ((16, 16, 256, ()), 4)).2.1 != 0 || true)
    (.ret (⟨.lit (.pointer none), ()⟩, [], 64))
    .fail)
   (.ite (lenI x.2 != 16)
    (.ret (⟨.lit (.pointer none), ()⟩, [], 64))
    (.opt (LoopN.res L_memory_New_8 ([1, 2, 3, 4], x.2, (V_memmap_Regions ((16, 16, 256, ()), 4)).1, 0, (V_memmap_Regions ((16, 16, 256, ()), 4)).1, lenI (V_memmap_Regions ((16, 16, 256, ()), 4)).1, 0) ()) fun p0 =>
     (.ite (roomOk p0.2.1 1)
      (.opt (LoopN.res L_memory_New_15 ([1, 2, 3, 4], x.2, (), (0, nspan 0 p0.2.1), (V_memmap_Regions ((16, 16, 256, ()), 4)).1, lenI (V_memmap_Regions ((16, 16, 256, ()), 4)).1, 0) (((V_memmap_Regions ((16, 16, 256, ()), 4)).1, [], ()), zeros p0.2.1 0)) fun p1 =>
       (.ite (inRange 0 (List.length p1.2.2.2.1.2.1))
        (.ite (inRange 1 (List.length p1.2.2.2.1.2.1))
         (.opt (LoopN.res L_hauberklaw27_World_5 (x.1, (), 0) (p1.2.2.2.1, mend (mend p1.2.2.2.2 (wAt p1.2.2.2.1.2.1 0).1 (strInts [1, 2, 3, 4]) (wAt p1.2.2.2.1.2.1 0).2) (wAt p1.2.2.2.1.2.1 1).1 (strInts x.2) (wAt p1.2.2.2.1.2.1 1).2)) fun p2 =>
          (.ret (⟨.box 0 0, ()⟩, enum 0 (savs HT_hauberklaw27_World (p2.2.2.1, p2.2.2.2)), 64)))
         .fail)
        .fail))
      .fail))))
theorem regs27_ok : RegsOk regs27 ∧ regs27.length = 7 ∧ sumL regs27 = 556 := by
  have e : regs27 = [(0, 4, false, ()), (536936448, 16, true, ()), (537001984, 16, true, ()), (537133056, 256, true, ()), (537395200, 256, true, ()), (537919488, 4, true, ()), (538968064, 4, true, ())] := by decide +kernel
  rw [e]
  exact ⟨by decide, rfl, rfl⟩
theorem ok_world (words : List Int) (inp : List UInt8) (h : inp.length = 16) : (T_hauberklaw27_World (words, inp) ()).val = some (⟨.box 0 0, ()⟩, enum 0 (savs HT_hauberklaw27_World (worldM words inp)), 64) := by
  obtain ⟨r1, r2, r3⟩ := regs27_ok
  have r4 : ∀ r ∈ regs27, 0 ≤ r.2.1 := fun r hr => (r1.2 r hr).2.1
  have e0 : ((V_memmap_Regions ((16, 16, 256, ()), 4)).2.1 != 0) = false := by decide +kernel
  refine (val_no e0).trans ((val_no ?_).trans ?_)
  · show (((List.length inp : Nat) : Int) != 16) = false
    rw [h]
    rfl
  · refine (val_opt (r := _) (res_8 [1, 2, 3, 4] inp regs27 (by omega) r4 (by omega))).trans ?_
    dsimp only
    rw [r3]
    refine (val_yes (by decide)).trans ?_
    have e15 := res_15 [1, 2, 3, 4] inp regs27 (zeros ((556 : Nat) : Int) 0) (by omega) r4
    rw [r3] at e15
    refine (val_opt (r := _) e15).trans ?_
    have hw : (winsOf 0 regs27).length = 7 := by rw [winsOf_length, r2]
    refine (val_yes ?_).trans ((val_yes ?_).trans ?_)
    · show inRange 0 (winsOf 0 regs27).length = true
      rw [hw]
      rfl
    · show inRange 1 (winsOf 0 regs27).length = true
      rw [hw]
      rfl
    · have hn : newM regs27 [1, 2, 3, 4] inp = ((regs27, winsOf 0 regs27, ()), mend (mend (zeros ((556 : Nat) : Int) 0) (wAt (winsOf 0 regs27) 0).1 (strInts [1, 2, 3, 4]) (wAt (winsOf 0 regs27) 0).2) (wAt (winsOf 0 regs27) 1).1 (strInts inp) (wAt (winsOf 0 regs27) 1).2) := by unfold newM; rw [r3]
      have hwf := newM_wf regs27 [1, 2, 3, 4] inp r1 (by omega)
      have := words_from words (newM regs27 [1, 2, 3, 4] inp) (min words.length 64) 0 (Nat.zero_add _) (words.length + 1) (by omega) (newM regs27 [1, 2, 3, 4] inp) hwf
      rw [hn] at this
      refine (val_opt (r := _) this).trans ?_
      unfold worldM
      rw [hn]
      rfl
def G_hauberklaw27_World (x : shDens SS_hauberklaw27_World) (_ : shDens HS_hauberklaw27_World) : Bool := List.length x.2 == 16
def V_hauberklaw27_World (x : shDens SS_hauberklaw27_World) (_ : shDens HS_hauberklaw27_World) : Sh.den S_hauberklaw27_World × shDens HT_hauberklaw27_World := ((), worldM x.1 x.2)
theorem ok_hauberklaw27_World (x : shDens SS_hauberklaw27_World) (y : shDens HS_hauberklaw27_World) (h : G_hauberklaw27_World x y = true) : (T_hauberklaw27_World x y).val = some (⟨S_hauberklaw27_World, (V_hauberklaw27_World x y).1⟩, enum 0 (savs HT_hauberklaw27_World (V_hauberklaw27_World x y).2), 64) :=
  ok_world x.1 x.2 (by simpa [G_hauberklaw27_World] using h)
/-- hauberklaw27.hit -/
abbrev A_hauberklaw27_hit : List Ty := [tState, tFault, (.int .i64)]
abbrev S_hauberklaw27_hit : Sh := Sh.ty tState
def T_hauberklaw27_hit (x : dens A_hauberklaw27_hit) : PO (Sh.den S_hauberklaw27_hit) :=
  (.ite (x.2.1.2.1 != x.2.2 || (decide (x.2.1.2.2.1 < 0) || (decide (x.2.1.2.2.1 > 14) || (decide (x.2.1.2.2.2.1 < 0) || (decide (x.2.1.2.2.2.1 > 31) || x.2.1.1 != 2)))))
   (.ret (x.1))
   (.ite (inRange x.2.1.2.2.1 15)
    (.ite (!decide (x.2.1.2.2.2.1 < 0))
     (.ite (inRange x.2.1.2.2.1 15)
      (.ret ((List.set x.1.1 (Int.toNat x.2.1.2.2.1) (bxor IntKind.i64 (List.getD x.1.1 (Int.toNat x.2.1.2.2.1) (Ty.dflt (Ty.int IntKind.i64))) (ishl IntKind.i64 1 x.2.1.2.2.2.1)), x.1.2)))
      .fail)
     .fail)
    .fail))
/-- A register turned, if a fault is one of registers and is due. -/
def hitV (s : tState.den) (f : tFault.den) (at_ : Int) : tState.den :=
  bif f.2.1 != at_ || (decide (f.2.2.1 < 0) || (decide (f.2.2.1 > 14) || (decide (f.2.2.2.1 < 0) || (decide (f.2.2.2.1 > 31) || f.1 != 2)))) then s
  else (s.1.set (Int.toNat f.2.2.1) (bxor .i64 (s.1.getD (Int.toNat f.2.2.1) 0) (ishl .i64 1 f.2.2.2.1)), s.2)
theorem ok_hit (s : tState.den) (k p r b : Int) (at_ : Int) : (T_hauberklaw27_hit (s, (k, p, r, b, ()), at_)).val = some (hitV s (k, p, r, b, ()) at_) := by
  unfold hitV
  show (PO.ite (p != at_ || (decide (r < 0) || (decide (r > 14) || (decide (b < 0) || (decide (b > 31) || k != 2))))) _ _).val = some (bif (p != at_ || (decide (r < 0) || (decide (r > 14) || (decide (b < 0) || (decide (b > 31) || k != 2))))) then _ else _)
  cases c : (p != at_ || (decide (r < 0) || (decide (r > 14) || (decide (b < 0) || (decide (b > 31) || k != 2))))) with
  | true => rfl
  | false =>
    simp only [Bool.or_eq_false_iff, decide_eq_false_iff_not] at c
    obtain ⟨_, c1, c2, c3, _⟩ := c
    have hr : inRange r 15 = true := by simp only [inRange, Bool.and_eq_true, decide_eq_true_eq]; omega
    exact (val_no rfl).trans ((val_yes hr).trans ((val_yes (by show (!decide (b < 0)) = true; simp [c3])).trans ((val_yes hr).trans rfl)))
def G_hauberklaw27_hit (_ : dens A_hauberklaw27_hit) : Bool := true
def V_hauberklaw27_hit (x : dens A_hauberklaw27_hit) : Sh.den S_hauberklaw27_hit := hitV x.1 x.2.1 x.2.2
theorem ok_hauberklaw27_hit (x : dens A_hauberklaw27_hit) (_ : G_hauberklaw27_hit x = true) : (T_hauberklaw27_hit x).val = some (V_hauberklaw27_hit x) := by
  obtain ⟨s, ⟨k, p, r, b, u⟩, at_⟩ := x
  exact ok_hit s k p r b at_
/-- What a turn of a world's run knows: whether it went on, counters, memory, state, fault, result, bytes. -/
abbrev GoT : Type := Bool × Int × Int × (List (Int × Int × Bool × Unit) × List (Nat × Nat) × Unit) × tState.den × tFault.den × tState.den × List Int

/-- An instruction's step, behind its access. -/
def goFin (n : Nat) (i at_ k : Int) (f : tFault.den) (res : tState.den) (on : Bool) (st : tState.den) (ins : tIns.den) (mem : MemT) (ld : Int) : PO (TL GoT) :=
  .ite (inRange i n)
   (.ite (G_cpu_Step (st, ins, ld))
    (.ite (!(V_cpu_Step (st, ins, ld)).2.1)
     (.ret (.out 1 (false, w64 (at_ + 1), k, mem.1, st, f, (V_cpu_Step (st, ins, ld)).1, mem.2)))
     (.ret (.on (on, w64 (at_ + 1), w64 (k + 1), mem.1, (V_cpu_Step (st, ins, ld)).1, f, res, mem.2))))
    .fail)
   .fail

/-- What it loads, and its step. -/
def goLd (n : Nat) (i at_ k : Int) (f : tFault.den) (res : tState.den) (on : Bool) (st : tState.den) (ins : tIns.den) (mem : MemT) : PO (TL GoT) :=
  .ite ((V_cpu_Access (st, ins)).2.1 && !(V_cpu_Access (st, ins)).1.2.2.2.1)
   (.ite (G_memory_Memory_Load ((), (V_cpu_Access (st, ins)).1.1, (V_cpu_Access (st, ins)).1.2.1) mem)
    (.ite ((V_memory_Memory_Load ((), (V_cpu_Access (st, ins)).1.1, (V_cpu_Access (st, ins)).1.2.1) mem).1.2.1 != 0)
     (.ret (.out 1 (false, w64 (at_ + 1), k, (V_memory_Memory_Load ((), (V_cpu_Access (st, ins)).1.1, (V_cpu_Access (st, ins)).1.2.1) mem).2.1, st, f, st, (V_memory_Memory_Load ((), (V_cpu_Access (st, ins)).1.1, (V_cpu_Access (st, ins)).1.2.1) mem).2.2)))
     (goFin n i at_ k f res on st ins (V_memory_Memory_Load ((), (V_cpu_Access (st, ins)).1.1, (V_cpu_Access (st, ins)).1.2.1) mem).2 (V_memory_Memory_Load ((), (V_cpu_Access (st, ins)).1.1, (V_cpu_Access (st, ins)).1.2.1) mem).1.1))
    .fail)
   (goFin n i at_ k f res on st ins mem 0)

/-- What it stores, or loads, and its step. -/
def goSt (n : Nat) (i at_ k : Int) (f : tFault.den) (res : tState.den) (on : Bool) (st : tState.den) (ins : tIns.den) (mem : MemT) : PO (TL GoT) :=
  .ite (inRange i n)
   (.ite (G_cpu_Access (st, ins))
    (.ite ((V_cpu_Access (st, ins)).2.1)
     (.ite ((V_cpu_Access (st, ins)).1.2.2.2.1)
      (.ite (G_memory_Memory_Store ((), (V_cpu_Access (st, ins)).1.1, (V_cpu_Access (st, ins)).1.2.1, (V_cpu_Access (st, ins)).1.2.2.1) mem)
       (.ite ((V_memory_Memory_Store ((), (V_cpu_Access (st, ins)).1.1, (V_cpu_Access (st, ins)).1.2.1, (V_cpu_Access (st, ins)).1.2.2.1) mem).1 != 0)
        (.ret (.out 1 (false, w64 (at_ + 1), k, (V_memory_Memory_Store ((), (V_cpu_Access (st, ins)).1.1, (V_cpu_Access (st, ins)).1.2.1, (V_cpu_Access (st, ins)).1.2.2.1) mem).2.1, st, f, st, (V_memory_Memory_Store ((), (V_cpu_Access (st, ins)).1.1, (V_cpu_Access (st, ins)).1.2.1, (V_cpu_Access (st, ins)).1.2.2.1) mem).2.2)))
        (goLd n i at_ k f res on st ins (V_memory_Memory_Store ((), (V_cpu_Access (st, ins)).1.1, (V_cpu_Access (st, ins)).1.2.1, (V_cpu_Access (st, ins)).1.2.2.1) mem).2))
       .fail)
      (goLd n i at_ k f res on st ins mem))
     (goLd n i at_ k f res on st ins mem))
    .fail)
   .fail

theorem wordR_length (r : List Int) : (wordR r).length = r.length := by unfold wordR; simp

theorem regsOf_length (r : List Int) (op rd rn rm ra imm ld : Int) : (regsOf r op rd rn rm ra imm ld).length = r.length := by
  unfold regsOf
  cases op == 17
  · cases makesRd op <;> simp
  · simp

theorem step_len (s : tState.den) (i : tIns.den) (ld : Int) (h : List.length s.1 = 15) : List.length (V_cpu_Step (s, i, ld)).1.1 = 15 := by
  obtain ⟨op, rd, rn, rm, ra, imm, cond, w, u⟩ := i
  have hw : List.length (wState s).1 = 15 := by
    show (wordR s.1).length = 15
    rw [wordR_length, h]
  show List.length (stepV _ s op rd rn rm ra imm cond w ld).1.1 = 15
  unfold stepV
  cases (V_thumb_Check (op, rd, rn, rm, ra, imm, cond, w, u) != 0 || op == 2)
  · show List.length (bif op == 24 || op == 25 then wState s else makesS (wState s) op rd rn rm ra imm ld).1 = 15
    cases op == 24 || op == 25
    · show List.length (makesS (wState s) op rd rn rm ra imm ld).1 = 15
      unfold makesS
      cases op == 23
      · show (regsOf (wState s).1 op rd rn rm ra imm ld).length = 15
        rw [regsOf_length, hw]
      · exact hw
    · exact hw
  · exact hw

theorem hit_len (s : tState.den) (f : tFault.den) (a : Int) (h : List.length s.1 = 15) : List.length (hitV s f a).1 = 15 := by
  unfold hitV
  cases (f.2.1 != a || (decide (f.2.2.1 < 0) || (decide (f.2.2.1 > 14) || (decide (f.2.2.2.1 < 0) || (decide (f.2.2.2.1 > 31) || f.1 != 2)))))
  · show (List.set s.1 _ _).length = 15
    rw [List.length_set, h]
  · exact h

/-- One instruction done: does it go on, the state, the memory. -/
def finM (st : tState.den) (ins : tIns.den) (mem : MemT) (ld : Int) : Bool × tState.den × MemT := ((V_cpu_Step (st, ins, ld)).2.1, (V_cpu_Step (st, ins, ld)).1, mem)
def doOne (st : tState.den) (ins : tIns.den) (mem : MemT) : Bool × tState.den × MemT :=
  match V_cpu_Access (st, ins) with
  | ((a, n, v, w, _), is, _) => bif is then
      bif w then (bif (storeM mem a n v).1 != 0 then (false, st, mem) else finM st ins (storeM mem a n v).2 0)
      else (bif (loadM mem a n).2.1 != 0 then (false, st, mem) else finM st ins mem (loadM mem a n).1)
    else finM st ins mem 0

theorem doOne_wf {st : tState.den} {ins : tIns.den} {mem : MemT} (hs : List.length st.1 = 15) (hm : MemWf mem) : List.length (doOne st ins mem).2.1.1 = 15 ∧ MemWf (doOne st ins mem).2.2 ∧ (doOne st ins mem).2.2.1 = mem.1 := by
  unfold doOne
  obtain ⟨⟨a, n, v, w, u⟩, is, u'⟩ := V_cpu_Access (st, ins)
  cases is
  · exact ⟨step_len _ _ _ hs, hm, rfl⟩
  · cases w
    · simp only [cond_true, cond_false]
      cases (loadM mem a n).2.1 != 0
      · exact ⟨step_len _ _ _ hs, hm, rfl⟩
      · exact ⟨hs, hm, rfl⟩
    · simp only [cond_true]
      cases (storeM mem a n v).1 != 0
      · exact ⟨step_len _ _ _ hs, (store_wf hm a n v).1, (store_wf hm a n v).2⟩
      · exact ⟨hs, hm, rfl⟩

theorem store_same {mem : MemT} {a n v : Int} (h : ((storeM mem a n v).1 != 0) = true) : (storeM mem a n v).2 = mem := by
  unfold storeM at h ⊢
  rcases findM_cases mem.1.1 a n true with ⟨e, he, hf⟩ | ⟨j, hj, hn, _, hf⟩
  · rw [hf]
    have hb : (e != 0) = true := by simpa using he
    simp only [hb, cond_true]
  · rw [hf] at h
    cases h

theorem accessV_addr (bad : Bool) (op a d : Int) : (show Int from (accessV bad op a d).1.1) = 0 ∨ (show Int from (accessV bad op a d).1.1) = (wn a : Int) := by
  unfold accessV
  cases bad <;> cases op == 19 <;> cases op == 20 <;> cases op == 21 <;> cases op == 22 <;> first | exact .inl rfl | exact .inr rfl

theorem access_addr (st : tState.den) (ins : tIns.den) : (show Int from (V_cpu_Access (st, ins)).1.1) < 9223372036854775808 := by
  obtain ⟨op, rd, rn, rm, ra, imm, cond, w, u⟩ := ins
  have := wn_lt (rg st.1 rn)
  rcases accessV_addr (V_thumb_Check (op, rd, rn, rm, ra, imm, cond, w, u) != 0) op (rg st.1 rn) (rg st.1 rd) with h | h
  · exact Int.lt_of_le_of_lt (Int.le_of_eq h) (by decide)
  · exact Int.lt_of_le_of_lt (Int.le_of_eq h) (by omega)

/-- What a turn leaves. -/
def goOut (at_ k : Int) (f : tFault.den) (res : tState.den) (on : Bool) (st : tState.den) (r : Bool × tState.den × MemT) : TL GoT :=
  bif r.1 then .on (on, w64 (at_ + 1), w64 (k + 1), r.2.2.1, r.2.1, f, res, r.2.2.2) else .out 1 (false, w64 (at_ + 1), k, r.2.2.1, st, f, r.2.1, r.2.2.2)

theorem goFin_val {n : Nat} {i at_ k : Int} {f : tFault.den} {res : tState.den} {on : Bool} {st : tState.den} {ins : tIns.den} {mem : MemT} {ld : Int} (hi : inRange i n = true) (hs : List.length st.1 = 15) :
    (goFin n i at_ k f res on st ins mem ld).val = some (goOut at_ k f res on st (finM st ins mem ld)) := by
  unfold goFin
  refine (val_yes hi).trans ((val_yes (dec_true hs)).trans ?_)
  unfold finM goOut
  generalize V_cpu_Step (st, ins, ld) = r
  obtain ⟨st', o, u⟩ := r
  cases o <;> rfl

theorem goSt_val {n : Nat} {i at_ k : Int} {f : tFault.den} {res : tState.den} {on : Bool} {st : tState.den} {ins : tIns.den} {mem : MemT} (hi : inRange i n = true) (hs : List.length st.1 = 15) (hm : MemWf mem) :
    (goSt n i at_ k f res on st ins mem).val = some (goOut at_ k f res on st (doOne st ins mem)) := by
  have ha := access_addr st ins
  unfold goSt
  refine (val_yes hi).trans ((val_yes (dec_true hs)).trans ?_)
  unfold goLd doOne
  generalize V_cpu_Access (st, ins) = acc at *
  obtain ⟨⟨a, m, v, w, u⟩, is, u'⟩ := acc
  have hld : G_memory_Memory_Load ((), a, m) mem = true := decide_eq_true ⟨hm, ha⟩
  have hst : G_memory_Memory_Store ((), a, m, v) mem = true := decide_eq_true ⟨hm, ha⟩
  cases is with
  | false =>
    refine (val_no rfl).trans ((val_no rfl).trans ?_)
    exact goFin_val hi hs
  | true =>
    refine (val_yes rfl).trans ?_
    cases w with
    | false =>
      refine (val_no rfl).trans ((val_yes rfl).trans ((val_yes hld).trans ?_))
      show (PO.ite ((loadM mem a m).2.1 != 0) (.ret (.out 1 (false, w64 (at_ + 1), k, mem.1, st, f, st, mem.2))) (goFin n i at_ k f res on st ins mem (loadM mem a m).1)).val = some (goOut at_ k f res on st (bif ((loadM mem a m).2.1 != 0) then (false, st, mem) else finM st ins mem (loadM mem a m).1))
      cases (loadM mem a m).2.1 != 0 with
      | true => rfl
      | false => exact (val_no rfl).trans (goFin_val hi hs)
    | true =>
      refine (val_yes rfl).trans ((val_yes hst).trans ?_)
      show (PO.ite ((storeM mem a m v).1 != 0) (.ret (.out 1 (false, w64 (at_ + 1), k, (storeM mem a m v).2.1, st, f, st, (storeM mem a m v).2.2))) _).val = some (goOut at_ k f res on st (bif ((storeM mem a m v).1 != 0) then (false, st, mem) else finM st ins (storeM mem a m v).2 0))
      cases hb : (storeM mem a m v).1 != 0 with
      | true => rw [store_same hb]; rfl
      | false => exact (val_no rfl).trans ((val_no rfl).trans (goFin_val hi hs))

/-- An instruction done so many times, with a fault: does it go on, the count, the state, the memory. -/
def goK (f : tFault.den) (ins : tIns.den) : Nat → Int → tState.den → MemT → Bool × Int × tState.den × MemT
  | 0, at_, st, mem => (true, at_, st, mem)
  | m + 1, at_, st, mem => bif f.1 == 1 && f.2.1 == at_ then goK f ins m (at_ + 1) (hitV st f at_) mem
    else bif (doOne (hitV st f at_) ins mem).1 then goK f ins m (at_ + 1) (doOne (hitV st f at_) ins mem).2.1 (doOne (hitV st f at_) ins mem).2.2
    else (false, at_ + 1, (doOne (hitV st f at_) ins mem).2)

theorem goK_wf (f : tFault.den) (ins : tIns.den) : ∀ (m : Nat) (at_ : Int) (st : tState.den) (mem : MemT), List.length st.1 = 15 → MemWf mem →
    List.length (goK f ins m at_ st mem).2.2.1.1 = 15 ∧ MemWf (goK f ins m at_ st mem).2.2.2 ∧ (goK f ins m at_ st mem).2.2.2.1 = mem.1 ∧ ((goK f ins m at_ st mem).1 = true → (goK f ins m at_ st mem).2.1 = at_ + m)
  | 0, at_, st, mem, hs, hm => ⟨hs, hm, rfl, fun _ => by simp [goK]⟩
  | m + 1, at_, st, mem, hs, hm => by
    have hh := hit_len st f at_ hs
    obtain ⟨d1, d2, d3⟩ := doOne_wf (ins := ins) hh hm
    simp only [goK]
    cases f.1 == 1 && f.2.1 == at_
    · simp only [cond_false]
      cases (doOne (hitV st f at_) ins mem).1
      · exact ⟨d1, d2, d3, fun h => by cases h⟩
      · obtain ⟨q1, q2, q3, q4⟩ := goK_wf f ins m (at_ + 1) _ _ d1 d2
        exact ⟨q1, q2, q3.trans d3, fun h => (q4 h).trans (by push_cast; omega)⟩
    · obtain ⟨q1, q2, q3, q4⟩ := goK_wf f ins m (at_ + 1) _ _ hh hm
      exact ⟨q1, q2, q3, fun h => (q4 h).trans (by push_cast; omega)⟩
def L_hauberklaw27_Go_6 : LoopN where
  M := [0, 2, 3, 6, 9, 10, 11, 12, 13, 14]
  T := [15, 16, 17, 18, 19, 20, 21, 28, 29, 30, 31, 32, 33, 34, 35, 36, 37, 38, 39, 40, 41, 42, 43, 44, 45, 46, 47, 48, 49, 50, 51, 52, 53, 54, 55, 56, 57, 58, 59, 60, 61, 62, 63, 64, 65, 66, 67, 68, 69, 70, 71, 72, 73, 74, 75, 76, 77, 78, 79, 80, 81, 82, 83, 84, 85, 86, 87, 88, 89, 90, 91, 92, 93, 94, 95, 96, 97, 98, 99, 100, 101, 102, 103, 104, 105, 106, 107, 108]
  D := [14]
  ss := [.box 0 0, .ty (.sl tIns), .ty (.int .i64), .box 1 0, .box 2 0, .box 3 0, .ty .bool, .ty (.int .i64), .ty (.int .i64), .ty (.int .i64)]
  hs := [shMemB 4, .ty tState, .ty tFault, .ty tState, .rowc (.int .u8)]
  es := [.exit 2, .ret]
  σ := (Ty.den .bool) × (Ty.den (.int .i64)) × (Ty.den (.int .i64)) × (Sh.den (shMemB 4)) × (Sh.den (.ty tState)) × (Sh.den (.ty tFault)) × (Sh.den (.ty tState)) × (Sh.den (.rowc (.int .u8)))
  x0 := fun x y => (x.2.2.2.2.2.2.1, x.2.2.2.2.2.2.2.1, x.2.2.2.2.2.2.2.2.2, y.1, y.2.1, y.2.2.1, y.2.2.2.1, y.2.2.2.2)
  put := fun x _ s => ((x.1, x.2.1, x.2.2.1, x.2.2.2.1, x.2.2.2.2.1, x.2.2.2.2.2.1, s.1, s.2.1, x.2.2.2.2.2.2.2.2.1, s.2.2.1), (s.2.2.2.1, s.2.2.2.2.1, s.2.2.2.2.2.1, s.2.2.2.2.2.2.1, s.2.2.2.2.2.2.2))
  fuel := fun x _ => Int.toNat x.2.2.1+1
  turn := fun x _ s =>
  (.ite (decide (s.2.2.1 < x.2.2.1))
   (.ite (s.2.2.2.2.2.1.1 == 1 && s.2.2.2.2.2.1.2.1 == s.2.1)
    (.ret (.on (s.1, w64 (s.2.1 + 1), w64 (s.2.2.1 + 1), s.2.2.2.1, V_hauberklaw27_hit (s.2.2.2.2.1, s.2.2.2.2.2.1, s.2.1), s.2.2.2.2.2.1, s.2.2.2.2.2.2.1, s.2.2.2.2.2.2.2)))
    (goSt (List.length x.2.1) x.2.2.2.2.2.2.2.2.1 s.2.1 s.2.2.1 s.2.2.2.2.2.1 s.2.2.2.2.2.2.1 s.1 (V_hauberklaw27_hit (s.2.2.2.2.1, s.2.2.2.2.2.1, s.2.1)) (List.getD x.2.1 (Int.toNat x.2.2.2.2.2.2.2.2.1) (Ty.dflt tIns)) (s.2.2.2.1, s.2.2.2.2.2.2.2)))
   (.ret (.out 0 (s.1, s.2.1, s.2.2.1, s.2.2.2.1, s.2.2.2.2.1, s.2.2.2.2.2.1, s.2.2.2.2.2.2.1, s.2.2.2.2.2.2.2))))
theorem goK_loop (l : List tIns.den) (times : Nat) (f : tFault.den) (res : tState.den) (i : Nat) (hi : i < l.length) (ht : times < 4611686018427387904) :
    ∀ (m k : Nat), k + m = times → ∀ g, m < g → ∀ (at_ : Int) (st : tState.den) (mem : MemT), 0 ≤ at_ → at_ + m < 4611686018427387904 → List.length st.1 = 15 → MemWf mem →
      ∃ p : Nat × GoT, runL (L_hauberklaw27_Go_6.turn ((), l, (times : Int), (), (), (), false, 0, (i : Int), 0) (mem.1, st, f, res, mem.2)) g (false, at_, (k : Int), mem.1, st, f, res, mem.2) = some p ∧
        bif (goK f (l.getD i tIns.dflt) m at_ st mem).1 then p = (0, (false, (goK f (l.getD i tIns.dflt) m at_ st mem).2.1, (times : Int), (goK f (l.getD i tIns.dflt) m at_ st mem).2.2.2.1, (goK f (l.getD i tIns.dflt) m at_ st mem).2.2.1, f, res, (goK f (l.getD i tIns.dflt) m at_ st mem).2.2.2.2))
        else p.1 = 1 ∧ p.2.1 = false ∧ (p.2.2.2.2.1, p.2.2.2.2.2.2.2.2) = (goK f (l.getD i tIns.dflt) m at_ st mem).2.2.2 ∧ p.2.2.2.2.2.2.2.1 = (goK f (l.getD i tIns.dflt) m at_ st mem).2.2.1
  | 0, k, hk, g, hg, at_, st, mem, h0, h1, hs, hm => by
    obtain ⟨g, rfl⟩ : ∃ j, g = j + 1 := ⟨g - 1, by omega⟩
    have : k = times := by omega
    subst this
    refine ⟨_, runL_out (c := 0) (s' := (false, at_, (k : Int), mem.1, st, f, res, mem.2)) ?_, rfl⟩
    exact val_no (dec_false (by show ¬ ((k : Int) < (k : Int)); omega))
  | m + 1, k, hk, g, hg, at_, st, mem, h0, h1, hs, hm => by
    obtain ⟨g, rfl⟩ : ∃ j, g = j + 1 := ⟨g - 1, by omega⟩
    have hlt : decide ((k : Int) < (times : Int)) = true := dec_true (by omega)
    have hh := hit_len st f at_ hs
    have wa : w64 (at_ + 1) = at_ + 1 := w64_id (by omega) (by omega)
    have wk : w64 ((k : Int) + 1) = ((k + 1 : Nat) : Int) := by rw [w64_id (by omega) (by omega)]; push_cast; rfl
    simp only [goK]
    cases hsk : (f.1 == 1 && f.2.1 == at_) with
    | true =>
      obtain ⟨p, e1, e2⟩ := goK_loop l times f res i hi ht m (k + 1) (by omega) g (by omega) (at_ + 1) (hitV st f at_) mem (by omega) (by omega) hh hm
      refine ⟨p, (runL_on (s' := (false, at_ + 1, ((k + 1 : Nat) : Int), mem.1, hitV st f at_, f, res, mem.2)) ?_).trans e1, e2⟩
      refine (val_yes hlt).trans ((val_yes hsk).trans ?_)
      show some (TL.on (false, w64 (at_ + 1), w64 ((k : Int) + 1), mem.1, hitV st f at_, f, res, mem.2)) = _
      rw [wa, wk]
    | false =>
      have hv : (L_hauberklaw27_Go_6.turn ((), l, (times : Int), (), (), (), false, 0, (i : Int), 0) (mem.1, st, f, res, mem.2) (false, at_, (k : Int), mem.1, st, f, res, mem.2)).val =
          some (goOut at_ k f res false (hitV st f at_) (doOne (hitV st f at_) (l.getD i tIns.dflt) mem)) := by
        refine (val_yes hlt).trans ((val_no hsk).trans ?_)
        have := goSt_val (n := l.length) (i := (i : Int)) (at_ := at_) (k := (k : Int)) (f := f) (res := res) (on := false) (st := hitV st f at_) (ins := l.getD i tIns.dflt) (mem := mem) (inR hi) hh hm
        refine Eq.trans ?_ this
        show (goSt (List.length l) (i : Int) at_ k f res false (hitV st f at_) (List.getD l (Int.toNat (i : Int)) (Ty.dflt tIns)) (mem.1, mem.2)).val = _
        rw [Int.toNat_natCast]
      obtain ⟨d1, d2, _⟩ := doOne_wf (ins := l.getD i tIns.dflt) hh hm
      simp only [cond_false]
      generalize doOne (hitV st f at_) (l.getD i tIns.dflt) mem = r at *
      obtain ⟨o, st', mem'⟩ := r
      cases o with
      | false =>
        refine ⟨_, runL_out hv, ?_⟩
        exact ⟨rfl, rfl, rfl, rfl⟩
      | true =>
        obtain ⟨p, e1, e2⟩ := goK_loop l times f res i hi ht m (k + 1) (by omega) g (by omega) (at_ + 1) st' mem' (by omega) (by omega) d1 d2
        refine ⟨p, (runL_on (s' := (false, at_ + 1, ((k + 1 : Nat) : Int), mem'.1, st', f, res, mem'.2)) ?_).trans e1, e2⟩
        refine hv.trans ?_
        show some (TL.on (false, w64 (at_ + 1), w64 ((k : Int) + 1), mem'.1, st', f, res, mem'.2)) = _
        rw [wa, wk]
def L_hauberklaw27_Go_3 : LoopN where
  M := [0, 2, 3, 6, 9, 10, 11, 12, 13]
  T := [14, 15, 16, 17, 18, 19, 20, 21, 22, 23, 24, 25, 26, 27, 28, 29, 30, 31, 32, 33, 34, 35, 36, 37, 38, 39, 40, 41, 42, 43, 44, 45, 46, 47, 48, 49, 50, 51, 52, 53, 54, 55, 56, 57, 58, 59, 60, 61, 62, 63, 64, 65, 66, 67, 68, 69, 70, 71, 72, 73, 74, 75, 76, 77, 78, 79, 80, 81, 82, 83, 84, 85, 86, 87, 88, 89, 90, 91, 92, 93, 94, 95, 96, 97, 98, 99, 100, 101, 102, 103, 104, 105, 106, 107, 108]
  D := [0, 2, 3, 9, 12, 13]
  ss := [.box 0 0, .ty (.sl tIns), .ty (.int .i64), .box 1 0, .box 2 0, .box 3 0, .ty .bool, .ty (.int .i64), .ty (.int .i64)]
  hs := [shMemB 4, .ty tState, .ty tFault, .ty tState, .rowc (.int .u8)]
  es := [.exit 0, .ret]
  σ := (Ty.den .bool) × (Ty.den (.int .i64)) × (Ty.den (.int .i64)) × (Sh.den (shMemB 4)) × (Sh.den (.ty tState)) × (Sh.den (.ty tFault)) × (Sh.den (.ty tState)) × (Sh.den (.rowc (.int .u8)))
  x0 := fun x y => (x.2.2.2.2.2.2.1, x.2.2.2.2.2.2.2.1, x.2.2.2.2.2.2.2.2, y.1, y.2.1, y.2.2.1, y.2.2.2.1, y.2.2.2.2)
  put := fun x _ s => ((x.1, x.2.1, x.2.2.1, x.2.2.2.1, x.2.2.2.2.1, x.2.2.2.2.2.1, s.1, s.2.1, s.2.2.1), (s.2.2.2.1, s.2.2.2.2.1, s.2.2.2.2.2.1, s.2.2.2.2.2.2.1, s.2.2.2.2.2.2.2))
  fuel := fun x _ => List.length x.2.1+1
  turn := fun x _ s =>
  (.ite (decide (s.2.2.1 < lenI x.2.1))
   (.opt (LoopN.res L_hauberklaw27_Go_6 ((), x.2.1, x.2.2.1, (), (), (), s.1, s.2.1, s.2.2.1, 0) s.2.2.2) fun p0 =>
    (.ite (way p0.1)
     (.ret (.on (p0.2.1, p0.2.2.1, w64 (s.2.2.1 + 1), p0.2.2.2.2.1, p0.2.2.2.2.2.1, p0.2.2.2.2.2.2.1, p0.2.2.2.2.2.2.2.1, p0.2.2.2.2.2.2.2.2)))
     (.ret (.out 1 (p0.2.1, p0.2.2.1, s.2.2.1, p0.2.2.2.2.1, p0.2.2.2.2.2.1, p0.2.2.2.2.2.2.1, p0.2.2.2.2.2.2.2.1, p0.2.2.2.2.2.2.2.2)))))
   (.ret (.out 0 (s.1, s.2.1, s.2.2.1, s.2.2.2.1, s.2.2.2.2.1, s.2.2.2.2.2.1, s.2.2.2.2.2.2.1, s.2.2.2.2.2.2.2))))
/-- hauberklaw27.Go -/
abbrev SS_hauberklaw27_Go : List Sh := [.box 0 0, .ty tState, .ty (.sl tIns), .ty (.int .i64), .ty tFault]
abbrev HS_hauberklaw27_Go : List Sh := [shMem, .rowc (.int .u8)]
abbrev S_hauberklaw27_Go : Sh := Sh.tup (Sh.pair (Sh.ty tState) (Sh.pair (Sh.ty Ty.bool) (Sh.ty Ty.unit)))
abbrev HT_hauberklaw27_Go : List Sh := [Sh.pair (Sh.ty (Ty.sl tSpot)) (Sh.pair (Sh.wsl (some 0) 1 (Ty.int IntKind.u8)) (Sh.ty Ty.unit)), Sh.rowc (Ty.int IntKind.u8)]
def T_hauberklaw27_Go (x : shDens SS_hauberklaw27_Go) (y : shDens HS_hauberklaw27_Go) : PO (Sh.den S_hauberklaw27_Go × shDens HT_hauberklaw27_Go) :=
  (.opt (LoopN.res L_hauberklaw27_Go_3 ((), x.2.2.1, x.2.2.2.1, (), (), (), false, 0, 0) (y.1, x.2.1, x.2.2.2.2, ([0, 0, 0, 0, 0, 0, 0, 0, 0, 0, 0, 0, 0, 0, 0], 0, false, false, false, false, ()), y.2)) fun p0 =>
   (.ite (way p0.1)
    (.ret ((p0.2.2.2.2.2.1, true, ()), (p0.2.2.2.2.1, p0.2.2.2.2.2.2.2.2)))
    (.ret ((p0.2.2.2.2.2.2.2.1, p0.2.1, ()), (p0.2.2.2.2.1, p0.2.2.2.2.2.2.2.2)))))
/-- Instructions done one behind the other, each so many times, with a fault. -/
def goL (f : tFault.den) (times : Nat) : List tIns.den → Int → tState.den → MemT → Bool × Int × tState.den × MemT
  | [], at_, st, mem => (true, at_, st, mem)
  | i :: l, at_, st, mem => bif (goK f i times at_ st mem).1 then goL f times l (goK f i times at_ st mem).2.1 (goK f i times at_ st mem).2.2.1 (goK f i times at_ st mem).2.2.2
    else goK f i times at_ st mem

theorem goL_wf (f : tFault.den) (times : Nat) : ∀ (l : List tIns.den) (at_ : Int) (st : tState.den) (mem : MemT), List.length st.1 = 15 → MemWf mem →
    List.length (goL f times l at_ st mem).2.2.1.1 = 15 ∧ MemWf (goL f times l at_ st mem).2.2.2 ∧ (goL f times l at_ st mem).2.2.2.1 = mem.1
  | [], _, _, _, hs, hm => ⟨hs, hm, rfl⟩
  | i :: l, at_, st, mem, hs, hm => by
    obtain ⟨q1, q2, q3, _⟩ := goK_wf f i times at_ st mem hs hm
    simp only [goL]
    cases (goK f i times at_ st mem).1
    · exact ⟨q1, q2, q3⟩
    · obtain ⟨p1, p2, p3⟩ := goL_wf f times l (goK f i times at_ st mem).2.1 _ _ q1 q2
      exact ⟨p1, p2, p3.trans q3⟩

theorem goL_loop (l : List tIns.den) (times : Nat) (f : tFault.den) (res : tState.den) (ht : times < 1048576) (hl : l.length < 1099511627776) :
    ∀ (m i : Nat), i + m = l.length → ∀ g, m < g → ∀ (at_ : Int) (st : tState.den) (mem : MemT), 0 ≤ at_ → at_ + ((m * times : Nat) : Int) < 4611686018427387904 → List.length st.1 = 15 → MemWf mem →
      ∃ p : Nat × GoT, runL (L_hauberklaw27_Go_3.turn ((), l, (times : Int), (), (), (), false, 0, 0) (mem.1, st, f, res, mem.2)) g (false, at_, (i : Int), mem.1, st, f, res, mem.2) = some p ∧
        bif (goL f times (l.drop i) at_ st mem).1 then p.1 = 0 ∧ (p.2.2.2.2.1, p.2.2.2.2.2.2.2.2) = (goL f times (l.drop i) at_ st mem).2.2.2 ∧ p.2.2.2.2.2.1 = (goL f times (l.drop i) at_ st mem).2.2.1
        else p.1 = 1 ∧ p.2.1 = false ∧ (p.2.2.2.2.1, p.2.2.2.2.2.2.2.2) = (goL f times (l.drop i) at_ st mem).2.2.2 ∧ p.2.2.2.2.2.2.2.1 = (goL f times (l.drop i) at_ st mem).2.2.1
  | 0, i, hi, g, hg, at_, st, mem, h0, h1, hs, hm => by
    obtain ⟨g, rfl⟩ : ∃ j, g = j + 1 := ⟨g - 1, by omega⟩
    rw [List.drop_of_length_le (by omega)]
    refine ⟨_, runL_out (c := 0) (s' := (false, at_, (i : Int), mem.1, st, f, res, mem.2)) ?_, rfl, rfl, rfl⟩
    exact val_no (dec_false (by show ¬ ((i : Int) < ((List.length l : Nat) : Int)); omega))
  | m + 1, i, hi, g, hg, at_, st, mem, h0, h1, hs, hm => by
    obtain ⟨g, rfl⟩ : ∃ j, g = j + 1 := ⟨g - 1, by omega⟩
    have hlt : i < l.length := by omega
    have hc : decide ((i : Int) < lenI l) = true := dec_true (by show ((i : Int) < ((List.length l : Nat) : Int)); omega)
    have hmul : (m + 1) * times = m * times + times := Nat.succ_mul m times
    obtain ⟨p, e1, e2⟩ := goK_loop l times f res i hlt (by omega) times 0 (Nat.zero_add _) (times + 1) (Nat.lt_succ_self _) at_ st mem h0 (by omega) hs hm
    obtain ⟨q1, q2, q3, q4⟩ := goK_wf f (l.getD i tIns.dflt) times at_ st mem hs hm
    have hd : l.drop i = l.getD i tIns.dflt :: l.drop (i + 1) := by rw [getD_in l _ hlt]; exact List.drop_eq_getElem_cons hlt
    rw [hd]
    simp only [goL]
    have hv : (L_hauberklaw27_Go_3.turn ((), l, (times : Int), (), (), (), false, 0, 0) (mem.1, st, f, res, mem.2) (false, at_, (i : Int), mem.1, st, f, res, mem.2)).val =
        (PO.ite (way p.1) (PO.ret (TL.on (p.2.1, p.2.2.1, w64 ((i : Int) + 1), p.2.2.2.2.1, p.2.2.2.2.2.1, p.2.2.2.2.2.2.1, p.2.2.2.2.2.2.2.1, p.2.2.2.2.2.2.2.2)))
          (PO.ret (TL.out 1 (p.2.1, p.2.2.1, (i : Int), p.2.2.2.2.1, p.2.2.2.2.2.1, p.2.2.2.2.2.2.1, p.2.2.2.2.2.2.2.1, p.2.2.2.2.2.2.2.2)))).val :=
      (val_yes hc).trans ((val_opt (r := p) e1).trans rfl)
    generalize goK f (l.getD i tIns.dflt) times at_ st mem = r at *
    obtain ⟨o, a', st', mem'⟩ := r
    cases o with
    | false =>
      simp only [cond_false] at e2 ⊢
      obtain ⟨w1, w2, w3, w4⟩ := e2
      rw [w1] at hv
      exact ⟨_, runL_out hv, rfl, w2, w3, w4⟩
    | true =>
      simp only [cond_true] at e2 ⊢
      subst e2
      have ha : a' = at_ + times := q4 rfl
      obtain ⟨p, f1, f2⟩ := goL_loop l times f res ht hl m (i + 1) (by omega) g (by omega) a' st' mem' (by omega) (by rw [ha]; rw [hmul] at h1; push_cast at h1 ⊢; omega) q1 q2
      refine ⟨p, (runL_on (s' := (false, a', ((i + 1 : Nat) : Int), mem'.1, st', f, res, mem'.2)) (hv.trans ?_)).trans f1, f2⟩
      show some (TL.on (false, a', w64 ((i : Int) + 1), mem'.1, st', f, res, mem'.2)) = _
      rw [w64_id (by omega) (by omega)]
      rfl

theorem ok_go (s : tState.den) (l : List tIns.den) (times : Nat) (f : tFault.den) (y : MemT) (hy : MemWf y) (hs : List.length s.1 = 15) (ht : times < 1048576) (hl : l.length < 1099511627776) :
    (T_hauberklaw27_Go ((), s, l, (times : Int), f) y).val = some (((goL f times l 0 s y).2.2.1, (goL f times l 0 s y).1, ()), (goL f times l 0 s y).2.2.2) := by
  have hb : l.length * times < 4611686018427387904 := by
    have h1 : l.length * times ≤ 1099511627776 * 1048576 := Nat.mul_le_mul (by omega) (by omega)
    omega
  obtain ⟨p, e1, e2⟩ := goL_loop l times f ([0, 0, 0, 0, 0, 0, 0, 0, 0, 0, 0, 0, 0, 0, 0], 0, false, false, false, false, ()) ht hl l.length 0 (Nat.zero_add _) (l.length + 1) (Nat.lt_succ_self _) 0 s y (by omega) (by omega) hs hy
  rw [List.drop_zero] at e2
  refine (val_opt (r := p) e1).trans ?_
  cases h : (goL f times l 0 s y).1 with
  | false =>
    rw [h] at e2
    obtain ⟨w1, w2, w3, w4⟩ := e2
    refine (val_no (by show way p.1 = false; rw [w1]; rfl)).trans ?_
    show some ((p.2.2.2.2.2.2.2.1, p.2.1, ()), (p.2.2.2.2.1, p.2.2.2.2.2.2.2.2)) = _
    rw [w2, w3, w4]
  | true =>
    rw [h] at e2
    obtain ⟨w1, w2, w3⟩ := e2
    refine (val_yes (by show way p.1 = true; rw [w1]; rfl)).trans ?_
    show some ((p.2.2.2.2.2.1, true, ()), (p.2.2.2.2.1, p.2.2.2.2.2.2.2.2)) = _
    rw [w2, w3]
def G_hauberklaw27_Go (x : shDens SS_hauberklaw27_Go) (y : shDens HS_hauberklaw27_Go) : Bool := decide (MemWf y ∧ List.length x.2.1.1 = 15 ∧ 0 ≤ (show Int from x.2.2.2.1) ∧ (show Int from x.2.2.2.1) < 1048576 ∧ List.length x.2.2.1 < 1099511627776)
def V_hauberklaw27_Go (x : shDens SS_hauberklaw27_Go) (y : shDens HS_hauberklaw27_Go) : Sh.den S_hauberklaw27_Go × shDens HT_hauberklaw27_Go :=
  (((goL x.2.2.2.2 (Int.toNat x.2.2.2.1) x.2.2.1 0 x.2.1 y).2.2.1, (goL x.2.2.2.2 (Int.toNat x.2.2.2.1) x.2.2.1 0 x.2.1 y).1, ()), (goL x.2.2.2.2 (Int.toNat x.2.2.2.1) x.2.2.1 0 x.2.1 y).2.2.2)
theorem ok_hauberklaw27_Go (x : shDens SS_hauberklaw27_Go) (y : shDens HS_hauberklaw27_Go) (h : G_hauberklaw27_Go x y = true) : (T_hauberklaw27_Go x y).val = some (V_hauberklaw27_Go x y) := by
  obtain ⟨h1, h2, h3, h4, h5⟩ := of_decide_eq_true h
  obtain ⟨⟨⟩, s, l, t, f⟩ := x
  obtain ⟨t', ht⟩ : ∃ t' : Nat, (t : Int) = (t' : Int) := ⟨Int.toNat t, (Int.toNat_of_nonneg h3).symm⟩
  have h4' : (t' : Int) < 1048576 := Int.lt_of_le_of_lt (Int.le_of_eq ht.symm) h4
  have := ok_go s l t' f y h1 h2 (by omega) h5
  have e : (T_hauberklaw27_Go ((), s, l, t, f) y) = (T_hauberklaw27_Go ((), s, l, (t' : Int), f) y) := by rw [show t = (t' : Int) from ht]
  rw [e, this]
  show _ = some (((goL f (Int.toNat t) l 0 s y).2.2.1, (goL f (Int.toNat t) l 0 s y).1, ()), (goL f (Int.toNat t) l 0 s y).2.2.2)
  rw [show Int.toNat t = t' by rw [ht]; simp]
end Go.Av
