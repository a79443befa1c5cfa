/- Texts of the proof, one behind the other. -/
import Derived.WalkKit
import Derived.WalkSpells
import Derived.WalkLawsBesides
import Derived.Lib.Builder
import Derived.Lib.Walk
import Derived.Lib.AppendStr
import Derived.Lib.UnsafeStr
import Derived.Laws.Externs
import Derived.BigRegion
import Derived.Test.YtehcaooipfgklaaAsmLeastK2
import Derived.Test.YtehcaooipfgklaaAvBody
import Derived.Test.YtehcaooipfgklaaProg
import Derived.Deep.QuietTactic
import Derived.BigQuiet
import Derived.RangeFuncNested
import Derived.RangeFuncCalls
import Derived.RangeFuncLeaves
import Derived.OwnWalkIn
import Derived.Test.YtehcaooipfgklaaAvApp
import Derived.RangeFuncBound
import Derived.RangeFuncBox
import Derived.Shelf.Abstract
import Derived.Shelf.RegionOpen
import Derived.TacticsInMore
import Derived.LoopNIn
import Derived.LoopIn
import Derived.Maps.AppendAt
import Derived.Test.YtehcaooipfgklaaAsmLeastK3
import Derived.Test.YtehcaooipfgklaaAsmLeastK1
/-! YtehcaooipfgklaaAsmBuilder -/
section
namespace Go.Proofs.Ytehcaooipfgklaa
open Go Go.RowKit Go.Av Go.Proofs

section
variable {P : Program} (w : World)
/-- append of a string's bytes, and that the row of the outcome is the old one or new. -/
theorem run_app_new (t u ty e : TypeId) (i : TypeInfo) (ht : P.underlying t = some (.slice e)) (hu : P.underlying u = some .string) (hi : P.info? e = some i) (hz : i.zero = some (.int .u8 0))
    (hsize : i.size = 1) (hby : i.bytes = 1) (v : Value) (n : Nat) (xs : List Value) (hown : w.ownsRow 0 e 1 v n xs) (s : ByteArray) (hlen : n + s.size ≤ 140737488355328) :
    ∃ v' w', (Builtin.append_ #[t, u] ty #[v, .string s]).run P w = .ok v' w' ∧ w'.ownsRow 0 e 1 v' (n + s.size) (xs ++ Lib.strCells s) ∧ w.grownBy w' v.ownBlock ∧ (v'.ownBlock = v.ownBlock ∨ ∀ k, v'.ownBlock = some k → w.heap.size ≤ k) := by
  have h63 : n + s.size ≤ maxLen := by unfold maxLen; omega
  obtain ⟨v', w', hr, ho, hg, _⟩ := Lib.run_append_own_string (P := P) w 0 t u ty e i ht hu hi hz hsize hby v n xs hown s h63 hlen (Nat.zero_le _)
  refine ⟨v', w', hr, ho, hg, ?_⟩
  have hxl : xs.length = n := by simpa using hown.1
  rcases hown.2 with ⟨rfl, rfl⟩ | ⟨g, cap, cur, rfl, hbg, hgg, hnc, hcm, hcs, htake⟩
  · obtain ⟨v2, w2, hr2, ho2, _, _⟩ := Lib.run_append_own_string (P := P) w w.heap.size t u ty e i ht hu hi hz hsize hby (.slice none 0 0) 0 xs ⟨hown.1, .inl ⟨rfl, rfl⟩⟩ s h63 hlen (Nat.le_refl _)
    rw [hr] at hr2
    cases hr2
    exact .inr fun k hk => (ho2.lt k hk).1
  · have hcs' : cur.size = cap := by simpa using hcs
    by_cases hroom : n + s.size ≤ cap
    · have hr2 := Lib.run_append_room_string (P := P) w t u ty e i ht hu hi hsize g n cap cur hgg s hroom (by omega)
      rw [hr] at hr2
      cases hr2
      exact .inl rfl
    · have holds : ∀ j u, xs[j]? = some u → w.cell? ((⟨g, 0, none⟩ : Addr).add j) = some u := hown.cells (g := g) rfl
      have hr2 := Lib.run_append_grow_string (P := P) w t u ty e i (.int .u8 0) ht hu hi hz ⟨g, 0, none⟩ n cap xs (by rw [hsize]; simpa using hxl) holds s (by omega) (by omega) (by rw [hby]; exact growslice_fits (by omega) (by omega))
      rw [hr] at hr2
      cases hr2
      exact .inr fun k hk => by simp only [Value.ownBlock, Option.some.injEq] at hk; omega

theorem wpList_app_new {w : World} {ops : Array Oper} {rest : List Oper} {o : Oper} {a : Act} {Q : Exit → Act → World → Prop} (hgd : o.guard = none) (sl x : Operand) (t u : TypeId)
    (ho : o.op = .call { callee := .builtin .append, args := #[sl, x], argTypes := #[t, u] })
    (e : TypeId) (i : TypeInfo) (ht : P.underlying t = some (.slice e)) (hu : P.underlying u = some .string) (hi : P.info? e = some i) (hz : i.zero = some (.int .u8 0))
    (hsize : i.size = 1) (hby : i.bytes = 1)
    (v : Value) (n : Nat) (xs : List Value) (hs : a.eval sl = v) (hown : w.ownsRow 0 e 1 v n xs) (s : ByteArray) (hx : a.eval x = .string s) (hlen : n + s.size ≤ 140737488355328)
    (h : ∀ v' w', w'.ownsRow 0 e 1 v' (n + s.size) (xs ++ Lib.strCells s) → w.grownBy w' v.ownBlock → (v'.ownBlock = v.ownBlock ∨ ∀ k, v'.ownBlock = some k → w.heap.size ≤ k) → wpList P ops Q rest (a.put o.dst v') w') : wpList P ops Q (o :: rest) a w := by
  refine wpList_plain hgd fun K hK => ?_
  obtain ⟨v', w', hr, h2, h3, h4⟩ := run_app_new (P := P) w t u o.type e i ht hu hi hz hsize hby v n xs hown s hlen
  unfold Oper.wp execOp
  simp only [ho, resolve, invoke, builtin, Sem.run_bind, Sem.run_pure, Result.andThen_ok, List.map_toArray, List.map_cons, List.map_nil, hs, hx, hr]
  exact hK _ _ (h v' w' h2 h3 h4)
end

set_option maxRecDepth 100000 in
set_option maxHeartbeats 4000000 in
theorem copy_used (b : Nat) (w : World) (h0 : w.cell? ⟨b, 0, none⟩ = some (.pointer (some ⟨b, 0, none⟩))) :
    Calls Try.prog 34 #[.pointer (some ⟨b, 0, none⟩)] w fun e w' => e = .returned (.tuple #[]) ∧ w' = w := by
  have hq : (binOp .neq 58 (.pointer (some ⟨b, 0, none⟩)) (.pointer (some ⟨b, 0, none⟩))).run Try.prog w = .ok (.bool false) w := by
    obtain ⟨j, hj, _⟩ := Option.map_eq_some_iff.1 (show (Try.prog.info? 61).map (fun i => i.size) = some 2 by kernel_rfl)
    exact Lib.run_neq_ptr_same w ⟨b, 0, none⟩ (show Try.prog.underlying 58 = some (.pointer 61) by kernel_rfl) hj
  go_enter Try.func34, Try.ntmps34
  go_wp2
  go_end0
  exact ⟨rfl, rfl⟩

set_option maxRecDepth 100000 in
set_option maxHeartbeats 4000000 in
theorem copy_fresh (b : Nat) (w : World) (h0 : w.cell? ⟨b, 0, none⟩ = some (.pointer none)) (hsh : w.shape? b = some (61, 2)) (hfz : w.frozen? ⟨b, 0, none⟩ = false) :
    Calls Try.prog 34 #[.pointer (some ⟨b, 0, none⟩)] w fun e w' => e = .returned (.tuple #[]) ∧ w' = w.setCell ⟨b, 0, none⟩ (.pointer (some ⟨b, 0, none⟩)) := by
  obtain ⟨j, hj, hjs⟩ := Option.map_eq_some_iff.1 (show (Try.prog.info? 61).map (fun i => i.size) = some 2 by kernel_rfl)
  have hu1 : (convert 58 102 (.pointer (some ⟨b, 0, none⟩))).run Try.prog w = .ok (.pointer (some ⟨b, 0, none⟩)) w :=
    Lib.run_to_unsafe w ⟨b, 0, none⟩ (show Try.prog.underlying 58 = some (.pointer 61) by kernel_rfl) (show Try.prog.underlying 102 = some .unsafePointer by kernel_rfl) hj (by rw [hjs]; decide) hsh (Nat.zero_lt_succ 1)
  go_enter Try.func34, Try.ntmps34
  go_wp2
  rw [run_callFunc_extern Try.func52 (by kernel_rfl) (by kernel_rfl) (by kernel_rfl) (e := Extern.AbiNoEscape.same) (by kernel_rfl)]
  rw [Lib.run_noEscape]
  simp only [Result.andThen]
  rw [Oper.upon_value]
  go_wp2
  rw [Lib.run_from_unsafe w ⟨b, 0, none⟩ (show Try.prog.underlying 102 = some .unsafePointer by kernel_rfl) (show Try.prog.underlying 58 = some (.pointer 61) by kernel_rfl) hj hsh (by kernel_rfl)]
  simp only [Result.andThen]
  rw [Oper.upon_value]
  go_wp2
  go_end0
  exact ⟨rfl, rfl⟩

theorem setCell_heap {w : World} {b : Nat} {c : Array Value} {T : TypeId} (h : w.heap[b]? = some (.cells c T (0, 0))) (o : Nat) (v : Value) : (w.setCell ⟨b, o, none⟩ v).heap[b]? = some (.cells (c.setIfInBounds o v) T (0, 0)) := by
  simp [World.setCell, Array.getElem?_modify, h]
theorem setCell_other (w : World) {b x : Nat} (hx : x ≠ b) (o : Nat) (v : Value) : (w.setCell ⟨b, o, none⟩ v).heap[x]? = w.heap[x]? := by
  simp [World.setCell, Array.getElem?_modify, Ne.symm hx]
theorem setCell_size (w : World) (a : Addr) (v : Value) : (w.setCell a v).heap.size = w.heap.size := by
  simp [World.setCell]

/-- copyCheck, of a builder that is fresh or has been used. -/
theorem copy_any (b : Nat) (p v : Value) (w : World) (hb : w.heap[b]? = some (.cells #[p, v] 61 (0, 0))) (hp : p = .pointer none ∨ p = .pointer (some ⟨b, 0, none⟩)) :
    Calls Try.prog 34 #[.pointer (some ⟨b, 0, none⟩)] w fun e w' => e = .returned (.tuple #[]) ∧ w'.heap[b]? = some (.cells #[.pointer (some ⟨b, 0, none⟩), v] 61 (0, 0)) ∧
      (∀ x, x ≠ b → w'.heap[x]? = w.heap[x]?) ∧ w'.heap.size = w.heap.size ∧ w'.os = w.os ∧ w'.tape = w.tape ∧ w'.output = w.output := by
  rcases hp with rfl | rfl
  · refine (copy_fresh b w (by simp [World.cell?, hb]) (by simp [World.shape?, hb]) (by simp [World.frozen?, hb])).mono ?_
    rintro e w' ⟨rfl, rfl⟩
    refine ⟨rfl, ?_, fun x hx => setCell_other w hx _ _, setCell_size _ _ _, rfl, rfl, rfl⟩
    rw [setCell_heap hb]
    rfl
  · refine (copy_used b w (by simp [World.cell?, hb])).mono ?_
    rintro e w' ⟨rfl, rfl⟩
    exact ⟨rfl, hb, fun _ _ => rfl, rfl, rfl, rfl, rfl⟩

set_option maxRecDepth 100000 in
set_option maxHeartbeats 4000000 in
/-- WriteString. -/
theorem write_run (b : Nat) (p v : Value) (xs : List Value) (s : ByteArray) (w : World) (hb : w.heap[b]? = some (.cells #[p, v] 61 (0, 0))) (hp : p = .pointer none ∨ p = .pointer (some ⟨b, 0, none⟩))
    (hown : w.ownsRow 0 5 1 v xs.length xs) (hne : v.ownBlock ≠ some b) (hlen : xs.length + s.size ≤ 140737488355328) :
    Calls Try.prog 19 #[.pointer (some ⟨b, 0, none⟩), .string s] w fun e w' => (∃ r, e = .returned r) ∧ ∃ (v' : Value) (w1 w2 : World), w'.heap[b]? = some (.cells #[.pointer (some ⟨b, 0, none⟩), v'] 61 (0, 0)) ∧
      w2.ownsRow 0 5 1 v' (xs.length + s.size) (xs ++ Lib.strCells s) ∧ (∀ x, x ≠ b → w'.heap[x]? = w2.heap[x]?) ∧ w'.heap.size = w2.heap.size ∧ w'.os = w2.os ∧ w'.tape = w2.tape ∧ w'.output = w2.output ∧
      w1.grownBy w2 v.ownBlock ∧ (∀ x, x ≠ b → w1.heap[x]? = w.heap[x]?) ∧ w1.heap.size = w.heap.size ∧ w1.os = w.os ∧ w1.tape = w.tape ∧ w1.output = w.output ∧ (v'.ownBlock = v.ownBlock ∨ ∀ k, v'.ownBlock = some k → w.heap.size ≤ k) := by
  obtain ⟨i0, hi, hz0, hz1, hz2⟩ := info_parts (show (Try.prog.info? 5).map (fun i => (i.zero, i.size, i.bytes)) = some (some (.int .u8 0), 1, 1) by kernel_rfl)
  go_enter Try.func19, Try.ntmps19
  go_wp2_with (go_at_call 34; refine (copy_any b p v _ hb hp).mono ?_)
  rintro e w1 ⟨rfl, hbk, hoth, hsz, hos, htp, hout⟩
  have hown1 : w1.ownsRow 0 5 1 v xs.length xs := by
    refine ⟨hown.1, ?_⟩
    rcases hown.2 with h | ⟨g, cap, cur, hv, hg, hc, r⟩
    · exact .inl h
    · exact .inr ⟨g, cap, cur, hv, hg, (hoth g (fun e => hne (by rw [hv, e]; rfl))).trans hc, r⟩
  have hlt : b < w1.heap.size := by
    rcases Nat.lt_or_ge b w1.heap.size with h' | h'
    · exact h'
    · simp [Array.getElem?_eq_none h'] at hbk
  have c0 : w1.cell? ⟨b, 0, none⟩ = some (.pointer (some ⟨b, 0, none⟩)) := by rw [Lib.cell_of_heap hbk]; rfl
  have c1 : w1.cell? ⟨b, 1, none⟩ = some v := by rw [Lib.cell_of_heap hbk]; rfl
  go_wp2_with (at_builtin; refine wpList_app_new rfl _ _ 59 9 rfl 5 i0 (show Try.prog.underlying 59 = some (.slice 5) by kernel_rfl) (show Try.prog.underlying 9 = some .string by kernel_rfl) hi hz0 hz1 hz2 _ _ _ rfl hown1 s rfl hlen ?_)
  intro v' w2 hown' hgrow hnew
  have hb2 : w2.heap[b]? = some (.cells #[.pointer (some ⟨b, 0, none⟩), v] 61 (0, 0)) := by
    rw [hgrow.block b hlt (fun e => hne e.symm)]
    exact hbk
  have d0 : w2.cell? ⟨b, 0, none⟩ = some (.pointer (some ⟨b, 0, none⟩)) := by rw [Lib.cell_of_heap hb2]; rfl
  have d1 : w2.cell? ⟨b, 1, none⟩ = some v := by rw [Lib.cell_of_heap hb2]; rfl
  have f1 : w2.frozen? ⟨b, 1, none⟩ = false := Lib.frozen_of_heap hb2 1
  obtain ⟨ao, n', cap, rfl⟩ : ∃ ao n' cap, v' = .slice ao n' cap := by
    rcases hown'.2 with ⟨hv, _⟩ | ⟨g, cap, cur, hv, _⟩
    · exact ⟨_, _, _, hv⟩
    · exact ⟨_, _, _, hv⟩
  go_wp2
  go_ret2
  refine ⟨⟨_, rfl⟩, .slice ao n' cap, w1, w2, ?_, hown', fun x hx => setCell_other w2 hx _ _, setCell_size _ _ _, rfl, rfl, rfl, hgrow, hoth, hsz, hos, htp, hout, hnew⟩
  rw [setCell_heap hb2]
  rfl

theorem grown_drew (w : World) (row : Option Nat) : w.grownBy w.drew row := ⟨rfl, rfl, rfl, Nat.le_refl _, fun _ _ _ => rfl⟩
theorem grown_freeze {w a : World} {g : Nat} (h : a.grownBy w (some g)) (n : Nat) : a.grownBy (w.freeze ⟨g, 0, none⟩ n) (some g) := by
  unfold World.freeze
  split
  · exact h
  · refine ⟨h.os, h.tape, h.output, by simpa using h.size, fun k hk hne => ?_⟩
    simp only [Array.getElem?_modify]
    rw [if_neg (fun e => hne (by rw [← e]))]
    exact h.block k hk hne

set_option maxRecDepth 100000 in
set_option maxHeartbeats 4000000 in
/-- String. -/
theorem string_run (b : Nat) (p v : Value) (l : List UInt8) (w : World) (hb : w.heap[b]? = some (.cells #[p, v] 61 (0, 0)))
    (hown : w.ownsRow 0 5 1 v l.length (l.map fun x => Value.int .u8 x.toNat)) :
    Calls Try.prog 20 #[.pointer (some ⟨b, 0, none⟩)] w fun e w' => e = .returned (.string ⟨l.toArray⟩) ∧ w.grownBy w' v.ownBlock := by
  have hUS0 : ∀ (W : World) q, (Builtin.unsafeString_ #[83, 3] 9 #[.pointer q, .int .i64 0]).run Try.prog W = .ok (.string .empty) W := fun W q => Lib.run_unsafeString_none W _ _ _ q
  have c1 : w.drew.cell? ⟨b, 1, none⟩ = some v := by
    have : w.drew.heap[b]? = some (.cells #[p, v] 61 (0, 0)) := hb
    rw [Lib.cell_of_heap this]; rfl
  rcases hown.2 with ⟨rfl, hz⟩ | ⟨g, cap, cur, rfl, hbg, hg, hnc, hcm, hcs, htake⟩
  · have : l = [] := List.eq_nil_of_length_eq_zero hz
    subst this
    have hSD : (Builtin.unsafeSliceData_ #[59] 83 #[.slice none 0 0]).run Try.prog w.drew = .ok (.pointer none) w.drew := rfl
    go_enter Try.func20, Try.ntmps20
    go_wp2
    go_region
    all_goals (go_wp2; go_ret; exact ⟨rfl, grown_drew w _⟩)
  · have hbw : w.drew.heap[b]? = some (.cells #[p, .slice (some ⟨g, 0, none⟩) l.length cap] 61 (0, 0)) := hb
    by_cases h0 : l = []
    · subst h0
      by_cases hc : cap = 0
      · subst hc
        have hlt : b < w.heap.size := by
          rcases Nat.lt_or_ge b w.heap.size with h' | h'
          · exact h'
          · simp [Array.getElem?_eq_none h'] at hb
        have hg' : w.drew.heap[g]? = some (.cells cur 5 (0, 0)) := hg
        have hSD : (Builtin.unsafeSliceData_ #[59] 83 #[.slice (some ⟨g, 0, none⟩) 0 0]).run Try.prog w.drew = .ok (.pointer (some ⟨w.drew.heap.size, 0, none⟩)) (w.drew.alloc (.view ⟨g, 0, none⟩ 5)) :=
          Lib.run_unsafeSliceData_zero w.drew _ _ 5 (show Try.prog.underlying 83 = some (.pointer 5) by kernel_rfl) ⟨g, 0, none⟩ 0 (5, cur.size) (by simp [World.shape?, hg'])
        have c2 : (w.drew.alloc (.view ⟨g, 0, none⟩ 5)).cell? ⟨b, 1, none⟩ = some (.slice (some ⟨g, 0, none⟩) 0 0) := by
          have : (w.drew.alloc (.view ⟨g, 0, none⟩ 5)).heap[b]? = _ := (Lib.alloc_old w.drew _ b hlt).trans hbw
          rw [Lib.cell_of_heap this]; rfl
        have c3 : (w.alloc (.view ⟨g, 0, none⟩ 5)).drew.cell? ⟨b, 1, none⟩ = some (.slice (some ⟨g, 0, none⟩) 0 0) := c2
        have c0 : w.cell? ⟨b, 1, none⟩ = some (.slice (some ⟨g, 0, none⟩) 0 0) := c1
        go_enter Try.func20, Try.ntmps20
        go_wp2
        go_region
        all_goals (go_wp2; go_ret; exact ⟨rfl, rfl, rfl, rfl, (World.grownBy_alloc w.drew _ none).size, fun k hk _ => (World.grownBy_alloc w.drew _ none).block k hk (by simp)⟩)
      · have hSD : (Builtin.unsafeSliceData_ #[59] 83 #[.slice (some ⟨g, 0, none⟩) 0 cap]).run Try.prog w.drew = .ok (.pointer (some ⟨g, 0, none⟩)) w.drew :=
          Lib.run_unsafeSliceData_row _ _ _ _ _ _ hc
        clear hc
        go_enter Try.func20, Try.ntmps20
        go_wp2
        go_region
        all_goals (go_wp2; go_ret; exact ⟨rfl, grown_drew w _⟩)
    · have hl0 : l.length ≠ 0 := by simpa using h0
      have hSD : (Builtin.unsafeSliceData_ #[59] 83 #[.slice (some ⟨g, 0, none⟩) l.length cap]).run Try.prog w.drew = .ok (.pointer (some ⟨g, 0, none⟩)) w.drew :=
        Lib.run_unsafeSliceData_row _ _ _ _ _ _ (by omega)
      have hUS : (Builtin.unsafeString_ #[83, 3] 9 #[.pointer (some ⟨g, 0, none⟩), .int .i64 l.length]).run Try.prog w.drew = .ok (.string ⟨l.toArray⟩) (w.drew.freeze ⟨g, 0, none⟩ l.length) := by
        refine Lib.run_unsafeString_row w.drew 83 3 9 5 (show Try.prog.underlying 83 = some (.pointer 5) by kernel_rfl) (show Try.prog.cellsOf 5 = 1 by kernel_rfl) g cur.size (by have hg' : w.drew.heap[g]? = some (.cells cur 5 (0, 0)) := hg; simp [World.shape?, hg']) l h0 (by omega) (by unfold maxLen at hcm; omega) ?_
        intro j x hx
        have := hown.cells (g := g) rfl j (.int .u8 x.toNat) (by simp [hx])
        exact this
      clear hUS0
      go_enter Try.func20, Try.ntmps20
      go_wp2
      go_region
      all_goals (go_wp2; go_ret; exact ⟨rfl, grown_freeze (grown_drew w _) _⟩)

/-- What a builder's box has. -/
theorem bld_box {w : World} {K : Kinds} {y : shBld.den} (hh : HeapOk w K (enum 0 (savs [shBld] y))) {b : Nat} (hb : b < w.heap.size) (hk : K b = .box 0) :
    ∃ p v, w.heap[b]? = some (.cells #[p, v] 61 (0, 0)) ∧ (p = .pointer none ∨ p = .pointer (some ⟨b, 0, none⟩)) ∧ w.ownsRow 0 5 1 v (List.length y.2.1) (List.map (fun x : UInt8 => Value.int .u8 x.toNat) y.2.1) ∧
      (∀ g, v.ownBlock = some g → K g = .row 0 0 ∧ g < w.heap.size) ∧ ∃ A n c, v = .slice A n c := by
  obtain ⟨av, o, h1, h2, h3⟩ := hh.cells b 0 hb hk
  have e1 : av = ⟨shBld, y⟩ := by
    have : some (⟨shBld, y⟩ : AV) = some av := h1
    cases this
    rfl
  subst e1
  obtain ⟨cs, rfl, c1, c2, hcs, ⟨q, hq, hq'⟩, c3, c4, hc34, ⟨A, n, cap, hA, hA'⟩, h5⟩ := h3
  have h5' : c4 = [] := h5
  subst h5' hA hc34 hq
  have hcs' : cs = #[.pointer q, .slice A n cap] := by
    apply Array.ext'
    rw [hcs]
    rfl
  subst hcs'
  refine ⟨_, _, h2, ?_, ?_, ?_, _, _, _, rfl⟩
  · rcases hq' with rfl | ⟨b', rfl, hb1, hb2⟩
    · exact .inl rfl
    · rw [hh.uniq b' b 0 hb2 hb hb1 hk]
      exact .inr rfl
  · rcases hA' with ⟨rfl, rfl, rfl, hx⟩ | ⟨g, cur, rfl, hg1, hg2, hg3, hg4, hg5, hg6, hg7⟩
    · rw [hx]
      exact ⟨rfl, .inl ⟨rfl, rfl⟩⟩
    · subst hg3
      exact ⟨by simp, .inr ⟨g, cap, cur, rfl, Nat.zero_le _, hg2, hg4, hg5, by rw [hg6, Nat.mul_one], by rw [Nat.mul_one]; exact hg7⟩⟩
  · intro g hg
    rcases hA' with ⟨rfl, _⟩ | ⟨g', cur, rfl, hg1, hg2, _⟩
    · cases hg
    · simp only [Value.ownBlock, Option.some.injEq] at hg
      subst hg
      exact ⟨hg1, (Array.getElem?_eq_some_iff.1 hg2).1⟩

/-- Kinds when a builder has been written. -/
def newK (w : World) (K : Kinds) (v : Value) : Kinds := fun k => if k < w.heap.size then K k else if v.ownBlock = some k then .row 0 0 else .old

theorem newK_old {w : World} {K : Kinds} {v : Value} {k : Nat} (h : k < w.heap.size) : newK w K v k = K k := if_pos h
theorem newK_box {w : World} {K : Kinds} {v : Value} {k id : Nat} (h : newK w K v k = .box id) : k < w.heap.size ∧ K k = .box id := by
  unfold newK at h
  split at h
  · exact ⟨by assumption, h⟩
  · split at h <;> cases h

/-- From a world to one where all is as it was but for box 0 and the row 0. -/
theorem bld_ext {w w' : World} {K : Kinds} {b : Nat} {v u : Value} {cs cs' : Array Value} {T : TypeId} (os : w'.os = w.os) (tape : w'.tape = w.tape) (output : w'.output = w.output) (size : w.heap.size ≤ w'.heap.size)
    (hkb : K b = .box 0) (hv : ∀ g, v.ownBlock = some g → K g = .row 0 0) (hb : w.heap[b]? = some (.cells cs T (0, 0))) (hb' : w'.heap[b]? = some (.cells cs' T (0, 0))) (hsz : cs.size ≤ cs'.size)
    (hoth : ∀ k, k < w.heap.size → k ≠ b → some k ≠ v.ownBlock → w'.heap[k]? = w.heap[k]?) : Ext w K w' (newK w K u) where
  os := os
  tape := tape
  output := output
  size := size
  fix := fun k hk hf => ⟨newK_old hk, hoth k hk (fun e => by rw [e, hkb] at hf; cases hf) (fun e => by rw [hv k e.symm] at hf; cases hf)⟩
  stab := fun k o hk hs => by
    refine ⟨by unfold Stab at *; rw [newK_old hk]; exact hs, World.cell?_of_block (hoth k hk (fun e => ?_) (fun e => ?_))⟩
    · unfold Stab at hs
      rw [e, hkb] at hs
      exact hs.elim
    · unfold Stab at hs
      rw [hv k e.symm] at hs
      exact absurd hs (Nat.not_lt_zero _)
  box := fun k id hk h => by rw [newK_old hk]; exact h
  bsz := fun k id n hk h hn => by
    by_cases e : k = b
    · subst e
      obtain ⟨c, T', h1, h2⟩ := hn
      rw [hb] at h1
      cases h1
      exact ⟨_, _, hb', Nat.le_trans h2 hsz⟩
    · obtain ⟨c, T', h1, h2⟩ := hn
      exact ⟨c, T', (hoth k hk e (fun e => by rw [hv k e.symm] at h; cases h)).trans h1, h2⟩

theorem heap_one {w' : World} {w : World} {K : Kinds} {s : Sh} {y : s.den} {s' : Sh} {x' : s'.den} {b : Nat} {u : Value} {o : Obj} (hh : HeapOk w K (enum 0 (savs [s] y))) (hb : b < w.heap.size) (hkb : K b = .box 0) (hb' : w'.heap[b]? = some o) (ho : BoxOk w' (newK w K u) s' x' o) :
    HeapOk w' (newK w K u) (enum 0 (savs [s'] x')) where
  cells := fun k id hk h => by
    obtain ⟨h1, h2⟩ := newK_box h
    obtain ⟨av, o', l1, _⟩ := hh.cells k id h1 h2
    have hid : id < 0 + 1 := look_enum_lt [⟨s, y⟩] 0 id av l1
    have : id = 0 := by omega
    subst this
    have := hh.uniq k b 0 h1 hb h2 hkb
    subst this
    exact ⟨⟨s', x'⟩, o, rfl, hb', ho⟩
  uniq := fun k k' id hk hk' h h' => by
    obtain ⟨h1, h2⟩ := newK_box h
    obtain ⟨h3, h4⟩ := newK_box h'
    exact hh.uniq k k' id h1 h3 h2 h4

theorem write_body : BodyOk Try.prog 19 body_WriteString := by
  intro args h0 nx Kc r hrun w K vs hvs hh Rf hk _
  simp only [body_WriteString, bodyT] at hrun
  split at hrun
  · rename_i x y hx hy
    cases hG : G_bytesFit y.2.1 x.2 with
    | false => rw [hG] at hrun; cases hrun
    | true =>
      rw [hG] at hrun
      simp only [cond_true] at hrun
      have hho := hh.to hy
      have hrv := toAll_RVs _ args x vs hx hvs
      match vs, hrv with
      | v1 :: v2 :: vr, hrv =>
      obtain ⟨r1, r2, r3⟩ := hrv
      have hvr : vr = [] := by
        cases vr with
        | nil => rfl
        | cons _ _ => exact r3.elim
      subst hvr
      obtain ⟨b, rfl, hkb, hb⟩ := RV.box r1
      have e2 := RV.str r2
      subst e2
      obtain ⟨p, v, hbk, hp, hown, hrow, A, n, c, hvA⟩ := bld_box hho hb hkb
      have hne : v.ownBlock ≠ some b := fun e => by have := (hrow b e).1; rw [hkb] at this; cases this
      have hlen : (List.map (fun x : UInt8 => Value.int .u8 x.toNat) y.2.1).length + (⟨⟨x.2⟩⟩ : ByteArray).size ≤ 140737488355328 := by
        have := Nat.le_of_ble_eq_true (show Nat.ble (List.length y.2.1 + List.length x.2) 140737488355328 = true from hG)
        simpa [ByteArray.size] using this
      refine (write_run b p v (List.map (fun x : UInt8 => Value.int .u8 x.toNat) y.2.1) ⟨⟨x.2⟩⟩ w hbk hp (by rw [List.length_map]; exact hown) hne hlen).mono ?_
      rintro e w' ⟨⟨rr, rfl⟩, v', w1, w2, hb', hown', hoth2, hsz2, hos2, htp2, hout2, hgrow, hoth1, hsz1, hos1, htp1, hout1, hnew⟩
      have hrow' : ∀ g, v'.ownBlock = some g → newK w K v' g = .row 0 0 ∧ g ≠ b := fun g hg => by
        rcases hnew with e | e
        · obtain ⟨h1, h2⟩ := hrow g (by rw [← e]; exact hg)
          exact ⟨(newK_old h2).trans h1, fun e => by rw [e, hkb] at h1; cases h1⟩
        · have := e g hg
          refine ⟨?_, by omega⟩
          unfold newK
          rw [if_neg (by omega), if_pos hg]
      refine hk ⟨.top, ()⟩ rr _ _ w' (newK w K v') (bld_ext (by rw [hos2, hgrow.os, hos1]) (by rw [htp2, hgrow.tape, htp1]) (by rw [hout2, hgrow.output, hout1]) (by rw [hsz2, ← hsz1]; exact hgrow.size) hkb (fun g hg => (hrow g hg).1) hbk hb' (Nat.le_refl _) (fun k hk hkb hkv => ?_)) trivial
        (heap_one hho hb hkb hb' ?_) hrun
      · rw [hoth2 k hkb, hgrow.block k (by rw [hsz1]; exact hk) hkv, hoth1 k hkb]
      · refine ⟨_, rfl, [_], [_], rfl, ⟨_, rfl, .inr ⟨b, rfl, (newK_old hb).trans hkb, by rw [hsz2]; exact Nat.lt_of_lt_of_le (by rw [hsz1]; exact hb) hgrow.size⟩⟩, [_], [], rfl, ?_, rfl⟩
        have hm : List.map (fun x : UInt8 => Value.int .u8 x.toNat) y.2.1 ++ Lib.strCells ⟨⟨x.2⟩⟩ = List.map (fun x : UInt8 => Value.int .u8 x.toNat) (y.2.1 ++ x.2) := by
          simp [Lib.strCells]
        rw [hm, List.length_map] at hown'
        have hl : List.length y.2.1 + (⟨⟨x.2⟩⟩ : ByteArray).size = List.length (y.2.1 ++ x.2) := by simp [ByteArray.size]
        rw [hl] at hown'
        rcases hown'.2 with ⟨rfl, hz⟩ | ⟨g, cap, cur, rfl, _, hg, hnc, hcm, hcs, htake⟩
        · exact ⟨_, _, _, rfl, .inl ⟨rfl, rfl, rfl, List.eq_nil_of_length_eq_zero hz⟩⟩
        · obtain ⟨q1, q2⟩ := hrow' g rfl
          exact ⟨_, _, _, rfl, .inr ⟨g, cur, rfl, q1, (hoth2 g q2).trans hg, rfl, hnc, hcm, by simpa using hcs, by simpa [V_bytesJoin] using htake⟩⟩
  · cases hrun

theorem string_body : BodyOk Try.prog 20 body_String := by
  intro args h0 nx Kc r hrun w K vs hvs hh Rf hk _
  simp only [body_String, bodyT] at hrun
  split at hrun
  · rename_i x y hx hy
    simp only [cond_true] at hrun
    have hho := hh.to hy
    have hrv := toAll_RVs _ args x vs hx hvs
    match vs, hrv with
    | v1 :: vr, hrv =>
    obtain ⟨r1, r3⟩ := hrv
    have hvr : vr = [] := by
      cases vr with
      | nil => rfl
      | cons _ _ => exact r3.elim
    subst hvr
    obtain ⟨b, rfl, hkb, hb⟩ := RV.box r1
    obtain ⟨p, v, hbk, hp, hown, hrow, A, n, c, hvA⟩ := bld_box hho hb hkb
    have hne : some b ≠ v.ownBlock := fun e => by have := (hrow b e.symm).1; rw [hkb] at this; cases this
    refine (string_run b p v y.2.1 w hbk hown).mono ?_
    rintro e w' ⟨rfl, hgrow⟩
    have hb' : w'.heap[b]? = _ := (hgrow.block b hb hne).trans hbk
    refine hk ⟨.ty .str, y.2.1⟩ _ _ _ w' (newK w K (.bool true)) (bld_ext hgrow.os hgrow.tape hgrow.output hgrow.size hkb (fun g hg => (hrow g hg).1) hbk hb' (Nat.le_refl _) (fun k hk _ hkv => hgrow.block k hk hkv)) ⟨rfl, ⟨(fun h => by cases h), (fun _ c h => by cases h)⟩⟩
      (heap_one hho hb hkb hb' ?_) hrun
    subst hvA
    rcases hp with rfl | rfl
    · exact ⟨_, rfl, [_], [_], rfl, ⟨_, rfl, .inl rfl⟩, [_], [], rfl, ⟨_, rfl, rfl⟩, rfl⟩
    · exact ⟨_, rfl, [_], [_], rfl, ⟨_, rfl, .inr ⟨b, rfl, (newK_old hb).trans hkb, Nat.lt_of_lt_of_le hb hgrow.size⟩⟩, [_], [], rfl, ⟨_, rfl, rfl⟩, rfl⟩
  · cases hrun
end Go.Proofs.Ytehcaooipfgklaa
end
/-! (*asm.assembler).offset: what it tells of a snapshot of the assembler. -/
section
namespace Go.Proofs.Ytehcaooipfgklaa
open Go Go.RowKit Go.Av Go.Proofs

set_option maxRecDepth 100000 in
set_option maxHeartbeats 4000000 in
theorem offset_run (b mb g g2 n cap n2 cap2 o o2 : Nat) (i j lab x y : Int) (w : World)
    (c0 : w.cell? ⟨b, 0, none⟩ = some (.slice (some ⟨g, o, none⟩) n cap)) (c2 : w.cell? ⟨b, 2, none⟩ = some (.map (some mb)))
    (ci : w.cell? ⟨g, o + i.toNat * 10 + 1, none⟩ = some (.int .i64 lab)) (hi : 0 ≤ i ∧ i < (n : Int))
    (hl : ∀ m : Nat, (Instr.lookup 54 (.map (some mb)) (.int .i64 lab) false).run Try.prog (w.drewN m) = .ok (.int .i64 j) (w.drewN m))
    (hj : 0 ≤ j ∧ j < (n2 : Int)) (hi2 : 0 ≤ i ∧ i < (n2 : Int)) (cj : w.cell? ⟨g2, o2 + j.toNat, none⟩ = some (.int .i64 x)) (ck : w.cell? ⟨g2, o2 + i.toNat, none⟩ = some (.int .i64 y)) :
    Calls Try.prog 17 #[.pointer (some ⟨b, 0, none⟩), .slice (some ⟨g2, o2, none⟩) n2 cap2, .int .i64 i] w fun e w' => e = .returned (.int .i64 (wrap64 (wrap64 (x - y) - 4))) ∧ ∃ m, w' = w.drewN m := by
  go_enter Try.func17, Try.ntmps17
  go_wp2
  go_quiet (fail)
  go_wp2
  go_ret
  exact ⟨rfl, _, rfl⟩

theorem drew_ext (w : World) (K : Kinds) (m : Nat) : Ext w K (w.drewN m) K :=
  ⟨rfl, rfl, rfl, Nat.le_refl _, fun _ _ _ => ⟨rfl, rfl⟩, fun _ _ _ h => ⟨h, rfl⟩, fun _ _ _ h => h, fun _ _ _ _ _ h => h⟩

/-- A label, where an item lies. -/
theorem label_at {w : World} {K : Kinds} : ∀ (it : List tItem.den) (cc : List Value) (i : Nat), RL (RT w K tItem) it cc → i < it.length → cc[i * 10 + 1]? = some (.int .i64 (it.getD i (Ty.dflt tItem)).2.1)
  | [], _, _, _, h => absurd h (Nat.not_lt_zero _)
  | x :: it, _, 0, ⟨_, _, rfl, h1, _⟩, _ => by
    obtain ⟨d1, d2, rfl, e1, e2⟩ := h1
    obtain ⟨d3, d4, rfl, e3, _⟩ := e2
    have e1' : d1 = [.int .i64 x.1] := e1
    have e3' : d3 = [.int .i64 x.2.1] := e3
    subst e1' e3'
    rfl
  | x :: it, _, i + 1, ⟨c1, c2, rfl, h1, h2⟩, h => by
    have hl : c1.length = 10 := RT.length tItem x c1 h1
    have := label_at it c2 i h2 (by simpa using h)
    rw [show (i + 1) * 10 + 1 = 10 + (i * 10 + 1) by omega, List.getElem?_append_right (by omega), hl, show 10 + (i * 10 + 1) - 10 = i * 10 + 1 by omega, this]
    rfl

theorem int_at {w : World} {K : Kinds} : ∀ (l : List Int) (cc : List Value) (i : Nat), RL (RT w K (.int .i64)) l cc → i < l.length → cc[i]? = some (.int .i64 (l.getD i 0))
  | [], _, _, _, h => absurd h (Nat.not_lt_zero _)
  | x :: l, _, 0, ⟨_, _, rfl, h1, _⟩, _ => by
    rw [show _ = [Value.int .i64 x] from h1]
    rfl
  | x :: l, _, i + 1, ⟨c1, c2, rfl, h1, h2⟩, h => by
    have e : c1 = [Value.int .i64 x] := h1
    subst e
    exact int_at l c2 i h2 (by simpa using h)

theorem inRange_facts {i : Int} {n : Nat} (h : inRange i n = true) : 0 ≤ i ∧ i < (n : Int) := by
  unfold inRange at h
  simpa using h

theorem offset_plain : PlainOk Try.prog 17 snap_asm_assembler_offset := by
  intro args v h w K vs hvs _
  unfold snap_asm_assembler_offset at h
  split at h
  · match vs, hvs with
    | u :: vs, hvs =>
      obtain ⟨ts, _, ht⟩ := hvs.1
      exact ht.elim
  · cases h

theorem offset_snap : SnapOk Try.prog 17 snap_asm_assembler_offset := by
  intro sl en rest v h w K p vs hat hvs hfix
  unfold snap_asm_assembler_offset at h
  split at h
  · rename_i l a0 e it en' at_ i heq
    simp only [List.cons.injEq] at heq
    obtain ⟨_, rfl, rfl, rfl⟩ := heq
    split at h
    · rename_i he _
      subst he
      simp only [Option.some.injEq, Prod.mk.injEq] at h
      obtain ⟨hg, rfl⟩ := h
      obtain ⟨b, cs, T, c0, c1, mb, cr, ob, rfl, hb, hcs, h0, hm, hmo⟩ := hat
      match vs, hvs with
      | va :: vi :: vr, hvs =>
      obtain ⟨hva, hvi, hvr⟩ := hvs
      have hvr' : vr = [] := by
        cases vr with
        | nil => rfl
        | cons _ _ => exact hvr.elim
      subst hvr'
      have evi : vi = .int .i64 i := RV.int hvi
      subst evi
      obtain ⟨A2, len2, cap2, rfl, A3, len3, cap3, e3, x1, x2, x3, x4⟩ := RV.sl hva
      simp only [List.cons.injEq, and_true, Value.slice.injEq] at e3
      obtain ⟨rfl, rfl, rfl⟩ := e3
      obtain ⟨A, len, cap, hc0, y1, y2, y3, y4⟩ := h0
      simp only [List.cons.injEq, and_true] at hc0
      subst hc0
      obtain ⟨es, mc, rfl, hmis⟩ := hmo
      unfold G_asm_assembler_offset at hg
      simp only [Bool.and_eq_true] at hg
      obtain ⟨g1, g2, g3⟩ := hg
      have i1 := inRange_facts g1
      have i2 := inRange_facts g2
      have i3 := inRange_facts g3
      have hlen : 0 < len := by
        have : (0 : Int) < (List.length it : Int) := by omega
        have e1 : len = List.length it := y1
        omega
      have hlen2 : 0 < len2 := by
        have : (0 : Int) < (List.length at_ : Int) := by omega
        have e1 : len2 = List.length at_ := x1
        omega
      obtain ⟨a, rfl⟩ : ∃ a, A = some a := by
        cases A with
        | none => have := y3 rfl; omega
        | some a => exact ⟨a, rfl⟩
      obtain ⟨a2, rfl⟩ : ∃ a, A2 = some a := by
        cases A2 with
        | none => have := x3 rfl; omega
        | some a => exact ⟨a, rfl⟩
      obtain ⟨cc, q1, q2⟩ := y4 a rfl
      obtain ⟨cc2, p1, p2⟩ := x4 a2 rfl
      have t1 := label_at it cc i.toNat q1 (by omega)
      have t2 := int_at at_ cc2 (mval en' (it.getD i.toNat (Ty.dflt tItem)).2.1).toNat p1 (by omega)
      have t3 := int_at at_ cc2 i.toNat p1 (by omega)
      obtain ⟨s1, s2, _⟩ := q2 _ _ t1
      obtain ⟨s3, s4, _⟩ := p2 _ _ t2
      obtain ⟨_, s5, _⟩ := p2 _ _ t3
      obtain ⟨ab, ao, asp⟩ := a
      obtain ⟨ab2, ao2, asp2⟩ := a2
      have s1' : asp = none := s1
      have s3' : asp2 = none := s3
      subst s1' s3'
      have hcell : ∀ k, w.cell? ⟨b, k, none⟩ = cs[k]? := fun k => by
        simp [World.cell?, hb]
      have hk : ∀ k : Nat, cs[k]? = cs.toList[k]? := fun k => by simp
      have hml : ∀ m : Nat, (Instr.lookup 54 (.map (some mb)) (.int .i64 (it.getD i.toNat (Ty.dflt tItem)).2.1) false).run Try.prog (w.drewN m) = .ok (.int .i64 (mval en' (it.getD i.toNat (Ty.dflt tItem)).2.1)) (w.drewN m) := fun m =>
        run_lookup (w := w.drewN m) (t := 54) (by kernel_rfl) hm hmis _ false
      refine (offset_run b mb ab ab2 len cap len2 cap2 ao ao2 i _ _ _ _ w (by rw [hcell, hk, hcs]; rfl) (by rw [hcell, hk, hcs]; rfl) s2 ⟨i1.1, by rw [y1]; exact i1.2⟩ hml ⟨i2.1, by rw [x1]; exact i2.2⟩ ⟨i3.1, by rw [x1]; exact i3.2⟩ s4 s5).mono ?_
      rintro e w' ⟨rfl, m, rfl⟩
      refine ⟨_, K, rfl, drew_ext w K m, fun b' id hb' hk' => ?_, RV.scalar (av := .int .i64 _) ?_ rfl rfl⟩
      rotate_left
      · show [Value.int .i64 _] = [Value.int .i64 _]
        unfold V_asm_assembler_offset
        simp only [IntKind.wrap_i64, wrap64]
      have := hfix b' hb'
      rw [hk'] at this
      cases this
    · cases h
  · cases h
end Go.Proofs.Ytehcaooipfgklaa
end
/-! A range over a function: what a loop asks of the function that is ranged over, and what a round does. -/
section
namespace Go.Av
open Go Go.RowKit

/-- A loop's record. -/
abbrev loopRec (fn : FuncId) (tmps : Array Value) (ps : Array Tmp) (assign body : Code) (D : Nat) (st : LoopState) (pe : Option Code) : Go.Loop :=
  { state := st, pending := pe, fn := fn, tmps := tmps, params := ps, assign := assign, body := body, defers := D }

section
variable {F : Fence} {n : Nat} {P : Program}

def afterRounds (F : Fence) (n : Nat) (P : Program) (l : Nat) (rc : LoopState → Option Code → Go.Loop) (Q : Exit → Act → World → Prop) (a' : Act) (e : Ending) (W' : World) : Prop :=
  (∃ v, e = .returned v) ∧ ((W'.heap[l]? = some (.loop (rc .ready none)) ∧ Q .normal a' (W'.putObj l (.loop (rc .exhausted none)))) ∨
    ∃ c, W'.heap[l]? = some (.loop (rc .done (some c))) ∧ c.wpIn F n P Q a' (W'.putObj l (.loop (rc .exhausted (some c)))))

theorem range_over {g : Operand} {ps : Array Tmp} {assign body : Code} {Q : Exit → Act → World → Prop} {a : Act} {w : World} (hro : F.round = none) (h1 : 1 ≤ n)
    {gf : Nat} {lb : Array Value} (hg : a.eval g = .func (.func gf) #[] lb) (hF : F.fn gf) (eg : ∀ args w, (callFunc gf args).run P w = .ok (.enter gf args) w)
    (h : ∀ fn, F.fn fn → CallsIn F (n - 1) P gf (#[.func (.yield (w.heap.size + 1)) #[] #[]] ++ lb) ((w.alloc (.deferred (some []))).alloc (.loop (loopRec fn a.tmps ps assign body w.heap.size .ready none)))
      (afterRounds F n P (w.heap.size + 1) (loopRec fn a.tmps ps assign body w.heap.size) Q { a with defers := { target := .collected w.heap.size, args := #[] } :: a.defers })) :
    (Code.rangeFunc g ps assign body).wpIn F n P Q a w := by
  refine wpIn_rangeFunc ?_
  intro fn hfn
  rw [hro]
  have hh := h fn hfn
  obtain ⟨rc, hrc⟩ : ∃ rc : LoopState → Option Code → Go.Loop, rc = loopRec fn a.tmps ps assign body w.heap.size := ⟨_, rfl⟩
  rw [← hrc] at hh
  have hst : ∀ st pe, (rc st pe).state = st := fun st pe => by rw [hrc]
  have hpe : ∀ st pe, (rc st pe).pending = pe := fun st pe => by rw [hrc]
  have hex : ∀ st pe, ({ rc st pe with state := .exhausted } : Go.Loop) = rc .exhausted pe := fun st pe => by rw [hrc]
  obtain ⟨W1, hW1⟩ : ∃ W1, (w.alloc (.deferred (some []))).alloc (.loop (rc .ready none)) = W1 := ⟨_, rfl⟩
  rw [hW1] at hh
  refine ⟨w.heap.size + 1, [{ target := .collected w.heap.size, args := #[] }], W1, { target := .fn (.func gf) lb, args := #[.func (.yield (w.heap.size + 1)) #[] #[]] }, W1, gf,
    #[.func (.yield (w.heap.size + 1)) #[] #[]] ++ lb, W1, ?_, ?_, ?_, ?_, fun _ => h1, ?_⟩
  · rw [← hW1, hrc]
    exact run_enterLoop_outer _ _ _ _ _
  · simp only [resolve, hg]
    simp [go_sem]
  · intro f' hf'
    simp [Target.leads] at hf'
    subst hf'
    exact hF
  · simp [invoke, go_sem, eg]
  · refine hh.mono ?_
    rintro e W2 ⟨⟨v, rfl⟩, ⟨hl, hq⟩ | ⟨c, hl, hq⟩⟩
    · refine ⟨none, _, ?_, hq⟩
      have := run_endLoop (P := P) hl (by rw [hst]; simp)
      rw [hex, hpe] at this
      exact this
    · refine ⟨some c, _, ?_, hq⟩
      have := run_endLoop (P := P) hl (by rw [hst]; simp)
      rw [hex, hpe] at this
      exact this

/-- How a round may be left. -/
def roundEnd (l : Nat) (rc : LoopState → Option Code → Go.Loop) (R : Ending → World → Prop) : Exit → Act → World → Prop
  | .normal, _, W => W.heap[l]? = some (.loop (rc .busy none)) ∧ R (.returned (.bool true)) (W.putObj l (.loop (rc .ready none)))
  | .ret, _, W => W.heap[l]? = some (.loop (rc .busy none)) ∧ R (.returned (.bool false)) (W.putObj l (.loop (rc .done (some .ret))))
  | .exit id, _, W => W.heap[l]? = some (.loop (rc .busy none)) ∧ R (.returned (.bool false)) (W.putObj l (.loop (rc .done (some (.exit id)))))
  | _, _, _ => False

theorem round_at {l : Nat} {fn : FuncId} {tmps : Array Value} {ps : Array Tmp} {assign body : Code} {D : Nat} {W : World} {args : Array Value} {R : Ending → World → Prop} (hF : F.fn fn)
    (hl : W.heap[l]? = some (.loop (loopRec fn tmps ps assign body D .ready none))) (hs : args.size = ps.size)
    (h : assign.wpIn (F.inRound l) n P (Exit.then (fun a1 W1 => W1.heap[l]? = some (.loop (loopRec fn tmps ps assign body D .ready none)) ∧
        body.wpIn (F.inRound l) n P (roundEnd l (loopRec fn tmps ps assign body D) R) a1 (W1.putObj l (.loop (loopRec fn tmps ps assign body D .busy none)))) (fun _ _ _ => False))
      { tmps := (ps.zip args).foldl (fun t (p, v) => t.setIfInBounds p v) tmps, defers := [] } W) : YieldAt F n P l args W R := by
  have hy := run_yield (P := P) (args := args) hl hs
  refine ⟨fn, _, assign, body, hy, roundIn_of_wpIn hF (wpIn_mono h ?_)⟩
  intro e a1 W1 hp
  cases e with
  | normal =>
    obtain ⟨hl1, hb⟩ := hp
    refine ⟨_, run_beginRound hl1 rfl, wpIn_mono hb ?_⟩
    intro e a2 W2 hp
    cases e with
    | normal => exact ⟨_, _, run_endRound (P := P) none hp.1, hp.2⟩
    | ret => exact ⟨_, _, run_endRound (P := P) (some .ret) hp.1, hp.2⟩
    | exit id => exact ⟨_, _, run_endRound (P := P) (some (.exit id)) hp.1, hp.2⟩
    | goto t => exact hp.elim
    | panic ch => exact hp.elim
    | outgrown => exact hp.elim
  | ret => exact hp.elim
  | exit id => exact hp.elim
  | goto t => exact hp.elim
  | panic ch => exact hp.elim
  | outgrown => exact hp.elim

theorem round_rc {l : Nat} {fn : FuncId} {tmps : Array Value} {ps : Array Tmp} {assign body : Code} {D : Nat} {rc : LoopState → Option Code → Go.Loop} (hrc : loopRec fn tmps ps assign body D = rc) {W : World} {args : Array Value} {R : Ending → World → Prop} (hF : F.fn fn)
    (hl : W.heap[l]? = some (.loop (rc .ready none))) (hs : args.size = ps.size)
    (h : assign.wpIn (F.inRound l) n P (Exit.then (fun a1 W1 => W1.heap[l]? = some (.loop (rc .ready none)) ∧
        body.wpIn (F.inRound l) n P (roundEnd l rc R) a1 (W1.putObj l (.loop (rc .busy none)))) (fun _ _ _ => False))
      { tmps := (ps.zip args).foldl (fun t (p, v) => t.setIfInBounds p v) tmps, defers := [] } W) : YieldAt F n P l args W R := by
  subst hrc
  exact round_at hF hl hs h
end

/-! ### What is frozen -/

variable {P : Program} {w : World}

theorem run_append_frz (base : Nat) (t ty e : TypeId) (i : TypeInfo) (z : Value) (size bytes : Nat) (ht : P.underlying t = some (.slice e)) (hi : P.info? e = some i) (hz : i.zero = some z)
    (hsize : i.size = size) (hby : i.bytes = bytes) (hzs : z.cells.size = size) (hsz : 0 < size)
    (v : Value) (n : Nat) (xs : List Value) (hown : w.ownsRow base e size v n xs)
    (a : Addr) (m c : Nat) (hm : 0 < m) (news : List Value) (hl : news.length = m * size) (hnews : ∀ j u, news[j]? = some u → w.cell? (a.add j) = some u) (h1 : ∀ u ∈ news, u.oneCell' = true)
    (h63 : n + m ≤ maxLen) (hbytes : (n + m) * bytes ≤ 140737488355328) (hbase : base ≤ w.heap.size) :
    ∃ v' w', (Builtin.append_ #[t, t] ty #[v, .slice (some a) m c]).run P w = .ok v' w' ∧ w'.ownsRow base e size v' (n + m) (xs ++ news) ∧ w.grownBy w' v.ownBlock ∧
      (v' = .slice none 0 0 ↔ v = .slice none 0 0 ∧ m = 0) ∧ ∀ x, w'.frozen? x = w.frozen? x := by
  obtain ⟨v', w', hr, r1, r2, r3⟩ := run_append_own (P := P) w base t ty e i z size bytes ht hi hz hsize hby hzs hsz v n xs hown a m c news hl hnews h1 h63 hbytes hbase
  refine ⟨v', w', hr, r1, r2, r3, fun x => ?_⟩
  subst hsize hby
  have hsmall : n + m ≤ 9223372036854775807 := by simp only [maxLen] at h63; omega
  rcases hown.2 with ⟨rfl, rfl⟩ | ⟨g, cap, cur, rfl, hg, hh, hle, _, hcs, hpre⟩
  · have := run_append_nil (P := P) w t ty e i z ht hi hz a m c news hl hnews hm (by omega) (by simp only [Nat.zero_add] at hbytes; omega)
    rw [this] at hr
    cases hr
    exact (frozen_alloc _ _ _ _)
  · by_cases hroom : n + m ≤ cap
    · have hfit : 0 + n * i.size + news.length ≤ cur.size := by
        have := Nat.mul_le_mul_right i.size hroom
        rw [hl, hcs, Nat.zero_add, ← Nat.add_mul]
        exact this
      have := run_append_row (P := P) t t ty e i ht hi g 0 n cap cur e hh (.slice (some a) m c) m news (Src.ofSlice w ht a m c news hl hnews h1) hroom hfit
      rw [this] at hr
      cases hr
      exact frozen_row (setRow_heap w g cur _ e (0, 0) hh) hh (fun y hy => setRow_other w g y _ hy) x
    · have hx : xs.length = n * i.size := hown.1
      have hc : ∀ j u, xs[j]? = some u → w.cell? ((⟨g, 0, none⟩ : Addr).add j) = some u := hown.cells (by rfl)
      have := run_append_grow (P := P) w t ty e i z ht hi hz ⟨g, 0, none⟩ n cap xs hx hc a m c news hl hnews (by omega) (by omega) (growslice_fits (by omega) hbytes)
      rw [this] at hr
      cases hr
      exact (frozen_alloc _ _ _ _)

theorem wpListIn_append_frz {F : Fence} {n : Nat} {P : Program} (w : World) {ops : Array Oper} {rest : List Oper} {o : Oper} {a : Act} {Q : Exit → Act → World → Prop}
    (hg : o.guard = none) (s x : Operand) (t : TypeId) (hop : o.op = Op.call { callee := Callee.builtin Builtin.append, args := #[s, x], argTypes := #[t, t] })
    (base : Nat) (e : TypeId) (i : TypeInfo) (z : Value) (size bytes : Nat) (h1 : P.underlying t = some (.slice e)) (h2 : P.info? e = some i) (h3 : i.zero = some z) (h4 : i.size = size) (h5 : i.bytes = bytes) (h6 : z.cells.size = size) (h7 : 0 < size)
    (v : Value) (k : Nat) (xs : List Value) (hs : a.eval s = v) (hown : w.ownsRow base e size v k xs) (ad : Addr) (m c : Nat) (hm : 0 < m) (news : List Value) (hx : a.eval x = .slice (some ad) m c) (hn : news.length = m * size)
    (hc : ∀ j u, news[j]? = some u → w.cell? (ad.add j) = some u) (h1c : ∀ u ∈ news, u.oneCell' = true) (b1 : k + m ≤ maxLen) (b2 : (k + m) * bytes ≤ 140737488355328) (b3 : base ≤ w.heap.size)
    (hK : ∀ v' w', w'.ownsRow base e size v' (k + m) (xs ++ news) → w.grownBy w' v.ownBlock → (∀ x, w'.frozen? x = w.frozen? x) → wpListIn F n P ops Q rest (a.put o.dst v') w') :
    wpListIn F n P ops Q (o :: rest) a w := by
  refine wpListIn_plain hg fun K hK' => ?_
  obtain ⟨v', w', hrun, r1, r2, _, r4⟩ := run_append_frz (P := P) (w := w) base t o.type e i z size bytes h1 h2 h3 h4 h5 h6 h7 v k xs hown ad m c hm news hn hc h1c b1 b2 b3
  unfold Oper.wpIn
  refine ⟨?_, ?_⟩
  · simp [Oper.about, hop, resolve, Target.leads, Sem.run_pure]
  · rw [Oper.semAt_plain F _ _ (by rw [hop]; intro c hc'; cases hc')]
    simp [execOp, hop, resolve, invoke, builtin, hs, hx, hrun, Result.andThen]
    exact hK' _ _ (hK v' w' r1 r2 r4)

end Go.Av
end
/-! decode.All: what it leaves, by the laws of a range over a function. -/
section
namespace Go.Proofs.Ytehcaooipfgklaa
open Go Go.RowKit Go.Shelf Go.Av Go.Proofs
attribute [local go_sem] Oper.semAt_some

/-- An instruction, as a value. -/
abbrev insV (i : tIns.den) : Value := .agg #[.int .i64 i.1, .int .i64 i.2.1, .int .i64 i.2.2.1, .int .i64 i.2.2.2.1, .int .i64 i.2.2.2.2.1, .int .i64 i.2.2.2.2.2.1, .int .i64 i.2.2.2.2.2.2.1, .bool i.2.2.2.2.2.2.2.1]
def insC (i : tIns.den) : List Value := [.int .i64 i.1, .int .i64 i.2.1, .int .i64 i.2.2.1, .int .i64 i.2.2.2.1, .int .i64 i.2.2.2.2.1, .int .i64 i.2.2.2.2.2.1, .int .i64 i.2.2.2.2.2.2.1, .bool i.2.2.2.2.2.2.2.1]

/-- (What was asked of frozen cells: nothing any more.) -/
abbrev Frz (_ _ : World) : Prop := True

theorem below_of {w w' : World} {K' : Kinds} (g : Ext w allOld w' K') : Below w.heap.size w w' := ⟨g.os, g.tape, g.output, g.size, fun k hk => (g.fix k hk rfl).2⟩

abbrev DecodePlain : Prop := PlainOk Try.prog 43 (plainT A_decode_Decode G_decode_Decode S_decode_Decode V_decode_Decode)

theorem decode_calls (hP : DecodePlain) (s : List UInt8) (w : World) : Calls Try.prog 43 #[.string ⟨⟨s⟩⟩] w fun e w' => e = .returned (.tuple #[insV (dDec s).1, .int .i64 (dDec s).2.1, .int .i64 (dDec s).2.2.1]) ∧ Below w.heap.size w w' ∧ Frz w' w := by
  refine (hP [.str s] ⟨S_decode_Decode, V_decode_Decode s⟩ ?_ w allOld [.string ⟨⟨s⟩⟩] ⟨⟨rfl, (fun e => (by cases e)), (fun _ _ e => (by cases e))⟩, trivial⟩ (fun _ _ => rfl)).mono ?_
  · show (some (G_decode_Decode s, _) : Res AV) = _
    rw [decode_G]
  · rintro e w' ⟨r, K', rfl, g, _, hr⟩
    refine ⟨?_, below_of g, trivial⟩
    rw [decode_V] at hr
    obtain ⟨vs, rfl, h⟩ := hr
    match vs, h with
    | ⟨[v1, v2, v3]⟩, ⟨h1, h2, h3, _⟩ =>
      have e1 := value_RV (av := ⟨.ty tIns, (dDec s).1⟩) (u := insV (dDec s).1) rfl h1
      have e2 := RV.int h2
      have e3 := RV.int h3
      rw [e1, e2, e3]

theorem infoIns : (Try.prog.info? 39).map (fun i => (i.zero, i.size, i.bytes)) = some (some (.agg #[.int .i64 0, .int .i64 0, .int .i64 0, .int .i64 0, .int .i64 0, .int .i64 0, .int .i64 0, .bool false]), 8, 64) := by kernel_rfl

/-- How long a text in a box is. -/
def boxLen (W : World) (b : Nat) : Nat :=
  match W.cell? ⟨b, 0, none⟩ with
  | some (.string s) => s.data.toList.length
  | _ => 0
theorem boxLen_eq {W : World} {b : Nat} {s : List UInt8} (h : W.cell? ⟨b, 0, none⟩ = some (.string ⟨⟨s⟩⟩)) : boxLen W b = s.length := by simp [boxLen, h]

set_option maxRecDepth 100000 in
set_option maxHeartbeats 4000000 in
/-- The function that is ranged over. -/
theorem each1_in (hP : DecodePlain) (s : List UInt8) (bs l : Nat) (J : List tIns.den → List UInt8 → World → Prop) (Jx : List tIns.den → Int → World → Prop)
    (hbox : ∀ d r W, J d r W → Boxed W bs 9 (.string ⟨⟨r⟩⟩)) (hset : ∀ d r W r', J d r W → J d r' (W.setCell ⟨bs, 0, none⟩ (.string ⟨⟨r'⟩⟩)))
    (hbelow : ∀ d r W W', J d r W → Below W.heap.size W W' → (Frz W' W) → J d r W')
    (hY : ∀ d r W x, J d r W → d.length < s.length → YieldAt Fence.wide 2 Try.prog l #[insV x, .int .i64 0] W fun e W' => e = .returned (.bool true) ∧ J (d ++ [x]) r W')
    (hYe : ∀ d r W x e, J d r W → d.length < s.length → e ≠ 0 → YieldAt Fence.wide 2 Try.prog l #[insV x, .int .i64 e] W fun e' W' => e' = .returned (.bool false) ∧ Jx d e W')
    (W : World) (h0 : J [] s W) :
    CallsIn Fence.wide 3 Try.prog 42 #[.func (.yield l) #[] #[], .pointer (some ⟨bs, 0, none⟩)] W fun e W' => (∃ v, e = .returned v) ∧
      (((seqD s.length s).2 = 0 ∧ J (seqD s.length s).1 [] W') ∨ ((seqD s.length s).2 ≠ 0 ∧ Jx (seqD s.length s).1 (seqD s.length s).2 W')) := by
  refine callsIn_of_wp Try.func42 rfl trivial ?_ rfl
  simp only [Try.ntmps42, List.size_toArray, List.length_cons, List.length_nil, Nat.reduceAdd, Nat.reduceSub, Array.replicate_succ, Array.replicate_zero, List.push_toArray, List.append_toArray, List.nil_append, List.cons_append]
  gi_wp2
  gi_loopw [] (fun wr => ∃ d r m, J d r wr ∧ r.length ≤ m ∧ d.length + r.length ≤ s.length ∧ seqD s.length s = (d ++ (seqD m r).1, (seqD m r).2)) (fun wr => boxLen wr bs)
  case atStart =>
    exact ⟨[], s, s.length, h0, Nat.le_refl _, by simp, by simp⟩
  case round =>
    obtain ⟨d, r, m, hJ, hm, hlen, hseq⟩ := hrel
    have hb := hbox d r wr hJ
    have hc := hb.cell
    have hl := boxLen_eq hc
    cases r with
    | nil =>
      gi_wp2
      go_end0
      refine ⟨⟨_, rfl⟩, .inl ?_⟩
      rw [hseq, seqD_nil]
      simpa using hJ
    | cons b0 r0 =>
      have hne : (b0 :: r0) ≠ [] := by simp
      have hpos : 0 < (b0 :: r0).length := by simp
      have hdl : d.length < s.length := by omega
      have hlt : bs < wr.heap.size := hb.lt
      generalize hr : b0 :: r0 = r at *
      gi_wp2_with (refine ⟨trivial, ?_⟩; gi_at_call 43; refine (callsIn_wide.2 (decode_calls hP r _)).mono ?_; rintro e w1 ⟨rfl, hB1, hz1⟩)
      have hJ2 := hbelow d r wr _ hJ ((hB1.alloc hB1.size (.cells #[.int .i64 (dDec r).1.1, .int .i64 (dDec r).1.2.1, .int .i64 (dDec r).1.2.2.1, .int .i64 (dDec r).1.2.2.2.1, .int .i64 (dDec r).1.2.2.2.2.1, .int .i64 (dDec r).1.2.2.2.2.2.1, .int .i64 (dDec r).1.2.2.2.2.2.2.1, .bool (dDec r).1.2.2.2.2.2.2.2.1] 39)))
        trivial
      by_cases he : (dDec r).2.2.1 = 0
      · obtain ⟨fn, tmps, assign, body, hy, hR⟩ := hY d r _ (dDec r).1 hJ2 hdl
        rw [← he] at hy
        rw [hy, Oper.uponIn_round]
        refine ⟨(fun h => (by cases h)), hR.mono ?_⟩
        rintro e W3 ⟨rfl, hJ3⟩
        have hb3 := hbox _ _ _ hJ3
        have hc3 := hb3.cell
        have hf3 := hb3.frozen
        have hn := dDec_size he
        gi_wp2
        obtain ⟨m, rfl⟩ : ∃ k, m = k + 1 := ⟨m - 1, by omega⟩
        have hrne : r ≠ [] := fun e => by rw [e] at hpos; cases hpos
        have hex : ({ data := { toList := r } } : ByteArray).extract (dDec r).2.1.toNat r.length = ⟨⟨r.drop (dDec r).2.1.toNat⟩⟩ := by
          rw [extract_mk, List.take_length]
        have hdr : (r.drop (dDec r).2.1.toNat).length + (dDec r).2.1.toNat = r.length := by rw [List.length_drop]; omega
        rw [hex]
        have hJ4 := hset _ _ _ (r.drop (dDec r).2.1.toNat) hJ3
        refine ⟨⟨d ++ [(dDec r).1], r.drop (dDec r).2.1.toNat, m, hJ4, by omega, by simp only [List.length_append, List.length_singleton]; omega, ?_⟩, ?_⟩
        · rw [hseq, seqD_ok hrne he]
          simp
        · rw [boxLen_eq (hbox _ _ _ hJ4).cell, hl]
          omega
      · obtain ⟨fn, tmps, assign, body, hy, hR⟩ := hYe d r _ (dDec r).1 (dDec r).2.2.1 hJ2 hdl he
        rw [hy, Oper.uponIn_round]
        refine ⟨(fun h => (by cases h)), hR.mono ?_⟩
        rintro e W3 ⟨rfl, hJ3⟩
        gi_wp2
        obtain ⟨m, rfl⟩ : ∃ k, m = k + 1 := ⟨m - 1, by omega⟩
        have hrne : r ≠ [] := fun e => by rw [e] at hpos; cases hpos
        refine bodyPost_ret (results_none rfl _ _ _) rfl ⟨⟨_, rfl⟩, .inr ?_⟩
        rw [hseq, seqD_err hrne he]
        simp only [List.append_nil]
        exact ⟨he, hJ3⟩

theorem cells_new (w : World) (cs : Array Value) (t : TypeId) (l : List Value) (hl : l = cs.toList) : ∀ j u, l[j]? = some u → (w.alloc (.cells cs t)).cell? ((⟨w.heap.size, 0, none⟩ : Addr).add j) = some u := by
  intro j u hj
  subst hl
  rw [add_eq rfl]
  simp only [World.cell?, World.alloc_heap_new]
  simpa using hj

/-- What the caller has between two rounds. -/
structure Mid (w : World) (D : Nat) (rc : LoopState → Option Code → Go.Loop) (st : LoopState) (pe : Option Code) (err : Int) (d : List tIns.den) (r : List UInt8) (W : World) : Prop where
  b2 : Boxed W w.heap.size 35 (.slice none 0 0)
  b3 : Boxed W (w.heap.size + 1) 26 (.int .i64 err)
  b4 : ∃ v, Boxed W (w.heap.size + 1 + 1) 35 v ∧ W.ownsRow w.heap.size 39 8 v d.length (d.flatMap insC)
  bs : Boxed W (w.heap.size + 1 + 1 + 1) 9 (.string ⟨⟨r⟩⟩)
  below : Below w.heap.size w W
  frz : Frz W w
  dfr : W.heap[D]? = some (.deferred (some []))
  lp : W.heap[D + 1]? = some (.loop (rc st pe))

theorem grown_below {W W' : World} (h : Below W.heap.size W W') : W.grownBy W' none := ⟨h.os, h.tape, h.output, h.size, fun k hk _ => h.block k hk⟩
theorem lt_of_get {W : World} {k : Nat} {o : Obj} (h : W.heap[k]? = some o) : k < W.heap.size := (Array.getElem?_eq_some_iff.1 h).1

theorem Mid.below' {w : World} {D : Nat} {rc : LoopState → Option Code → Go.Loop} {st : LoopState} {pe : Option Code} {err : Int} {d : List tIns.den} {r : List UInt8} {W W' : World} (h : Mid w D rc st pe err d r W) (hb : Below W.heap.size W W') (hz : Frz W' W) : Mid w D rc st pe err d r W' := by
  have hg := grown_below hb
  obtain ⟨v, h4, hr⟩ := h.b4
  exact ⟨h.b2.kept hg (by simp), h.b3.kept hg (by simp), ⟨v, h4.kept hg (by simp), hr.kept hg (by cases v.ownBlock <;> simp)⟩, h.bs.kept hg (by simp), h.below.trans (hb.mono h.below.size), trivial, (hb.block _ (lt_of_get h.dfr)).trans h.dfr, (hb.block _ (lt_of_get h.lp)).trans h.lp⟩

theorem Mid.set {w : World} {D : Nat} {rc : LoopState → Option Code → Go.Loop} {st : LoopState} {pe : Option Code} {err : Int} {d : List tIns.den} {r : List UInt8} {W : World} (h : Mid w D rc st pe err d r W) (r' : List UInt8) : Mid w D rc st pe err d r' (W.setCell ⟨w.heap.size + 1 + 1 + 1, 0, none⟩ (.string ⟨⟨r'⟩⟩)) := by
  have hg := grownBy_setCell' W (w.heap.size + 1 + 1 + 1) (.string ⟨⟨r'⟩⟩)
  obtain ⟨v, h4, hr⟩ := h.b4
  have hne : ∀ {k : Nat} {o : Obj}, W.heap[k]? = some o → o.isCells = false → k ≠ w.heap.size + 1 + 1 + 1 := fun hk ho e => by
    subst e
    rw [show W.heap[_]? = _ from h.bs] at hk
    cases hk
    cases ho
  exact ⟨h.b2.kept hg (by simp; omega), h.b3.kept hg (by simp), ⟨v, h4.kept hg (by simp), hr.kept hg (.inr (h.bs.not_row (by decide) hr).symm)⟩, h.bs.set _,
    h.below.setCell (p := ⟨w.heap.size + 1 + 1 + 1, 0, none⟩) (by simp; omega) _, trivial, (Below.heap_setCell _ _ _ _ (hne h.dfr rfl)).trans h.dfr, (Below.heap_setCell _ _ _ _ (hne h.lp rfl)).trans h.lp⟩

theorem Mid.set2 {w : World} {D : Nat} {rc : LoopState → Option Code → Go.Loop} {st : LoopState} {pe : Option Code} {err : Int} {d : List tIns.den} {r : List UInt8} {W : World} (h : Mid w D rc st pe err d r W) : Mid w D rc st pe err d r (W.setCell ⟨w.heap.size, 0, none⟩ (.slice none 0 0)) := by
  have hg := grownBy_setCell' W w.heap.size (.slice none 0 0)
  obtain ⟨v, h4, hr⟩ := h.b4
  have hne : ∀ {k : Nat} {o : Obj}, W.heap[k]? = some o → o.isCells = false → k ≠ w.heap.size := fun hk ho e => by
    subst e
    rw [show W.heap[_]? = _ from h.b2] at hk
    cases hk
    cases ho
  exact ⟨h.b2.set _, h.b3.kept hg (by simp), ⟨v, h4.kept hg (by simp; omega), hr.kept hg (.inr (h.b2.not_row (by decide) hr).symm)⟩, h.bs.kept hg (by simp; omega),
    h.below.setCell (p := ⟨w.heap.size, 0, none⟩) (by simp) _, trivial, (Below.heap_setCell _ _ _ _ (hne h.dfr rfl)).trans h.dfr, (Below.heap_setCell _ _ _ _ (hne h.lp rfl)).trans h.lp⟩

theorem Mid.set3 {w : World} {D : Nat} {rc : LoopState → Option Code → Go.Loop} {st : LoopState} {pe : Option Code} {err : Int} {d : List tIns.den} {r : List UInt8} {W : World} (h : Mid w D rc st pe err d r W) (e : Int) : Mid w D rc st pe e d r (W.setCell ⟨w.heap.size + 1, 0, none⟩ (.int .i64 e)) := by
  have hg := grownBy_setCell' W (w.heap.size + 1) (.int .i64 e)
  obtain ⟨v, h4, hr⟩ := h.b4
  have hne : ∀ {k : Nat} {o : Obj}, W.heap[k]? = some o → o.isCells = false → k ≠ w.heap.size + 1 := fun hk ho e => by
    subst e
    rw [show W.heap[_]? = _ from h.b3] at hk
    cases hk
    cases ho
  exact ⟨h.b2.kept hg (by simp), h.b3.set _, ⟨v, h4.kept hg (by simp), hr.kept hg (.inr (h.b3.not_row (by decide) hr).symm)⟩, h.bs.kept hg (by simp; omega),
    h.below.setCell (p := ⟨w.heap.size + 1, 0, none⟩) (by simp) _, trivial, (Below.heap_setCell _ _ _ _ (hne h.dfr rfl)).trans h.dfr, (Below.heap_setCell _ _ _ _ (hne h.lp rfl)).trans h.lp⟩

theorem results_two {fn : Func} {p q : Tmp} {t u : TypeId} (h : fn.results = #[.cell p t, .cell q u]) {tmps : Array Value} {P : Program} {W : World} {a b : Addr} {x y : Value} (ha : tmps.getD p undef = .pointer (some a)) (hb : tmps.getD q undef = .pointer (some b))
    (hx : (loadVar t a).run P W = .ok x W) (hy : (loadVar u b).run P W = .ok y W) : (results fn tmps).run P W = .ok (.tuple #[x, y]) W := by
  have e : results fn tmps = (fn.results.mapM (resRun tmps) >>= fun vs => pure (if h : vs.size = 1 then vs[0] else .tuple vs)) := by
    unfold results
    rfl
  rw [e, h]
  simp only [List.mapM_toArray, Sem.run_bind]
  simp [List.mapM_cons, resRun, ha, hb, asAddr, hx, hy, Sem.run_bind, Sem.run_pure, Result.andThen]

theorem load_boxed {W : World} {b : Nat} {t : TypeId} {v : Value} (h : Boxed W b t v) (hk : known Try.prog t = true) (h1 : Try.prog.cellsOf t = 1) (h2 : isStruct Try.prog t = false) : (loadVar t ⟨b, 0, none⟩).run Try.prog W = .ok v W := by
  have := run_loadVar_cells (P := Try.prog) (w := W) hk (a := ⟨b, 0, none⟩) (cs := [v]) (by rw [h1]; rfl) (fun _ => h1) (fun j u hj => by
    match j, hj with
    | 0, hj => cases hj; exact h.cell)
  rw [h2] at this
  exact this

/-- The loop's record turned. -/
theorem Mid.turn {w : World} {D : Nat} {rc : LoopState → Option Code → Go.Loop} {st st' : LoopState} {pe pe' : Option Code} {err : Int} {d : List tIns.den} {r : List UInt8} {W : World} (h : Mid w D rc st pe err d r W) (hD : w.heap.size ≤ D) : Mid w D rc st' pe' err d r (W.putObj (D + 1) (.loop (rc st' pe'))) := by
  have hg := grownBy_putObj' W (D + 1) (.loop (rc st' pe'))
  obtain ⟨v, h4, hr⟩ := h.b4
  have hne : ∀ {k : Nat} {t : TypeId} {v : Value}, Boxed W k t v → some k ≠ some (D + 1) := fun hk e => by
    cases e
    have hk' : W.heap[D + 1]? = _ := hk
    rw [h.lp] at hk'
    cases hk'
  exact ⟨h.b2.kept hg (hne h.b2), h.b3.kept hg (hne h.b3), ⟨v, h4.kept hg (hne h4), ownsRow_putObj hr _ h.lp rfl⟩, h.bs.kept hg (hne h.bs),
    h.below.trans ⟨hg.os, hg.tape, hg.output, hg.size, fun k hk => hg.block k (Nat.lt_of_lt_of_le hk h.below.size) (by simp; omega)⟩, trivial, (World.putObj_heap_other (by omega)).trans h.dfr, World.putObj_heap_same (lt_of_get h.lp)⟩

set_option maxRecDepth 100000 in
set_option maxHeartbeats 4000000 in
theorem each_in (s : List UInt8) (w : World) :
    CallsIn Fence.wide 3 Try.prog 26 #[.string ⟨⟨s⟩⟩] w fun e w' => e = .returned (.func (.func 42) #[] #[.pointer (some ⟨w.heap.size, 0, none⟩)]) ∧ w' = w.alloc (.cells #[.string ⟨⟨s⟩⟩] 9) := by
  refine callsIn_of_wp Try.func26 rfl trivial ?_ rfl
  simp only [Try.ntmps26, List.size_toArray, List.length_cons, List.length_nil, Nat.reduceAdd, Nat.reduceSub, Array.replicate_succ, Array.replicate_zero, List.push_toArray, List.append_toArray, List.nil_append, List.cons_append]
  gi_wp2
  go_ret
  exact ⟨rfl, rfl⟩

set_option maxRecDepth 100000 in
set_option maxHeartbeats 4000000 in
theorem all_in (hP : DecodePlain) (s : List UInt8) (hs : s.length ≤ 1048576) (w : World) :
    CallsIn Fence.wide 4 Try.prog 11 #[.string ⟨⟨s⟩⟩] w fun e W' => ∃ v, e = .returned (.tuple #[v, .int .i64 (seqD s.length s).2]) ∧ (Below w.heap.size w W' ∧ Frz W' w) ∧
      W'.ownsRow w.heap.size 39 8 v (bif (seqD s.length s).2 == 0 then (seqD s.length s).1 else []).length ((bif (seqD s.length s).2 == 0 then (seqD s.length s).1 else []).flatMap insC) := by
  obtain ⟨i0, hi, hz0, hz1, hz2⟩ := info_parts infoIns
  refine callsIn_of_wp_marks Try.func11 rfl trivial ?_ rfl
  simp only [Try.ntmps11, List.size_toArray, List.length_cons, List.length_nil, Nat.reduceAdd, Nat.reduceSub, Array.replicate_succ, Array.replicate_zero, List.push_toArray, List.append_toArray, List.nil_append, List.cons_append]
  gi_wp2_with (refine ⟨trivial, ?_⟩; gi_at_call 26; refine (each_in s _).mono ?_; rintro e w' ⟨rfl, rfl⟩)
  have b2 := (((Boxed.new w 35 (.slice none 0 0)).alloc (.cells #[.int .i64 0] 26)).alloc (.cells #[.slice none 0 0] 35)).alloc (.cells #[.string ⟨⟨s⟩⟩] 9)
  have b3 := ((Boxed.new (w.alloc (.cells #[.slice none 0 0] 35)) 26 (.int .i64 0)).alloc (.cells #[.slice none 0 0] 35)).alloc (.cells #[.string ⟨⟨s⟩⟩] 9)
  have b4 := (Boxed.new ((w.alloc (.cells #[.slice none 0 0] 35)).alloc (.cells #[.int .i64 0] 26)) 35 (.slice none 0 0)).alloc (.cells #[.string ⟨⟨s⟩⟩] 9)
  have bs := Boxed.new (((w.alloc (.cells #[.slice none 0 0] 35)).alloc (.cells #[.int .i64 0] 26)).alloc (.cells #[.slice none 0 0] 35)) 9 (.string ⟨⟨s⟩⟩)
  simp only [World.size_alloc] at b2 b3 b4 bs
  have hB0 : Below w.heap.size w ((((w.alloc (.cells #[.slice none 0 0] 35)).alloc (.cells #[.int .i64 0] 26)).alloc (.cells #[.slice none 0 0] 35)).alloc (.cells #[.string ⟨⟨s⟩⟩] 9)) :=
    ((((Below.refl _ w).alloc (Nat.le_refl _) _).alloc (by simp) _).alloc (by simp; omega) _).alloc (by simp; omega) _
  have hsz : ((((w.alloc (.cells #[.slice none 0 0] 35)).alloc (.cells #[.int .i64 0] 26)).alloc (.cells #[.slice none 0 0] 35)).alloc (.cells #[.string ⟨⟨s⟩⟩] 9)).heap.size = w.heap.size + 4 := by simp
  obtain ⟨W0, hW0⟩ : ∃ W0, (((w.alloc (.cells #[.slice none 0 0] 35)).alloc (.cells #[.int .i64 0] 26)).alloc (.cells #[.slice none 0 0] 35)).alloc (.cells #[.string ⟨⟨s⟩⟩] 9) = W0 := ⟨_, rfl⟩
  have hF0 : Frz W0 w := trivial
  rw [hW0] at b2 b3 b4 bs hB0 hsz ⊢
  clear hW0
  refine range_over rfl (by decide) (gf := 42) (lb := #[.pointer (some ⟨w.heap.size + 1 + 1 + 1, 0, none⟩)]) rfl trivial (enters_of Try.func42 (by kernel_rfl) rfl) (fun fn _ => ?_)
  generalize hrc : loopRec fn _ _ _ _ W0.heap.size = rc
  have hw1 : ((W0.alloc (.deferred (some []))).alloc (.loop (rc .ready none))).heap[W0.heap.size + 1]? = some (.loop (rc .ready none)) := by
    have := World.alloc_heap_new (W0.alloc (.deferred (some []))) (.loop (rc .ready none))
    rwa [World.size_alloc] at this
  have hw2 : ((W0.alloc (.deferred (some []))).alloc (.loop (rc .ready none))).heap[W0.heap.size]? = some (.deferred (some [])) :=
    (Below.heap_alloc _ _ _ (by simp)).trans (World.alloc_heap_new W0 _)
  have hm0 : Mid w W0.heap.size rc .ready none 0 [] s ((W0.alloc (.deferred (some []))).alloc (.loop (rc .ready none))) :=
    ⟨(b2.alloc _).alloc _, (b3.alloc _).alloc _, ⟨_, (b4.alloc _).alloc _, World.ownsRow_nil _ _ _ _⟩, (bs.alloc _).alloc _, (hB0.alloc (by omega) _).alloc (by simp; omega) _, trivial, hw2, hw1⟩
  have hD : w.heap.size ≤ W0.heap.size := by omega
  refine (each1_in hP s (w.heap.size + 1 + 1 + 1) (W0.heap.size + 1) (fun d r W => Mid w W0.heap.size rc .ready none 0 d r W) (fun d e W => ∃ r, Mid w W0.heap.size rc .done (some .ret) e d r W)
    (fun d r W h => h.bs) (fun d r W r' h => h.set r') (fun d r W W' h hb hz => h.below' hb hz) ?round ?last _ hm0).mono ?_
  case round =>
    intro d r W x h hlt
    refine round_rc hrc trivial h.lp rfl ?_
    clear hw1 hw2 hm0
    rw [hsz] at h ⊢
    gi_wp2
    have h1 := h.below' ((Below.refl _ W).alloc (Nat.le_refl _) (.cells #[.int .i64 x.1, .int .i64 x.2.1, .int .i64 x.2.2.1, .int .i64 x.2.2.2.1, .int .i64 x.2.2.2.2.1, .int .i64 x.2.2.2.2.2.1, .int .i64 x.2.2.2.2.2.2.1, .bool x.2.2.2.2.2.2.2.1] 39)) trivial
    refine ⟨h1.lp, ?_⟩
    have h2 := h1.turn (st' := .busy) (pe' := none) (by omega)
    have hx : ((W.alloc (.cells #[.int .i64 x.1, .int .i64 x.2.1, .int .i64 x.2.2.1, .int .i64 x.2.2.2.1, .int .i64 x.2.2.2.2.1, .int .i64 x.2.2.2.2.2.1, .int .i64 x.2.2.2.2.2.2.1, .bool x.2.2.2.2.2.2.2.1] 39)).putObj (w.heap.size + 4 + 1) (.loop (rc .busy none))).heap[W.heap.size]? = some (.cells #[.int .i64 x.1, .int .i64 x.2.1, .int .i64 x.2.2.1, .int .i64 x.2.2.2.1, .int .i64 x.2.2.2.2.1, .int .i64 x.2.2.2.2.2.1, .int .i64 x.2.2.2.2.2.2.1, .bool x.2.2.2.2.2.2.2.1] 39) :=
      (World.putObj_heap_other (by have := lt_of_get h.lp; omega)).trans (World.alloc_heap_new W _)
    have hxb : w.heap.size ≤ W.heap.size := h.below.size
    generalize ((W.alloc (.cells #[.int .i64 x.1, .int .i64 x.2.1, .int .i64 x.2.2.1, .int .i64 x.2.2.2.1, .int .i64 x.2.2.2.2.1, .int .i64 x.2.2.2.2.2.1, .int .i64 x.2.2.2.2.2.2.1, .bool x.2.2.2.2.2.2.2.1] 39)).putObj (w.heap.size + 4 + 1) (.loop (rc .busy none))) = W2 at h2 hx ⊢
    generalize W.heap.size = bx at hx hxb ⊢
    clear h1 h hrc
    obtain ⟨b2', b3', ⟨v, b4', hrow⟩, bs', hB', hZ0, hD', hL'⟩ := h2
    clear hZ0 hF0
    have c4 := b4'.cell
    have cx : ∀ k, k < 8 → W2.cell? ⟨bx, k, none⟩ = some ((insC x).getD k undef) := fun k hk => by
      simp only [World.cell?, hx]
      match k, hk with
      | 0, _ => rfl
      | 1, _ => rfl
      | 2, _ => rfl
      | 3, _ => rfl
      | 4, _ => rfl
      | 5, _ => rfl
      | 6, _ => rfl
      | 7, _ => rfl
    have cx0 := cx 0 (by decide)
    have cx1 := cx 1 (by decide)
    have cx2 := cx 2 (by decide)
    have cx3 := cx 3 (by decide)
    have cx4 := cx 4 (by decide)
    have cx5 := cx 5 (by decide)
    have cx6 := cx 6 (by decide)
    have cx7 := cx 7 (by decide)
    simp only [insC, List.getD_cons_zero, List.getD_cons_succ] at cx0 cx1 cx2 cx3 cx4 cx5 cx6 cx7
    clear cx
    have hml : d.length + 1 ≤ maxLen := by unfold maxLen; omega
    have hmb : (d.length + 1) * 64 ≤ 140737488355328 := by omega
    gi_wp2_with (gi_at_builtin; refine wpListIn_append_frz _ rfl _ _ 35 rfl w.heap.size 39 i0 (.agg #[.int .i64 0, .int .i64 0, .int .i64 0, .int .i64 0, .int .i64 0, .int .i64 0, .int .i64 0, .bool false]) 8 64 Try.underlying35 hi hz0 hz1 hz2 rfl (by decide) _ _ _ rfl (hrow.alloc _) ⟨W2.heap.size, 0, none⟩ 1 1 (by decide) (insC x) rfl rfl (cells_new _ _ _ _ rfl) (by simp [insC, Value.oneCell']) hml hmb (by have := hB'.size; simp; omega) ?_; intro v' w1 hown' hgrow hfz0; have hfz := show Hid (∀ x, w1.frozen? x = _) from hfz0; clear hfz0; obtain ⟨g', cap', rfl⟩ := ownsRow_succ hown'; obtain ⟨hv1, hv2, hr2, hk2, hb2⟩ := b4'.appended (by decide) hrow hB'.size (by omega) hown' hgrow; have hc1 := hv1.cell; have hf1 := hv1.frozen)
    have n2 := b2'.not_row (by decide) hrow
    have n3 := b3'.not_row (by decide) hrow
    have ns := bs'.not_row (by decide) hrow
    have hgs := grownBy_setCell' w1 (w.heap.size + 1 + 1) (.slice (some ⟨g', 0, none⟩) (d.length + 1) cap')
    have hm : Mid w (w.heap.size + 4) rc .busy none 0 (d ++ [x]) r (w1.setCell ⟨w.heap.size + 1 + 1, 0, none⟩ (.slice (some ⟨g', 0, none⟩) (d.length + 1) cap')) :=
      ⟨((b2'.alloc _).kept hgrow n2).kept hgs (by simp; omega), ((b3'.alloc _).kept hgrow n3).kept hgs (by simp), ⟨_, hv2, by simpa [List.flatMap_append] using hr2⟩,
        ((bs'.alloc _).kept hgrow ns).kept hgs (by simp), hB'.trans hb2, trivial, hk2.same _ _ hD' rfl, hk2.same _ _ hL' rfl⟩
    exact ⟨hm.lp, rfl, hm.turn (by omega)⟩
  case last =>
    intro d r W x e h hlt he
    refine round_rc hrc trivial h.lp rfl ?_
    clear hw1 hw2 hm0
    rw [hsz] at h ⊢
    gi_wp2
    have h1 := h.below' ((Below.refl _ W).alloc (Nat.le_refl _) (.cells #[.int .i64 x.1, .int .i64 x.2.1, .int .i64 x.2.2.1, .int .i64 x.2.2.2.1, .int .i64 x.2.2.2.2.1, .int .i64 x.2.2.2.2.2.1, .int .i64 x.2.2.2.2.2.2.1, .bool x.2.2.2.2.2.2.2.1] 39)) trivial
    refine ⟨h1.lp, ?_⟩
    have h2 := h1.turn (st' := .busy) (pe' := none) (by omega)
    generalize ((W.alloc (.cells #[.int .i64 x.1, .int .i64 x.2.1, .int .i64 x.2.2.1, .int .i64 x.2.2.2.1, .int .i64 x.2.2.2.2.1, .int .i64 x.2.2.2.2.2.1, .int .i64 x.2.2.2.2.2.2.1, .bool x.2.2.2.2.2.2.2.1] 39)).putObj (w.heap.size + 4 + 1) (.loop (rc .busy none))) = W2 at h2 ⊢
    clear h1 h hrc
    have c2 := h2.b2.cell
    have f2 := h2.b2.frozen
    have c3 := h2.b3.cell
    have f3 := h2.b3.frozen
    gi_wp2
    have h3 := h2.set2.set3 e
    exact ⟨h3.lp, rfl, _, h3.turn (by omega)⟩
  · rintro e W1 ⟨hv, ⟨h0, hm⟩ | ⟨h0, r, hm⟩⟩
    · refine ⟨hv, .inl ⟨hm.lp, ?_⟩⟩
      have h2 := hm.turn (st' := .exhausted) (pe' := none) (by omega)
      clear hw1 hw2 hm0
      generalize (W1.putObj (W0.heap.size + 1) (.loop (rc .exhausted none))) = W2 at h2 ⊢
      obtain ⟨v, b4', hrow⟩ := h2.b4
      obtain ⟨A, len, cap, rfl⟩ : ∃ A len cap, v = .slice A len cap := by
        rcases hrow.2 with ⟨e, _⟩ | ⟨g, cap, _, e, _⟩ <;> exact ⟨_, _, _, e⟩
      have c2 := h2.b2.cell
      have f2 := h2.b2.frozen
      have c3 := h2.b3.cell
      have f3 := h2.b3.frozen
      have c4 := b4'.cell
      rw [hsz]
      gi_wp2
      have hg2 := grownBy_setCell' W2 w.heap.size (.slice A len cap)
      have hg3 := grownBy_setCell' (W2.setCell ⟨w.heap.size, 0, none⟩ (.slice A len cap)) (w.heap.size + 1) (.int .i64 0)
      have b2a := (h2.b2.set (.slice A len cap)).kept hg3 (by simp)
      have b3a := (h2.b3.kept hg2 (by simp)).set (.int .i64 0)
      have hr2 := hrow.kept hg2 (.inr (h2.b2.not_row (by decide) hrow).symm)
      have hr3 := hr2.kept hg3 (.inr ((h2.b3.kept hg2 (by simp)).not_row (by decide) hr2).symm)
      have hB3 := (h2.below.setCell (p := ⟨w.heap.size, 0, none⟩) (by simp) (.slice A len cap)).setCell (p := ⟨w.heap.size + 1, 0, none⟩) (by simp) (.int .i64 0)
      have hF3 : Frz W2 w := trivial
      have hd := h2.dfr
      rw [hsz] at hd
      have hne1 : w.heap.size + 4 ≠ w.heap.size := by omega
      have hne2 : w.heap.size + 4 ≠ w.heap.size + 1 := by omega
      have hd3 := ((Below.heap_setCell (W2.setCell ⟨w.heap.size, 0, none⟩ (.slice A len cap)) ⟨w.heap.size + 1, 0, none⟩ (.int .i64 0) _ hne2).trans (Below.heap_setCell W2 ⟨w.heap.size, 0, none⟩ (.slice A len cap) _ hne1)).trans hd
      generalize ((W2.setCell ⟨w.heap.size, 0, none⟩ (.slice A len cap)).setCell ⟨w.heap.size + 1, 0, none⟩ (.int .i64 0)) = W4 at b2a b3a hr3 hB3 hd3 hF3 ⊢
      refine ⟨by simp, .inl ⟨_, _, rfl, run_takeDeferred hd3, ?_⟩⟩
      have hgp := grownBy_putObj' W4 (w.heap.size + 4) (.deferred none)
      have hne : ∀ {k : Nat} {t : TypeId} {v : Value}, Boxed W4 k t v → some k ≠ some (w.heap.size + 4) := fun hk e => by
        cases e
        have hk' : W4.heap[w.heap.size + 4]? = _ := hk
        rw [hd3] at hk'
        cases hk'
      refine ⟨_, results_two (x := .slice A len cap) (y := .int .i64 0) rfl rfl rfl (load_boxed (b2a.kept hgp (hne b2a)) (by kernel_rfl) (by kernel_rfl) (by kernel_rfl)) (load_boxed (b3a.kept hgp (hne b3a)) (by kernel_rfl) (by kernel_rfl) (by kernel_rfl)), ?_⟩
      exact ⟨_, rfl, hB3.trans ⟨hgp.os, hgp.tape, hgp.output, hgp.size, fun k hk => hgp.block k (Nat.lt_of_lt_of_le hk hB3.size) (by simp; omega)⟩, ownsRow_putObj hr3 _ hd3 rfl⟩
    · refine ⟨hv, .inr ⟨.ret, hm.lp, ?_⟩⟩
      have h2 := hm.turn (st' := .exhausted) (pe' := some .ret) (by omega)
      clear hw1 hw2 hm0
      generalize (W1.putObj (W0.heap.size + 1) (.loop (rc .exhausted (some .ret)))) = W2 at h2 ⊢
      rw [hsz] at h2 ⊢
      gi_wp2
      refine ⟨by simp, .inl ⟨_, _, rfl, run_takeDeferred h2.dfr, ?_⟩⟩
      have hgp := grownBy_putObj' W2 (w.heap.size + 4) (.deferred none)
      have hne : ∀ {k : Nat} {t : TypeId} {v : Value}, Boxed W2 k t v → some k ≠ some (w.heap.size + 4) := fun hk e => by
        cases e
        have hk' : W2.heap[w.heap.size + 4]? = _ := hk
        rw [h2.dfr] at hk'
        cases hk'
      refine ⟨_, results_two (x := .slice none 0 0) (y := .int .i64 (seqD s.length s).2) rfl rfl rfl (load_boxed (h2.b2.kept hgp (hne h2.b2)) (by kernel_rfl) (by kernel_rfl) (by kernel_rfl)) (load_boxed (h2.b3.kept hgp (hne h2.b3)) (by kernel_rfl) (by kernel_rfl) (by kernel_rfl)), ?_⟩
      refine ⟨_, rfl, h2.below.trans ⟨hgp.os, hgp.tape, hgp.output, hgp.size, fun k hk => hgp.block k (Nat.lt_of_lt_of_le hk h2.below.size) (by simp; omega)⟩, ?_⟩
      rw [show ((seqD s.length s).2 == 0) = false from by simpa using h0]
      exact World.ownsRow_nil _ _ _ _

/-! ### As a function of plain arguments -/

theorem insC_RL {w : World} {K : Kinds} : ∀ l : List tIns.den, RL (RT w K tIns) l (l.flatMap insC)
  | [] => rfl
  | x :: l => ⟨insC x, l.flatMap insC, by simp, ⟨[.int .i64 x.1], _, rfl, rfl, [.int .i64 x.2.1], _, rfl, rfl, [.int .i64 x.2.2.1], _, rfl, rfl, [.int .i64 x.2.2.2.1], _, rfl, rfl, [.int .i64 x.2.2.2.2.1], _, rfl, rfl, [.int .i64 x.2.2.2.2.2.1], _, rfl, rfl, [.int .i64 x.2.2.2.2.2.2.1], _, rfl, rfl, [.bool x.2.2.2.2.2.2.2.1], [], rfl, rfl, rfl⟩, insC_RL l⟩

theorem all_plain (hP : DecodePlain) : PlainOk Try.prog 11 (plainT A_decode_All G_decode_All S_decode_All V_decode_All) := by
  intro args v hv w K vs hvs hfix
  unfold plainT at hv
  cases hx : asAll A_decode_All args with
  | none => rw [hx] at hv; cases hv
  | some s =>
    rw [hx] at hv
    simp only [Option.map_some, Option.some.injEq, Prod.mk.injEq] at hv
    obtain ⟨hg, rfl⟩ := hv
    have hva := asAll_RVs A_decode_All args s vs hx hvs
    match vs, hva with
    | [u], hva =>
      have hu := RV.str hva.1
      subst hu
      refine (callsIn_wide.1 (all_in hP s (Nat.le_of_ble_eq_true hg) w)).mono ?_
      rintro e W' ⟨r, rfl, ⟨hB, hF⟩, hrow⟩
      have hK : ∀ b, (if b < w.heap.size then K b else Kind.old).fixed = true := fun b => by
        by_cases h : b < w.heap.size
        · rw [if_pos h]; exact hfix b h
        · rw [if_neg h]; rfl
      refine ⟨_, fun b => if b < w.heap.size then K b else .old, rfl, ?_, ?_, ?_⟩
      · exact {
          os := hB.os
          tape := hB.tape
          output := hB.output
          size := hB.size
          fix := fun b hb _ => ⟨if_pos hb, hB.block b hb⟩
          stab := fun b o hb hs => ⟨by unfold Stab; simp only [if_pos hb]; exact hs, World.cell?_of_block (hB.block b hb)⟩
          box := fun b id hb hk => by simp only [if_pos hb]; exact hk
          bsz := fun b id n hb hk hn => (by have := hfix b hb; rw [hk] at this; cases this) }
      · intro b id _ hk
        have h1 := hK b
        simp only at hk
        rw [hk] at h1
        cases h1
      · refine ⟨#[r, .int .i64 (seqD s.length s).2], rfl, ?_, ⟨rfl, (fun e => (by cases e)), (fun _ c e => (by cases e))⟩, rfl⟩
        have hcc : ∀ A len cap, r = .slice A len cap → ∀ a, A = some a → ∃ cc, RL (RT W' (fun b => if b < w.heap.size then K b else .old) tIns) (bif (seqD s.length s).2 == 0 then (seqD s.length s).1 else []) cc ∧ At W' (fun b => if b < w.heap.size then K b else .old) a cc := by
          intro A len cap hr a ha
          subst hr ha
          rcases hrow.2 with ⟨e, _⟩ | ⟨g, cap', cur, e, hg, hh, _, _, _, hpre⟩
          · cases e
          · injection e with e1 e2 e3
            injection e1 with e1
            subst e1
            refine ⟨_, insC_RL _, fun j v hj => ⟨rfl, ?_, ?_⟩⟩
            · rw [← hpre] at hj
              simp only [World.cell?, hh, Option.isSome_none, Bool.false_eq_true, if_false, Nat.zero_add]
              rw [List.getElem?_take] at hj
              split at hj
              · simpa using hj
              · cases hj
            · unfold Stab
              simp only [if_neg (Nat.not_lt.2 hg)]
              exact trivial
        rcases hrow.2 with ⟨e, h0⟩ | ⟨g, cap', cur, e, _, _, hle, _⟩
        · subst e
          exact ⟨⟨none, 0, 0, rfl, h0.symm, Nat.le_refl _, fun _ => rfl, fun a ha => by cases ha⟩, (fun e => (by cases e)), (fun _ c e => (by cases e))⟩
        · subst e
          exact ⟨⟨_, _, cap', rfl, rfl, hle, (fun e => (by cases e)), hcc _ _ _ rfl⟩, (fun e => (by cases e)), (fun _ c e => (by cases e))⟩

end Go.Proofs.Ytehcaooipfgklaa
end
/-! The functions that the statements reach, walked: chain Law04b. Written by wip/tools/gen.py out of wip/conf/Law04b.txt. -/
section
namespace Go.Proofs.Ytehcaooipfgklaa
open Go Go.Av Go.Proofs
noncomputable def cLaw04b0 : Ctx := baseC Try.prog [39, 41, 43]
theorem cLaw04b0_good : Av.Good cLaw04b0 := good_base (by kernel_rfl) (by kernel_rfl) (by kernel_rfl)
noncomputable def cLaw04b1 : Ctx := cLaw04b0.addPlain 46 (plainT A_thumb_within G_thumb_within S_thumb_within V_thumb_within)
theorem cLaw04b1_good : Av.Good cLaw04b1 := cLaw04b0_good.fnP S_thumb_within T_thumb_within G_thumb_within V_thumb_within 2 8 (by kernel_rfl) (fun x => by kernel_rfl) ok_thumb_within
noncomputable def cLaw04b2 : Ctx := cLaw04b1.addPlain 47 (plainT A_thumb_field G_thumb_field S_thumb_field V_thumb_field)
theorem cLaw04b2_good : Av.Good cLaw04b2 := cLaw04b1_good.fnP S_thumb_field T_thumb_field G_thumb_field V_thumb_field 2 8 (by kernel_rfl) (fun x => by kernel_rfl) ok_thumb_field
noncomputable def cLaw04b3 : Ctx := cLaw04b2.addPlain 45 (plainT A_thumb_formOf G_thumb_formOf S_thumb_formOf V_thumb_formOf)
theorem cLaw04b3_good : Av.Good cLaw04b3 := cLaw04b2_good.fnP S_thumb_formOf T_thumb_formOf G_thumb_formOf V_thumb_formOf 2 8 (by kernel_rfl) (fun x => by kernel_rfl) ok_thumb_formOf
noncomputable def cLaw04b4 : Ctx := cLaw04b3.addPlain 14 (plainT A_thumb_Reach G_thumb_Reach S_thumb_Reach V_thumb_Reach)
theorem cLaw04b4_good : Av.Good cLaw04b4 := cLaw04b3_good.fnP S_thumb_Reach T_thumb_Reach G_thumb_Reach V_thumb_Reach 3 8 (by kernel_rfl) (fun x => by kernel_rfl) ok_thumb_Reach
noncomputable def cLaw04b5 : Ctx := cLaw04b4.addPlain 44 (plainT A_thumb_branch G_thumb_branch S_thumb_branch V_thumb_branch)
theorem cLaw04b5_good : Av.Good cLaw04b5 := cLaw04b4_good.fnP S_thumb_branch T_thumb_branch G_thumb_branch V_thumb_branch 3 8 (by kernel_rfl) (fun x => by kernel_rfl) ok_thumb_branch
noncomputable def cLaw04b6 : Ctx := cLaw04b5.addPlain 27 (plainT A_thumb_Check G_thumb_Check S_thumb_Check V_thumb_Check)
theorem cLaw04b6_good : Av.Good cLaw04b6 := cLaw04b5_good.fnP S_thumb_Check T_thumb_Check G_thumb_Check V_thumb_Check 3 8 (by kernel_rfl) (fun x => by kernel_rfl) ok_thumb_Check
noncomputable def cLaw04b7 : Ctx := cLaw04b6.addPlain 56 (plainT A_hauberkref02_more G_hauberkref02_more S_hauberkref02_more V_hauberkref02_more)
theorem cLaw04b7_good : Av.Good cLaw04b7 := cLaw04b6_good.fnP S_hauberkref02_more T_hauberkref02_more G_hauberkref02_more V_hauberkref02_more 2 8 (by kernel_rfl) (fun x => by kernel_rfl) ok_hauberkref02_more
noncomputable def cLaw04b8 : Ctx := cLaw04b7.addPlain 40 (plainT A_hauberkref02_Bits G_hauberkref02_Bits S_hauberkref02_Bits V_hauberkref02_Bits)
theorem cLaw04b8_good : Av.Good cLaw04b8 := cLaw04b7_good.fnP S_hauberkref02_Bits T_hauberkref02_Bits G_hauberkref02_Bits V_hauberkref02_Bits 2 8 (by kernel_rfl) (fun x => by kernel_rfl) ok_hauberkref02_Bits
noncomputable def cLaw04b9 : Ctx := cLaw04b8.addLoop 66 2 L_hauberkref02_has_2.toT.toLoop
theorem cLaw04b9_good : Av.Good cLaw04b9 := cLaw04b8_good.loopN L_hauberkref02_has_2 2 8 (by kernel_rfl) (fun _ _ => rfl) (fun x y s m K => by kernel_rfl) (fun x y s s' K e => by kernel_rfl)
noncomputable def cLaw04b10 : Ctx := cLaw04b9.addPlain 66 (plainT A_hauberkref02_has G_hauberkref02_has S_hauberkref02_has V_hauberkref02_has)
theorem cLaw04b10_good : Av.Good cLaw04b10 := cLaw04b9_good.fnP S_hauberkref02_has T_hauberkref02_has G_hauberkref02_has V_hauberkref02_has 2 8 (by kernel_rfl) (fun x => by kernel_rfl) ok_hauberkref02_has
noncomputable def cLaw04b11 : Ctx := cLaw04b10.addPlain 54 (plainT A_hauberkref02_reg G_hauberkref02_reg S_hauberkref02_reg V_hauberkref02_reg)
theorem cLaw04b11_good : Av.Good cLaw04b11 := cLaw04b10_good.fnP S_hauberkref02_reg T_hauberkref02_reg G_hauberkref02_reg V_hauberkref02_reg 2 8 (by kernel_rfl) (fun x => by kernel_rfl) ok_hauberkref02_reg
noncomputable def cLaw04b12 : Ctx := cLaw04b11.addPlain 39 (plainT A_hauberkref02_Reach G_hauberkref02_Reach S_hauberkref02_Reach V_hauberkref02_Reach)
theorem cLaw04b12_good : Av.Good cLaw04b12 := cLaw04b11_good.fnP S_hauberkref02_Reach T_hauberkref02_Reach G_hauberkref02_Reach V_hauberkref02_Reach 2 8 (by kernel_rfl) (fun x => by kernel_rfl) ok_hauberkref02_Reach
noncomputable def cLaw04b13 : Ctx := cLaw04b12.addPlain 53 (plainT A_hauberkref02_number G_hauberkref02_number S_hauberkref02_number V_hauberkref02_number)
theorem cLaw04b13_good : Av.Good cLaw04b13 := cLaw04b12_good.fnP S_hauberkref02_number T_hauberkref02_number G_hauberkref02_number V_hauberkref02_number 2 8 (by kernel_rfl) (fun x => by kernel_rfl) ok_hauberkref02_number
noncomputable def cLaw04b14 : Ctx := cLaw04b13.addPlain 36 (plainT A_hauberkref02_Check G_hauberkref02_Check S_hauberkref02_Check V_hauberkref02_Check)
theorem cLaw04b14_good : Av.Good cLaw04b14 := cLaw04b13_good.fnP S_hauberkref02_Check T_hauberkref02_Check G_hauberkref02_Check V_hauberkref02_Check 3 8 (by kernel_rfl) (fun x => by kernel_rfl) ok_hauberkref02_Check
noncomputable def cLaw04b15 : Ctx := cLaw04b14.addPlain 62 (plainT A_thumb_put G_thumb_put S_thumb_put V_thumb_put)
theorem cLaw04b15_good : Av.Good cLaw04b15 := cLaw04b14_good.fnP S_thumb_put T_thumb_put G_thumb_put V_thumb_put 2 6 (by kernel_rfl) (fun x => by kernel_rfl) ok_thumb_put
noncomputable def cLaw04b16 : Ctx := cLaw04b15.addPlain 49 (plainT A_thumb_shifted G_thumb_shifted S_thumb_shifted V_thumb_shifted)
theorem cLaw04b16_good : Av.Good cLaw04b16 := cLaw04b15_good.fnP S_thumb_shifted T_thumb_shifted G_thumb_shifted V_thumb_shifted 4 8 (by kernel_rfl) (fun x => by kernel_rfl) ok_thumb_shifted
noncomputable def cLaw04b17 : Ctx := cLaw04b16.addPlain 48 (plainT A_thumb_move G_thumb_move S_thumb_move V_thumb_move)
theorem cLaw04b17_good : Av.Good cLaw04b17 := cLaw04b16_good.fnP S_thumb_move T_thumb_move G_thumb_move V_thumb_move 4 8 (by kernel_rfl) (fun x => by kernel_rfl) ok_thumb_move
noncomputable def cLaw04b18 : Ctx := cLaw04b17.addPlain 63 (plainT A_thumb_short G_thumb_short S_thumb_short V_thumb_short)
theorem cLaw04b18_good : Av.Good cLaw04b18 := cLaw04b17_good.fnP S_thumb_short T_thumb_short G_thumb_short V_thumb_short 4 8 (by kernel_rfl) (fun x => by kernel_rfl) ok_thumb_short
noncomputable def cLaw04b19 : Ctx := cLaw04b18.addPlain 64 (plainT A_thumb_wide G_thumb_wide S_thumb_wide V_thumb_wide)
theorem cLaw04b19_good : Av.Good cLaw04b19 := cLaw04b18_good.fnP S_thumb_wide T_thumb_wide G_thumb_wide V_thumb_wide 4 8 (by kernel_rfl) (fun x => by kernel_rfl) ok_thumb_wide
noncomputable def cLaw04b20 : Ctx := cLaw04b19.addPlain 50 (plainT A_thumb_others G_thumb_others S_thumb_others V_thumb_others)
theorem cLaw04b20_good : Av.Good cLaw04b20 := cLaw04b19_good.fnP S_thumb_others T_thumb_others G_thumb_others V_thumb_others 4 8 (by kernel_rfl) (fun x => by kernel_rfl) ok_thumb_others
noncomputable def cLaw04b21 : Ctx := cLaw04b20.addPlain 28 (plainT A_thumb_bits G_thumb_bits S_thumb_bits V_thumb_bits)
theorem cLaw04b21_good : Av.Good cLaw04b21 := cLaw04b20_good.fnP S_thumb_bits T_thumb_bits G_thumb_bits V_thumb_bits 4 8 (by kernel_rfl) (fun x => by kernel_rfl) ok_thumb_bits
noncomputable def cLaw04b22 : Ctx := cLaw04b21.addPlain 12 (plainT A_thumb_Size G_thumb_Size S_thumb_Size V_thumb_Size)
theorem cLaw04b22_good : Av.Good cLaw04b22 := cLaw04b21_good.fnP S_thumb_Size T_thumb_Size G_thumb_Size V_thumb_Size 4 8 (by kernel_rfl) (fun x => by kernel_rfl) ok_thumb_Size
noncomputable def cLaw04b23 : Ctx := cLaw04b22.addPlain 55 (plainT A_hauberkref02_Size G_hauberkref02_Size S_hauberkref02_Size V_hauberkref02_Size)
theorem cLaw04b23_good : Av.Good cLaw04b23 := cLaw04b22_good.fnP S_hauberkref02_Size T_hauberkref02_Size G_hauberkref02_Size V_hauberkref02_Size 2 8 (by kernel_rfl) (fun x => by kernel_rfl) ok_hauberkref02_Size
noncomputable def cLaw04b24 : Ctx := cLaw04b23.addPlain 33 (plainT A_thumb_half G_thumb_half S_thumb_half V_thumb_half)
theorem cLaw04b24_good : Av.Good cLaw04b24 := cLaw04b23_good.fnP S_thumb_half T_thumb_half G_thumb_half V_thumb_half 2 8 (by kernel_rfl) (fun x => by kernel_rfl) ok_thumb_half
noncomputable def cLaw04b25 : Ctx := cLaw04b24.addPlain 18 (plainT A_thumb_Encode G_thumb_Encode S_thumb_Encode V_thumb_Encode)
theorem cLaw04b25_good : Av.Good cLaw04b25 := cLaw04b24_good.fnP S_thumb_Encode T_thumb_Encode G_thumb_Encode V_thumb_Encode 2 8 (by kernel_rfl) (fun x => by kernel_rfl) ok_thumb_Encode
noncomputable def cLaw04b26 : Ctx := cLaw04b25.addLoop 57 3 L_hauberkref02_bit_3.toT.toLoop
theorem cLaw04b26_good : Av.Good cLaw04b26 := cLaw04b25_good.loopN L_hauberkref02_bit_3 2 8 (by kernel_rfl) (fun _ _ => rfl) (fun x y s m K => by kernel_rfl) (fun x y s s' K e => by kernel_rfl)
noncomputable def cLaw04b27 : Ctx := cLaw04b26.addPlain 57 (plainT A_hauberkref02_bit G_hauberkref02_bit S_hauberkref02_bit V_hauberkref02_bit)
theorem cLaw04b27_good : Av.Good cLaw04b27 := cLaw04b26_good.fnP S_hauberkref02_bit T_hauberkref02_bit G_hauberkref02_bit V_hauberkref02_bit 2 8 (by kernel_rfl) (fun x => by kernel_rfl) ok_hauberkref02_bit
noncomputable def cLaw04b28 : Ctx := cLaw04b27.addPlain 41 (plainT A_hauberkref02_field G_hauberkref02_field S_hauberkref02_field V_hauberkref02_field)
theorem cLaw04b28_good : Av.Good cLaw04b28 := cLaw04b27_good.fnP S_hauberkref02_field T_hauberkref02_field G_hauberkref02_field V_hauberkref02_field 2 8 (by kernel_rfl) (fun x => by kernel_rfl) ok_hauberkref02_field
noncomputable def cLaw04b29 : Ctx := cLaw04b28.addLoop 24 14 L_hauberkref02_Encode_14.toT.toLoop
theorem cLaw04b29_good : Av.Good cLaw04b29 := cLaw04b28_good.loopN L_hauberkref02_Encode_14 2 8 (by kernel_rfl) (fun _ _ => rfl) (fun x y s m K => by kernel_rfl) (fun x y s s' K e => by kernel_rfl)
noncomputable def cLaw04b30 : Ctx := cLaw04b29.addLoop 24 11 L_hauberkref02_Encode_11.toT.toLoop
theorem cLaw04b30_good : Av.Good cLaw04b30 := cLaw04b29_good.loopN L_hauberkref02_Encode_11 2 8 (by kernel_rfl) (fun _ _ => rfl) (fun x y s m K => by kernel_rfl) (fun x y s s' K e => by kernel_rfl)
noncomputable def cLaw04b31 : Ctx := cLaw04b30.addLoop 24 7 L_hauberkref02_Encode_7.toT.toLoop
theorem cLaw04b31_good : Av.Good cLaw04b31 := cLaw04b30_good.loopN L_hauberkref02_Encode_7 2 8 (by kernel_rfl) (fun _ _ => rfl) (fun x y s m K => by kernel_rfl) (fun x y s s' K e => by kernel_rfl)
noncomputable def cLaw04b32 : Ctx := cLaw04b31.addPlain 24 (plainT A_hauberkref02_Encode G_hauberkref02_Encode S_hauberkref02_Encode V_hauberkref02_Encode)
theorem cLaw04b32_good : Av.Good cLaw04b32 := cLaw04b31_good.fnP S_hauberkref02_Encode T_hauberkref02_Encode G_hauberkref02_Encode V_hauberkref02_Encode 2 8 (by kernel_rfl) (fun x => by kernel_rfl) ok_hauberkref02_Encode
noncomputable def cLaw04b33 : Ctx := cLaw04b32.addPlain 29 (plainT A_asm_isWide G_asm_isWide S_asm_isWide V_asm_isWide)
theorem cLaw04b33_good : Av.Good cLaw04b33 := cLaw04b32_good.fnP S_asm_isWide T_asm_isWide G_asm_isWide V_asm_isWide 2 8 (by kernel_rfl) (fun x => by kernel_rfl) ok_asm_isWide
noncomputable def cLaw04b34 : Ctx := cLaw04b33.addPlain 65 (plainT A_asm_branch G_asm_branch S_asm_branch V_asm_branch)
theorem cLaw04b34_good : Av.Good cLaw04b34 := cLaw04b33_good.fnP S_asm_branch T_asm_branch G_asm_branch V_asm_branch 2 8 (by kernel_rfl) (fun x => by kernel_rfl) ok_asm_branch
noncomputable def cLaw04b35 : Ctx := cLaw04b34.addPlain 51 (plainT A_asm_item G_asm_item S_asm_item V_asm_item)
theorem cLaw04b35_good : Av.Good cLaw04b35 := cLaw04b34_good.fnP S_asm_item T_asm_item G_asm_item V_asm_item 2 8 (by kernel_rfl) (fun x => by kernel_rfl) ok_asm_item
noncomputable def cLaw04b36 : Ctx := cLaw04b35.addLoop 13 3 L_asm_Lay_3.toT.toLoop
theorem cLaw04b36_good : Av.Good cLaw04b36 := cLaw04b35_good.loopN L_asm_Lay_3 2 8 (by kernel_rfl) (fun _ _ => rfl) (fun x y s m K => by kernel_rfl) (fun x y s s' K e => by kernel_rfl)
noncomputable def cLaw04b37 : Ctx := cLaw04b36.addPlain 13 (plainT A_asm_Lay G_asm_Lay S_asm_Lay V_asm_Lay)
theorem cLaw04b37_good : Av.Good cLaw04b37 := cLaw04b36_good.fnP S_asm_Lay T_asm_Lay G_asm_Lay V_asm_Lay 2 8 (by kernel_rfl) (fun x => by kernel_rfl) ok_asm_Lay
noncomputable def cLaw04b38 : Ctx := cLaw04b37.addLoop 32 3 L_asm_assembler_great_3.toT.toLoop
theorem cLaw04b38_good : Av.Good cLaw04b38 := cLaw04b37_good.loopN L_asm_assembler_great_3 2 8 (by kernel_rfl) (fun _ _ => rfl) (fun x y s m K => by kernel_rfl) (fun x y s s' K e => by kernel_rfl)
noncomputable def cLaw04b39 : Ctx := cLaw04b38.addLoop 30 2 L_asm_assembler_items_2.toT.toLoop
theorem cLaw04b39_good : Av.Good cLaw04b39 := cLaw04b38_good.loopN L_asm_assembler_items_2 2 8 (by kernel_rfl) (fun _ _ => rfl) (fun x y s m K => by kernel_rfl) (fun x y s s' K e => by kernel_rfl)
noncomputable def cLaw04b40 : Ctx := cLaw04b39.addLoop 30 8 L_asm_assembler_items_8.toT.toLoop
theorem cLaw04b40_good : Av.Good cLaw04b40 := cLaw04b39_good.loopN L_asm_assembler_items_8 2 8 (by kernel_rfl) (fun _ _ => rfl) (fun x y s m K => by kernel_rfl) (fun x y s s' K e => by kernel_rfl)
noncomputable def cLaw04b41 : Ctx := cLaw04b40.addLoop 31 2 L_asm_assembler_names_2.toT.toLoop
theorem cLaw04b41_good : Av.Good cLaw04b41 := cLaw04b40_good.loopN L_asm_assembler_names_2 2 8 (by kernel_rfl) (fun _ _ => rfl) (fun x y s m K => by kernel_rfl) (fun x y s s' K e => by kernel_rfl)
noncomputable def cLaw04b42 : Ctx := cLaw04b41.addLoop 31 11 L_asm_assembler_names_11.toT.toLoop
theorem cLaw04b42_good : Av.Good cLaw04b42 := cLaw04b41_good.loopN L_asm_assembler_names_11 2 8 (by kernel_rfl) (fun _ _ => rfl) (fun x y s m K => by kernel_rfl) (fun x y s s' K e => by kernel_rfl)
noncomputable def cLaw04b43 : Ctx := cLaw04b42.addPlain 38 (plainT A_hauberkref04_size G_hauberkref04_size S_hauberkref04_size V_hauberkref04_size)
theorem cLaw04b43_good : Av.Good cLaw04b43 := cLaw04b42_good.fnP S_hauberkref04_size T_hauberkref04_size G_hauberkref04_size V_hauberkref04_size 2 8 (by kernel_rfl) (fun x => by kernel_rfl) ok_hauberkref04_size
noncomputable def cLaw04b44 : Ctx := cLaw04b43.addLoop 23 4 L_hauberkref04_Lay_4.toT.toLoop
theorem cLaw04b44_good : Av.Good cLaw04b44 := cLaw04b43_good.loopN L_hauberkref04_Lay_4 2 8 (by kernel_rfl) (fun _ _ => rfl) (fun x y s m K => by kernel_rfl) (fun x y s s' K e => by kernel_rfl)
noncomputable def cLaw04b45 : Ctx := cLaw04b44.addPlain 23 (plainT A_hauberkref04_Lay G_hauberkref04_Lay S_hauberkref04_Lay V_hauberkref04_Lay)
theorem cLaw04b45_good : Av.Good cLaw04b45 := cLaw04b44_good.fnP S_hauberkref04_Lay T_hauberkref04_Lay G_hauberkref04_Lay V_hauberkref04_Lay 2 8 (by kernel_rfl) (fun x => by kernel_rfl) ok_hauberkref04_Lay
noncomputable def cLaw04b46 : Ctx := cLaw04b45.addLoop 37 2 L_hauberkref04_find_2.toT.toLoop
theorem cLaw04b46_good : Av.Good cLaw04b46 := cLaw04b45_good.loopN L_hauberkref04_find_2 2 8 (by kernel_rfl) (fun _ _ => rfl) (fun x y s m K => by kernel_rfl) (fun x y s s' K e => by kernel_rfl)
noncomputable def cLaw04b47 : Ctx := cLaw04b46.addPlain 37 (plainT A_hauberkref04_find G_hauberkref04_find S_hauberkref04_find V_hauberkref04_find)
theorem cLaw04b47_good : Av.Good cLaw04b47 := cLaw04b46_good.fnP S_hauberkref04_find T_hauberkref04_find G_hauberkref04_find V_hauberkref04_find 2 8 (by kernel_rfl) (fun x => by kernel_rfl) ok_hauberkref04_find
noncomputable def cLaw04b48 : Ctx := cLaw04b47.addPlain 35 (plainT A_hauberkref04_may G_hauberkref04_may S_hauberkref04_may V_hauberkref04_may)
theorem cLaw04b48_good : Av.Good cLaw04b48 := cLaw04b47_good.fnP S_hauberkref04_may T_hauberkref04_may G_hauberkref04_may V_hauberkref04_may 2 8 (by kernel_rfl) (fun x => by kernel_rfl) ok_hauberkref04_may
noncomputable def cLaw04b49 : Ctx := cLaw04b48.addPlain 25 (plainT A_hauberkref04_offset G_hauberkref04_offset S_hauberkref04_offset V_hauberkref04_offset)
theorem cLaw04b49_good : Av.Good cLaw04b49 := cLaw04b48_good.fnP S_hauberkref04_offset T_hauberkref04_offset G_hauberkref04_offset V_hauberkref04_offset 2 8 (by kernel_rfl) (fun x => by kernel_rfl) ok_hauberkref04_offset
noncomputable def cLaw04b50 : Ctx := cLaw04b49.addLoop 21 4 L_hauberkref04_wrong_4.toT.toLoop
theorem cLaw04b50_good : Av.Good cLaw04b50 := cLaw04b49_good.loopN L_hauberkref04_wrong_4 2 8 (by kernel_rfl) (fun _ _ => rfl) (fun x y s m K => by kernel_rfl) (fun x y s s' K e => by kernel_rfl)
noncomputable def cLaw04b51 : Ctx := cLaw04b50.addLoop 21 9 L_hauberkref04_wrong_9.toT.toLoop
theorem cLaw04b51_good : Av.Good cLaw04b51 := cLaw04b50_good.loopN L_hauberkref04_wrong_9 2 8 (by kernel_rfl) (fun _ _ => rfl) (fun x y s m K => by kernel_rfl) (fun x y s s' K e => by kernel_rfl)
noncomputable def cLaw04b52 : Ctx := cLaw04b51.addLoop 21 14 L_hauberkref04_wrong_14.toT.toLoop
theorem cLaw04b52_good : Av.Good cLaw04b52 := cLaw04b51_good.loopN L_hauberkref04_wrong_14 2 8 (by kernel_rfl) (fun _ _ => rfl) (fun x y s m K => by kernel_rfl) (fun x y s s' K e => by kernel_rfl)
noncomputable def cLaw04b53 : Ctx := cLaw04b52.addLoop 21 20 L_hauberkref04_wrong_20.toT.toLoop
theorem cLaw04b53_good : Av.Good cLaw04b53 := cLaw04b52_good.loopN L_hauberkref04_wrong_20 2 8 (by kernel_rfl) (fun _ _ => rfl) (fun x y s m K => by kernel_rfl) (fun x y s s' K e => by kernel_rfl)
noncomputable def cLaw04b54 : Ctx := cLaw04b53.addPlain 21 (plainT A_hauberkref04_wrong G_hauberkref04_wrong S_hauberkref04_wrong V_hauberkref04_wrong)
theorem cLaw04b54_good : Av.Good cLaw04b54 := cLaw04b53_good.fnP S_hauberkref04_wrong T_hauberkref04_wrong G_hauberkref04_wrong V_hauberkref04_wrong 2 8 (by kernel_rfl) (fun x => by kernel_rfl) ok_hauberkref04_wrong
noncomputable def cLaw04b55 : Ctx := cLaw04b54.addLoop 22 7 L_hauberkref04_Wide_7.toT.toLoop
theorem cLaw04b55_good : Av.Good cLaw04b55 := cLaw04b54_good.loopN L_hauberkref04_Wide_7 2 8 (by kernel_rfl) (fun _ _ => rfl) (fun x y s m K => by kernel_rfl) (fun x y s s' K e => by kernel_rfl)
noncomputable def cLaw04b56 : Ctx := cLaw04b55.addLoop 22 3 L_hauberkref04_Wide_3.toT.toLoop
theorem cLaw04b56_good : Av.Good cLaw04b56 := cLaw04b55_good.loopN L_hauberkref04_Wide_3 2 8 (by kernel_rfl) (fun _ _ => rfl) (fun x y s m K => by kernel_rfl) (fun x y s s' K e => by kernel_rfl)
noncomputable def cLaw04b57 : Ctx := cLaw04b56.addBody 22 (bodyT SS_hauberkref04_Wide HS_hauberkref04_Wide S_hauberkref04_Wide HT_hauberkref04_Wide G_hauberkref04_Wide V_hauberkref04_Wide)
theorem cLaw04b57_good : Av.Good cLaw04b57 := cLaw04b56_good.fnB S_hauberkref04_Wide T_hauberkref04_Wide G_hauberkref04_Wide V_hauberkref04_Wide 2 8 (by kernel_rfl) (fun x y => by kernel_rfl) ok_hauberkref04_Wide
noncomputable def cLaw04b58 : Ctx := cLaw04b57.addLoop 8 9 L_hauberkref04_Assemble_9.toT.toLoop
theorem cLaw04b58_good : Av.Good cLaw04b58 := cLaw04b57_good.loopN L_hauberkref04_Assemble_9 2 8 (by kernel_rfl) (fun _ _ => rfl) (fun x y s m K => by kernel_rfl) (fun x y s s' K e => by kernel_rfl)
noncomputable def cLaw04b59 : Ctx := cLaw04b58.addPlain 8 (plainT A_hauberkref04_Assemble G_hauberkref04_Assemble S_hauberkref04_Assemble V_hauberkref04_Assemble)
theorem cLaw04b59_good : Av.Good cLaw04b59 := cLaw04b58_good.fnP S_hauberkref04_Assemble T_hauberkref04_Assemble G_hauberkref04_Assemble V_hauberkref04_Assemble 2 8 (by kernel_rfl) (fun x => by kernel_rfl) ok_hauberkref04_Assemble
noncomputable def cLaw04b60 : Ctx := cLaw04b59.addBody 19 body_WriteString
theorem cLaw04b60_good : Av.Good cLaw04b60 := cLaw04b59_good.addBody write_body (by kernel_rfl)
noncomputable def cLaw04b61 : Ctx := cLaw04b60.addBody 20 body_String
theorem cLaw04b61_good : Av.Good cLaw04b61 := cLaw04b60_good.addBody string_body (by kernel_rfl)
noncomputable def cLaw04b62 : Ctx := cLaw04b61.addPlain 17 snap_asm_assembler_offset
theorem cLaw04b62_good : Av.Good cLaw04b62 := cLaw04b61_good.addSnap offset_plain (by kernel_rfl) offset_snap
noncomputable def cLaw04b63 : Ctx := cLaw04b62.addLoop 6 6 L_hauberklaw04_Items_6.toT.toLoop
theorem cLaw04b63_good : Av.Good cLaw04b63 := cLaw04b62_good.loopN L_hauberklaw04_Items_6 2 8 (by kernel_rfl) (fun _ _ => rfl) (fun x y s m K => by kernel_rfl) (fun x y s s' K e => by kernel_rfl)
noncomputable def cLaw04b64 : Ctx := cLaw04b63.addLoop 6 3 L_hauberklaw04_Items_3.toT.toLoop
theorem cLaw04b64_good : Av.Good cLaw04b64 := cLaw04b63_good.loopN L_hauberklaw04_Items_3 2 8 (by kernel_rfl) (fun _ _ => rfl) (fun x y s m K => by kernel_rfl) (fun x y s s' K e => by kernel_rfl)
noncomputable def cLaw04b65 : Ctx := cLaw04b64.addPlain 6 (plainT A_hauberklaw04_Items G_hauberklaw04_Items S_hauberklaw04_Items V_hauberklaw04_Items)
theorem cLaw04b65_good : Av.Good cLaw04b65 := cLaw04b64_good.fnP S_hauberklaw04_Items T_hauberklaw04_Items G_hauberklaw04_Items V_hauberklaw04_Items 2 8 (by kernel_rfl) (fun x => by kernel_rfl) ok_hauberklaw04_Items
noncomputable def cLaw04b66 : Ctx := cLaw04b65.addLoop 9 4 L_hauberk_hauberklaw04_Places_Same_4.toT.toLoop
theorem cLaw04b66_good : Av.Good cLaw04b66 := cLaw04b65_good.loopN L_hauberk_hauberklaw04_Places_Same_4 2 8 (by kernel_rfl) (fun _ _ => rfl) (fun x y s m K => by kernel_rfl) (fun x y s s' K e => by kernel_rfl)
noncomputable def cLaw04b67 : Ctx := cLaw04b66.addPlain 9 (plainT A_hauberk_hauberklaw04_Places_Same G_hauberk_hauberklaw04_Places_Same S_hauberk_hauberklaw04_Places_Same V_hauberk_hauberklaw04_Places_Same)
theorem cLaw04b67_good : Av.Good cLaw04b67 := cLaw04b66_good.fnP S_hauberk_hauberklaw04_Places_Same T_hauberk_hauberklaw04_Places_Same G_hauberk_hauberklaw04_Places_Same V_hauberk_hauberklaw04_Places_Same 2 8 (by kernel_rfl) (fun x => by kernel_rfl) ok_hauberk_hauberklaw04_Places_Same
noncomputable def cLaw04b68 : Ctx := cLaw04b67.addBody 30 (bodyT SS_asm_assembler_items HS_asm_assembler_items S_asm_assembler_items HT_asm_assembler_items G_asm_assembler_items V_asm_assembler_items)
theorem cLaw04b68_good : Av.Good cLaw04b68 := cLaw04b67_good.fnB S_asm_assembler_items T_asm_assembler_items G_asm_assembler_items V_asm_assembler_items 3 8 (by kernel_rfl) (fun x y => by kernel_rfl) ok_asm_assembler_items
noncomputable def cLaw04b69 : Ctx := cLaw04b68.addBody 31 (bodyT SS_asm_assembler_names HS_asm_assembler_names S_asm_assembler_names HT_asm_assembler_names G_asm_assembler_names V_asm_assembler_names)
theorem cLaw04b69_good : Av.Good cLaw04b69 := cLaw04b68_good.fnB S_asm_assembler_names T_asm_assembler_names G_asm_assembler_names V_asm_assembler_names 3 8 (by kernel_rfl) (fun x y => by kernel_rfl) ok_asm_assembler_names
noncomputable def cLaw04b70 : Ctx := cLaw04b69.addBody 32 (bodyT SS_asm_assembler_great HS_asm_assembler_great S_asm_assembler_great HT_asm_assembler_great G_asm_assembler_great V_asm_assembler_great)
theorem cLaw04b70_good : Av.Good cLaw04b70 := cLaw04b69_good.fnB S_asm_assembler_great T_asm_assembler_great G_asm_assembler_great V_asm_assembler_great 3 8 (by kernel_rfl) (fun x y => by kernel_rfl) ok_asm_assembler_great
noncomputable def cLaw04b71 : Ctx := cLaw04b70.addBody 15 (bodyT SS_asm_assembler_check HS_asm_assembler_check S_asm_assembler_check HT_asm_assembler_check G_asm_assembler_check V_asm_assembler_check)
theorem cLaw04b71_good : Av.Good cLaw04b71 := cLaw04b70_good.fnB S_asm_assembler_check T_asm_assembler_check G_asm_assembler_check V_asm_assembler_check 4 8 (by kernel_rfl) (fun x y => by kernel_rfl) ok_asm_assembler_check
noncomputable def cLaw04b72 : Ctx := cLaw04b71.addLoop 16 4 L_asm_assembler_widen_4.toT.toLoop
theorem cLaw04b72_good : Av.Good cLaw04b72 := cLaw04b71_good.loopN L_asm_assembler_widen_4 2 8 (by kernel_rfl) (fun _ _ => rfl) (fun x y s m K => by kernel_rfl) (fun x y s s' K e => by kernel_rfl)
noncomputable def cLaw04b73 : Ctx := cLaw04b72.addBody 16 (bodyT SS_asm_assembler_widen HS_asm_assembler_widen S_asm_assembler_widen HT_asm_assembler_widen G_asm_assembler_widen V_asm_assembler_widen)
theorem cLaw04b73_good : Av.Good cLaw04b73 := cLaw04b72_good.fnB S_asm_assembler_widen T_asm_assembler_widen G_asm_assembler_widen V_asm_assembler_widen 3 8 (by kernel_rfl) (fun x y => by kernel_rfl) ok_asm_assembler_widen
noncomputable def cLaw04b74 : Ctx := cLaw04b73.addLoop 7 5 L_asm_Assemble_5.toT.toLoop
theorem cLaw04b74_good : Av.Good cLaw04b74 := cLaw04b73_good.loopN L_asm_Assemble_5 3 8 (by kernel_rfl) (fun _ _ => rfl) (fun x y s m K => by kernel_rfl) (fun x y s s' K e => by kernel_rfl)
noncomputable def cLaw04b75 : Ctx := cLaw04b74.addLoop 7 10 L_asm_Assemble_10.toT.toLoop
theorem cLaw04b75_good : Av.Good cLaw04b75 := cLaw04b74_good.loopN L_asm_Assemble_10 3 8 (by kernel_rfl) (fun _ _ => rfl) (fun x y s m K => by kernel_rfl) (fun x y s s' K e => by kernel_rfl)
noncomputable def cLaw04b76 : Ctx := cLaw04b75.addPlain 7 (plainT A_asm_Assemble G_asm_Assemble S_asm_Assemble V_asm_Assemble)
theorem cLaw04b76_good : Av.Good cLaw04b76 := cLaw04b75_good.fnP S_asm_Assemble T_asm_Assemble G_asm_Assemble V_asm_Assemble 3 8 (by kernel_rfl) (fun x => by kernel_rfl) ok_asm_Assemble
noncomputable def cLaw04b77 : Ctx := cLaw04b76.addPlain 10 (plainT A_hauberklaw04_lives G_hauberklaw04_lives S_hauberklaw04_lives V_hauberklaw04_lives)
theorem cLaw04b77_good : Av.Good cLaw04b77 := cLaw04b76_good.fnP S_hauberklaw04_lives T_hauberklaw04_lives G_hauberklaw04_lives V_hauberklaw04_lives 4 12 (by kernel_rfl) (fun x => by kernel_rfl) ok_hauberklaw04_lives
noncomputable def cLaw04b78 : Ctx := cLaw04b77.addPlain 67 (plainT A_decode_some G_decode_some S_decode_some V_decode_some)
theorem cLaw04b78_good : Av.Good cLaw04b78 := cLaw04b77_good.fnP S_decode_some T_decode_some G_decode_some V_decode_some 2 8 (by kernel_rfl) (fun x => by kernel_rfl) ok_decode_some
noncomputable def cLaw04b79 : Ctx := cLaw04b78.addPlain 60 (plainT A_decode_half G_decode_half S_decode_half V_decode_half)
theorem cLaw04b79_good : Av.Good cLaw04b79 := cLaw04b78_good.fnP S_decode_half T_decode_half G_decode_half V_decode_half 2 8 (by kernel_rfl) (fun x => by kernel_rfl) ok_decode_half
noncomputable def cLaw04b80 : Ctx := cLaw04b79.addPlain 68 (plainT A_decode_signed G_decode_signed S_decode_signed V_decode_signed)
theorem cLaw04b80_good : Av.Good cLaw04b80 := cLaw04b79_good.fnP S_decode_signed T_decode_signed G_decode_signed V_decode_signed 2 8 (by kernel_rfl) (fun x => by kernel_rfl) ok_decode_signed
noncomputable def cLaw04b81 : Ctx := cLaw04b80.addLoop 73 2 L_decode_regs_2.toT.toLoop
theorem cLaw04b81_good : Av.Good cLaw04b81 := cLaw04b80_good.loopN L_decode_regs_2 2 8 (by kernel_rfl) (fun _ _ => rfl) (fun x y s m K => by kernel_rfl) (fun x y s s' K e => by kernel_rfl)
noncomputable def cLaw04b82 : Ctx := cLaw04b81.addPlain 73 (plainT A_decode_regs G_decode_regs S_decode_regs V_decode_regs)
theorem cLaw04b82_good : Av.Good cLaw04b82 := cLaw04b81_good.fnP S_decode_regs T_decode_regs G_decode_regs V_decode_regs 2 8 (by kernel_rfl) (fun x => by kernel_rfl) ok_decode_regs
noncomputable def cLaw04b83 : Ctx := cLaw04b82.addPlain 58 (plainT A_decode_Size G_decode_Size S_decode_Size V_decode_Size)
theorem cLaw04b83_good : Av.Good cLaw04b83 := cLaw04b82_good.fnP S_decode_Size T_decode_Size G_decode_Size V_decode_Size 2 8 (by kernel_rfl) (fun x => by kernel_rfl) ok_decode_Size
noncomputable def cLaw04b84 : Ctx := cLaw04b83.addPlain 59 (plainT A_decode_narrow G_decode_narrow S_decode_narrow V_decode_narrow)
theorem cLaw04b84_good : Av.Good cLaw04b84 := cLaw04b83_good.fnP S_decode_narrow T_decode_narrow G_decode_narrow V_decode_narrow 2 12 (by kernel_rfl) (fun x => by kernel_rfl) ok_decode_narrow
noncomputable def cLaw04b85 : Ctx := cLaw04b84.addPlain 69 (plainT A_decode_three G_decode_three S_decode_three V_decode_three)
theorem cLaw04b85_good : Av.Good cLaw04b85 := cLaw04b84_good.fnP S_decode_three T_decode_three G_decode_three V_decode_three 3 12 (by kernel_rfl) (fun x => by kernel_rfl) ok_decode_three
noncomputable def cLaw04b86 : Ctx := cLaw04b85.addPlain 70 (plainT A_decode_product G_decode_product S_decode_product V_decode_product)
theorem cLaw04b86_good : Av.Good cLaw04b86 := cLaw04b85_good.fnP S_decode_product T_decode_product G_decode_product V_decode_product 2 12 (by kernel_rfl) (fun x => by kernel_rfl) ok_decode_product
noncomputable def cLaw04b87 : Ctx := cLaw04b86.addPlain 71 (plainT A_decode_plain G_decode_plain S_decode_plain V_decode_plain)
theorem cLaw04b87_good : Av.Good cLaw04b87 := cLaw04b86_good.fnP S_decode_plain T_decode_plain G_decode_plain V_decode_plain 2 12 (by kernel_rfl) (fun x => by kernel_rfl) ok_decode_plain
noncomputable def cLaw04b88 : Ctx := cLaw04b87.addPlain 72 (plainT A_decode_branch G_decode_branch S_decode_branch V_decode_branch)
theorem cLaw04b88_good : Av.Good cLaw04b88 := cLaw04b87_good.fnP S_decode_branch T_decode_branch G_decode_branch V_decode_branch 2 12 (by kernel_rfl) (fun x => by kernel_rfl) ok_decode_branch
noncomputable def cLaw04b89 : Ctx := cLaw04b88.addPlain 61 (plainT A_decode_long G_decode_long S_decode_long V_decode_long)
theorem cLaw04b89_good : Av.Good cLaw04b89 := cLaw04b88_good.fnP S_decode_long T_decode_long G_decode_long V_decode_long 2 12 (by kernel_rfl) (fun x => by kernel_rfl) ok_decode_long
noncomputable def cLaw04b90 : Ctx := cLaw04b89.addPlain 43 (plainT A_decode_Decode G_decode_Decode S_decode_Decode V_decode_Decode)
theorem cLaw04b90_good : Av.Good cLaw04b90 := cLaw04b89_good.fnP S_decode_Decode T_decode_Decode G_decode_Decode V_decode_Decode 2 12 (by kernel_rfl) (fun x => by kernel_rfl) ok_decode_Decode
noncomputable def cLaw04b91 : Ctx := cLaw04b90.addPlain 11 (plainT A_decode_All G_decode_All S_decode_All V_decode_All)
theorem cLaw04b91_good : Av.Good cLaw04b91 := cLaw04b90_good.addPlain (all_plain (cLaw04b90_good.toCtxOk.plain 43 _ (by kernel_rfl))) (by kernel_rfl)
noncomputable def cLaw04b92 : Ctx := cLaw04b91.addLoop 4 21 L_hauberklaw04_AsmGoes_21.toT.toLoop
theorem cLaw04b92_good : Av.Good cLaw04b92 := cLaw04b91_good.loopN L_hauberklaw04_AsmGoes_21 2 8 (by kernel_rfl) (fun _ _ => rfl) (fun x y s m K => by kernel_rfl) (fun x y s s' K e => by kernel_rfl)
noncomputable def cLaw04b93 : Ctx := cLaw04b92.addLoop 4 9 L_hauberklaw04_AsmGoes_9.toT.toLoop
theorem cLaw04b93_good : Av.Good cLaw04b93 := cLaw04b92_good.loopN L_hauberklaw04_AsmGoes_9 3 8 (by kernel_rfl) (fun _ _ => rfl) (fun x y s m K => by kernel_rfl) (fun x y s s' K e => by kernel_rfl)
noncomputable def cLaw04b94 : Ctx := cLaw04b93.addLoop 5 14 L_hauberklaw04_AsmLeast_14.toT.toLoop
theorem cLaw04b94_good : Av.Good cLaw04b94 := cLaw04b93_good.loopN L_hauberklaw04_AsmLeast_14 2 8 (by kernel_rfl) (fun _ _ => rfl) (fun x y s m K => by kernel_rfl) (fun x y s s' K e => by kernel_rfl)
noncomputable def cLaw04b95 : Ctx := cLaw04b94.addLoop 5 9 L_hauberklaw04_AsmLeast_9.toT.toLoop
theorem cLaw04b95_good : Av.Good cLaw04b95 := cLaw04b94_good.loopN L_hauberklaw04_AsmLeast_9 3 8 (by kernel_rfl) (fun _ _ => rfl) (fun x y s m K => by kernel_rfl) (fun x y s s' K e => by kernel_rfl)
noncomputable def cLaw04b96 : Ctx := cLaw04b95.addLoop 5 23 L_hauberklaw04_AsmLeast_23.toT.toLoop
theorem cLaw04b96_good : Av.Good cLaw04b96 := cLaw04b95_good.loopN L_hauberklaw04_AsmLeast_23 2 8 (by kernel_rfl) (fun _ _ => rfl) (fun x y s m K => by kernel_rfl) (fun x y s s' K e => by kernel_rfl)
noncomputable def cLaw04b : Ctx := cLaw04b96
theorem cLaw04b_good : Av.Good cLaw04b := cLaw04b96_good
end Go.Proofs.Ytehcaooipfgklaa
end
/-! The statement's items: proved of what the function computes. Where items lie: the program and the document alike. Loops that look for a first one; labels. What is wrong with items: as the document says it. What is wrong with items: the program's check. Branches made wide: one pass. Branches made wide: pass after pass, in the program and in the document. Items as bytes: the program and the document alike. AsmBytes: proved of what the functions compute. -/
section
/-! The statement's items: proved of what the function computes. -/
namespace Go.Av
open Go

/-- A run's item and how often it stands. -/
def runOf (x : List tRun.den) (i : Nat) : tItem.den := (List.getD x i (Ty.dflt tRun)).1
def runNo (x : List tRun.den) (i : Nat) : Nat := min (List.getD x i (Ty.dflt tRun)).2.1.toNat 700
/-- The items of the first runs. -/
def itemsTo (x : List tRun.den) : Nat → List tItem.den
  | 0 => []
  | i + 1 => itemsTo x i ++ List.replicate (runNo x i) (runOf x i)
theorem itemsTo_len (x : List tRun.den) : ∀ i, (itemsTo x i).length ≤ 700 * i
  | 0 => Nat.le_refl _
  | i + 1 => by
    have := itemsTo_len x i
    have h : runNo x i ≤ 700 := Nat.min_le_right _ _
    simp only [itemsTo, List.length_append, List.length_replicate]
    omega

theorem items_in (x : List tRun.den) (acc : List tItem.den) (i : Nat) (hi : i < x.length) (ha : acc.length ≤ 30000) :
    LoopN.res L_hauberklaw04_Items_6 (x, acc, (i : Int), 0) () = some (0, acc ++ List.replicate (runNo x i) (runOf x i), (runNo x i : Int)) := by
  unfold LoopN.res
  have hn : runNo x i ≤ 700 := Nat.min_le_right _ _
  have key := runL_count (turn := L_hauberklaw04_Items_6.turn (x, acc, (i : Int), 0) ()) (fun k => (acc ++ List.replicate k (runOf x i), (k : Int))) (0, (acc ++ List.replicate (runNo x i) (runOf x i), (runNo x i : Int))) (n := runNo x i) (fun k hk => ?_) ?_ (runNo x i) 0 (by omega) 701 (by omega)
  · have e : acc ++ List.replicate 0 (runOf x i) = acc := List.append_nil _
    simp only [e] at key
    exact key
  · have hc : (k : Int) < (List.getD x i (Ty.dflt tRun)).2.1 := by
      have : runNo x i ≤ (List.getD x i (Ty.dflt tRun)).2.1.toNat := Nat.min_le_left _ _
      omega
    refine (val_yes (inR hi)).trans ((val_yes ?_).trans ((val_yes (inR hi)).trans ((val_yes ?_).trans ?_)))
    · rw [Bool.and_eq_true]
      exact ⟨dec_true hc, dec_true (show (k : Int) < 700 by omega)⟩
    · refine Nat.ble_eq_true_of_le ?_
      dsimp only
      rw [List.length_append, List.length_replicate]
      simp only [List.length_cons, List.length_nil]
      omega
    · dsimp only
      rw [w64_id (n := (k : Int) + 1) (by omega) (by omega), List.replicate_succ', ← List.append_assoc]
      rfl
  · refine (val_yes (inR hi)).trans ((val_no ?_).trans rfl)
    rw [Bool.and_eq_false_iff]
    by_cases h : (List.getD x i (Ty.dflt tRun)).2.1.toNat ≤ 700
    · refine .inl (dec_false (show ¬ ((runNo x i : Nat) : Int) < (List.getD x i (Ty.dflt tRun)).2.1 from ?_))
      have : runNo x i = (List.getD x i (Ty.dflt tRun)).2.1.toNat := Nat.min_eq_left h
      omega
    · refine .inr (dec_false (show ¬ ((runNo x i : Nat) : Int) < 700 from ?_))
      have : runNo x i = 700 := Nat.min_eq_right (by omega)
      omega

theorem items_val (x : List tRun.den) (hx : x.length ≤ 9223372036854775807) : (T_hauberklaw04_Items x).val = some (itemsTo x (min x.length 30)) := by
  have hl : LoopN.res L_hauberklaw04_Items_3 (x, [], 0) () = some (0, itemsTo x (min x.length 30), ((min x.length 30 : Nat) : Int)) := by
    unfold LoopN.res
    refine runL_count (turn := L_hauberklaw04_Items_3.turn (x, [], 0) ()) (fun k => (itemsTo x k, (k : Int))) (0, (itemsTo x (min x.length 30), ((min x.length 30 : Nat) : Int))) (n := min x.length 30) (fun k hk => ?_) ?_ (min x.length 30) 0 (by omega) 31 (by omega)
    · have h1 : k < x.length := by omega
      have h2 := itemsTo_len x k
      refine (val_yes ?_).trans ((val_opt (items_in x (itemsTo x k) k h1 (by omega))).trans ?_)
      · rw [Bool.and_eq_true]
        exact ⟨dec_true (show (k : Int) < lenI x by simp only [lenI]; omega), dec_true (show (k : Int) < 30 by omega)⟩
      · dsimp only
        rw [w64_id (n := (k : Int) + 1) (by omega) (by omega)]
        rfl
    · refine (val_no ?_).trans rfl
      rw [Bool.and_eq_false_iff]
      by_cases h : x.length ≤ 30
      · exact .inl (dec_false (show ¬ ((min x.length 30 : Nat) : Int) < lenI x by simp only [lenI]; omega))
      · exact .inr (dec_false (show ¬ ((min x.length 30 : Nat) : Int) < 30 by omega))
  exact (val_opt hl).trans rfl

theorem items_run (x : List tRun.den) (hx : x.length ≤ 9223372036854775807) : G_hauberklaw04_Items x = true ∧ (V_hauberklaw04_Items x).length ≤ 21000 := by
  have h := items_val x hx
  refine ⟨by unfold G_hauberklaw04_Items; rw [h]; rfl, ?_⟩
  have e : V_hauberklaw04_Items x = itemsTo x (min x.length 30) := by unfold V_hauberklaw04_Items PO.getO; rw [h]; rfl
  rw [e]
  have := itemsTo_len x (min x.length 30)
  omega
end Go.Av
/-! Where items lie: the program and the document alike. -/
namespace Go.Av
open Go

abbrev itemAt (it : List tItem.den) (i : Nat) : tItem.den := List.getD it i (Ty.dflt tItem)
def wd (ws : List Bool) (i : Nat) : Bool := List.getD ws i false
/-- An item's size. -/
def sizeJ (j : tItem.den) (w : Bool) : Int := bif j.1 == 0 then V_thumb_Size j.2.2.1 else bif j.1 == 2 then (bif w then 4 else 2) else 0
theorem size_bound (x : tIns.den) (n : Int) (h : V_thumb_Size x = n) : 0 ≤ n ∧ n ≤ 4 := by
  subst h
  unfold V_thumb_Size
  cases (V_thumb_Check x != 0) <;> cases isLong x.1 x.2.2.2.2.2.2.2.1 <;> exact ⟨by decide, by decide⟩
theorem sizeJ_bound (j : tItem.den) (w : Bool) : 0 ≤ sizeJ j w ∧ sizeJ j w ≤ 4 := by
  unfold sizeJ
  cases (j.1 == (0 : Int))
  · cases (j.1 == (2 : Int)) <;> cases w <;> simp
  · exact size_bound j.2.2.1 _ rfl
/-- Where an item lies. -/
def posM (it : List tItem.den) (b : Int) (ws : List Bool) : Nat → Int
  | 0 => b
  | i + 1 => posM it b ws i + sizeJ (itemAt it i) (wd ws i)
theorem pos_bound (it : List tItem.den) (b : Int) (ws : List Bool) : ∀ i : Nat, b ≤ posM it b ws i ∧ posM it b ws i ≤ b + 4 * (i : Int)
  | 0 => ⟨by simp [posM], by simp [posM]⟩
  | i + 1 => by
    obtain ⟨h1, h2⟩ := pos_bound it b ws i
    obtain ⟨h3, h4⟩ := sizeJ_bound (itemAt it i) (wd ws i)
    simp only [posM]
    omega
def layTo (it : List tItem.den) (b : Int) (ws : List Bool) (n : Nat) : List Int := (List.range n).map (posM it b ws)
theorem layTo_len (it : List tItem.den) (b : Int) (ws : List Bool) (n : Nat) : (layTo it b ws n).length = n := by simp [layTo]
theorem layTo_succ (it : List tItem.den) (b : Int) (ws : List Bool) (n : Nat) : layTo it b ws n ++ [posM it b ws n] = layTo it b ws (n + 1) := by simp [layTo, List.range_succ]
def layM (it : List tItem.den) (b : Int) (ws : List Bool) : List Int := layTo it b ws (List.length it + 1)

theorem isWide_val (ws : List Bool) (i : Nat) : (T_asm_isWide (ws, (i : Int))).val = some (wd ws i) := by
  by_cases h : i < ws.length
  · have h1 : decide ((i : Int) < lenI ws) = true := dec_true (by simp only [lenI]; omega)
    refine (val_yes ?_).trans ?_
    · show (bif decide ((i : Int) < lenI ws) then inRange (i : Int) (List.length ws) else true) = true
      rw [h1]
      exact inR h
    · show some (decide ((i : Int) < lenI ws) && List.getD ws (Int.toNat (i : Int)) false) = some (wd ws i)
      rw [h1]
      rfl
  · have h1 : decide ((i : Int) < lenI ws) = false := dec_false (by simp only [lenI]; omega)
    refine (val_yes ?_).trans ?_
    · show (bif decide ((i : Int) < lenI ws) then inRange (i : Int) (List.length ws) else true) = true
      rw [h1]
      rfl
    · show some (decide ((i : Int) < lenI ws) && List.getD ws (Int.toNat (i : Int)) false) = some (wd ws i)
      have hw : wd ws i = false := by
        unfold wd
        rw [List.getD_eq_getElem?_getD, List.getElem?_eq_none (by omega)]
        rfl
      rw [h1, hw]
      rfl
theorem isWide_run (ws : List Bool) (i : Nat) : G_asm_isWide (ws, (i : Int)) = true ∧ V_asm_isWide (ws, (i : Int)) = wd ws i := by
  have h := isWide_val ws i
  exact ⟨by unfold G_asm_isWide; rw [h]; rfl, by unfold V_asm_isWide PO.getO; rw [h]; rfl⟩

section
variable (it : List tItem.den) (b : Int) (ws : List Bool) (hn : it.length ≤ 21000) (hb : 0 ≤ b ∧ b ≤ 262144)
include hn hb
omit hb in
theorem fits8 {k : Nat} (hk : k ≤ it.length) : Nat.ble ((List.length (layTo it b ws k) + 1) * 8) 140737488355328 = true := by
  refine Nat.ble_eq_true_of_le ?_
  rw [layTo_len]
  omega

theorem alay_val : (T_asm_Lay (it, b, ws)).val = some (layM it b ws) := by
  have hl : LoopN.res L_asm_Lay_3 (b, ws, [], it, lenI it, 0) () = some (0, posM it b ws it.length, layTo it b ws it.length, (it.length : Int)) := by
    unfold LoopN.res
    refine runL_count (turn := L_asm_Lay_3.turn (b, ws, [], it, lenI it, 0) ()) (fun k => (posM it b ws k, layTo it b ws k, (k : Int))) (0, (posM it b ws it.length, layTo it b ws it.length, (it.length : Int))) (n := it.length) (fun k hk => ?_) ?_ it.length 0 (by omega) _ (Nat.lt_succ_self _)
    · obtain ⟨h1, h2⟩ := isWide_run ws k
      have h3 := pos_bound it b ws k
      have h4 := size_bound (itemAt it k).2.2.1 _ rfl
      refine (val_yes (dec_true (show (k : Int) < lenI it by simp only [lenI]; omega))).trans ((val_yes (inR hk)).trans ((val_yes (fits8 it b ws hn (Nat.le_of_lt hk))).trans ((val_yes ?_).trans ?_)))
      · show ((itemAt it k).1 == 0 || bif (itemAt it k).1 == 2 then G_asm_isWide (ws, (k : Int)) else true) = true
        rw [h1]
        cases ((itemAt it k).1 == (0 : Int)) <;> cases ((itemAt it k).1 == (2 : Int)) <;> rfl
      · show some (TL.on (bif (itemAt it k).1 == 0 then w64 (posM it b ws k + V_thumb_Size (itemAt it k).2.2.1) else bif (itemAt it k).1 == 2 && V_asm_isWide (ws, (k : Int)) then w64 (posM it b ws k + 4) else bif (itemAt it k).1 == 2 then w64 (posM it b ws k + 2) else posM it b ws k, layTo it b ws k ++ [posM it b ws k], w64 ((k : Int) + 1))) = some (TL.on (posM it b ws (k + 1), layTo it b ws (k + 1), ((k + 1 : Nat) : Int)))
        rw [h2, w64_id (n := (k : Int) + 1) (by omega) (by omega), layTo_succ, w64_id (n := posM it b ws k + 4) (by omega) (by omega), w64_id (n := posM it b ws k + 2) (by omega) (by omega), w64_id (n := posM it b ws k + V_thumb_Size (itemAt it k).2.2.1) (by omega) (by omega)]
        have e : (bif (itemAt it k).1 == 0 then posM it b ws k + V_thumb_Size (itemAt it k).2.2.1 else bif (itemAt it k).1 == 2 && wd ws k then posM it b ws k + 4 else bif (itemAt it k).1 == 2 then posM it b ws k + 2 else posM it b ws k) = posM it b ws (k + 1) := by
          show _ = posM it b ws k + sizeJ (itemAt it k) (wd ws k)
          unfold sizeJ
          cases ((itemAt it k).1 == (0 : Int)) <;> cases ((itemAt it k).1 == (2 : Int)) <;> cases wd ws k <;> simp
        rw [e]
        rfl
    · exact (val_no (dec_false (show ¬ ((it.length : Nat) : Int) < lenI it by simp only [lenI]; omega))).trans rfl
  refine (val_yes ?_).trans ((val_opt hl).trans ((val_yes (fits8 it b ws hn (Nat.le_refl _))).trans ?_))
  · show roomOk (w64 (lenI it + 1)) 8 = true
    rw [w64_id (by simp only [lenI]; omega) (by simp only [lenI]; omega)]
    simp only [roomOk, lenI]
    simp
    omega
  · show some (layTo it b ws it.length ++ [posM it b ws it.length]) = _
    rw [layTo_succ]
    rfl
theorem alay_run : G_asm_Lay (it, b, ws) = true ∧ V_asm_Lay (it, b, ws) = layM it b ws := by
  have h := alay_val it b ws hn hb
  exact ⟨by unfold G_asm_Lay; rw [h]; rfl, by unfold V_asm_Lay PO.getO; rw [h]; rfl⟩
end
end Go.Av
/-! Loops that look for a first one; labels. -/
namespace Go.Av
open Go

/-- The first of the numbers below n that p holds of. -/
def firstP (p : Nat → Bool) : Nat → Option Nat
  | 0 => none
  | n + 1 => match firstP p n with
    | some j => some j
    | none => bif p n then some n else none
theorem firstP_some {p : Nat → Bool} : ∀ {n k : Nat}, firstP p n = some k → k < n ∧ p k = true ∧ ∀ i, i < k → p i = false
  | 0, _, h => by cases h
  | n + 1, k, h => by
    simp only [firstP] at h
    cases e : firstP p n with
    | some j =>
      rw [e] at h
      cases h
      obtain ⟨h1, h2⟩ := firstP_some e
      exact ⟨by omega, h2⟩
    | none =>
      rw [e] at h
      cases hp : p n with
      | false => rw [hp] at h; cases h
      | true =>
        rw [hp] at h
        cases h
        refine ⟨Nat.lt_succ_self _, hp, fun i hi => ?_⟩
        exact firstP_none e i hi
 where firstP_none {p : Nat → Bool} : ∀ {n : Nat}, firstP p n = none → ∀ i, i < n → p i = false
  | 0, _, _, h => absurd h (Nat.not_lt_zero _)
  | n + 1, h, i, hi => by
    simp only [firstP] at h
    cases e : firstP p n with
    | some j => rw [e] at h; cases h
    | none =>
      rw [e] at h
      cases hp : p n with
      | true => rw [hp] at h; cases h
      | false =>
        rcases Nat.lt_or_ge i n with h' | h'
        · exact firstP_none e i h'
        · rw [show i = n by omega]; exact hp
theorem firstP_none {p : Nat → Bool} {n : Nat} (h : firstP p n = none) : ∀ i, i < n → p i = false := firstP_some.firstP_none h
theorem scan_run {σ : Type} {turn : σ → PO (TL σ)} (st : Nat → σ) (p : Nat → Bool) (n : Nat) (e : Nat → Nat × σ) (r : Nat × σ)
    (hon : ∀ i, i < n → (∀ j, j < i → p j = false) → p i = false → (turn (st i)).val = some (.on (st (i + 1))))
    (hbad : ∀ i, i < n → (∀ j, j < i → p j = false) → p i = true → (turn (st i)).val = some (.out (e i).1 (e i).2))
    (hend : (∀ j, j < n → p j = false) → (turn (st n)).val = some (.out r.1 r.2)) (f : Nat) (hf : n < f) :
    runL turn f (st 0) = some (match firstP p n with
      | some k => e k
      | none => r) := by
  cases h : firstP p n with
  | some k =>
    obtain ⟨h1, h2, h3⟩ := firstP_some h
    exact runL_count st (e k) (n := k) (fun i hi => hon i (by omega) (fun j hj => h3 j (by omega)) (h3 i hi)) (hbad k h1 h3 h2) k 0 (by omega) f (by omega)
  | none =>
    have h3 := firstP_none h
    exact runL_count st r (n := n) (fun i hi => hon i hi (fun j hj => h3 j (by omega)) (h3 i hi)) (hend h3) n 0 (by omega) f hf

/-! ### Labels -/
theorem mget_mput (l : Int) (k v : Int) : ∀ m : List (Int × Int), mget (mput m k v) l = bif l == k then some v else mget m l
  | [] => by simp only [mput, mget]
  | (j, u) :: m => by
    simp only [mput]
    cases hk : (k == j)
    · simp only [cond_false, mget]
      rw [mget_mput l k v m]
      cases hl : (l == j)
      · rfl
      · cases hlk : (l == k)
        · rfl
        · have h1 : l = j := by simpa using hl
          have h2 : l = k := by simpa using hlk
          rw [← h1, ← h2] at hk
          simp at hk
    · have h1 : k = j := by simpa using hk
      subst h1
      simp only [cond_true, mget]
      cases (l == k) <;> rfl

def isLab (it : List tItem.den) (l : Int) (i : Nat) : Bool := (itemAt it i).1 == 1 && (itemAt it i).2.1 == l
/-- A label that has been there before. -/
def dupAt (it : List tItem.den) (i : Nat) : Bool := (itemAt it i).1 == 1 && (firstP (isLab it (itemAt it i).2.1) i).isSome
def mapTo (it : List tItem.den) : Nat → List (Int × Int)
  | 0 => []
  | k + 1 => bif (itemAt it k).1 == 1 then mput (mapTo it k) (itemAt it k).2.1 (k : Int) else mapTo it k
theorem map_get (it : List tItem.den) (l : Int) : ∀ n : Nat, (∀ i, i < n → dupAt it i = false) → mget (mapTo it n) l = (firstP (isLab it l) n).map fun k : Nat => (k : Int)
  | 0, _ => rfl
  | n + 1, h => by
    have ih := map_get it l n (fun i hi => h i (by omega))
    have hd := h n (Nat.lt_succ_self n)
    simp only [mapTo, firstP]
    unfold dupAt at hd
    cases h1 : ((itemAt it n).1 == (1 : Int))
    · have hl : isLab it l n = false := by unfold isLab; rw [h1]; rfl
      rw [hl, cond_false, ih]
      cases firstP (isLab it l) n <;> rfl
    · rw [h1, Bool.true_and] at hd
      rw [cond_true, mget_mput]
      cases h2 : (l == (itemAt it n).2.1)
      · have hl : isLab it l n = false := by
          unfold isLab
          have : ((itemAt it n).2.1 == l) = false := by
            rw [beq_eq_false_iff_ne] at h2 ⊢
            exact fun e => h2 e.symm
          rw [this, Bool.and_false]
        rw [hl, cond_false, ih]
        cases firstP (isLab it l) n <;> rfl
      · have e : l = (itemAt it n).2.1 := by simpa using h2
        subst e
        have hl : isLab it (itemAt it n).2.1 n = true := by
          unfold isLab
          rw [h1]
          simp
        cases hf : firstP (isLab it (itemAt it n).2.1) n with
        | some j => rw [hf] at hd; cases hd
        | none => rw [hl]; rfl

end Go.Av
/-! What is wrong with items: as the document says it. -/
namespace Go.Av
open Go

def badJ (it : List tItem.den) (i : Nat) : Bool := !V_asm_item (itemAt it i)
def chkAt (it : List tItem.den) (i : Nat) : Bool := (itemAt it i).1 == 0 && V_thumb_Check (itemAt it i).2.2.1 != 0
def missAt (it : List tItem.den) (i : Nat) : Bool := (itemAt it i).1 == 2 && (firstP (isLab it (itemAt it i).2.1) it.length).isNone
def allT (it : List tItem.den) : List Bool := List.replicate it.length true
def baseBad (b : Int) : Bool := decide (b < 0) || (decide (b > 262144) || Int.tmod b 2 != 0)
/-- What is wrong, or 0. -/
def codeM (it : List tItem.den) (b : Int) : Int := bif baseBad b then 2 else match firstP (badJ it) it.length with
  | some _ => 2
  | none => match firstP (chkAt it) it.length with
    | some k => V_thumb_Check (itemAt it k).2.2.1
    | none => match firstP (dupAt it) it.length with
      | some _ => 13
      | none => match firstP (missAt it) it.length with
        | some _ => 12
        | none => bif decide (posM it 0 (allT it) it.length > 262144) then 5 else 0

section
variable (it : List tItem.den) (hn : it.length ≤ 21000)
include hn
omit hn in
end
end Go.Av
/-! What is wrong with items: the program's check. -/
namespace Go.Av
open Go

section
variable (it : List tItem.den) (b : Int) (w : (Nat × Nat) × Unit) (zs : List Bool) (hn : it.length ≤ 21000)
include hn
/-- What the items alone tell. -/
def codeI (it : List tItem.den) : Int := match firstP (badJ it) it.length with
  | some _ => 2
  | none => match firstP (chkAt it) it.length with
    | some k => V_thumb_Check (itemAt it k).2.2.1
    | none => 0
def codeN (it : List tItem.den) : Int := match firstP (dupAt it) it.length with
  | some _ => 13
  | none => match firstP (missAt it) it.length with
    | some _ => 12
    | none => 0
theorem items2 (m : List (Int × Int)) : LoopN.res L_asm_assembler_items_2 ((), 0, it, lenI it, 0) ((it, b, (), w), m, zs) = some (match firstP (badJ it) it.length with
    | some k => (1, (2, (k : Int), (it, b, (), w), m, zs))
    | none => (0, (0, (it.length : Int), (it, b, (), w), m, zs))) := by
  unfold LoopN.res
  refine scan_run (turn := L_asm_assembler_items_2.turn ((), 0, it, lenI it, 0) ((it, b, (), w), m, zs)) (fun i => ((0 : Int), (i : Int), (it, b, (), w), m, zs)) (badJ it) it.length (fun k => (1, (2, (k : Int), (it, b, (), w), m, zs))) (0, (0, (it.length : Int), (it, b, (), w), m, zs)) (fun i hi _ hp => ?_) (fun i hi _ hp => ?_) (fun _ => ?_) _ (Nat.lt_succ_self _)
  · refine (val_yes (dec_true (show (i : Int) < lenI it by simp only [lenI]; omega))).trans ((val_yes (inR hi)).trans ((val_no hp).trans ?_))
    dsimp only
    rw [w64_id (n := (i : Int) + 1) (by omega) (by omega)]
    rfl
  · exact (val_yes (dec_true (show (i : Int) < lenI it by simp only [lenI]; omega))).trans ((val_yes (inR hi)).trans ((val_yes hp).trans rfl))
  · exact (val_no (dec_false (show ¬ ((it.length : Nat) : Int) < lenI it by simp only [lenI]; omega))).trans rfl

theorem items8 : LoopN.res L_asm_assembler_items_8 (0, it, lenI it, 0) () = some (match firstP (chkAt it) it.length with
    | some k => (1, (V_thumb_Check (itemAt it k).2.2.1, (k : Int)))
    | none => (0, (0, (it.length : Int)))) := by
  unfold LoopN.res
  refine scan_run (turn := L_asm_assembler_items_8.turn (0, it, lenI it, 0) ()) (fun i => ((0 : Int), (i : Int))) (chkAt it) it.length (fun k => (1, (V_thumb_Check (itemAt it k).2.2.1, (k : Int)))) (0, (0, (it.length : Int))) (fun i hi _ hp => ?_) (fun i hi _ hp => ?_) (fun _ => ?_) _ (Nat.lt_succ_self _)
  · refine (val_yes (dec_true (show (i : Int) < lenI it by simp only [lenI]; omega))).trans ((val_yes (inR hi)).trans ?_)
    unfold chkAt at hp
    cases h0 : ((itemAt it i).1 == (0 : Int))
    · refine (val_yes (show ((itemAt it i).1 != (0 : Int)) = true by unfold bne; rw [h0]; rfl)).trans ?_
      dsimp only
      rw [w64_id (n := (i : Int) + 1) (by omega) (by omega)]
      rfl
    · rw [h0, Bool.true_and] at hp
      refine (val_no (show ((itemAt it i).1 != (0 : Int)) = false by unfold bne; rw [h0]; rfl)).trans ((val_no hp).trans ?_)
      dsimp only
      rw [w64_id (n := (i : Int) + 1) (by omega) (by omega)]
      rfl
  · unfold chkAt at hp
    rw [Bool.and_eq_true] at hp
    exact (val_yes (dec_true (show (i : Int) < lenI it by simp only [lenI]; omega))).trans ((val_yes (inR hi)).trans ((val_no (show ((itemAt it i).1 != (0 : Int)) = false by unfold bne; rw [hp.1]; rfl)).trans ((val_yes hp.2).trans rfl)))
  · exact (val_no (dec_false (show ¬ ((it.length : Nat) : Int) < lenI it by simp only [lenI]; omega))).trans rfl

theorem items_ok (m : List (Int × Int)) : G_asm_assembler_items () ((it, b, (), w), m, zs) = true ∧ V_asm_assembler_items () ((it, b, (), w), m, zs) = (codeI it, (it, b, (), w), m, zs) := by
  have h : (T_asm_assembler_items () ((it, b, (), w), m, zs)).val = some (codeI it, (it, b, (), w), m, zs) := by
    refine (val_opt (items2 it b w zs hn m)).trans ?_
    unfold codeI
    cases firstP (badJ it) it.length with
    | some k => rfl
    | none =>
      refine (val_yes rfl).trans ((val_opt (items8 it hn)).trans ?_)
      cases firstP (chkAt it) it.length with
      | some k => rfl
      | none => rfl
  exact ⟨by unfold G_asm_assembler_items; rw [h]; rfl, by unfold V_asm_assembler_items PO.getO; rw [h]; rfl⟩

theorem names2 : LoopN.res L_asm_assembler_names_2 ((), 0, it, lenI it, 0) ((it, b, (), w), [], zs) = some (match firstP (dupAt it) it.length with
    | some k => (1, (13, (k : Int), (it, b, (), w), mapTo it k, zs))
    | none => (0, (0, (it.length : Int), (it, b, (), w), mapTo it it.length, zs))) := by
  unfold LoopN.res
  refine scan_run (turn := L_asm_assembler_names_2.turn ((), 0, it, lenI it, 0) ((it, b, (), w), [], zs)) (fun i => ((0 : Int), (i : Int), (it, b, (), w), mapTo it i, zs)) (dupAt it) it.length (fun k => (1, (13, (k : Int), (it, b, (), w), mapTo it k, zs))) (0, (0, (it.length : Int), (it, b, (), w), mapTo it it.length, zs)) (fun i hi hb hp => ?_) (fun i hi hb hp => ?_) (fun _ => ?_) _ (Nat.lt_succ_self _)
  · refine (val_yes (dec_true (show (i : Int) < lenI it by simp only [lenI]; omega))).trans ((val_yes (inR hi)).trans ?_)
    unfold dupAt at hp
    cases h1 : ((itemAt it i).1 == (1 : Int))
    · refine (val_yes (show ((itemAt it i).1 != (1 : Int)) = true by unfold bne; rw [h1]; rfl)).trans ?_
      dsimp only
      have hm : mapTo it (i + 1) = mapTo it i := by simp only [mapTo, h1, cond_false]
      rw [w64_id (n := (i : Int) + 1) (by omega) (by omega), hm]
      rfl
    · rw [h1, Bool.true_and] at hp
      refine (val_no (show ((itemAt it i).1 != (1 : Int)) = false by unfold bne; rw [h1]; rfl)).trans ((val_no ?_).trans ?_)
      · show mhas (mapTo it i) (itemAt it i).2.1 = false
        unfold mhas
        rw [map_get it _ i hb, Option.isSome_map]
        exact hp
      · dsimp only
        have hm : mapTo it (i + 1) = mput (mapTo it i) (itemAt it i).2.1 (i : Int) := by simp only [mapTo, h1, cond_true]
        rw [w64_id (n := (i : Int) + 1) (by omega) (by omega), hm]
        rfl
  · unfold dupAt at hp
    rw [Bool.and_eq_true] at hp
    refine (val_yes (dec_true (show (i : Int) < lenI it by simp only [lenI]; omega))).trans ((val_yes (inR hi)).trans ((val_no (show ((itemAt it i).1 != (1 : Int)) = false by unfold bne; rw [hp.1]; rfl)).trans ((val_yes ?_).trans rfl)))
    show mhas (mapTo it i) (itemAt it i).2.1 = true
    unfold mhas
    rw [map_get it _ i hb, Option.isSome_map]
    exact hp.2
  · exact (val_no (dec_false (show ¬ ((it.length : Nat) : Int) < lenI it by simp only [lenI]; omega))).trans rfl

theorem names11 (hd : ∀ i, i < it.length → dupAt it i = false) : LoopN.res L_asm_assembler_names_11 ((), 0, it, lenI it, 0) ((it, b, (), w), mapTo it it.length, zs) = some (match firstP (missAt it) it.length with
    | some k => (1, (12, (k : Int), (it, b, (), w), mapTo it it.length, zs))
    | none => (0, (0, (it.length : Int), (it, b, (), w), mapTo it it.length, zs))) := by
  unfold LoopN.res
  have ht : ∀ i, ((itemAt it i).1 == 2 && !mhas (mapTo it it.length) (itemAt it i).2.1) = missAt it i := fun i => by
    unfold missAt mhas
    rw [map_get it _ it.length hd, Option.isSome_map]
    cases firstP (isLab it (itemAt it i).2.1) it.length <;> rfl
  refine scan_run (turn := L_asm_assembler_names_11.turn ((), 0, it, lenI it, 0) ((it, b, (), w), mapTo it it.length, zs)) (fun i => ((0 : Int), (i : Int), (it, b, (), w), mapTo it it.length, zs)) (missAt it) it.length (fun k => (1, (12, (k : Int), (it, b, (), w), mapTo it it.length, zs))) (0, (0, (it.length : Int), (it, b, (), w), mapTo it it.length, zs)) (fun i hi _ hp => ?_) (fun i hi _ hp => ?_) (fun _ => ?_) _ (Nat.lt_succ_self _)
  · refine (val_yes (dec_true (show (i : Int) < lenI it by simp only [lenI]; omega))).trans ((val_yes (inR hi)).trans ((val_no ((ht i).trans hp)).trans ?_))
    dsimp only
    rw [w64_id (n := (i : Int) + 1) (by omega) (by omega)]
    rfl
  · exact (val_yes (dec_true (show (i : Int) < lenI it by simp only [lenI]; omega))).trans ((val_yes (inR hi)).trans ((val_yes ((ht i).trans hp)).trans rfl))
  · exact (val_no (dec_false (show ¬ ((it.length : Nat) : Int) < lenI it by simp only [lenI]; omega))).trans rfl

theorem names_ok : ∃ m, G_asm_assembler_names () ((it, b, (), w), [], zs) = true ∧ V_asm_assembler_names () ((it, b, (), w), [], zs) = (codeN it, (it, b, (), w), m, zs) ∧ (codeN it = 0 → m = mapTo it it.length) := by
  have h : ∃ m, (T_asm_assembler_names () ((it, b, (), w), [], zs)).val = some (codeN it, (it, b, (), w), m, zs) ∧ (codeN it = 0 → m = mapTo it it.length) := by
    have e2 := names2 it b w zs hn
    unfold codeN
    cases hf : firstP (dupAt it) it.length with
    | some k =>
      rw [hf] at e2
      exact ⟨mapTo it k, (val_opt e2).trans rfl, fun h => by cases h⟩
    | none =>
      rw [hf] at e2
      have e11 := names11 it b w zs hn (firstP_none hf)
      refine ⟨mapTo it it.length, (val_opt e2).trans ((val_yes rfl).trans ((val_opt e11).trans ?_)), fun _ => rfl⟩
      cases firstP (missAt it) it.length with
      | some k => rfl
      | none => rfl
  obtain ⟨m, h, hm⟩ := h
  exact ⟨m, by unfold G_asm_assembler_names; rw [h]; rfl, by unfold V_asm_assembler_names PO.getO; rw [h]; rfl, hm⟩

theorem great3 (m : List (Int × Int)) : LoopN.res L_asm_assembler_great_3 ((), (0, it.length), (it.length : Int), 0) ((it, b, (), w), List.replicate it.length false, m, zs) = some (0, ((it.length : Int), (it, b, (), w), List.replicate it.length true, m, zs)) := by
  unfold LoopN.res
  have hlen : (List.replicate it.length false).length = it.length := by simp
  have key := runL_count (turn := L_asm_assembler_great_3.turn ((), (0, it.length), (it.length : Int), 0) ((it, b, (), w), List.replicate it.length false, m, zs)) (fun k => ((k : Int), (it, b, (), w), List.replicate k true ++ List.replicate (it.length - k) false, m, zs)) (0, ((it.length : Int), (it, b, (), w), List.replicate it.length true, m, zs)) (n := it.length) (fun k hk => ?_) ?_ it.length 0 (by omega) (List.length (List.replicate it.length false) + 1) (by simp)
  · exact key
  · refine (val_yes (dec_true (show (k : Int) < (it.length : Int) by omega))).trans ((val_yes (inR hk)).trans ?_)
    dsimp only
    have hs : List.set (List.replicate k true ++ List.replicate (it.length - k) false) (nplus 0 (k : Int)) true = List.replicate (k + 1) true ++ List.replicate (it.length - (k + 1)) false := by
      unfold nplus
      rw [Int.toNat_natCast, Nat.zero_add, List.set_append_right _ _ (by simp), List.length_replicate, Nat.sub_self]
      obtain ⟨r, hr⟩ : ∃ r, it.length - k = r + 1 := ⟨it.length - k - 1, by omega⟩
      rw [hr, List.replicate_succ, List.set_cons_zero, show it.length - (k + 1) = r by omega, List.replicate_succ', List.append_assoc]
      rfl
    rw [hs, w64_id (n := (k : Int) + 1) (by omega) (by omega)]
    rfl
  · refine (val_no (dec_false (show ¬ ((it.length : Nat) : Int) < (it.length : Int) by omega))).trans ?_
    dsimp only
    rw [Nat.sub_self]
    simp
    rfl

theorem great_ok (m : List (Int × Int)) : G_asm_assembler_great () ((it, b, (), w), m, zs) = true ∧ V_asm_assembler_great () ((it, b, (), w), m, zs) = (decide (posM it 0 (allT it) it.length > 262144), (it, b, (), w), m, zs) := by
  have e1 : nspan 0 (lenI it) = it.length := by simp [nspan, lenI]
  have e2 : zeros (lenI it) false = List.replicate it.length false := by simp [zeros, lenI]
  have e3 : shown (List.replicate it.length true) (0, it.length) = allT it := by simp [shown, allT]
  obtain ⟨l1, l2⟩ := alay_run it 0 (allT it) hn (by omega)
  have hlen : (layM it 0 (allT it)).length = it.length + 1 := layTo_len _ _ _ _
  have hget : List.getD (layM it 0 (allT it)) it.length 0 = posM it 0 (allT it) it.length := by
    unfold layM layTo
    rw [List.getD_eq_getElem?_getD, List.getElem?_map, List.getElem?_range (Nat.lt_succ_self _)]
    rfl
  have h : (T_asm_assembler_great () ((it, b, (), w), m, zs)).val = some (decide (posM it 0 (allT it) it.length > 262144), (it, b, (), w), m, zs) := by
    unfold T_asm_assembler_great
    dsimp only
    rw [e1, e2]
    refine (val_yes ?_).trans ((val_opt (great3 it b w zs hn m)).trans ?_)
    · simp only [roomOk, lenI]
      simp
      omega
    · dsimp only
      rw [e3, l1, l2, hlen]
      refine (val_yes ?_).trans ?_
      · rw [Bool.true_and]
        exact inR (Nat.lt_succ_self _)
      · show some (decide (List.getD (layM it 0 (allT it)) (Int.toNat (it.length : Int)) 0 > 262144), (it, b, (), w), m, zs) = _
        rw [Int.toNat_natCast, hget]
  exact ⟨by unfold G_asm_assembler_great; rw [h]; rfl, by unfold V_asm_assembler_great PO.getO; rw [h]; rfl⟩

theorem check_ran : ∃ m, G_asm_assembler_check () ((it, b, (), w), [], zs) = true ∧ V_asm_assembler_check () ((it, b, (), w), [], zs) = (codeM it b, (it, b, (), w), m, zs) ∧ (codeM it b = 0 → m = mapTo it it.length) := by
  have h : ∃ m, (T_asm_assembler_check () ((it, b, (), w), [], zs)).val = some (codeM it b, (it, b, (), w), m, zs) ∧ (codeM it b = 0 → m = mapTo it it.length) := by
    obtain ⟨i1, i2⟩ := items_ok it b w zs hn []
    obtain ⟨m, n1, n2, n3⟩ := names_ok it b w zs hn
    obtain ⟨g1, g2⟩ := great_ok it b w zs hn m
    unfold T_asm_assembler_check
    dsimp only
    rw [i2]
    dsimp only
    rw [n2]
    dsimp only
    rw [g2]
    dsimp only
    have hbase : (decide (b < 0) || (decide (b > 262144) || band IntKind.i64 b 1 != 0)) = baseBad b := by
      unfold baseBad
      rw [even_i64]
    cases hb : baseBad b
    · have hc : codeM it b = bif codeI it != 0 then codeI it else bif codeN it != 0 then codeN it else bif decide (posM it 0 (allT it) it.length > 262144) then 5 else 0 := by
        unfold codeM codeI codeN
        rw [hb, cond_false]
        cases firstP (badJ it) it.length with
        | some k => rfl
        | none =>
          cases hf : firstP (chkAt it) it.length with
          | some k =>
            obtain ⟨_, hk, _⟩ := firstP_some hf
            unfold chkAt at hk
            rw [Bool.and_eq_true] at hk
            dsimp only
            rw [hk.2]
            rfl
          | none =>
            cases firstP (dupAt it) it.length with
            | some k => rfl
            | none =>
              cases firstP (missAt it) it.length with
              | some k => rfl
              | none => rfl
      rw [hc]
      cases hi : (codeI it != 0)
      · cases hm : (codeN it != 0)
        · have hn0 : codeN it = 0 := by simpa using hm
          refine ⟨m, (val_no (hbase.trans hb)).trans ((val_yes i1).trans ((val_no rfl).trans ((val_yes n1).trans ((val_no rfl).trans ((val_yes g1).trans ?_))))), fun _ => n3 hn0⟩
          cases hg : decide (posM it 0 (allT it) it.length > 262144) <;> rfl
        · exact ⟨m, (val_no (hbase.trans hb)).trans ((val_yes i1).trans ((val_no rfl).trans ((val_yes n1).trans ((val_yes rfl).trans rfl)))), fun h => by
            rw [cond_false, cond_true] at h
            rw [h] at hm
            cases hm⟩
      · exact ⟨[], (val_no (hbase.trans hb)).trans ((val_yes i1).trans ((val_yes rfl).trans rfl)), fun h => by
          rw [cond_true] at h
          rw [h] at hi
          cases hi⟩
    · have hc : codeM it b = 2 := by
        unfold codeM
        rw [hb]
        rfl
      rw [hc]
      exact ⟨[], (val_yes (hbase.trans hb)).trans rfl, fun h => by cases h⟩
  obtain ⟨m, h, hm⟩ := h
  exact ⟨m, by unfold G_asm_assembler_check; rw [h]; rfl, by unfold V_asm_assembler_check PO.getO; rw [h]; rfl, hm⟩
end
end Go.Av
/-! Branches made wide: one pass. -/
namespace Go.Av
open Go

def cntT : List Bool → Nat
  | [] => 0
  | x :: l => (bif x then 1 else 0) + cntT l
theorem cntT_le : ∀ l : List Bool, cntT l ≤ l.length
  | [] => Nat.le_refl _
  | x :: l => by
    have := cntT_le l
    simp only [cntT, List.length_cons]
    cases x <;> simp only [cond_true, cond_false] <;> omega
theorem cntT_set : ∀ (l : List Bool) (i : Nat), i < l.length → wd l i = false → cntT (l.set i true) = cntT l + 1
  | [], _, h, _ => absurd h (Nat.not_lt_zero _)
  | x :: l, 0, _, h => by
    have : x = false := h
    subst this
    simp only [List.set_cons_zero, cntT, cond_true, cond_false]
    omega
  | x :: l, i + 1, h, hw => by
    have h1 : i < l.length := by simpa using h
    have h2 : wd l i = false := hw
    simp only [List.set_cons_succ, cntT]
    rw [cntT_set l i h1 h2]
    omega

def tgt (it : List tItem.den) (i : Nat) : Nat := (firstP (isLab it (itemAt it i).2.1) it.length).getD 0
def offM (it : List tItem.den) (b : Int) (ws : List Bool) (i : Nat) : Int := posM it b ws (tgt it i) - posM it b ws i - 4
def outR (it : List tItem.den) (b : Int) (ws : List Bool) (i : Nat) : Bool := decide (offM it b ws i < (V_thumb_Reach ((itemAt it i).2.2.1.1, false)).1) || decide (offM it b ws i > (V_thumb_Reach ((itemAt it i).2.2.1.1, false)).2.1)
/-- A pass, up to an item. -/
def passTo (it : List tItem.den) (b : Int) (ws0 : List Bool) : Nat → Bool × List Bool
  | 0 => (false, ws0)
  | i + 1 => bif (itemAt it i).1 != 2 || wd (passTo it b ws0 i).2 i then passTo it b ws0 i else bif outR it b ws0 i then (true, (passTo it b ws0 i).2.set i true) else passTo it b ws0 i
theorem pass_len (it : List tItem.den) (b : Int) (ws0 : List Bool) : ∀ i, (passTo it b ws0 i).2.length = ws0.length
  | 0 => rfl
  | i + 1 => by
    have ih := pass_len it b ws0 i
    simp only [passTo]
    cases ((itemAt it i).1 != (2 : Int) || wd (passTo it b ws0 i).2 i)
    · cases outR it b ws0 i
      · exact ih
      · simp only [cond_true, cond_false, List.length_set]; exact ih
    · exact ih
theorem pass_cnt (it : List tItem.den) (b : Int) (ws0 : List Bool) : ∀ i, i ≤ ws0.length → cntT ws0 + (bif (passTo it b ws0 i).1 then 1 else 0) ≤ cntT (passTo it b ws0 i).2
  | 0, _ => Nat.le_refl _
  | i + 1, hi => by
    have ih := pass_cnt it b ws0 i (by omega)
    have hl := pass_len it b ws0 i
    simp only [passTo]
    cases h1 : ((itemAt it i).1 != (2 : Int) || wd (passTo it b ws0 i).2 i)
    · cases outR it b ws0 i
      · exact ih
      · rw [Bool.or_eq_false_iff] at h1
        simp only [cond_true, cond_false]
        rw [cntT_set _ i (by omega) h1.2]
        omega
    · exact ih
theorem pass_same (it : List tItem.den) (b : Int) (ws0 : List Bool) : ∀ i, (passTo it b ws0 i).1 = false → (passTo it b ws0 i).2 = ws0
  | 0, _ => rfl
  | i + 1, h => by
    have ih := pass_same it b ws0 i
    simp only [passTo] at h ⊢
    cases h1 : ((itemAt it i).1 != (2 : Int) || wd (passTo it b ws0 i).2 i) <;> rw [h1] at h
    · cases h2 : outR it b ws0 i <;> rw [h2] at h
      · exact ih h
      · cases h
    · exact ih h

section
variable (it : List tItem.den) (b : Int) (ws : List Bool) (hn : it.length ≤ 21000) (hb : 0 ≤ b ∧ b ≤ 262144) (hm : ∀ i, i < it.length → missAt it i = false)
include hn hb
omit hn hb in
theorem lay_len : (layM it b ws).length = it.length + 1 := layTo_len _ _ _ _
omit hn hb in
theorem lay_get {i : Nat} (hi : i ≤ it.length) : List.getD (layM it b ws) i 0 = posM it b ws i := by
  unfold layM layTo
  rw [List.getD_eq_getElem?_getD, List.getElem?_map, List.getElem?_range (Nat.lt_succ_of_le hi)]
  rfl
omit hb in
theorem off_w64 {i k : Nat} (hi : i < it.length) (hk : k < it.length) : w64 (w64 (posM it b ws k - posM it b ws i) - 4) = posM it b ws k - posM it b ws i - 4 := by
  have h1 := pos_bound it b ws i
  have h2 := pos_bound it b ws k
  rw [w64_id (n := posM it b ws k - posM it b ws i) (by omega) (by omega), w64_id (by omega) (by omega)]

include hm
omit hn hb in
theorem tgt_some {i : Nat} (hi : i < it.length) (h2 : ((itemAt it i).1 != (2 : Int)) = false) : firstP (isLab it (itemAt it i).2.1) it.length = some (tgt it i) ∧ tgt it i < it.length := by
  have h := hm i hi
  unfold missAt at h
  have h2' : ((itemAt it i).1 == (2 : Int)) = true := by
    unfold bne at h2
    simpa using h2
  rw [h2', Bool.true_and] at h
  cases hf : firstP (isLab it (itemAt it i).2.1) it.length with
  | none => rw [hf] at h; cases h
  | some k =>
    have : tgt it i = k := by unfold tgt; rw [hf]; rfl
    rw [this]
    exact ⟨rfl, (firstP_some hf).1⟩

omit hb in
omit hb in
theorem aoff_run (hd : ∀ i, i < it.length → dupAt it i = false) {i : Nat} (hi : i < it.length) (h2 : ((itemAt it i).1 != (2 : Int)) = false) : G_asm_assembler_offset (it, mapTo it it.length, layM it b ws, (i : Int)) = true ∧ V_asm_assembler_offset (it, mapTo it it.length, layM it b ws, (i : Int)) = offM it b ws i := by
  obtain ⟨t1, t2⟩ := tgt_some it hm hi h2
  have hv : mval (mapTo it it.length) (itemAt it i).2.1 = ((tgt it i : Nat) : Int) := by
    unfold mval
    rw [map_get it _ it.length hd, t1]
    rfl
  constructor
  · show (inRange (i : Int) (List.length it) && (inRange (mval (mapTo it it.length) (itemAt it i).2.1) (List.length (layM it b ws)) && inRange (i : Int) (List.length (layM it b ws)))) = true
    rw [hv, inR hi, lay_len, inR (show i < it.length + 1 by omega), inR (show tgt it i < it.length + 1 by omega)]
    rfl
  · show w64 (w64 (List.getD (layM it b ws) (Int.toNat (mval (mapTo it it.length) (itemAt it i).2.1)) 0 - List.getD (layM it b ws) (Int.toNat (i : Int)) 0) - 4) = _
    rw [hv, Int.toNat_natCast, Int.toNat_natCast, lay_get it b ws (Nat.le_of_lt t2), lay_get it b ws (Nat.le_of_lt hi), off_w64 it b ws hn hi t2]
    rfl
end
end Go.Av
/-! Branches made wide: pass after pass, in the program and in the document. -/
namespace Go.Av
open Go

section
variable (it : List tItem.den) (b : Int) (ws : List Bool) (hn : it.length ≤ 21000) (hb : 0 ≤ b ∧ b ≤ 262144) (hm : ∀ i, i < it.length → missAt it i = false) (hw : ws.length = it.length)
include hn hm hw

omit hn hm hw in
theorem wget (i : Nat) : List.getD (passTo it b ws i).2 (nplus 0 (i : Int)) false = wd (passTo it b ws i).2 i := by
  unfold nplus wd
  rw [Int.toNat_natCast, Nat.zero_add]

theorem asm_pass (hd : ∀ i, i < it.length → dupAt it i = false) : LoopN.res L_asm_assembler_widen_4 ((), layM it b ws, false, it, lenI it, 0) ((it, b, (), ((0, it.length), ())), mapTo it it.length, ws) =
    some (0, ((passTo it b ws it.length).1, (it.length : Int), (it, b, (), ((0, it.length), ())), mapTo it it.length, (passTo it b ws it.length).2)) := by
  unfold LoopN.res
  refine runL_count (turn := L_asm_assembler_widen_4.turn ((), layM it b ws, false, it, lenI it, 0) ((it, b, (), ((0, it.length), ())), mapTo it it.length, ws)) (fun i => ((passTo it b ws i).1, (i : Int), (it, b, (), ((0, it.length), ())), mapTo it it.length, (passTo it b ws i).2)) (0, ((passTo it b ws it.length).1, (it.length : Int), (it, b, (), ((0, it.length), ())), mapTo it it.length, (passTo it b ws it.length).2)) (n := it.length) (fun i hi => ?_) ?_ it.length 0 (by omega) _ (Nat.lt_succ_self _)
  · refine (val_yes (dec_true (show (i : Int) < lenI it by simp only [lenI]; omega))).trans ((val_yes (inR hi)).trans ((val_yes ?_).trans ?_))
    · show ((itemAt it i).1 != 2 || inRange (i : Int) it.length) = true
      rw [inR hi, Bool.or_true]
    cases ht : ((itemAt it i).1 != (2 : Int) || wd (passTo it b ws i).2 i)
    · have h2 := (Bool.or_eq_false_iff.1 ht).1
      obtain ⟨o1, o2⟩ := aoff_run it b ws hn hm hd hi h2
      refine (val_no (show ((itemAt it i).1 != 2 || List.getD (passTo it b ws i).2 (nplus 0 (i : Int)) false) = false by rw [wget it b ws]; exact ht)).trans ((val_yes o1).trans ?_)
      cases ho : outR it b ws i
      · refine (val_no ?_).trans ?_
        · show (decide (V_asm_assembler_offset (it, mapTo it it.length, layM it b ws, (i : Int)) < (V_thumb_Reach ((itemAt it i).2.2.1.1, false)).1) || decide (V_asm_assembler_offset (it, mapTo it it.length, layM it b ws, (i : Int)) > (V_thumb_Reach ((itemAt it i).2.2.1.1, false)).2.1)) = false
          rw [o2]
          exact ho
        · have e : passTo it b ws (i + 1) = passTo it b ws i := by simp only [passTo, ht, ho, cond_false]
          dsimp only
          rw [e, w64_id (n := (i : Int) + 1) (by omega) (by omega)]
          rfl
      · refine (val_yes ?_).trans ((val_yes (inR hi)).trans ?_)
        · show (decide (V_asm_assembler_offset (it, mapTo it it.length, layM it b ws, (i : Int)) < (V_thumb_Reach ((itemAt it i).2.2.1.1, false)).1) || decide (V_asm_assembler_offset (it, mapTo it it.length, layM it b ws, (i : Int)) > (V_thumb_Reach ((itemAt it i).2.2.1.1, false)).2.1)) = true
          rw [o2]
          exact ho
        · have e : passTo it b ws (i + 1) = (true, (passTo it b ws i).2.set (nplus 0 (i : Int)) true) := by
            unfold nplus
            rw [Int.toNat_natCast, Nat.zero_add]
            simp only [passTo, ht, ho, cond_false, cond_true]
          dsimp only
          rw [e, w64_id (n := (i : Int) + 1) (by omega) (by omega)]
          rfl
    · refine (val_yes (show ((itemAt it i).1 != 2 || List.getD (passTo it b ws i).2 (nplus 0 (i : Int)) false) = true by rw [wget it b ws]; exact ht)).trans ?_
      have e : passTo it b ws (i + 1) = passTo it b ws i := by simp only [passTo, ht, cond_true]
      dsimp only
      rw [e, w64_id (n := (i : Int) + 1) (by omega) (by omega)]
      rfl
  · exact (val_no (dec_false (show ¬ ((it.length : Nat) : Int) < lenI it by simp only [lenI]; omega))).trans rfl

include hb
theorem widen_run (hd : ∀ i, i < it.length → dupAt it i = false) : G_asm_assembler_widen () ((it, b, (), ((0, it.length), ())), mapTo it it.length, ws) = true ∧
    V_asm_assembler_widen () ((it, b, (), ((0, it.length), ())), mapTo it it.length, ws) = ((passTo it b ws it.length).1, (it, b, (), ((0, it.length), ())), mapTo it it.length, (passTo it b ws it.length).2) := by
  have e3 : shown ws (0, it.length) = ws := by simp [shown, ← hw]
  obtain ⟨l1, l2⟩ := alay_run it b ws hn hb
  have h : (T_asm_assembler_widen () ((it, b, (), ((0, it.length), ())), mapTo it it.length, ws)).val = some ((passTo it b ws it.length).1, (it, b, (), ((0, it.length), ())), mapTo it it.length, (passTo it b ws it.length).2) := by
    unfold T_asm_assembler_widen
    dsimp only
    rw [e3, l2]
    exact (val_yes l1).trans ((val_opt (asm_pass it b ws hn hm hw hd)).trans rfl)
  exact ⟨by unfold G_asm_assembler_widen; rw [h]; rfl, by unfold V_asm_assembler_widen PO.getO; rw [h]; rfl⟩
end

/-- What is wide after so many passes. -/
def widesAt (it : List tItem.den) (b : Int) : Nat → List Bool
  | 0 => List.replicate it.length false
  | k + 1 => (passTo it b (widesAt it b k) it.length).2
def moreAt (it : List tItem.den) (b : Int) (k : Nat) : Bool := (passTo it b (widesAt it b k) it.length).1
theorem widesAt_len (it : List tItem.den) (b : Int) : ∀ k, (widesAt it b k).length = it.length
  | 0 => by simp [widesAt]
  | k + 1 => by
    simp only [widesAt]
    rw [pass_len, widesAt_len it b k]
theorem widesAt_cnt (it : List tItem.den) (b : Int) : ∀ k, (∀ j, j < k → moreAt it b j = true) → k ≤ cntT (widesAt it b k)
  | 0, _ => Nat.zero_le _
  | k + 1, h => by
    have ih := widesAt_cnt it b k (fun j hj => h j (by omega))
    have h1 := h k (Nat.lt_succ_self k)
    have h2 := pass_cnt it b (widesAt it b k) it.length (by rw [widesAt_len]; exact Nat.le_refl _)
    unfold moreAt at h1
    rw [h1] at h2
    simp only [widesAt]
    simp only [cond_true] at h2
    omega
/-- Passes come to an end. -/
theorem passes_end (it : List tItem.den) (b : Int) : ∃ K, K ≤ it.length ∧ (∀ k, k < K → moreAt it b k = true) ∧ moreAt it b K = false := by
  cases h : firstP (fun k => !moreAt it b k) (it.length + 1) with
  | some K =>
    obtain ⟨h1, h2, h3⟩ := firstP_some h
    exact ⟨K, by omega, fun k hk => by simpa using h3 k hk, by simpa using h2⟩
  | none =>
    have h1 := widesAt_cnt it b (it.length + 1) (fun j hj => by simpa using firstP_none h j hj)
    have h2 := cntT_le (widesAt it b (it.length + 1))
    rw [widesAt_len] at h2
    omega
end Go.Av
/-! Items as bytes: the program and the document alike. -/
namespace Go.Av
open Go

theorem enc_len (x : tIns.den) (v : List UInt8 × Int × Unit) (h : (T_thumb_Encode x).val = some v) : v.1.length ≤ 4 := by
  unfold T_thumb_Encode at h
  cases h1 : (V_thumb_Check x != (0 : Int))
  · replace h := (val_no h1).symm.trans h
    cases h2 : G_thumb_bits x
    · replace h := (val_no h2).symm.trans h
      cases h
    · replace h := (val_yes h2).symm.trans h
      cases h3 : (V_thumb_bits x).2.2.1
      · replace h := (val_no h3).symm.trans h
        cases h
        exact (by decide : 2 ≤ 4)
      · replace h := (val_yes h3).symm.trans h
        replace h := (val_yes (show Nat.ble (List.length (V_thumb_half (V_thumb_bits x).1) + List.length (V_thumb_half (V_thumb_bits x).2.1)) 9223372036854775807 = true from rfl)).symm.trans h
        cases h
        show (V_thumb_half (V_thumb_bits x).1 ++ V_thumb_half (V_thumb_bits x).2.1).length ≤ 4
        rw [List.length_append]
        exact Nat.le_refl 4
  · replace h := (val_yes h1).symm.trans h
    cases h
    exact Nat.zero_le _
/-- An instruction's bytes. -/
def encV (x : tIns.den) : List UInt8 := (V_thumb_Encode x).1
theorem enc_both (x : tIns.den) : G_thumb_Encode x = true ∧ G_hauberkref02_Encode x = true ∧ (V_hauberkref02_Encode x).1 = encV x ∧ (encV x).length ≤ 4 := by
  obtain ⟨op, rd, rn, rm, ra, imm, cond, w, u⟩ := x
  obtain ⟨v, h1, h2⟩ := enc_same op rd rn rm ra imm cond w
  have e1 : V_thumb_Encode (op, rd, rn, rm, ra, imm, cond, w, ()) = v := by unfold V_thumb_Encode PO.getO; rw [h1]; rfl
  have e2 : V_hauberkref02_Encode (op, rd, rn, rm, ra, imm, cond, w, ()) = v := by unfold V_hauberkref02_Encode PO.getO; rw [h2]; rfl
  refine ⟨by unfold G_thumb_Encode; exact h1 ▸ rfl, by unfold G_hauberkref02_Encode; exact h2 ▸ rfl, ?_, ?_⟩
  · unfold encV
    exact congrArg Prod.fst (e2.trans e1.symm)
  · unfold encV
    show (V_thumb_Encode (op, rd, rn, rm, ra, imm, cond, w, ())).1.length ≤ 4
    rw [e1]
    exact enc_len _ v h1

/-- The instruction that stands at an item. -/
def insM (it : List tItem.den) (b : Int) (ws : List Bool) (i : Nat) : tIns.den := bif (itemAt it i).1 == 2 then ((itemAt it i).2.2.1.1, 0, 0, 0, 0, offM it b ws i, (itemAt it i).2.2.1.2.2.2.2.2.2.1, wd ws i, ()) else (itemAt it i).2.2.1
def placesTo (it : List tItem.den) (b : Int) (ws : List Bool) : Nat → List tPlace.den
  | 0 => []
  | i + 1 => bif (itemAt it i).1 == 1 then placesTo it b ws i ++ [((itemAt it i).2.1, posM it b ws i, ())] else placesTo it b ws i
def bytesTo (it : List tItem.den) (b : Int) (ws : List Bool) : Nat → List UInt8
  | 0 => []
  | i + 1 => bif (itemAt it i).1 == 1 then bytesTo it b ws i else bytesTo it b ws i ++ encV (insM it b ws i)
theorem places_len (it : List tItem.den) (b : Int) (ws : List Bool) : ∀ i, (placesTo it b ws i).length ≤ i
  | 0 => Nat.le_refl _
  | i + 1 => by
    have ih := places_len it b ws i
    simp only [placesTo]
    cases ((itemAt it i).1 == (1 : Int))
    · simp only [cond_false]; omega
    · simp only [cond_true, List.length_append, List.length_cons, List.length_nil]; omega
theorem bytes_len (it : List tItem.den) (b : Int) (ws : List Bool) : ∀ i, (bytesTo it b ws i).length ≤ 4 * i
  | 0 => Nat.le_refl _
  | i + 1 => by
    have ih := bytes_len it b ws i
    have h := (enc_both (insM it b ws i)).2.2.2
    simp only [bytesTo]
    cases ((itemAt it i).1 == (1 : Int))
    · simp only [cond_false, List.length_append]; omega
    · simp only [cond_true]; omega

section
variable (it : List tItem.den) (b : Int) (ws : List Bool) (hn : it.length ≤ 21000) (hm : ∀ i, i < it.length → missAt it i = false) (hw : ws.length = it.length)
include hn hm hw
theorem asm_emit (hd : ∀ i, i < it.length → dupAt it i = false) : LoopN.res L_asm_Assemble_10 ((), layM it b ws, (), [], it, lenI it, 0) ((it, b, (), ((0, it.length), ())), ((), [], ()), mapTo it it.length, ws) =
    some (0, (placesTo it b ws it.length, (it.length : Int), (it, b, (), ((0, it.length), ())), ((), bytesTo it b ws it.length, ()), mapTo it it.length, ws)) := by
  unfold LoopN.res
  have hfit : ∀ i, i < it.length → ∀ x, G_bytesFit (bytesTo it b ws i) (V_thumb_Encode x).1 = true := fun i hi x => by
    have h1 := bytes_len it b ws i
    have h2 : (V_thumb_Encode x).1.length ≤ 4 := (enc_both x).2.2.2
    refine Nat.ble_eq_true_of_le ?_
    omega
  refine runL_count (turn := L_asm_Assemble_10.turn ((), layM it b ws, (), [], it, lenI it, 0) ((it, b, (), ((0, it.length), ())), ((), [], ()), mapTo it it.length, ws)) (fun i => (placesTo it b ws i, (i : Int), (it, b, (), ((0, it.length), ())), ((), bytesTo it b ws i, ()), mapTo it it.length, ws)) (0, (placesTo it b ws it.length, (it.length : Int), (it, b, (), ((0, it.length), ())), ((), bytesTo it b ws it.length, ()), mapTo it it.length, ws)) (n := it.length) (fun i hi => ?_) ?_ it.length 0 (by omega) _ (Nat.lt_succ_self _)
  · refine (val_yes (dec_true (show (i : Int) < lenI it by simp only [lenI]; omega))).trans ((val_yes (inR hi)).trans ?_)
    cases h1 : ((itemAt it i).1 == (1 : Int))
    · have ep : placesTo it b ws (i + 1) = placesTo it b ws i := by simp only [placesTo, h1, cond_false]
      have eb : bytesTo it b ws (i + 1) = bytesTo it b ws i ++ encV (insM it b ws i) := by simp only [bytesTo, h1, cond_false]
      refine (val_no h1).trans ?_
      cases h2 : ((itemAt it i).1 == (2 : Int))
      · have ei : insM it b ws i = (itemAt it i).2.2.1 := by unfold insM; rw [h2]; rfl
        refine (val_no h2).trans ((val_yes (enc_both _).1).trans ((val_yes (hfit i hi _)).trans ?_))
        dsimp only
        rw [ep, eb, ei, w64_id (n := (i : Int) + 1) (by omega) (by omega)]
        rfl
      · have h2' : ((itemAt it i).1 != (2 : Int)) = false := by unfold bne; rw [h2]; rfl
        obtain ⟨o1, o2⟩ := aoff_run it b ws hn hm hd hi h2'
        have ei : insM it b ws i = ((itemAt it i).2.2.1.1, 0, 0, 0, 0, V_asm_assembler_offset (it, mapTo it it.length, layM it b ws, (i : Int)), (itemAt it i).2.2.1.2.2.2.2.2.2.1, List.getD ws (nplus 0 (i : Int)) false, ()) := by
          unfold insM
          rw [h2, o2]
          unfold nplus wd
          rw [Int.toNat_natCast, Nat.zero_add]
          rfl
        refine (val_yes h2).trans ((val_yes o1).trans ((val_yes (inR hi)).trans ((val_yes (enc_both _).1).trans ((val_yes (hfit i hi _)).trans ?_))))
        dsimp only
        rw [ep, eb, ei, w64_id (n := (i : Int) + 1) (by omega) (by omega)]
        rfl
    · have ep : placesTo it b ws (i + 1) = placesTo it b ws i ++ [((itemAt it i).2.1, posM it b ws i, ())] := by simp only [placesTo, h1, cond_true]
      have eb : bytesTo it b ws (i + 1) = bytesTo it b ws i := by simp only [bytesTo, h1, cond_true]
      have hl := places_len it b ws i
      refine (val_yes h1).trans ((val_yes ?_).trans ((val_yes ?_).trans ?_))
      · show inRange (i : Int) (List.length (layM it b ws)) = true
        rw [lay_len]
        exact inR (by omega)
      · refine Nat.ble_eq_true_of_le ?_
        simp only [List.length_cons, List.length_nil]
        omega
      · have eg : List.getD (layM it b ws) (Int.toNat (i : Int)) 0 = posM it b ws i := by rw [Int.toNat_natCast]; exact lay_get it b ws (Nat.le_of_lt hi)
        rw [ep, eb]
        show some (TL.on (placesTo it b ws i ++ [((itemAt it i).2.1, List.getD (layM it b ws) (Int.toNat (i : Int)) 0, ())], w64 ((i : Int) + 1), (it, b, (), ((0, it.length), ())), ((), bytesTo it b ws i, ()), mapTo it it.length, ws)) = _
        rw [eg, w64_id (n := (i : Int) + 1) (by omega) (by omega)]
        rfl
  · exact (val_no (dec_false (show ¬ ((it.length : Nat) : Int) < lenI it by simp only [lenI]; omega))).trans rfl
end
end Go.Av
/-! AsmBytes: proved of what the functions compute. -/
namespace Go.Av
open Go

theorem three (k : Int) (h1 : ¬ k < 0) (h2 : ¬ k > 2) : k = 0 ∨ k = 1 ∨ k = 2 := by omega
section
variable (it : List tItem.den) (b : Int) (ws : List Bool) (hn : it.length ≤ 21000) (hm : ∀ i, i < it.length → missAt it i = false) (hw : ws.length = it.length)
include hn hm hw
end

section
variable (it : List tItem.den) (b : Int) (hn : it.length ≤ 21000) (hb : 0 ≤ b ∧ b ≤ 262144) (hm : ∀ i, i < it.length → missAt it i = false) (K : Nat) (hK : K ≤ it.length) (h1 : ∀ k, k < K → moreAt it b k = true) (h2 : moreAt it b K = false)
include hn hb hm hK h1 h2
theorem asm_passes (hd : ∀ i, i < it.length → dupAt it i = false) : LoopN.res L_asm_Assemble_5 (it, b, ()) ((it, b, (), ((0, it.length), ())), mapTo it it.length, List.replicate it.length false) =
    some (0, ((it, b, (), ((0, it.length), ())), mapTo it it.length, widesAt it b (K + 1))) := by
  unfold LoopN.res
  refine runL_count (turn := L_asm_Assemble_5.turn (it, b, ()) ((it, b, (), ((0, it.length), ())), mapTo it it.length, List.replicate it.length false)) (fun k => ((it, b, (), ((0, it.length), ())), mapTo it it.length, widesAt it b k)) (0, ((it, b, (), ((0, it.length), ())), mapTo it it.length, widesAt it b (K + 1))) (n := K) (fun k hk => ?_) ?_ K 0 (by omega) (List.length it + 2) (by omega)
  · obtain ⟨g1, g2⟩ := widen_run it b (widesAt it b k) hn hb hm (widesAt_len it b k) hd
    have hh := h1 k hk
    unfold moreAt at hh
    refine (val_yes g1).trans ((val_no ?_).trans ?_)
    · show (!(V_asm_assembler_widen () ((it, b, (), ((0, it.length), ())), mapTo it it.length, widesAt it b k)).1) = false
      rw [g2, hh]
      rfl
    · dsimp only
      rw [g2]
      rfl
  · obtain ⟨g1, g2⟩ := widen_run it b (widesAt it b K) hn hb hm (widesAt_len it b K) hd
    have hh := h2
    unfold moreAt at hh
    refine (val_yes g1).trans ((val_yes ?_).trans ?_)
    · show (!(V_asm_assembler_widen () ((it, b, (), ((0, it.length), ())), mapTo it it.length, widesAt it b K)).1) = true
      rw [g2, hh]
      rfl
    · dsimp only
      rw [g2]
      rfl

end

end Go.Av
end
/-! What Assemble comes to, in full. -/
section
namespace Go.Av
open Go

/-- Nothing is wrong with these items, at this base. -/
structure AsmFine (it : List tItem.den) (b : Int) : Prop where
  base : baseBad b = false
  item : ∀ i, i < it.length → badJ it i = false
  chk : ∀ i, i < it.length → chkAt it i = false
  dup : ∀ i, i < it.length → dupAt it i = false
  miss : ∀ i, i < it.length → missAt it i = false
  small : posM it 0 (allT it) it.length ≤ 262144

theorem fine_of (it : List tItem.den) (b : Int) (hc0 : codeM it b = 0) : AsmFine it b := by
  unfold codeM at hc0
  cases hbb : baseBad b
  · rw [hbb, cond_false] at hc0
    cases hf1 : firstP (badJ it) it.length with
    | some k => rw [hf1] at hc0; cases hc0
    | none =>
      rw [hf1] at hc0
      cases hf2 : firstP (chkAt it) it.length with
      | some k =>
        obtain ⟨_, hk, _⟩ := firstP_some hf2
        unfold chkAt at hk
        rw [Bool.and_eq_true] at hk
        rw [hf2] at hc0
        dsimp only at hc0
        rw [hc0] at hk
        cases hk.2
      | none =>
        rw [hf2] at hc0
        cases hf3 : firstP (dupAt it) it.length with
        | some k => rw [hf3] at hc0; cases hc0
        | none =>
          rw [hf3] at hc0
          cases hf4 : firstP (missAt it) it.length with
          | some k => rw [hf4] at hc0; cases hc0
          | none =>
            rw [hf4] at hc0
            dsimp only at hc0
            cases hg : decide (posM it 0 (allT it) it.length > 262144)
            · have := of_decide_eq_false hg
              exact ⟨hbb, firstP_none hf1, firstP_none hf2, firstP_none hf3, firstP_none hf4, by omega⟩
            · rw [hg] at hc0; cases hc0
  · rw [hbb] at hc0
    cases hc0

theorem fine_base {it : List tItem.den} {b : Int} (h : AsmFine it b) : 0 ≤ b ∧ b ≤ 262144 ∧ b % 2 = 0 := by
  have f1 := h.base
  unfold baseBad at f1
  rw [Bool.or_eq_false_iff, Bool.or_eq_false_iff] at f1
  have h1 := of_decide_eq_false f1.1
  have h2 := of_decide_eq_false f1.2.1
  have h3 : Int.tmod b 2 = 0 := by simpa using f1.2.2
  rw [Int.tmod_eq_emod_of_nonneg (by omega)] at h3
  omega

/-- What Assemble comes to. -/
theorem asm_val (it : List tItem.den) (b : Int) (hn : it.length ≤ 21000) : G_asm_Assemble (it, b) = true ∧
    ((codeM it b ≠ 0 ∧ V_asm_Assemble (it, b) = ([], [], codeM it b, ())) ∨
     (AsmFine it b ∧ ∃ K, moreAt it b K = false ∧ V_asm_Assemble (it, b) = (bytesTo it b (widesAt it b K) it.length, placesTo it b (widesAt it b K) it.length, 0, ()))) := by
  have e1 : nspan 0 (lenI it) = it.length := by simp [nspan, lenI]
  have e2 : zeros (lenI it) false = List.replicate it.length false := by simp [zeros, lenI]
  obtain ⟨m, c1, c2, c3⟩ := check_ran it b ((0, it.length), ()) (List.replicate it.length false) hn
  have hroom : roomOk (lenI it) 1 = true := by
    simp only [roomOk, lenI]
    simp
    omega
  have k0 : K_asm_Assemble_0 (it, b) = true := by
    unfold K_asm_Assemble_0
    dsimp only
    rw [e1, e2]
    exact c1
  have k1 : K_asm_Assemble_1 (it, b) = (codeM it b, (it, b, (), ((0, it.length), ())), m, List.replicate it.length false) := by
    unfold K_asm_Assemble_1
    dsimp only
    rw [e1, e2]
    exact c2
  cases hc : (codeM it b != 0)
  · have hc0 : codeM it b = 0 := by simpa using hc
    have hmm := c3 hc0
    subst hmm
    have hf := fine_of it b hc0
    obtain ⟨hb1, hb2, _⟩ := fine_base hf
    have hb : 0 ≤ b ∧ b ≤ 262144 := ⟨hb1, hb2⟩
    have hd := hf.dup
    have hm := hf.miss
    obtain ⟨K, hK, h1, h2⟩ := passes_end it b
    have hsame : widesAt it b (K + 1) = widesAt it b K := pass_same it b (widesAt it b K) it.length h2
    have p5 := asm_passes it b hn hb hm K hK h1 h2 hd
    rw [hsame] at p5
    have hwl := widesAt_len it b K
    have e3 : shown (widesAt it b K) (0, it.length) = widesAt it b K := by simp [shown, ← hwl]
    obtain ⟨l1, l2⟩ := alay_run it b (widesAt it b K) hn hb
    have k2 : K_asm_Assemble_2 (it, b) = some (0, ((it, b, (), ((0, it.length), ())), mapTo it it.length, widesAt it b K)) := by
      unfold K_asm_Assemble_2
      rw [k1]
      exact p5
    have hv : (T_asm_Assemble (it, b)).val = some (bytesTo it b (widesAt it b K) it.length, placesTo it b (widesAt it b K) it.length, 0, ()) := by
      unfold T_asm_Assemble
      rw [k0, k1, k2]
      refine (val_yes hroom).trans ((val_yes rfl).trans ((val_no hc).trans ((val_opt rfl).trans ?_)))
      dsimp only
      rw [e3, l2]
      exact (val_yes l1).trans ((val_opt (asm_emit it b (widesAt it b K) hn hm hwl hd)).trans rfl)
    exact ⟨by unfold G_asm_Assemble; rw [hv]; rfl, .inr ⟨hf, K, h2, by unfold V_asm_Assemble PO.getO; rw [hv]; rfl⟩⟩
  · have hv : (T_asm_Assemble (it, b)).val = some ([], [], codeM it b, ()) := by
      unfold T_asm_Assemble
      rw [k0, k1]
      exact (val_yes hroom).trans ((val_yes rfl).trans ((val_yes hc).trans rfl))
    exact ⟨by unfold G_asm_Assemble; rw [hv]; rfl, .inl ⟨by simpa using hc, by unfold V_asm_Assemble PO.getO; rw [hv]; rfl⟩⟩

/-- What a pass that finds nothing tells. -/
theorem pass_done (it : List tItem.den) (b : Int) (ws : List Bool) : ∀ n, (passTo it b ws n).1 = false → ∀ i, i < n → ((itemAt it i).1 != (2 : Int)) = false → wd ws i = false → outR it b ws i = false
  | 0, _, _, h, _, _ => absurd h (Nat.not_lt_zero _)
  | n + 1, h, i, hi, h2, hw => by
    have hs : (passTo it b ws n).1 = false := by
      simp only [passTo] at h
      cases h1 : ((itemAt it n).1 != (2 : Int) || wd (passTo it b ws n).2 n) <;> rw [h1] at h
      · cases h2 : outR it b ws n <;> rw [h2] at h
        · exact h
        · cases h
      · exact h
    have he := pass_same it b ws n hs
    rcases Nat.lt_or_ge i n with h' | h'
    · exact pass_done it b ws n hs i h' h2 hw
    · have : i = n := by omega
      subst this
      simp only [passTo] at h
      rw [he, h2, hw] at h
      cases h3 : outR it b ws i
      · rfl
      · rw [h3] at h
        cases h
end Go.Av
end
/-! Instructions' bytes, one behind the other, are decoded as them. -/
section
namespace Go.Av
open Go
def encB (i : tIns.den) : List UInt8 := eBytes i.1 i.2.1 i.2.2.1 i.2.2.2.1 i.2.2.2.2.1 i.2.2.2.2.2.1 i.2.2.2.2.2.2.1 i.2.2.2.2.2.2.2.1
def okI (i : tIns.den) : Bool := okB i.1 i.2.1 i.2.2.1 i.2.2.2.1 i.2.2.2.2.1 i.2.2.2.2.2.1 i.2.2.2.2.2.2.1 i.2.2.2.2.2.2.2.1
theorem ok_check (i : tIns.den) : V_thumb_Check i = 0 ↔ okI i = true := by
  obtain ⟨op, rd, rn, rm, ra, imm, cond, w, u⟩ := i
  exact check_iff op rd rn rm ra imm cond w
theorem encV_ok (i : tIns.den) (h : okI i = true) : encV i = encB i := by
  obtain ⟨op, rd, rn, rm, ra, imm, cond, w, u⟩ := i
  have hv := enc_val op rd rn rm ra imm cond w h
  unfold encV V_thumb_Encode PO.getO
  exact (congrArg (fun v => (Option.getD v default).1) hv).trans rfl
theorem dec_encB (i : tIns.den) (h : okI i = true) (s : List UInt8) : dDec (encB i ++ s) = (i, lenI (encB i), 0, ()) := by
  obtain ⟨op, rd, rn, rm, ra, imm, cond, w, u⟩ := i
  exact dec_back op rd rn rm ra imm cond w h s
theorem encB_len (i : tIns.den) (h : okI i = true) : (encB i).length = 2 ∨ (encB i).length = 4 := eBytes_len h
def cat (l : List tIns.den) : List UInt8 := l.flatMap encB
theorem cat_cons (i : tIns.den) (l : List tIns.den) : cat (i :: l) = encB i ++ cat l := by simp [cat]
theorem cat_snoc (l : List tIns.den) (i : tIns.den) : cat (l ++ [i]) = cat l ++ encB i := by simp [cat]
theorem seq_cat : ∀ (l : List tIns.den) (n : Nat), (∀ i ∈ l, okI i = true) → (cat l).length ≤ n → seqD n (cat l) = (l, 0)
  | [], n, _, _ => seqD_nil n
  | i :: l, n, h, hn => by
    have hi := h i (by simp)
    have hp : 0 < (encB i).length := by rcases encB_len i hi with e | e <;> omega
    rw [cat_cons, List.length_append] at hn
    obtain ⟨n, rfl⟩ : ∃ k, n = k + 1 := ⟨n - 1, by omega⟩
    have hd := dec_encB i hi (cat l)
    have hne : encB i ++ cat l ≠ [] := by
      intro e
      have := congrArg List.length e
      rw [List.length_append, List.length_nil] at this
      omega
    rw [cat_cons, seqD_ok hne (by rw [hd]), hd]
    simp only [lenI, Int.toNat_natCast, List.drop_left]
    rw [seq_cat l n (fun j hj => h j (by simp [hj])) (by omega)]

/-- The instructions of the first items. -/
def insTo (it : List tItem.den) (b : Int) (ws : List Bool) : Nat → List tIns.den
  | 0 => []
  | i + 1 => bif (itemAt it i).1 == 1 then insTo it b ws i else insTo it b ws i ++ [insM it b ws i]
theorem insTo_len (it : List tItem.den) (b : Int) (ws : List Bool) : ∀ i, (insTo it b ws i).length ≤ i
  | 0 => Nat.le_refl _
  | i + 1 => by
    have ih := insTo_len it b ws i
    simp only [insTo]
    cases ((itemAt it i).1 == (1 : Int))
    · simp only [cond_false, List.length_append, List.length_cons, List.length_nil]; omega
    · simp only [cond_true]; omega
theorem insTo_bytes (it : List tItem.den) (b : Int) (ws : List Bool) : ∀ i, (∀ k, k < i → ((itemAt it k).1 == (1 : Int)) = false → okI (insM it b ws k) = true) → bytesTo it b ws i = cat (insTo it b ws i) ∧ ∀ x ∈ insTo it b ws i, okI x = true
  | 0, _ => ⟨rfl, fun _ h => by cases h⟩
  | i + 1, h => by
    obtain ⟨h1, h2⟩ := insTo_bytes it b ws i (fun k hk => h k (by omega))
    simp only [bytesTo, insTo]
    cases hk : ((itemAt it i).1 == (1 : Int))
    · have hok := h i (Nat.lt_succ_self _) hk
      simp only [cond_false]
      refine ⟨?_, fun x hx => ?_⟩
      · rw [cat_snoc, ← h1, encV_ok _ hok]
      · rcases List.mem_append.1 hx with hx | hx
        · exact h2 x hx
        · rw [List.mem_singleton.1 hx]; exact hok
    · exact ⟨h1, h2⟩
theorem insTo_pre (it : List tItem.den) (b : Int) (ws : List Bool) (i : Nat) : ∀ n, i ≤ n → ∃ t, insTo it b ws n = insTo it b ws i ++ t
  | 0, h => ⟨[], by have : i = 0 := by omega
                    subst this; simp⟩
  | n + 1, h => by
    rcases Nat.lt_or_ge n i with h' | h'
    · have : i = n + 1 := by omega
      subst this
      exact ⟨[], by simp⟩
    · obtain ⟨t, ht⟩ := insTo_pre it b ws i n h'
      simp only [insTo]
      cases ((itemAt it n).1 == (1 : Int))
      · exact ⟨t ++ [insM it b ws n], by simp only [cond_false]; rw [ht, List.append_assoc]⟩
      · exact ⟨t, ht⟩
/-- The instruction of an item, among all. -/
theorem insTo_get (it : List tItem.den) (b : Int) (ws : List Bool) {i n : Nat} (hi : i < n) (hk : ((itemAt it i).1 == (1 : Int)) = false) : (insTo it b ws i).length < (insTo it b ws n).length ∧ List.getD (insTo it b ws n) (insTo it b ws i).length (Ty.dflt tIns) = insM it b ws i := by
  obtain ⟨t, ht⟩ := insTo_pre it b ws (i + 1) n hi
  simp only [insTo, hk, cond_false] at ht
  rw [ht, List.append_assoc]
  refine ⟨by simp, ?_⟩
  rw [List.getD_eq_getElem?_getD, List.getElem?_append_right (Nat.le_refl _), Nat.sub_self]
  rfl

/-! ### Branches reach -/
theorem item_kinds (j : tItem.den) (h : V_asm_item j = true) : j.1 = 0 ∨ j.1 = 1 ∨ (j.1 = 2 ∧ ((j.2.2.1.1 = 24 ∧ j.2.2.1.2.2.2.2.2.2.1 = 0) ∨ (j.2.2.1.1 = 25 ∧ 0 ≤ j.2.2.1.2.2.2.2.2.2.1 ∧ j.2.2.1.2.2.2.2.2.2.1 ≤ 13))) := by
  obtain ⟨k, l, ⟨op, rd, rn, rm, ra, imm, cond, w, u⟩, v⟩ := j
  by_cases h0 : k = 0
  · exact .inl h0
  by_cases h1 : k = 1
  · exact .inr (.inl h1)
  have e0 : (k == (0 : Int)) = false := by simpa using h0
  have e1 : (k == (1 : Int)) = false := by simpa using h1
  by_cases h2 : k = 2
  · refine .inr (.inr ⟨h2, ?_⟩)
    subst h2
    have h : V_asm_branch (op, rd, rn, rm, ra, imm, cond, w, u) = true := h
    unfold V_asm_branch T_asm_branch PO.getO at h
    simp only [PO.val] at h
    show (op = 24 ∧ cond = 0) ∨ (op = 25 ∧ 0 ≤ cond ∧ cond ≤ 13)
    by_cases g : op = 24
    · subst g
      left
      refine ⟨rfl, ?_⟩
      have h : (cond == (0 : Int)) = true := h
      simpa using h
    · have g1 : (op == (24 : Int)) = false := by simpa using g
      rw [g1, cond_false] at h
      by_cases g' : op = 25
      · subst g'
        right
        have h : (decide (cond ≥ 0) && decide (cond ≤ 13)) = true := h
        rw [Bool.and_eq_true] at h
        have a := of_decide_eq_true h.1
        have b := of_decide_eq_true h.2
        exact ⟨rfl, by omega, by omega⟩
      · have g2 : (op == (25 : Int)) = false := by simpa using g'
        rw [g2, cond_false] at h
        cases h
  · exfalso
    have e2 : (k == (2 : Int)) = false := by simpa using h2
    unfold V_asm_item T_asm_item PO.getO at h
    simp only [PO.val, e0, e1, e2, cond_false] at h
    cases h
theorem reach24 : V_thumb_Reach (24, false) = (-2048, 2046, ()) := rfl
theorem reach25 : V_thumb_Reach (25, false) = (-256, 254, ()) := rfl
theorem pos_mono (it : List tItem.den) (b : Int) (ws : List Bool) {i : Nat} : ∀ {k : Nat}, i ≤ k → posM it b ws i ≤ posM it b ws k
  | 0, h => by rw [show i = 0 by omega]; exact Int.le_refl _
  | k + 1, h => by
    rcases Nat.lt_or_ge k i with h' | h'
    · rw [show i = k + 1 by omega]; exact Int.le_refl _
    · have := pos_mono it b ws h'
      have := sizeJ_bound (itemAt it k) (wd ws k)
      simp only [posM]
      omega
/-- What lies between is no less if more is wide. -/
theorem pos_more (it : List tItem.den) (b b' : Int) (ws W : List Bool) (h : ∀ i, i < it.length → (itemAt it i).1 = 2 → wd ws i = true → wd W i = true) {i : Nat} : ∀ {k : Nat}, i ≤ k → k ≤ it.length → posM it b ws k - posM it b ws i ≤ posM it b' W k - posM it b' W i
  | 0, h1, _ => by rw [show i = 0 by omega]; omega
  | k + 1, h1, h2 => by
    rcases Nat.lt_or_ge k i with h' | h'
    · rw [show i = k + 1 by omega]; omega
    · have ih := pos_more it b b' ws W h h' (by omega)
      have : sizeJ (itemAt it k) (wd ws k) ≤ sizeJ (itemAt it k) (wd W k) := by
        unfold sizeJ
        cases ((itemAt it k).1 == (0 : Int))
        · cases h2 : ((itemAt it k).1 == (2 : Int))
          · exact Int.le_refl _
          · have hk := h k (by omega) (by simpa using h2)
            cases hw : wd ws k
            · cases wd W k
              · exact Int.le_refl _
              · show (2 : Int) ≤ 4
                decide
            · rw [hk hw]; exact Int.le_refl _
        · exact Int.le_refl _
      simp only [posM]
      omega
theorem sizeJ_even (j : tItem.den) (w : Bool) : sizeJ j w % 2 = 0 := by
  unfold sizeJ
  cases (j.1 == (0 : Int))
  · cases (j.1 == (2 : Int)) <;> cases w <;> rfl
  · have key : ∀ (x : tIns.den) (n : Int), V_thumb_Size x = n → n % 2 = 0 := fun x n h => by
      subst h
      unfold V_thumb_Size
      cases (V_thumb_Check x != 0) <;> cases isLong x.1 x.2.2.2.2.2.2.2.1 <;> rfl
    exact key j.2.2.1 _ rfl
theorem pos_even (it : List tItem.den) (b : Int) (ws : List Bool) : ∀ i k : Nat, (posM it b ws i - posM it b ws k) % 2 = 0 := by
  have h : ∀ i : Nat, (posM it b ws i - b) % 2 = 0 := fun i => by
    induction i with
    | zero => simp [posM]
    | succ i ih =>
      have := sizeJ_even (itemAt it i) (wd ws i)
      simp only [posM]
      omega
  intro i k
  have h1 := h i
  have h2 := h k
  omega
/-- A branch in reach. -/
theorem out_no {it : List tItem.den} {b : Int} {ws : List Bool} {i : Nat} (h : outR it b ws i = false) : ((itemAt it i).2.2.1.1 = 24 → -2048 ≤ offM it b ws i ∧ offM it b ws i ≤ 2046) ∧ ((itemAt it i).2.2.1.1 = 25 → -256 ≤ offM it b ws i ∧ offM it b ws i ≤ 254) := by
  unfold outR at h
  rw [Bool.or_eq_false_iff] at h
  have a := of_decide_eq_false h.1
  have c := of_decide_eq_false h.2
  constructor
  · intro e
    rw [e, reach24] at a c
    dsimp only at a c
    omega
  · intro e
    rw [e, reach25] at a c
    dsimp only at a c
    omega
theorem okB_24 (imm : Int) (w : Bool) (h1 : imm % 2 = 0) (h2 : w = false → -2048 ≤ imm ∧ imm ≤ 2046) (h3 : -1000000 ≤ imm ∧ imm ≤ 1000000) : okB 24 0 0 0 0 imm 0 w = true := by
  show (imm % 2 == 0 && bif w then bw imm (-16777216) 16777214 else bw imm (-2048) 2046) = true
  rw [h1]
  cases w
  · obtain ⟨a, b⟩ := h2 rfl
    simp [bw, a, b]
  · have a : -16777216 ≤ imm := by omega
    have b : imm ≤ 16777214 := by omega
    simp [bw, a, b]
theorem okB_25 (imm cond : Int) (w : Bool) (h1 : imm % 2 = 0) (h2 : w = false → -256 ≤ imm ∧ imm ≤ 254) (h3 : -1000000 ≤ imm ∧ imm ≤ 1000000) (hc : 0 ≤ cond ∧ cond ≤ 13) : okB 25 0 0 0 0 imm cond w = true := by
  show (bw cond 0 13 && (imm % 2 == 0 && bif w then bw imm (-1048576) 1048574 else bw imm (-256) 254)) = true
  rw [h1]
  obtain ⟨c, d⟩ := hc
  cases w
  · obtain ⟨a, b⟩ := h2 rfl
    simp [bw, a, b, c, d]
  · have a : -1048576 ≤ imm := by omega
    have b : imm ≤ 1048574 := by omega
    simp [bw, a, b, c, d]

section
variable (it : List tItem.den) (b : Int) (ws : List Bool) (hn : it.length ≤ 21000) (hf : AsmFine it b) (hp : (passTo it b ws it.length).1 = false)
include hn hf hp
theorem ins_ok {i : Nat} (hi : i < it.length) (hk : ((itemAt it i).1 == (1 : Int)) = false) : okI (insM it b ws i) = true := by
  have hj : V_asm_item (itemAt it i) = true := by
    have := hf.item i hi
    unfold badJ at this
    simpa using this
  rcases item_kinds _ hj with h0 | h1 | ⟨h2, hop⟩
  · have e : insM it b ws i = (itemAt it i).2.2.1 := by unfold insM; rw [h0]; rfl
    rw [e]
    refine (ok_check _).1 ?_
    have hc := hf.chk i hi
    unfold chkAt at hc
    rw [h0] at hc
    simpa using hc
  · rw [h1] at hk; cases hk
  · have e : insM it b ws i = ((itemAt it i).2.2.1.1, 0, 0, 0, 0, offM it b ws i, (itemAt it i).2.2.1.2.2.2.2.2.2.1, wd ws i, ()) := by unfold insM; rw [h2]; rfl
    rw [e]
    show okB (itemAt it i).2.2.1.1 0 0 0 0 (offM it b ws i) (itemAt it i).2.2.1.2.2.2.2.2.2.1 (wd ws i) = true
    have hbr : ((itemAt it i).1 != (2 : Int)) = false := by rw [h2]; rfl
    have hev : offM it b ws i % 2 = 0 := by
      have := pos_even it b ws (tgt it i) i
      unfold offM
      omega
    have hr : wd ws i = false → outR it b ws i = false := fun hw => pass_done it b ws it.length hp i hi hbr hw
    have hfar : -1000000 ≤ offM it b ws i ∧ offM it b ws i ≤ 1000000 := by
      have h1 := pos_bound it b ws i
      have h2 := pos_bound it b ws (tgt it i)
      have h3 := (tgt_some it hf.miss hi hbr).2
      unfold offM
      omega
    rcases hop with ⟨ho, hc⟩ | ⟨ho, hc⟩
    · rw [ho, hc]
      exact okB_24 _ _ hev (fun hw => (out_no (hr hw)).1 ho) hfar
    · rw [ho]
      exact okB_25 _ _ _ hev (fun hw => (out_no (hr hw)).2 ho) hfar hc
theorem asm_dec : G_decode_All (bytesTo it b ws it.length) = true ∧ V_decode_All (bytesTo it b ws it.length) = (insTo it b ws it.length, 0, ()) := by
  obtain ⟨h1, h2⟩ := insTo_bytes it b ws it.length (fun k hk h => ins_ok it b ws hn hf hp hk h)
  have hl := bytes_len it b ws it.length
  refine ⟨ok_decode_All _ (by omega), ?_⟩
  unfold V_decode_All
  rw [h1, seq_cat _ _ h2 (Nat.le_refl _)]
  rfl
end
end Go.Av
end
